/-
  Closed facts on the types of this translation.
-/
import Derived.Test.YtffpglgboaigfaaDoorMore
import Derived.Test.YtffpglgboaigfaaDoorProg
import Derived.KernelRfl
namespace Go.Proofs.YtffpglgboaigfaaDoor
open Ex
set_option maxRecDepth 100000
theorem mix : Tryd.prog.follows .mixedOrders = true := by kernel_rfl
theorem flat1 : Ex.flatT Tryd.prog 1 = true := by kernel_rfl
theorem inf2 : Ex.Inf Tryd.prog 2 1 8 (.int .i64 0) := by unfold Ex.Inf; kernel_rfl
theorem flat2 : Ex.flatT Tryd.prog 2 = true := by kernel_rfl
theorem inf3 : Ex.Inf Tryd.prog 3 1 8 (.int .i64 0) := by unfold Ex.Inf; kernel_rfl
theorem flat3 : Ex.flatT Tryd.prog 3 = true := by kernel_rfl
theorem inf4 : Ex.Inf Tryd.prog 4 1 1 (.bool false) := by unfold Ex.Inf; kernel_rfl
theorem flat4 : Ex.flatT Tryd.prog 4 = true := by kernel_rfl
theorem inf5 : Ex.Inf Tryd.prog 5 1 1 (.int .u8 0) := by unfold Ex.Inf; kernel_rfl
theorem flat5 : Ex.flatT Tryd.prog 5 = true := by kernel_rfl
theorem inf9 : Ex.Inf Tryd.prog 9 1 16 (.string ⟨#[]⟩) := by unfold Ex.Inf; kernel_rfl
theorem flat9 : Ex.flatT Tryd.prog 9 = true := by kernel_rfl
theorem inf12 : Ex.Inf Tryd.prog 12 1 8 (.int .u64 0) := by unfold Ex.Inf; kernel_rfl
theorem flat12 : Ex.flatT Tryd.prog 12 = true := by kernel_rfl
theorem inf13 : Ex.Inf Tryd.prog 13 2 24 (.agg [.string ⟨#[]⟩, .int .u64 0].toArray) := by unfold Ex.Inf; kernel_rfl
theorem agg13 : Ex.aggT Tryd.prog 13 = true := by kernel_rfl
theorem pl13 : Ex.placesOf Tryd.prog 13 = some [(0, 1), (1, 1)] := by kernel_rfl
theorem fty13_0 : Ex.fldTy Tryd.prog 13 0 = some 9 := by kernel_rfl
theorem fld13_0 : Ex.fldAt Tryd.prog 13 0 = some 0 := by kernel_rfl
theorem fty13_1 : Ex.fldTy Tryd.prog 13 1 = some 12 := by kernel_rfl
theorem fld13_1 : Ex.fldAt Tryd.prog 13 1 = some 1 := by kernel_rfl
theorem inf20 : Ex.Inf Tryd.prog 20 1 16 (.nilIface) := by unfold Ex.Inf; kernel_rfl
theorem flat20 : Ex.flatT Tryd.prog 20 = true := by kernel_rfl
theorem inf21 : Ex.Inf Tryd.prog 21 1 4 (.int .i32 0) := by unfold Ex.Inf; kernel_rfl
theorem flat21 : Ex.flatT Tryd.prog 21 = true := by kernel_rfl
theorem inf22 : Ex.Inf Tryd.prog 22 1 24 (.slice none 0 0) := by unfold Ex.Inf; kernel_rfl
theorem flat22 : Ex.flatT Tryd.prog 22 = true := by kernel_rfl
theorem inf23 : Ex.Inf Tryd.prog 23 1 24 (.slice none 0 0) := by unfold Ex.Inf; kernel_rfl
theorem flat23 : Ex.flatT Tryd.prog 23 = true := by kernel_rfl
theorem inf24 : Ex.Inf Tryd.prog 24 1 24 (.slice none 0 0) := by unfold Ex.Inf; kernel_rfl
theorem flat24 : Ex.flatT Tryd.prog 24 = true := by kernel_rfl
theorem inf25 : Ex.Inf Tryd.prog 25 7 112 (.agg [.int .i64 0, .int .i64 0, .int .i64 0, .string ⟨#[]⟩, .slice none 0 0, .slice none 0 0, .slice none 0 0].toArray) := by unfold Ex.Inf; kernel_rfl
theorem agg25 : Ex.aggT Tryd.prog 25 = true := by kernel_rfl
theorem pl25 : Ex.placesOf Tryd.prog 25 = some [(0, 1), (1, 1), (2, 1), (3, 1), (4, 1), (5, 1), (6, 1)] := by kernel_rfl
theorem fty25_0 : Ex.fldTy Tryd.prog 25 0 = some 3 := by kernel_rfl
theorem fld25_0 : Ex.fldAt Tryd.prog 25 0 = some 0 := by kernel_rfl
theorem fty25_1 : Ex.fldTy Tryd.prog 25 1 = some 3 := by kernel_rfl
theorem fld25_1 : Ex.fldAt Tryd.prog 25 1 = some 1 := by kernel_rfl
theorem fty25_2 : Ex.fldTy Tryd.prog 25 2 = some 3 := by kernel_rfl
theorem fld25_2 : Ex.fldAt Tryd.prog 25 2 = some 2 := by kernel_rfl
theorem fty25_3 : Ex.fldTy Tryd.prog 25 3 = some 9 := by kernel_rfl
theorem fld25_3 : Ex.fldAt Tryd.prog 25 3 = some 3 := by kernel_rfl
theorem fty25_4 : Ex.fldTy Tryd.prog 25 4 = some 22 := by kernel_rfl
theorem fld25_4 : Ex.fldAt Tryd.prog 25 4 = some 4 := by kernel_rfl
theorem fty25_5 : Ex.fldTy Tryd.prog 25 5 = some 23 := by kernel_rfl
theorem fld25_5 : Ex.fldAt Tryd.prog 25 5 = some 5 := by kernel_rfl
theorem fty25_6 : Ex.fldTy Tryd.prog 25 6 = some 24 := by kernel_rfl
theorem fld25_6 : Ex.fldAt Tryd.prog 25 6 = some 6 := by kernel_rfl
theorem inf26 : Ex.Inf Tryd.prog 26 7 112 (.agg [.int .i64 0, .int .i64 0, .int .i64 0, .string ⟨#[]⟩, .slice none 0 0, .slice none 0 0, .slice none 0 0].toArray) := by unfold Ex.Inf; kernel_rfl
theorem agg26 : Ex.aggT Tryd.prog 26 = true := by kernel_rfl
theorem pl26 : Ex.placesOf Tryd.prog 26 = some [(0, 1), (1, 1), (2, 1), (3, 1), (4, 1), (5, 1), (6, 1)] := by kernel_rfl
theorem fty26_0 : Ex.fldTy Tryd.prog 26 0 = some 3 := by kernel_rfl
theorem fld26_0 : Ex.fldAt Tryd.prog 26 0 = some 0 := by kernel_rfl
theorem fty26_1 : Ex.fldTy Tryd.prog 26 1 = some 3 := by kernel_rfl
theorem fld26_1 : Ex.fldAt Tryd.prog 26 1 = some 1 := by kernel_rfl
theorem fty26_2 : Ex.fldTy Tryd.prog 26 2 = some 3 := by kernel_rfl
theorem fld26_2 : Ex.fldAt Tryd.prog 26 2 = some 2 := by kernel_rfl
theorem fty26_3 : Ex.fldTy Tryd.prog 26 3 = some 9 := by kernel_rfl
theorem fld26_3 : Ex.fldAt Tryd.prog 26 3 = some 3 := by kernel_rfl
theorem fty26_4 : Ex.fldTy Tryd.prog 26 4 = some 22 := by kernel_rfl
theorem fld26_4 : Ex.fldAt Tryd.prog 26 4 = some 4 := by kernel_rfl
theorem fty26_5 : Ex.fldTy Tryd.prog 26 5 = some 23 := by kernel_rfl
theorem fld26_5 : Ex.fldAt Tryd.prog 26 5 = some 5 := by kernel_rfl
theorem fty26_6 : Ex.fldTy Tryd.prog 26 6 = some 24 := by kernel_rfl
theorem fld26_6 : Ex.fldAt Tryd.prog 26 6 = some 6 := by kernel_rfl
theorem inf27 : Ex.Inf Tryd.prog 27 1 8 (.int .i64 0) := by unfold Ex.Inf; kernel_rfl
theorem flat27 : Ex.flatT Tryd.prog 27 = true := by kernel_rfl
theorem flat29 : Ex.flatT Tryd.prog 29 = true := by kernel_rfl
theorem flat30 : Ex.flatT Tryd.prog 30 = true := by kernel_rfl
theorem flat31 : Ex.flatT Tryd.prog 31 = true := by kernel_rfl
theorem inf32 : Ex.Inf Tryd.prog 32 2 16 (.agg [.int .i64 0, .int .i64 0].toArray) := by unfold Ex.Inf; kernel_rfl
theorem agg32 : Ex.aggT Tryd.prog 32 = true := by kernel_rfl
theorem pl32 : Ex.placesOf Tryd.prog 32 = some [(0, 1), (1, 1)] := by kernel_rfl
theorem fty32_0 : Ex.fldTy Tryd.prog 32 0 = some 27 := by kernel_rfl
theorem fld32_0 : Ex.fldAt Tryd.prog 32 0 = some 0 := by kernel_rfl
theorem fty32_1 : Ex.fldTy Tryd.prog 32 1 = some 3 := by kernel_rfl
theorem fld32_1 : Ex.fldAt Tryd.prog 32 1 = some 1 := by kernel_rfl
theorem inf33 : Ex.Inf Tryd.prog 33 2 16 (.agg [.int .i64 0, .int .i64 0].toArray) := by unfold Ex.Inf; kernel_rfl
theorem agg33 : Ex.aggT Tryd.prog 33 = true := by kernel_rfl
theorem pl33 : Ex.placesOf Tryd.prog 33 = some [(0, 1), (1, 1)] := by kernel_rfl
theorem fty33_0 : Ex.fldTy Tryd.prog 33 0 = some 27 := by kernel_rfl
theorem fld33_0 : Ex.fldAt Tryd.prog 33 0 = some 0 := by kernel_rfl
theorem fty33_1 : Ex.fldTy Tryd.prog 33 1 = some 3 := by kernel_rfl
theorem fld33_1 : Ex.fldAt Tryd.prog 33 1 = some 1 := by kernel_rfl
theorem flat35 : Ex.flatT Tryd.prog 35 = true := by kernel_rfl
theorem flat36 : Ex.flatT Tryd.prog 36 = true := by kernel_rfl
theorem flat37 : Ex.flatT Tryd.prog 37 = true := by kernel_rfl
theorem flat38 : Ex.flatT Tryd.prog 38 = true := by kernel_rfl
theorem flat39 : Ex.flatT Tryd.prog 39 = true := by kernel_rfl
theorem flat40 : Ex.flatT Tryd.prog 40 = true := by kernel_rfl
theorem inf41 : Ex.Inf Tryd.prog 41 1 8 (.pointer none) := by unfold Ex.Inf; kernel_rfl
theorem flat41 : Ex.flatT Tryd.prog 41 = true := by kernel_rfl
theorem inf42 : Ex.Inf Tryd.prog 42 1 8 (.pointer none) := by unfold Ex.Inf; kernel_rfl
theorem flat42 : Ex.flatT Tryd.prog 42 = true := by kernel_rfl
theorem inf43 : Ex.Inf Tryd.prog 43 1 24 (.slice none 0 0) := by unfold Ex.Inf; kernel_rfl
theorem flat43 : Ex.flatT Tryd.prog 43 = true := by kernel_rfl
theorem inf44 : Ex.Inf Tryd.prog 44 2 32 (.agg [.pointer none, .slice none 0 0].toArray) := by unfold Ex.Inf; kernel_rfl
theorem agg44 : Ex.aggT Tryd.prog 44 = true := by kernel_rfl
theorem pl44 : Ex.placesOf Tryd.prog 44 = some [(0, 1), (1, 1)] := by kernel_rfl
theorem fty44_0 : Ex.fldTy Tryd.prog 44 0 = some 42 := by kernel_rfl
theorem fld44_0 : Ex.fldAt Tryd.prog 44 0 = some 0 := by kernel_rfl
theorem fty44_1 : Ex.fldTy Tryd.prog 44 1 = some 43 := by kernel_rfl
theorem fld44_1 : Ex.fldAt Tryd.prog 44 1 = some 1 := by kernel_rfl
theorem inf45 : Ex.Inf Tryd.prog 45 2 32 (.agg [.pointer none, .slice none 0 0].toArray) := by unfold Ex.Inf; kernel_rfl
theorem agg45 : Ex.aggT Tryd.prog 45 = true := by kernel_rfl
theorem pl45 : Ex.placesOf Tryd.prog 45 = some [(0, 1), (1, 1)] := by kernel_rfl
theorem fty45_0 : Ex.fldTy Tryd.prog 45 0 = some 42 := by kernel_rfl
theorem fld45_0 : Ex.fldAt Tryd.prog 45 0 = some 0 := by kernel_rfl
theorem fty45_1 : Ex.fldTy Tryd.prog 45 1 = some 43 := by kernel_rfl
theorem fld45_1 : Ex.fldAt Tryd.prog 45 1 = some 1 := by kernel_rfl
theorem inf46 : Ex.Inf Tryd.prog 46 2 32 (.agg [.pointer none, .slice none 0 0].toArray) := by unfold Ex.Inf; kernel_rfl
theorem agg46 : Ex.aggT Tryd.prog 46 = true := by kernel_rfl
theorem pl46 : Ex.placesOf Tryd.prog 46 = some [(0, 2)] := by kernel_rfl
theorem fty46_0 : Ex.fldTy Tryd.prog 46 0 = some 45 := by kernel_rfl
theorem fld46_0 : Ex.fldAt Tryd.prog 46 0 = some 0 := by kernel_rfl
theorem inf47 : Ex.Inf Tryd.prog 47 2 32 (.agg [.pointer none, .slice none 0 0].toArray) := by unfold Ex.Inf; kernel_rfl
theorem agg47 : Ex.aggT Tryd.prog 47 = true := by kernel_rfl
theorem pl47 : Ex.placesOf Tryd.prog 47 = some [(0, 2)] := by kernel_rfl
theorem fty47_0 : Ex.fldTy Tryd.prog 47 0 = some 45 := by kernel_rfl
theorem fld47_0 : Ex.fldAt Tryd.prog 47 0 = some 0 := by kernel_rfl
theorem flat48 : Ex.flatT Tryd.prog 48 = true := by kernel_rfl
theorem inf49 : Ex.Inf Tryd.prog 49 1 8 (.pointer none) := by unfold Ex.Inf; kernel_rfl
theorem flat49 : Ex.flatT Tryd.prog 49 = true := by kernel_rfl
theorem flat50 : Ex.flatT Tryd.prog 50 = true := by kernel_rfl
theorem flat51 : Ex.flatT Tryd.prog 51 = true := by kernel_rfl
theorem flat52 : Ex.flatT Tryd.prog 52 = true := by kernel_rfl
theorem inf53 : Ex.Inf Tryd.prog 53 1 8 (.pointer none) := by unfold Ex.Inf; kernel_rfl
theorem flat53 : Ex.flatT Tryd.prog 53 = true := by kernel_rfl
theorem inf54 : Ex.Inf Tryd.prog 54 1 8 (.agg [.int .i64 0].toArray) := by unfold Ex.Inf; kernel_rfl
theorem agg54 : Ex.aggT Tryd.prog 54 = true := by kernel_rfl
theorem pl54 : Ex.placesOf Tryd.prog 54 = some [(0, 1)] := by kernel_rfl
theorem fty54_0 : Ex.fldTy Tryd.prog 54 0 = some 3 := by kernel_rfl
theorem fld54_0 : Ex.fldAt Tryd.prog 54 0 = some 0 := by kernel_rfl
theorem inf55 : Ex.Inf Tryd.prog 55 1 8 (.agg [.int .i64 0].toArray) := by unfold Ex.Inf; kernel_rfl
theorem agg55 : Ex.aggT Tryd.prog 55 = true := by kernel_rfl
theorem pl55 : Ex.placesOf Tryd.prog 55 = some [(0, 1)] := by kernel_rfl
theorem fty55_0 : Ex.fldTy Tryd.prog 55 0 = some 3 := by kernel_rfl
theorem fld55_0 : Ex.fldAt Tryd.prog 55 0 = some 0 := by kernel_rfl
theorem flat56 : Ex.flatT Tryd.prog 56 = true := by kernel_rfl
theorem flat57 : Ex.flatT Tryd.prog 57 = true := by kernel_rfl
theorem inf58 : Ex.Inf Tryd.prog 58 1 8 (.pointer none) := by unfold Ex.Inf; kernel_rfl
theorem flat58 : Ex.flatT Tryd.prog 58 = true := by kernel_rfl
theorem flat59 : Ex.flatT Tryd.prog 59 = true := by kernel_rfl
theorem inf60 : Ex.Inf Tryd.prog 60 2 16 (.agg [.int .i64 0, .int .i64 0].toArray) := by unfold Ex.Inf; kernel_rfl
theorem agg60 : Ex.aggT Tryd.prog 60 = true := by kernel_rfl
theorem pl60 : Ex.placesOf Tryd.prog 60 = some [(0, 2)] := by kernel_rfl
theorem fty60_0 : Ex.fldTy Tryd.prog 60 0 = some 33 := by kernel_rfl
theorem fld60_0 : Ex.fldAt Tryd.prog 60 0 = some 0 := by kernel_rfl
theorem inf61 : Ex.Inf Tryd.prog 61 2 16 (.agg [.int .i64 0, .int .i64 0].toArray) := by unfold Ex.Inf; kernel_rfl
theorem agg61 : Ex.aggT Tryd.prog 61 = true := by kernel_rfl
theorem pl61 : Ex.placesOf Tryd.prog 61 = some [(0, 2)] := by kernel_rfl
theorem fty61_0 : Ex.fldTy Tryd.prog 61 0 = some 33 := by kernel_rfl
theorem fld61_0 : Ex.fldAt Tryd.prog 61 0 = some 0 := by kernel_rfl
theorem inf62 : Ex.Inf Tryd.prog 62 1 8 (.pointer none) := by unfold Ex.Inf; kernel_rfl
theorem flat62 : Ex.flatT Tryd.prog 62 = true := by kernel_rfl
theorem inf63 : Ex.Inf Tryd.prog 63 3 32 (.agg [.string ⟨#[]⟩, .int .i64 0, .int .i64 0].toArray) := by unfold Ex.Inf; kernel_rfl
theorem agg63 : Ex.aggT Tryd.prog 63 = true := by kernel_rfl
theorem pl63 : Ex.placesOf Tryd.prog 63 = some [(0, 1), (1, 1), (2, 1)] := by kernel_rfl
theorem fty63_0 : Ex.fldTy Tryd.prog 63 0 = some 9 := by kernel_rfl
theorem fld63_0 : Ex.fldAt Tryd.prog 63 0 = some 0 := by kernel_rfl
theorem fty63_1 : Ex.fldTy Tryd.prog 63 1 = some 3 := by kernel_rfl
theorem fld63_1 : Ex.fldAt Tryd.prog 63 1 = some 1 := by kernel_rfl
theorem fty63_2 : Ex.fldTy Tryd.prog 63 2 = some 3 := by kernel_rfl
theorem fld63_2 : Ex.fldAt Tryd.prog 63 2 = some 2 := by kernel_rfl
theorem inf64 : Ex.Inf Tryd.prog 64 3 32 (.agg [.string ⟨#[]⟩, .int .i64 0, .int .i64 0].toArray) := by unfold Ex.Inf; kernel_rfl
theorem agg64 : Ex.aggT Tryd.prog 64 = true := by kernel_rfl
theorem pl64 : Ex.placesOf Tryd.prog 64 = some [(0, 1), (1, 1), (2, 1)] := by kernel_rfl
theorem fty64_0 : Ex.fldTy Tryd.prog 64 0 = some 9 := by kernel_rfl
theorem fld64_0 : Ex.fldAt Tryd.prog 64 0 = some 0 := by kernel_rfl
theorem fty64_1 : Ex.fldTy Tryd.prog 64 1 = some 3 := by kernel_rfl
theorem fld64_1 : Ex.fldAt Tryd.prog 64 1 = some 1 := by kernel_rfl
theorem fty64_2 : Ex.fldTy Tryd.prog 64 2 = some 3 := by kernel_rfl
theorem fld64_2 : Ex.fldAt Tryd.prog 64 2 = some 2 := by kernel_rfl
theorem flat65 : Ex.flatT Tryd.prog 65 = true := by kernel_rfl
theorem flat66 : Ex.flatT Tryd.prog 66 = true := by kernel_rfl
theorem inf67 : Ex.Inf Tryd.prog 67 1 8 (.pointer none) := by unfold Ex.Inf; kernel_rfl
theorem flat67 : Ex.flatT Tryd.prog 67 = true := by kernel_rfl
theorem inf68 : Ex.Inf Tryd.prog 68 5 48 (.agg [.string ⟨#[]⟩, .int .i64 0, .int .i64 0, .int .i64 0, .int .i64 0].toArray) := by unfold Ex.Inf; kernel_rfl
theorem agg68 : Ex.aggT Tryd.prog 68 = true := by kernel_rfl
theorem pl68 : Ex.placesOf Tryd.prog 68 = some [(0, 1), (1, 1), (2, 1), (3, 2)] := by kernel_rfl
theorem fty68_0 : Ex.fldTy Tryd.prog 68 0 = some 9 := by kernel_rfl
theorem fld68_0 : Ex.fldAt Tryd.prog 68 0 = some 0 := by kernel_rfl
theorem fty68_1 : Ex.fldTy Tryd.prog 68 1 = some 3 := by kernel_rfl
theorem fld68_1 : Ex.fldAt Tryd.prog 68 1 = some 1 := by kernel_rfl
theorem fty68_2 : Ex.fldTy Tryd.prog 68 2 = some 3 := by kernel_rfl
theorem fld68_2 : Ex.fldAt Tryd.prog 68 2 = some 2 := by kernel_rfl
theorem fty68_3 : Ex.fldTy Tryd.prog 68 3 = some 33 := by kernel_rfl
theorem fld68_3 : Ex.fldAt Tryd.prog 68 3 = some 3 := by kernel_rfl
theorem inf69 : Ex.Inf Tryd.prog 69 5 48 (.agg [.string ⟨#[]⟩, .int .i64 0, .int .i64 0, .int .i64 0, .int .i64 0].toArray) := by unfold Ex.Inf; kernel_rfl
theorem agg69 : Ex.aggT Tryd.prog 69 = true := by kernel_rfl
theorem pl69 : Ex.placesOf Tryd.prog 69 = some [(0, 1), (1, 1), (2, 1), (3, 2)] := by kernel_rfl
theorem fty69_0 : Ex.fldTy Tryd.prog 69 0 = some 9 := by kernel_rfl
theorem fld69_0 : Ex.fldAt Tryd.prog 69 0 = some 0 := by kernel_rfl
theorem fty69_1 : Ex.fldTy Tryd.prog 69 1 = some 3 := by kernel_rfl
theorem fld69_1 : Ex.fldAt Tryd.prog 69 1 = some 1 := by kernel_rfl
theorem fty69_2 : Ex.fldTy Tryd.prog 69 2 = some 3 := by kernel_rfl
theorem fld69_2 : Ex.fldAt Tryd.prog 69 2 = some 2 := by kernel_rfl
theorem fty69_3 : Ex.fldTy Tryd.prog 69 3 = some 33 := by kernel_rfl
theorem fld69_3 : Ex.fldAt Tryd.prog 69 3 = some 3 := by kernel_rfl
theorem flat70 : Ex.flatT Tryd.prog 70 = true := by kernel_rfl
theorem flat71 : Ex.flatT Tryd.prog 71 = true := by kernel_rfl
theorem flat72 : Ex.flatT Tryd.prog 72 = true := by kernel_rfl
theorem inf73 : Ex.Inf Tryd.prog 73 3 40 (.agg [.int .i64 0, .string ⟨#[]⟩, .string ⟨#[]⟩].toArray) := by unfold Ex.Inf; kernel_rfl
theorem agg73 : Ex.aggT Tryd.prog 73 = true := by kernel_rfl
theorem pl73 : Ex.placesOf Tryd.prog 73 = some [(0, 1), (1, 1), (2, 1)] := by kernel_rfl
theorem fty73_0 : Ex.fldTy Tryd.prog 73 0 = some 3 := by kernel_rfl
theorem fld73_0 : Ex.fldAt Tryd.prog 73 0 = some 0 := by kernel_rfl
theorem fty73_1 : Ex.fldTy Tryd.prog 73 1 = some 9 := by kernel_rfl
theorem fld73_1 : Ex.fldAt Tryd.prog 73 1 = some 1 := by kernel_rfl
theorem fty73_2 : Ex.fldTy Tryd.prog 73 2 = some 9 := by kernel_rfl
theorem fld73_2 : Ex.fldAt Tryd.prog 73 2 = some 2 := by kernel_rfl
theorem inf74 : Ex.Inf Tryd.prog 74 3 40 (.agg [.int .i64 0, .string ⟨#[]⟩, .string ⟨#[]⟩].toArray) := by unfold Ex.Inf; kernel_rfl
theorem agg74 : Ex.aggT Tryd.prog 74 = true := by kernel_rfl
theorem pl74 : Ex.placesOf Tryd.prog 74 = some [(0, 1), (1, 1), (2, 1)] := by kernel_rfl
theorem fty74_0 : Ex.fldTy Tryd.prog 74 0 = some 3 := by kernel_rfl
theorem fld74_0 : Ex.fldAt Tryd.prog 74 0 = some 0 := by kernel_rfl
theorem fty74_1 : Ex.fldTy Tryd.prog 74 1 = some 9 := by kernel_rfl
theorem fld74_1 : Ex.fldAt Tryd.prog 74 1 = some 1 := by kernel_rfl
theorem fty74_2 : Ex.fldTy Tryd.prog 74 2 = some 9 := by kernel_rfl
theorem fld74_2 : Ex.fldAt Tryd.prog 74 2 = some 2 := by kernel_rfl
theorem inf75 : Ex.Inf Tryd.prog 75 1 16 (.nilIface) := by unfold Ex.Inf; kernel_rfl
theorem flat75 : Ex.flatT Tryd.prog 75 = true := by kernel_rfl
theorem inf76 : Ex.Inf Tryd.prog 76 1 16 (.nilIface) := by unfold Ex.Inf; kernel_rfl
theorem flat76 : Ex.flatT Tryd.prog 76 = true := by kernel_rfl
theorem flat77 : Ex.flatT Tryd.prog 77 = true := by kernel_rfl
theorem flat79 : Ex.flatT Tryd.prog 79 = true := by kernel_rfl
theorem flat80 : Ex.flatT Tryd.prog 80 = true := by kernel_rfl
theorem flat81 : Ex.flatT Tryd.prog 81 = true := by kernel_rfl
theorem inf82 : Ex.Inf Tryd.prog 82 1 8 (.pointer none) := by unfold Ex.Inf; kernel_rfl
theorem flat82 : Ex.flatT Tryd.prog 82 = true := by kernel_rfl
theorem flat83 : Ex.flatT Tryd.prog 83 = true := by kernel_rfl
theorem inf84 : Ex.Inf Tryd.prog 84 1 8 (.pointer none) := by unfold Ex.Inf; kernel_rfl
theorem flat84 : Ex.flatT Tryd.prog 84 = true := by kernel_rfl
theorem flat85 : Ex.flatT Tryd.prog 85 = true := by kernel_rfl
theorem flat86 : Ex.flatT Tryd.prog 86 = true := by kernel_rfl
theorem inf88 : Ex.Inf Tryd.prog 88 1 8 (.map none) := by unfold Ex.Inf; kernel_rfl
theorem flat88 : Ex.flatT Tryd.prog 88 = true := by kernel_rfl
theorem flat89 : Ex.flatT Tryd.prog 89 = true := by kernel_rfl
theorem flat90 : Ex.flatT Tryd.prog 90 = true := by kernel_rfl
theorem inf91 : Ex.Inf Tryd.prog 91 1 24 (.slice none 0 0) := by unfold Ex.Inf; kernel_rfl
theorem flat91 : Ex.flatT Tryd.prog 91 = true := by kernel_rfl
theorem flat92 : Ex.flatT Tryd.prog 92 = true := by kernel_rfl
theorem inf93 : Ex.Inf Tryd.prog 93 1 24 (.slice none 0 0) := by unfold Ex.Inf; kernel_rfl
theorem flat93 : Ex.flatT Tryd.prog 93 = true := by kernel_rfl
theorem flat94 : Ex.flatT Tryd.prog 94 = true := by kernel_rfl
theorem flat95 : Ex.flatT Tryd.prog 95 = true := by kernel_rfl
theorem flat96 : Ex.flatT Tryd.prog 96 = true := by kernel_rfl
theorem flat97 : Ex.flatT Tryd.prog 97 = true := by kernel_rfl
theorem flat98 : Ex.flatT Tryd.prog 98 = true := by kernel_rfl
theorem flat99 : Ex.flatT Tryd.prog 99 = true := by kernel_rfl
theorem flat102 : Ex.flatT Tryd.prog 102 = true := by kernel_rfl
theorem flat103 : Ex.flatT Tryd.prog 103 = true := by kernel_rfl
theorem flat104 : Ex.flatT Tryd.prog 104 = true := by kernel_rfl
theorem inf105 : Ex.Inf Tryd.prog 105 24 24 (.agg [.int .u8 0, .int .u8 0, .int .u8 0, .int .u8 0, .int .u8 0, .int .u8 0, .int .u8 0, .int .u8 0, .int .u8 0, .int .u8 0, .int .u8 0, .int .u8 0, .int .u8 0, .int .u8 0, .int .u8 0, .int .u8 0, .int .u8 0, .int .u8 0, .int .u8 0, .int .u8 0, .int .u8 0, .int .u8 0, .int .u8 0, .int .u8 0].toArray) := by unfold Ex.Inf; kernel_rfl
theorem agg105 : Ex.aggT Tryd.prog 105 = true := by kernel_rfl
theorem inf106 : Ex.Inf Tryd.prog 106 1 8 (.int .u64 0) := by unfold Ex.Inf; kernel_rfl
theorem flat106 : Ex.flatT Tryd.prog 106 = true := by kernel_rfl
theorem flat107 : Ex.flatT Tryd.prog 107 = true := by kernel_rfl
theorem flat108 : Ex.flatT Tryd.prog 108 = true := by kernel_rfl
theorem flat110 : Ex.flatT Tryd.prog 110 = true := by kernel_rfl
theorem flat111 : Ex.flatT Tryd.prog 111 = true := by kernel_rfl
theorem flat112 : Ex.flatT Tryd.prog 112 = true := by kernel_rfl
theorem flat113 : Ex.flatT Tryd.prog 113 = true := by kernel_rfl
theorem inf114 : Ex.Inf Tryd.prog 114 20 160 (.agg [.int .u64 0, .int .u64 0, .int .u64 0, .int .u64 0, .int .u64 0, .int .u64 0, .int .u64 0, .int .u64 0, .int .u64 0, .int .u64 0, .int .u64 0, .int .u64 0, .int .u64 0, .int .u64 0, .int .u64 0, .int .u64 0, .int .u64 0, .int .u64 0, .int .u64 0, .int .u64 0].toArray) := by unfold Ex.Inf; kernel_rfl
theorem agg114 : Ex.aggT Tryd.prog 114 = true := by kernel_rfl
theorem inf115 : Ex.Inf Tryd.prog 115 1 4 (.int .u32 0) := by unfold Ex.Inf; kernel_rfl
theorem flat115 : Ex.flatT Tryd.prog 115 = true := by kernel_rfl
-- inf116: List.toArray
theorem agg116 : Ex.aggT Tryd.prog 116 = true := by kernel_rfl
theorem flat117 : Ex.flatT Tryd.prog 117 = true := by kernel_rfl
theorem inf118 : Ex.Inf Tryd.prog 118 1 8 (.int .u64 0) := by unfold Ex.Inf; kernel_rfl
theorem flat118 : Ex.flatT Tryd.prog 118 = true := by kernel_rfl
theorem flat119 : Ex.flatT Tryd.prog 119 = true := by kernel_rfl
theorem flat120 : Ex.flatT Tryd.prog 120 = true := by kernel_rfl
theorem flat121 : Ex.flatT Tryd.prog 121 = true := by kernel_rfl
theorem inf122 : Ex.Inf Tryd.prog 122 1 8 (.int .i64 0) := by unfold Ex.Inf; kernel_rfl
theorem flat122 : Ex.flatT Tryd.prog 122 = true := by kernel_rfl
theorem flat124 : Ex.flatT Tryd.prog 124 = true := by kernel_rfl
theorem inf125 : Ex.Inf Tryd.prog 125 1 8 (.pointer none) := by unfold Ex.Inf; kernel_rfl
theorem flat125 : Ex.flatT Tryd.prog 125 = true := by kernel_rfl
theorem flat126 : Ex.flatT Tryd.prog 126 = true := by kernel_rfl
theorem flat127 : Ex.flatT Tryd.prog 127 = true := by kernel_rfl
theorem inf128 : Ex.Inf Tryd.prog 128 32 32 (.agg [.int .u8 0, .int .u8 0, .int .u8 0, .int .u8 0, .int .u8 0, .int .u8 0, .int .u8 0, .int .u8 0, .int .u8 0, .int .u8 0, .int .u8 0, .int .u8 0, .int .u8 0, .int .u8 0, .int .u8 0, .int .u8 0, .int .u8 0, .int .u8 0, .int .u8 0, .int .u8 0, .int .u8 0, .int .u8 0, .int .u8 0, .int .u8 0, .int .u8 0, .int .u8 0, .int .u8 0, .int .u8 0, .int .u8 0, .int .u8 0, .int .u8 0, .int .u8 0].toArray) := by unfold Ex.Inf; kernel_rfl
theorem agg128 : Ex.aggT Tryd.prog 128 = true := by kernel_rfl
theorem inf129 : Ex.Inf Tryd.prog 129 64 64 (.agg [.int .u8 0, .int .u8 0, .int .u8 0, .int .u8 0, .int .u8 0, .int .u8 0, .int .u8 0, .int .u8 0, .int .u8 0, .int .u8 0, .int .u8 0, .int .u8 0, .int .u8 0, .int .u8 0, .int .u8 0, .int .u8 0, .int .u8 0, .int .u8 0, .int .u8 0, .int .u8 0, .int .u8 0, .int .u8 0, .int .u8 0, .int .u8 0, .int .u8 0, .int .u8 0, .int .u8 0, .int .u8 0, .int .u8 0, .int .u8 0, .int .u8 0, .int .u8 0, .int .u8 0, .int .u8 0, .int .u8 0, .int .u8 0, .int .u8 0, .int .u8 0, .int .u8 0, .int .u8 0, .int .u8 0, .int .u8 0, .int .u8 0, .int .u8 0, .int .u8 0, .int .u8 0, .int .u8 0, .int .u8 0, .int .u8 0, .int .u8 0, .int .u8 0, .int .u8 0, .int .u8 0, .int .u8 0, .int .u8 0, .int .u8 0, .int .u8 0, .int .u8 0, .int .u8 0, .int .u8 0, .int .u8 0, .int .u8 0, .int .u8 0, .int .u8 0].toArray) := by unfold Ex.Inf; kernel_rfl
theorem agg129 : Ex.aggT Tryd.prog 129 = true := by kernel_rfl
theorem flat131 : Ex.flatT Tryd.prog 131 = true := by kernel_rfl
theorem flat132 : Ex.flatT Tryd.prog 132 = true := by kernel_rfl
theorem inf133 : Ex.Inf Tryd.prog 133 3 48 (.agg [.string ⟨#[]⟩, .string ⟨#[]⟩, .nilIface].toArray) := by unfold Ex.Inf; kernel_rfl
theorem agg133 : Ex.aggT Tryd.prog 133 = true := by kernel_rfl
theorem pl133 : Ex.placesOf Tryd.prog 133 = some [(0, 1), (1, 1), (2, 1)] := by kernel_rfl
theorem fty133_0 : Ex.fldTy Tryd.prog 133 0 = some 9 := by kernel_rfl
theorem fld133_0 : Ex.fldAt Tryd.prog 133 0 = some 0 := by kernel_rfl
theorem fty133_1 : Ex.fldTy Tryd.prog 133 1 = some 9 := by kernel_rfl
theorem fld133_1 : Ex.fldAt Tryd.prog 133 1 = some 1 := by kernel_rfl
theorem fty133_2 : Ex.fldTy Tryd.prog 133 2 = some 76 := by kernel_rfl
theorem fld133_2 : Ex.fldAt Tryd.prog 133 2 = some 2 := by kernel_rfl
theorem inf134 : Ex.Inf Tryd.prog 134 3 48 (.agg [.string ⟨#[]⟩, .string ⟨#[]⟩, .nilIface].toArray) := by unfold Ex.Inf; kernel_rfl
theorem agg134 : Ex.aggT Tryd.prog 134 = true := by kernel_rfl
theorem pl134 : Ex.placesOf Tryd.prog 134 = some [(0, 1), (1, 1), (2, 1)] := by kernel_rfl
theorem fty134_0 : Ex.fldTy Tryd.prog 134 0 = some 9 := by kernel_rfl
theorem fld134_0 : Ex.fldAt Tryd.prog 134 0 = some 0 := by kernel_rfl
theorem fty134_1 : Ex.fldTy Tryd.prog 134 1 = some 9 := by kernel_rfl
theorem fld134_1 : Ex.fldAt Tryd.prog 134 1 = some 1 := by kernel_rfl
theorem fty134_2 : Ex.fldTy Tryd.prog 134 2 = some 76 := by kernel_rfl
theorem fld134_2 : Ex.fldAt Tryd.prog 134 2 = some 2 := by kernel_rfl
theorem flat135 : Ex.flatT Tryd.prog 135 = true := by kernel_rfl
theorem flat136 : Ex.flatT Tryd.prog 136 = true := by kernel_rfl
theorem inf137 : Ex.Inf Tryd.prog 137 1 8 (.pointer none) := by unfold Ex.Inf; kernel_rfl
theorem flat137 : Ex.flatT Tryd.prog 137 = true := by kernel_rfl
theorem inf138 : Ex.Inf Tryd.prog 138 1 16 (.agg [.string ⟨#[]⟩].toArray) := by unfold Ex.Inf; kernel_rfl
theorem agg138 : Ex.aggT Tryd.prog 138 = true := by kernel_rfl
theorem pl138 : Ex.placesOf Tryd.prog 138 = some [(0, 1)] := by kernel_rfl
theorem fty138_0 : Ex.fldTy Tryd.prog 138 0 = some 9 := by kernel_rfl
theorem fld138_0 : Ex.fldAt Tryd.prog 138 0 = some 0 := by kernel_rfl
theorem inf139 : Ex.Inf Tryd.prog 139 1 16 (.agg [.string ⟨#[]⟩].toArray) := by unfold Ex.Inf; kernel_rfl
theorem agg139 : Ex.aggT Tryd.prog 139 = true := by kernel_rfl
theorem pl139 : Ex.placesOf Tryd.prog 139 = some [(0, 1)] := by kernel_rfl
theorem fty139_0 : Ex.fldTy Tryd.prog 139 0 = some 9 := by kernel_rfl
theorem fld139_0 : Ex.fldAt Tryd.prog 139 0 = some 0 := by kernel_rfl
theorem eqv33 : EqV Tryd.prog 33 Fault faultE := ⟨fun a b w => by
  obtain ⟨a0, a1⟩ := a
  obtain ⟨c0, c1⟩ := b
  rw [run_equalIn_struct (P := Tryd.prog) w 9999 33 _ _ Tryd.underlying33 (by kernel_rfl)]
  simp [go_sem, faultE]
  try ((repeat' split) <;> simp_all), by kernel_rfl⟩
theorem eqv74 : EqV Tryd.prog 74 Match matchE := ⟨fun a b w => by
  obtain ⟨a0, a1, a2⟩ := a
  obtain ⟨c0, c1, c2⟩ := b
  rw [run_equalIn_struct (P := Tryd.prog) w 9999 74 _ _ Tryd.underlying74 (by kernel_rfl)]
  simp [go_sem, matchE, toList_inj]
  try ((repeat' split) <;> simp_all), by kernel_rfl⟩
end Go.Proofs.YtffpglgboaigfaaDoor
