/-
  Closed facts on the types of this translation.
-/
import Derived.Test.YtldecdningjkoaaMore
import Derived.Test.YtldecdningjkoaaProg
import Derived.KernelRfl
namespace Go.Proofs.Ytldecdningjkoaa
open Ex
set_option maxRecDepth 100000
theorem mix : Try.prog.follows .mixedOrders = true := by kernel_rfl
theorem flat1 : Ex.flatT Try.prog 1 = true := by kernel_rfl
theorem inf2 : Ex.Inf Try.prog 2 1 8 (.int .i64 0) := by unfold Ex.Inf; kernel_rfl
theorem flat2 : Ex.flatT Try.prog 2 = true := by kernel_rfl
theorem inf3 : Ex.Inf Try.prog 3 1 8 (.int .i64 0) := by unfold Ex.Inf; kernel_rfl
theorem flat3 : Ex.flatT Try.prog 3 = true := by kernel_rfl
theorem inf4 : Ex.Inf Try.prog 4 1 1 (.bool false) := by unfold Ex.Inf; kernel_rfl
theorem flat4 : Ex.flatT Try.prog 4 = true := by kernel_rfl
theorem inf5 : Ex.Inf Try.prog 5 1 1 (.int .u8 0) := by unfold Ex.Inf; kernel_rfl
theorem flat5 : Ex.flatT Try.prog 5 = true := by kernel_rfl
theorem inf9 : Ex.Inf Try.prog 9 1 16 (.string ⟨#[]⟩) := by unfold Ex.Inf; kernel_rfl
theorem flat9 : Ex.flatT Try.prog 9 = true := by kernel_rfl
theorem inf12 : Ex.Inf Try.prog 12 1 8 (.int .u64 0) := by unfold Ex.Inf; kernel_rfl
theorem flat12 : Ex.flatT Try.prog 12 = true := by kernel_rfl
theorem inf13 : Ex.Inf Try.prog 13 2 24 (.agg [.string ⟨#[]⟩, .int .u64 0].toArray) := by unfold Ex.Inf; kernel_rfl
theorem agg13 : Ex.aggT Try.prog 13 = true := by kernel_rfl
theorem pl13 : Ex.placesOf Try.prog 13 = some [(0, 1), (1, 1)] := by kernel_rfl
theorem fty13_0 : Ex.fldTy Try.prog 13 0 = some 9 := by kernel_rfl
theorem fld13_0 : Ex.fldAt Try.prog 13 0 = some 0 := by kernel_rfl
theorem fty13_1 : Ex.fldTy Try.prog 13 1 = some 12 := by kernel_rfl
theorem fld13_1 : Ex.fldAt Try.prog 13 1 = some 1 := by kernel_rfl
theorem inf20 : Ex.Inf Try.prog 20 1 16 (.nilIface) := by unfold Ex.Inf; kernel_rfl
theorem flat20 : Ex.flatT Try.prog 20 = true := by kernel_rfl
theorem inf21 : Ex.Inf Try.prog 21 1 4 (.int .i32 0) := by unfold Ex.Inf; kernel_rfl
theorem flat21 : Ex.flatT Try.prog 21 = true := by kernel_rfl
theorem inf22 : Ex.Inf Try.prog 22 1 24 (.slice none 0 0) := by unfold Ex.Inf; kernel_rfl
theorem flat22 : Ex.flatT Try.prog 22 = true := by kernel_rfl
theorem inf23 : Ex.Inf Try.prog 23 1 24 (.slice none 0 0) := by unfold Ex.Inf; kernel_rfl
theorem flat23 : Ex.flatT Try.prog 23 = true := by kernel_rfl
theorem inf24 : Ex.Inf Try.prog 24 1 24 (.slice none 0 0) := by unfold Ex.Inf; kernel_rfl
theorem flat24 : Ex.flatT Try.prog 24 = true := by kernel_rfl
theorem inf25 : Ex.Inf Try.prog 25 1 24 (.slice none 0 0) := by unfold Ex.Inf; kernel_rfl
theorem flat25 : Ex.flatT Try.prog 25 = true := by kernel_rfl
theorem inf26 : Ex.Inf Try.prog 26 7 112 (.agg [.int .i64 0, .int .i64 0, .int .i64 0, .string ⟨#[]⟩, .slice none 0 0, .slice none 0 0, .slice none 0 0].toArray) := by unfold Ex.Inf; kernel_rfl
theorem agg26 : Ex.aggT Try.prog 26 = true := by kernel_rfl
theorem pl26 : Ex.placesOf Try.prog 26 = some [(0, 1), (1, 1), (2, 1), (3, 1), (4, 1), (5, 1), (6, 1)] := by kernel_rfl
theorem fty26_0 : Ex.fldTy Try.prog 26 0 = some 3 := by kernel_rfl
theorem fld26_0 : Ex.fldAt Try.prog 26 0 = some 0 := by kernel_rfl
theorem fty26_1 : Ex.fldTy Try.prog 26 1 = some 3 := by kernel_rfl
theorem fld26_1 : Ex.fldAt Try.prog 26 1 = some 1 := by kernel_rfl
theorem fty26_2 : Ex.fldTy Try.prog 26 2 = some 3 := by kernel_rfl
theorem fld26_2 : Ex.fldAt Try.prog 26 2 = some 2 := by kernel_rfl
theorem fty26_3 : Ex.fldTy Try.prog 26 3 = some 9 := by kernel_rfl
theorem fld26_3 : Ex.fldAt Try.prog 26 3 = some 3 := by kernel_rfl
theorem fty26_4 : Ex.fldTy Try.prog 26 4 = some 23 := by kernel_rfl
theorem fld26_4 : Ex.fldAt Try.prog 26 4 = some 4 := by kernel_rfl
theorem fty26_5 : Ex.fldTy Try.prog 26 5 = some 24 := by kernel_rfl
theorem fld26_5 : Ex.fldAt Try.prog 26 5 = some 5 := by kernel_rfl
theorem fty26_6 : Ex.fldTy Try.prog 26 6 = some 25 := by kernel_rfl
theorem fld26_6 : Ex.fldAt Try.prog 26 6 = some 6 := by kernel_rfl
theorem inf27 : Ex.Inf Try.prog 27 7 112 (.agg [.int .i64 0, .int .i64 0, .int .i64 0, .string ⟨#[]⟩, .slice none 0 0, .slice none 0 0, .slice none 0 0].toArray) := by unfold Ex.Inf; kernel_rfl
theorem agg27 : Ex.aggT Try.prog 27 = true := by kernel_rfl
theorem pl27 : Ex.placesOf Try.prog 27 = some [(0, 1), (1, 1), (2, 1), (3, 1), (4, 1), (5, 1), (6, 1)] := by kernel_rfl
theorem fty27_0 : Ex.fldTy Try.prog 27 0 = some 3 := by kernel_rfl
theorem fld27_0 : Ex.fldAt Try.prog 27 0 = some 0 := by kernel_rfl
theorem fty27_1 : Ex.fldTy Try.prog 27 1 = some 3 := by kernel_rfl
theorem fld27_1 : Ex.fldAt Try.prog 27 1 = some 1 := by kernel_rfl
theorem fty27_2 : Ex.fldTy Try.prog 27 2 = some 3 := by kernel_rfl
theorem fld27_2 : Ex.fldAt Try.prog 27 2 = some 2 := by kernel_rfl
theorem fty27_3 : Ex.fldTy Try.prog 27 3 = some 9 := by kernel_rfl
theorem fld27_3 : Ex.fldAt Try.prog 27 3 = some 3 := by kernel_rfl
theorem fty27_4 : Ex.fldTy Try.prog 27 4 = some 23 := by kernel_rfl
theorem fld27_4 : Ex.fldAt Try.prog 27 4 = some 4 := by kernel_rfl
theorem fty27_5 : Ex.fldTy Try.prog 27 5 = some 24 := by kernel_rfl
theorem fld27_5 : Ex.fldAt Try.prog 27 5 = some 5 := by kernel_rfl
theorem fty27_6 : Ex.fldTy Try.prog 27 6 = some 25 := by kernel_rfl
theorem fld27_6 : Ex.fldAt Try.prog 27 6 = some 6 := by kernel_rfl
theorem inf28 : Ex.Inf Try.prog 28 1 24 (.slice none 0 0) := by unfold Ex.Inf; kernel_rfl
theorem flat28 : Ex.flatT Try.prog 28 = true := by kernel_rfl
theorem inf29 : Ex.Inf Try.prog 29 1 8 (.int .i64 0) := by unfold Ex.Inf; kernel_rfl
theorem flat29 : Ex.flatT Try.prog 29 = true := by kernel_rfl
theorem flat31 : Ex.flatT Try.prog 31 = true := by kernel_rfl
theorem flat32 : Ex.flatT Try.prog 32 = true := by kernel_rfl
theorem inf33 : Ex.Inf Try.prog 33 2 16 (.agg [.int .i64 0, .int .i64 0].toArray) := by unfold Ex.Inf; kernel_rfl
theorem agg33 : Ex.aggT Try.prog 33 = true := by kernel_rfl
theorem pl33 : Ex.placesOf Try.prog 33 = some [(0, 1), (1, 1)] := by kernel_rfl
theorem fty33_0 : Ex.fldTy Try.prog 33 0 = some 29 := by kernel_rfl
theorem fld33_0 : Ex.fldAt Try.prog 33 0 = some 0 := by kernel_rfl
theorem fty33_1 : Ex.fldTy Try.prog 33 1 = some 3 := by kernel_rfl
theorem fld33_1 : Ex.fldAt Try.prog 33 1 = some 1 := by kernel_rfl
theorem inf34 : Ex.Inf Try.prog 34 2 16 (.agg [.int .i64 0, .int .i64 0].toArray) := by unfold Ex.Inf; kernel_rfl
theorem agg34 : Ex.aggT Try.prog 34 = true := by kernel_rfl
theorem pl34 : Ex.placesOf Try.prog 34 = some [(0, 1), (1, 1)] := by kernel_rfl
theorem fty34_0 : Ex.fldTy Try.prog 34 0 = some 29 := by kernel_rfl
theorem fld34_0 : Ex.fldAt Try.prog 34 0 = some 0 := by kernel_rfl
theorem fty34_1 : Ex.fldTy Try.prog 34 1 = some 3 := by kernel_rfl
theorem fld34_1 : Ex.fldAt Try.prog 34 1 = some 1 := by kernel_rfl
theorem flat35 : Ex.flatT Try.prog 35 = true := by kernel_rfl
theorem flat36 : Ex.flatT Try.prog 36 = true := by kernel_rfl
theorem flat37 : Ex.flatT Try.prog 37 = true := by kernel_rfl
theorem flat38 : Ex.flatT Try.prog 38 = true := by kernel_rfl
theorem flat39 : Ex.flatT Try.prog 39 = true := by kernel_rfl
theorem flat40 : Ex.flatT Try.prog 40 = true := by kernel_rfl
theorem inf41 : Ex.Inf Try.prog 41 1 24 (.slice none 0 0) := by unfold Ex.Inf; kernel_rfl
theorem flat41 : Ex.flatT Try.prog 41 = true := by kernel_rfl
theorem inf42 : Ex.Inf Try.prog 42 1 24 (.slice none 0 0) := by unfold Ex.Inf; kernel_rfl
theorem flat42 : Ex.flatT Try.prog 42 = true := by kernel_rfl
theorem inf43 : Ex.Inf Try.prog 43 2 32 (.agg [.slice none 0 0, .int .i64 0].toArray) := by unfold Ex.Inf; kernel_rfl
theorem agg43 : Ex.aggT Try.prog 43 = true := by kernel_rfl
theorem pl43 : Ex.placesOf Try.prog 43 = some [(0, 1), (1, 1)] := by kernel_rfl
theorem fty43_0 : Ex.fldTy Try.prog 43 0 = some 42 := by kernel_rfl
theorem fld43_0 : Ex.fldAt Try.prog 43 0 = some 0 := by kernel_rfl
theorem fty43_1 : Ex.fldTy Try.prog 43 1 = some 3 := by kernel_rfl
theorem fld43_1 : Ex.fldAt Try.prog 43 1 = some 1 := by kernel_rfl
theorem inf44 : Ex.Inf Try.prog 44 2 32 (.agg [.slice none 0 0, .int .i64 0].toArray) := by unfold Ex.Inf; kernel_rfl
theorem agg44 : Ex.aggT Try.prog 44 = true := by kernel_rfl
theorem pl44 : Ex.placesOf Try.prog 44 = some [(0, 1), (1, 1)] := by kernel_rfl
theorem fty44_0 : Ex.fldTy Try.prog 44 0 = some 42 := by kernel_rfl
theorem fld44_0 : Ex.fldAt Try.prog 44 0 = some 0 := by kernel_rfl
theorem fty44_1 : Ex.fldTy Try.prog 44 1 = some 3 := by kernel_rfl
theorem fld44_1 : Ex.fldAt Try.prog 44 1 = some 1 := by kernel_rfl
theorem flat45 : Ex.flatT Try.prog 45 = true := by kernel_rfl
theorem inf46 : Ex.Inf Try.prog 46 1 8 (.map none) := by unfold Ex.Inf; kernel_rfl
theorem flat46 : Ex.flatT Try.prog 46 = true := by kernel_rfl
theorem inf47 : Ex.Inf Try.prog 47 1 24 (.slice none 0 0) := by unfold Ex.Inf; kernel_rfl
theorem flat47 : Ex.flatT Try.prog 47 = true := by kernel_rfl
theorem inf48 : Ex.Inf Try.prog 48 2 48 (.agg [.slice none 0 0, .slice none 0 0].toArray) := by unfold Ex.Inf; kernel_rfl
theorem agg48 : Ex.aggT Try.prog 48 = true := by kernel_rfl
theorem pl48 : Ex.placesOf Try.prog 48 = some [(0, 1), (1, 1)] := by kernel_rfl
theorem fty48_0 : Ex.fldTy Try.prog 48 0 = some 42 := by kernel_rfl
theorem fld48_0 : Ex.fldAt Try.prog 48 0 = some 0 := by kernel_rfl
theorem fty48_1 : Ex.fldTy Try.prog 48 1 = some 47 := by kernel_rfl
theorem fld48_1 : Ex.fldAt Try.prog 48 1 = some 1 := by kernel_rfl
theorem inf49 : Ex.Inf Try.prog 49 2 48 (.agg [.slice none 0 0, .slice none 0 0].toArray) := by unfold Ex.Inf; kernel_rfl
theorem agg49 : Ex.aggT Try.prog 49 = true := by kernel_rfl
theorem pl49 : Ex.placesOf Try.prog 49 = some [(0, 1), (1, 1)] := by kernel_rfl
theorem fty49_0 : Ex.fldTy Try.prog 49 0 = some 42 := by kernel_rfl
theorem fld49_0 : Ex.fldAt Try.prog 49 0 = some 0 := by kernel_rfl
theorem fty49_1 : Ex.fldTy Try.prog 49 1 = some 47 := by kernel_rfl
theorem fld49_1 : Ex.fldAt Try.prog 49 1 = some 1 := by kernel_rfl
theorem inf50 : Ex.Inf Try.prog 50 2 32 (.agg [.string ⟨#[]⟩, .string ⟨#[]⟩].toArray) := by unfold Ex.Inf; kernel_rfl
theorem agg50 : Ex.aggT Try.prog 50 = true := by kernel_rfl
theorem pl50 : Ex.placesOf Try.prog 50 = some [(0, 1), (1, 1)] := by kernel_rfl
theorem fty50_0 : Ex.fldTy Try.prog 50 0 = some 9 := by kernel_rfl
theorem fld50_0 : Ex.fldAt Try.prog 50 0 = some 0 := by kernel_rfl
theorem fty50_1 : Ex.fldTy Try.prog 50 1 = some 9 := by kernel_rfl
theorem fld50_1 : Ex.fldAt Try.prog 50 1 = some 1 := by kernel_rfl
theorem inf51 : Ex.Inf Try.prog 51 2 32 (.agg [.string ⟨#[]⟩, .string ⟨#[]⟩].toArray) := by unfold Ex.Inf; kernel_rfl
theorem agg51 : Ex.aggT Try.prog 51 = true := by kernel_rfl
theorem pl51 : Ex.placesOf Try.prog 51 = some [(0, 1), (1, 1)] := by kernel_rfl
theorem fty51_0 : Ex.fldTy Try.prog 51 0 = some 9 := by kernel_rfl
theorem fld51_0 : Ex.fldAt Try.prog 51 0 = some 0 := by kernel_rfl
theorem fty51_1 : Ex.fldTy Try.prog 51 1 = some 9 := by kernel_rfl
theorem fld51_1 : Ex.fldAt Try.prog 51 1 = some 1 := by kernel_rfl
theorem flat52 : Ex.flatT Try.prog 52 = true := by kernel_rfl
theorem inf53 : Ex.Inf Try.prog 53 2 16 (.agg [.int .i64 0, .int .i64 0].toArray) := by unfold Ex.Inf; kernel_rfl
theorem agg53 : Ex.aggT Try.prog 53 = true := by kernel_rfl
theorem pl53 : Ex.placesOf Try.prog 53 = some [(0, 1), (1, 1)] := by kernel_rfl
theorem fty53_0 : Ex.fldTy Try.prog 53 0 = some 3 := by kernel_rfl
theorem fld53_0 : Ex.fldAt Try.prog 53 0 = some 0 := by kernel_rfl
theorem fty53_1 : Ex.fldTy Try.prog 53 1 = some 3 := by kernel_rfl
theorem fld53_1 : Ex.fldAt Try.prog 53 1 = some 1 := by kernel_rfl
theorem inf54 : Ex.Inf Try.prog 54 2 16 (.agg [.int .i64 0, .int .i64 0].toArray) := by unfold Ex.Inf; kernel_rfl
theorem agg54 : Ex.aggT Try.prog 54 = true := by kernel_rfl
theorem pl54 : Ex.placesOf Try.prog 54 = some [(0, 1), (1, 1)] := by kernel_rfl
theorem fty54_0 : Ex.fldTy Try.prog 54 0 = some 3 := by kernel_rfl
theorem fld54_0 : Ex.fldAt Try.prog 54 0 = some 0 := by kernel_rfl
theorem fty54_1 : Ex.fldTy Try.prog 54 1 = some 3 := by kernel_rfl
theorem fld54_1 : Ex.fldAt Try.prog 54 1 = some 1 := by kernel_rfl
theorem flat55 : Ex.flatT Try.prog 55 = true := by kernel_rfl
theorem flat56 : Ex.flatT Try.prog 56 = true := by kernel_rfl
theorem inf57 : Ex.Inf Try.prog 57 1 24 (.slice none 0 0) := by unfold Ex.Inf; kernel_rfl
theorem flat57 : Ex.flatT Try.prog 57 = true := by kernel_rfl
theorem inf58 : Ex.Inf Try.prog 58 1 24 (.slice none 0 0) := by unfold Ex.Inf; kernel_rfl
theorem flat58 : Ex.flatT Try.prog 58 = true := by kernel_rfl
theorem flat59 : Ex.flatT Try.prog 59 = true := by kernel_rfl
theorem flat60 : Ex.flatT Try.prog 60 = true := by kernel_rfl
theorem inf61 : Ex.Inf Try.prog 61 7 56 (.agg [.int .i64 0, .int .i64 0, .int .i64 0, .int .i64 0, .int .i64 0, .int .i64 0, .int .i64 0].toArray) := by unfold Ex.Inf; kernel_rfl
theorem agg61 : Ex.aggT Try.prog 61 = true := by kernel_rfl
theorem pl61 : Ex.placesOf Try.prog 61 = some [(0, 1), (1, 1), (2, 1), (3, 1), (4, 1), (5, 1), (6, 1)] := by kernel_rfl
theorem fty61_0 : Ex.fldTy Try.prog 61 0 = some 3 := by kernel_rfl
theorem fld61_0 : Ex.fldAt Try.prog 61 0 = some 0 := by kernel_rfl
theorem fty61_1 : Ex.fldTy Try.prog 61 1 = some 3 := by kernel_rfl
theorem fld61_1 : Ex.fldAt Try.prog 61 1 = some 1 := by kernel_rfl
theorem fty61_2 : Ex.fldTy Try.prog 61 2 = some 3 := by kernel_rfl
theorem fld61_2 : Ex.fldAt Try.prog 61 2 = some 2 := by kernel_rfl
theorem fty61_3 : Ex.fldTy Try.prog 61 3 = some 3 := by kernel_rfl
theorem fld61_3 : Ex.fldAt Try.prog 61 3 = some 3 := by kernel_rfl
theorem fty61_4 : Ex.fldTy Try.prog 61 4 = some 3 := by kernel_rfl
theorem fld61_4 : Ex.fldAt Try.prog 61 4 = some 4 := by kernel_rfl
theorem fty61_5 : Ex.fldTy Try.prog 61 5 = some 3 := by kernel_rfl
theorem fld61_5 : Ex.fldAt Try.prog 61 5 = some 5 := by kernel_rfl
theorem fty61_6 : Ex.fldTy Try.prog 61 6 = some 3 := by kernel_rfl
theorem fld61_6 : Ex.fldAt Try.prog 61 6 = some 6 := by kernel_rfl
theorem inf62 : Ex.Inf Try.prog 62 7 56 (.agg [.int .i64 0, .int .i64 0, .int .i64 0, .int .i64 0, .int .i64 0, .int .i64 0, .int .i64 0].toArray) := by unfold Ex.Inf; kernel_rfl
theorem agg62 : Ex.aggT Try.prog 62 = true := by kernel_rfl
theorem pl62 : Ex.placesOf Try.prog 62 = some [(0, 1), (1, 1), (2, 1), (3, 1), (4, 1), (5, 1), (6, 1)] := by kernel_rfl
theorem fty62_0 : Ex.fldTy Try.prog 62 0 = some 3 := by kernel_rfl
theorem fld62_0 : Ex.fldAt Try.prog 62 0 = some 0 := by kernel_rfl
theorem fty62_1 : Ex.fldTy Try.prog 62 1 = some 3 := by kernel_rfl
theorem fld62_1 : Ex.fldAt Try.prog 62 1 = some 1 := by kernel_rfl
theorem fty62_2 : Ex.fldTy Try.prog 62 2 = some 3 := by kernel_rfl
theorem fld62_2 : Ex.fldAt Try.prog 62 2 = some 2 := by kernel_rfl
theorem fty62_3 : Ex.fldTy Try.prog 62 3 = some 3 := by kernel_rfl
theorem fld62_3 : Ex.fldAt Try.prog 62 3 = some 3 := by kernel_rfl
theorem fty62_4 : Ex.fldTy Try.prog 62 4 = some 3 := by kernel_rfl
theorem fld62_4 : Ex.fldAt Try.prog 62 4 = some 4 := by kernel_rfl
theorem fty62_5 : Ex.fldTy Try.prog 62 5 = some 3 := by kernel_rfl
theorem fld62_5 : Ex.fldAt Try.prog 62 5 = some 5 := by kernel_rfl
theorem fty62_6 : Ex.fldTy Try.prog 62 6 = some 3 := by kernel_rfl
theorem fld62_6 : Ex.fldAt Try.prog 62 6 = some 6 := by kernel_rfl
theorem flat63 : Ex.flatT Try.prog 63 = true := by kernel_rfl
theorem flat64 : Ex.flatT Try.prog 64 = true := by kernel_rfl
theorem flat66 : Ex.flatT Try.prog 66 = true := by kernel_rfl
theorem flat67 : Ex.flatT Try.prog 67 = true := by kernel_rfl
theorem flat68 : Ex.flatT Try.prog 68 = true := by kernel_rfl
theorem flat69 : Ex.flatT Try.prog 69 = true := by kernel_rfl
theorem flat70 : Ex.flatT Try.prog 70 = true := by kernel_rfl
theorem flat71 : Ex.flatT Try.prog 71 = true := by kernel_rfl
theorem flat72 : Ex.flatT Try.prog 72 = true := by kernel_rfl
theorem flat73 : Ex.flatT Try.prog 73 = true := by kernel_rfl
theorem flat74 : Ex.flatT Try.prog 74 = true := by kernel_rfl
theorem flat75 : Ex.flatT Try.prog 75 = true := by kernel_rfl
theorem inf76 : Ex.Inf Try.prog 76 3 40 (.agg [.bool false, .int .i64 0, .slice none 0 0].toArray) := by unfold Ex.Inf; kernel_rfl
theorem agg76 : Ex.aggT Try.prog 76 = true := by kernel_rfl
theorem pl76 : Ex.placesOf Try.prog 76 = some [(0, 1), (1, 1), (2, 1)] := by kernel_rfl
theorem fty76_0 : Ex.fldTy Try.prog 76 0 = some 4 := by kernel_rfl
theorem fld76_0 : Ex.fldAt Try.prog 76 0 = some 0 := by kernel_rfl
theorem fty76_1 : Ex.fldTy Try.prog 76 1 = some 3 := by kernel_rfl
theorem fld76_1 : Ex.fldAt Try.prog 76 1 = some 1 := by kernel_rfl
theorem fty76_2 : Ex.fldTy Try.prog 76 2 = some 28 := by kernel_rfl
theorem fld76_2 : Ex.fldAt Try.prog 76 2 = some 2 := by kernel_rfl
theorem inf77 : Ex.Inf Try.prog 77 3 40 (.agg [.bool false, .int .i64 0, .slice none 0 0].toArray) := by unfold Ex.Inf; kernel_rfl
theorem agg77 : Ex.aggT Try.prog 77 = true := by kernel_rfl
theorem pl77 : Ex.placesOf Try.prog 77 = some [(0, 1), (1, 1), (2, 1)] := by kernel_rfl
theorem fty77_0 : Ex.fldTy Try.prog 77 0 = some 4 := by kernel_rfl
theorem fld77_0 : Ex.fldAt Try.prog 77 0 = some 0 := by kernel_rfl
theorem fty77_1 : Ex.fldTy Try.prog 77 1 = some 3 := by kernel_rfl
theorem fld77_1 : Ex.fldAt Try.prog 77 1 = some 1 := by kernel_rfl
theorem fty77_2 : Ex.fldTy Try.prog 77 2 = some 28 := by kernel_rfl
theorem fld77_2 : Ex.fldAt Try.prog 77 2 = some 2 := by kernel_rfl
theorem inf79 : Ex.Inf Try.prog 79 1 8 (.pointer none) := by unfold Ex.Inf; kernel_rfl
theorem flat79 : Ex.flatT Try.prog 79 = true := by kernel_rfl
theorem inf80 : Ex.Inf Try.prog 80 2 16 (.agg [.int .i64 0, .nilFunc].toArray) := by unfold Ex.Inf; kernel_rfl
theorem agg80 : Ex.aggT Try.prog 80 = true := by kernel_rfl
theorem pl80 : Ex.placesOf Try.prog 80 = some [(0, 1), (1, 1)] := by kernel_rfl
theorem fty80_0 : Ex.fldTy Try.prog 80 0 = some 3 := by kernel_rfl
theorem fld80_0 : Ex.fldAt Try.prog 80 0 = some 0 := by kernel_rfl
theorem fty80_1 : Ex.fldTy Try.prog 80 1 = some 75 := by kernel_rfl
theorem fld80_1 : Ex.fldAt Try.prog 80 1 = some 1 := by kernel_rfl
theorem inf81 : Ex.Inf Try.prog 81 2 16 (.agg [.int .i64 0, .nilFunc].toArray) := by unfold Ex.Inf; kernel_rfl
theorem agg81 : Ex.aggT Try.prog 81 = true := by kernel_rfl
theorem pl81 : Ex.placesOf Try.prog 81 = some [(0, 1), (1, 1)] := by kernel_rfl
theorem fty81_0 : Ex.fldTy Try.prog 81 0 = some 3 := by kernel_rfl
theorem fld81_0 : Ex.fldAt Try.prog 81 0 = some 0 := by kernel_rfl
theorem fty81_1 : Ex.fldTy Try.prog 81 1 = some 75 := by kernel_rfl
theorem fld81_1 : Ex.fldAt Try.prog 81 1 = some 1 := by kernel_rfl
theorem flat82 : Ex.flatT Try.prog 82 = true := by kernel_rfl
theorem inf83 : Ex.Inf Try.prog 83 1 8 (.pointer none) := by unfold Ex.Inf; kernel_rfl
theorem flat83 : Ex.flatT Try.prog 83 = true := by kernel_rfl
theorem inf84 : Ex.Inf Try.prog 84 3 40 (.agg [.int .i64 0, .string ⟨#[]⟩, .string ⟨#[]⟩].toArray) := by unfold Ex.Inf; kernel_rfl
theorem agg84 : Ex.aggT Try.prog 84 = true := by kernel_rfl
theorem pl84 : Ex.placesOf Try.prog 84 = some [(0, 1), (1, 1), (2, 1)] := by kernel_rfl
theorem fty84_0 : Ex.fldTy Try.prog 84 0 = some 3 := by kernel_rfl
theorem fld84_0 : Ex.fldAt Try.prog 84 0 = some 0 := by kernel_rfl
theorem fty84_1 : Ex.fldTy Try.prog 84 1 = some 9 := by kernel_rfl
theorem fld84_1 : Ex.fldAt Try.prog 84 1 = some 1 := by kernel_rfl
theorem fty84_2 : Ex.fldTy Try.prog 84 2 = some 9 := by kernel_rfl
theorem fld84_2 : Ex.fldAt Try.prog 84 2 = some 2 := by kernel_rfl
theorem inf85 : Ex.Inf Try.prog 85 3 40 (.agg [.int .i64 0, .string ⟨#[]⟩, .string ⟨#[]⟩].toArray) := by unfold Ex.Inf; kernel_rfl
theorem agg85 : Ex.aggT Try.prog 85 = true := by kernel_rfl
theorem pl85 : Ex.placesOf Try.prog 85 = some [(0, 1), (1, 1), (2, 1)] := by kernel_rfl
theorem fty85_0 : Ex.fldTy Try.prog 85 0 = some 3 := by kernel_rfl
theorem fld85_0 : Ex.fldAt Try.prog 85 0 = some 0 := by kernel_rfl
theorem fty85_1 : Ex.fldTy Try.prog 85 1 = some 9 := by kernel_rfl
theorem fld85_1 : Ex.fldAt Try.prog 85 1 = some 1 := by kernel_rfl
theorem fty85_2 : Ex.fldTy Try.prog 85 2 = some 9 := by kernel_rfl
theorem fld85_2 : Ex.fldAt Try.prog 85 2 = some 2 := by kernel_rfl
theorem flat87 : Ex.flatT Try.prog 87 = true := by kernel_rfl
theorem flat88 : Ex.flatT Try.prog 88 = true := by kernel_rfl
theorem flat89 : Ex.flatT Try.prog 89 = true := by kernel_rfl
theorem flat90 : Ex.flatT Try.prog 90 = true := by kernel_rfl
theorem flat93 : Ex.flatT Try.prog 93 = true := by kernel_rfl
theorem flat94 : Ex.flatT Try.prog 94 = true := by kernel_rfl
theorem flat95 : Ex.flatT Try.prog 95 = true := by kernel_rfl
theorem flat96 : Ex.flatT Try.prog 96 = true := by kernel_rfl
theorem flat97 : Ex.flatT Try.prog 97 = true := by kernel_rfl
theorem flat98 : Ex.flatT Try.prog 98 = true := by kernel_rfl
theorem flat99 : Ex.flatT Try.prog 99 = true := by kernel_rfl
theorem flat100 : Ex.flatT Try.prog 100 = true := by kernel_rfl
theorem flat101 : Ex.flatT Try.prog 101 = true := by kernel_rfl
theorem inf102 : Ex.Inf Try.prog 102 2 32 (.agg [.string ⟨#[]⟩, .string ⟨#[]⟩].toArray) := by unfold Ex.Inf; kernel_rfl
theorem agg102 : Ex.aggT Try.prog 102 = true := by kernel_rfl
theorem inf103 : Ex.Inf Try.prog 103 1 24 (.slice none 0 0) := by unfold Ex.Inf; kernel_rfl
theorem flat103 : Ex.flatT Try.prog 103 = true := by kernel_rfl
theorem inf104 : Ex.Inf Try.prog 104 1 8 (.pointer none) := by unfold Ex.Inf; kernel_rfl
theorem flat104 : Ex.flatT Try.prog 104 = true := by kernel_rfl
theorem inf105 : Ex.Inf Try.prog 105 1 8 (.agg [.int .i64 0].toArray) := by unfold Ex.Inf; kernel_rfl
theorem agg105 : Ex.aggT Try.prog 105 = true := by kernel_rfl
theorem pl105 : Ex.placesOf Try.prog 105 = some [(0, 1)] := by kernel_rfl
theorem fty105_0 : Ex.fldTy Try.prog 105 0 = some 3 := by kernel_rfl
theorem fld105_0 : Ex.fldAt Try.prog 105 0 = some 0 := by kernel_rfl
theorem inf106 : Ex.Inf Try.prog 106 1 8 (.agg [.int .i64 0].toArray) := by unfold Ex.Inf; kernel_rfl
theorem agg106 : Ex.aggT Try.prog 106 = true := by kernel_rfl
theorem pl106 : Ex.placesOf Try.prog 106 = some [(0, 1)] := by kernel_rfl
theorem fty106_0 : Ex.fldTy Try.prog 106 0 = some 3 := by kernel_rfl
theorem fld106_0 : Ex.fldAt Try.prog 106 0 = some 0 := by kernel_rfl
theorem flat107 : Ex.flatT Try.prog 107 = true := by kernel_rfl
theorem flat108 : Ex.flatT Try.prog 108 = true := by kernel_rfl
theorem flat109 : Ex.flatT Try.prog 109 = true := by kernel_rfl
theorem inf110 : Ex.Inf Try.prog 110 1 8 (.pointer none) := by unfold Ex.Inf; kernel_rfl
theorem flat110 : Ex.flatT Try.prog 110 = true := by kernel_rfl
theorem inf111 : Ex.Inf Try.prog 111 1 24 (.slice none 0 0) := by unfold Ex.Inf; kernel_rfl
theorem flat111 : Ex.flatT Try.prog 111 = true := by kernel_rfl
theorem flat112 : Ex.flatT Try.prog 112 = true := by kernel_rfl
theorem flat113 : Ex.flatT Try.prog 113 = true := by kernel_rfl
theorem inf114 : Ex.Inf Try.prog 114 1 8 (.map none) := by unfold Ex.Inf; kernel_rfl
theorem flat114 : Ex.flatT Try.prog 114 = true := by kernel_rfl
theorem flat115 : Ex.flatT Try.prog 115 = true := by kernel_rfl
theorem inf116 : Ex.Inf Try.prog 116 1 8 (.pointer none) := by unfold Ex.Inf; kernel_rfl
theorem flat116 : Ex.flatT Try.prog 116 = true := by kernel_rfl
theorem flat117 : Ex.flatT Try.prog 117 = true := by kernel_rfl
theorem inf118 : Ex.Inf Try.prog 118 1 24 (.slice none 0 0) := by unfold Ex.Inf; kernel_rfl
theorem flat118 : Ex.flatT Try.prog 118 = true := by kernel_rfl
theorem inf119 : Ex.Inf Try.prog 119 1 24 (.slice none 0 0) := by unfold Ex.Inf; kernel_rfl
theorem flat119 : Ex.flatT Try.prog 119 = true := by kernel_rfl
theorem flat120 : Ex.flatT Try.prog 120 = true := by kernel_rfl
theorem flat121 : Ex.flatT Try.prog 121 = true := by kernel_rfl
theorem flat122 : Ex.flatT Try.prog 122 = true := by kernel_rfl
theorem inf123 : Ex.Inf Try.prog 123 1 8 (.map none) := by unfold Ex.Inf; kernel_rfl
theorem flat123 : Ex.flatT Try.prog 123 = true := by kernel_rfl
theorem flat124 : Ex.flatT Try.prog 124 = true := by kernel_rfl
theorem flat125 : Ex.flatT Try.prog 125 = true := by kernel_rfl
theorem flat127 : Ex.flatT Try.prog 127 = true := by kernel_rfl
theorem flat128 : Ex.flatT Try.prog 128 = true := by kernel_rfl
theorem flat129 : Ex.flatT Try.prog 129 = true := by kernel_rfl
theorem flat130 : Ex.flatT Try.prog 130 = true := by kernel_rfl
theorem flat131 : Ex.flatT Try.prog 131 = true := by kernel_rfl
theorem flat132 : Ex.flatT Try.prog 132 = true := by kernel_rfl
theorem flat133 : Ex.flatT Try.prog 133 = true := by kernel_rfl
theorem flat134 : Ex.flatT Try.prog 134 = true := by kernel_rfl
theorem flat135 : Ex.flatT Try.prog 135 = true := by kernel_rfl
theorem inf136 : Ex.Inf Try.prog 136 1 8 (.int .u64 0) := by unfold Ex.Inf; kernel_rfl
theorem flat136 : Ex.flatT Try.prog 136 = true := by kernel_rfl
theorem flat137 : Ex.flatT Try.prog 137 = true := by kernel_rfl
theorem flat138 : Ex.flatT Try.prog 138 = true := by kernel_rfl
theorem flat139 : Ex.flatT Try.prog 139 = true := by kernel_rfl
theorem flat140 : Ex.flatT Try.prog 140 = true := by kernel_rfl
theorem flat141 : Ex.flatT Try.prog 141 = true := by kernel_rfl
theorem flat147 : Ex.flatT Try.prog 147 = true := by kernel_rfl
theorem inf148 : Ex.Inf Try.prog 148 1 4 (.int .u32 0) := by unfold Ex.Inf; kernel_rfl
theorem flat148 : Ex.flatT Try.prog 148 = true := by kernel_rfl
theorem inf152 : Ex.Inf Try.prog 152 1 8 (.pointer none) := by unfold Ex.Inf; kernel_rfl
theorem flat152 : Ex.flatT Try.prog 152 = true := by kernel_rfl
theorem eqv34 : EqV Try.prog 34 Fault faultE := ⟨fun a b w => by
  obtain ⟨a0, a1⟩ := a
  obtain ⟨c0, c1⟩ := b
  rw [run_equalIn_struct (P := Try.prog) w 9999 34 _ _ Try.underlying34 (by kernel_rfl)]
  simp [go_sem, faultE]
  try ((repeat' split) <;> simp_all), by kernel_rfl⟩
theorem eqv51 : EqV Try.prog 51 Label labelE := ⟨fun a b w => by
  obtain ⟨a0, a1⟩ := a
  obtain ⟨c0, c1⟩ := b
  rw [run_equalIn_struct (P := Try.prog) w 9999 51 _ _ Try.underlying51 (by kernel_rfl)]
  simp [go_sem, labelE, toList_inj]
  try ((repeat' split) <;> simp_all), by kernel_rfl⟩
theorem eqv54 : EqV Try.prog 54 Sample sampleE := ⟨fun a b w => by
  obtain ⟨a0, a1⟩ := a
  obtain ⟨c0, c1⟩ := b
  rw [run_equalIn_struct (P := Try.prog) w 9999 54 _ _ Try.underlying54 (by kernel_rfl)]
  simp [go_sem, sampleE]
  try ((repeat' split) <;> simp_all), by kernel_rfl⟩
theorem eqv62 : EqV Try.prog 62 Sum sumE := ⟨fun a b w => by
  obtain ⟨a0, a1, a2, a3, a4, a5, a6⟩ := a
  obtain ⟨c0, c1, c2, c3, c4, c5, c6⟩ := b
  rw [run_equalIn_struct (P := Try.prog) w 9999 62 _ _ Try.underlying62 (by kernel_rfl)]
  simp [go_sem, sumE]
  try ((repeat' split) <;> simp_all), by kernel_rfl⟩
theorem eqv85 : EqV Try.prog 85 Match matchE := ⟨fun a b w => by
  obtain ⟨a0, a1, a2⟩ := a
  obtain ⟨c0, c1, c2⟩ := b
  rw [run_equalIn_struct (P := Try.prog) w 9999 85 _ _ Try.underlying85 (by kernel_rfl)]
  simp [go_sem, matchE, toList_inj]
  try ((repeat' split) <;> simp_all), by kernel_rfl⟩
end Go.Proofs.Ytldecdningjkoaa
