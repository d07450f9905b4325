/-
  Closed facts on the types of this translation.
-/
import Derived.Test.YtnbkennlmnnbeaaMore
import Derived.Test.YtnbkennlmnnbeaaProg
import Derived.KernelRfl
namespace Go.Proofs.Ytnbkennlmnnbeaa
open Ex
set_option maxRecDepth 100000
theorem mix : Try.prog.follows .mixedOrders = true := by kernel_rfl
theorem inf2 : Ex.Inf Try.prog 2 1 8 (.int .i64 0) := by unfold Ex.Inf; kernel_rfl
theorem flat2 : Ex.flatT Try.prog 2 = true := by kernel_rfl
theorem inf3 : Ex.Inf Try.prog 3 1 8 (.int .i64 0) := by unfold Ex.Inf; kernel_rfl
theorem flat3 : Ex.flatT Try.prog 3 = true := by kernel_rfl
theorem inf4 : Ex.Inf Try.prog 4 1 1 (.bool false) := by unfold Ex.Inf; kernel_rfl
theorem flat4 : Ex.flatT Try.prog 4 = true := by kernel_rfl
theorem inf5 : Ex.Inf Try.prog 5 1 1 (.int .u8 0) := by unfold Ex.Inf; kernel_rfl
theorem flat5 : Ex.flatT Try.prog 5 = true := by kernel_rfl
theorem inf9 : Ex.Inf Try.prog 9 1 16 (.string ⟨#[]⟩) := by unfold Ex.Inf; kernel_rfl
theorem flat9 : Ex.flatT Try.prog 9 = true := by kernel_rfl
theorem inf12 : Ex.Inf Try.prog 12 1 8 (.int .u64 0) := by unfold Ex.Inf; kernel_rfl
theorem flat12 : Ex.flatT Try.prog 12 = true := by kernel_rfl
theorem inf13 : Ex.Inf Try.prog 13 2 24 (.agg [.string ⟨#[]⟩, .int .u64 0].toArray) := by unfold Ex.Inf; kernel_rfl
theorem agg13 : Ex.aggT Try.prog 13 = true := by kernel_rfl
theorem pl13 : Ex.placesOf Try.prog 13 = some [(0, 1), (1, 1)] := by kernel_rfl
theorem fty13_0 : Ex.fldTy Try.prog 13 0 = some 9 := by kernel_rfl
theorem fld13_0 : Ex.fldAt Try.prog 13 0 = some 0 := by kernel_rfl
theorem fty13_1 : Ex.fldTy Try.prog 13 1 = some 12 := by kernel_rfl
theorem fld13_1 : Ex.fldAt Try.prog 13 1 = some 1 := by kernel_rfl
theorem inf20 : Ex.Inf Try.prog 20 1 16 (.nilIface) := by unfold Ex.Inf; kernel_rfl
theorem flat20 : Ex.flatT Try.prog 20 = true := by kernel_rfl
theorem inf21 : Ex.Inf Try.prog 21 1 4 (.int .i32 0) := by unfold Ex.Inf; kernel_rfl
theorem flat21 : Ex.flatT Try.prog 21 = true := by kernel_rfl
theorem inf22 : Ex.Inf Try.prog 22 1 24 (.slice none 0 0) := by unfold Ex.Inf; kernel_rfl
theorem flat22 : Ex.flatT Try.prog 22 = true := by kernel_rfl
theorem inf23 : Ex.Inf Try.prog 23 1 24 (.slice none 0 0) := by unfold Ex.Inf; kernel_rfl
theorem flat23 : Ex.flatT Try.prog 23 = true := by kernel_rfl
theorem inf24 : Ex.Inf Try.prog 24 1 24 (.slice none 0 0) := by unfold Ex.Inf; kernel_rfl
theorem flat24 : Ex.flatT Try.prog 24 = true := by kernel_rfl
theorem inf25 : Ex.Inf Try.prog 25 1 24 (.slice none 0 0) := by unfold Ex.Inf; kernel_rfl
theorem flat25 : Ex.flatT Try.prog 25 = true := by kernel_rfl
theorem inf26 : Ex.Inf Try.prog 26 9 136 (.agg [.slice none 0 0, .slice none 0 0, .slice none 0 0, .slice none 0 0, .int .i64 0, .int .i64 0, .int .i64 0, .int .i64 0, .int .i64 0].toArray) := by unfold Ex.Inf; kernel_rfl
theorem agg26 : Ex.aggT Try.prog 26 = true := by kernel_rfl
theorem pl26 : Ex.placesOf Try.prog 26 = some [(0, 1), (1, 1), (2, 1), (3, 1), (4, 1), (5, 1), (6, 1), (7, 1), (8, 1)] := by kernel_rfl
theorem fty26_0 : Ex.fldTy Try.prog 26 0 = some 23 := by kernel_rfl
theorem fld26_0 : Ex.fldAt Try.prog 26 0 = some 0 := by kernel_rfl
theorem fty26_1 : Ex.fldTy Try.prog 26 1 = some 24 := by kernel_rfl
theorem fld26_1 : Ex.fldAt Try.prog 26 1 = some 1 := by kernel_rfl
theorem fty26_2 : Ex.fldTy Try.prog 26 2 = some 25 := by kernel_rfl
theorem fld26_2 : Ex.fldAt Try.prog 26 2 = some 2 := by kernel_rfl
theorem fty26_3 : Ex.fldTy Try.prog 26 3 = some 25 := by kernel_rfl
theorem fld26_3 : Ex.fldAt Try.prog 26 3 = some 3 := by kernel_rfl
theorem fty26_4 : Ex.fldTy Try.prog 26 4 = some 3 := by kernel_rfl
theorem fld26_4 : Ex.fldAt Try.prog 26 4 = some 4 := by kernel_rfl
theorem fty26_5 : Ex.fldTy Try.prog 26 5 = some 3 := by kernel_rfl
theorem fld26_5 : Ex.fldAt Try.prog 26 5 = some 5 := by kernel_rfl
theorem fty26_6 : Ex.fldTy Try.prog 26 6 = some 3 := by kernel_rfl
theorem fld26_6 : Ex.fldAt Try.prog 26 6 = some 6 := by kernel_rfl
theorem fty26_7 : Ex.fldTy Try.prog 26 7 = some 3 := by kernel_rfl
theorem fld26_7 : Ex.fldAt Try.prog 26 7 = some 7 := by kernel_rfl
theorem fty26_8 : Ex.fldTy Try.prog 26 8 = some 3 := by kernel_rfl
theorem fld26_8 : Ex.fldAt Try.prog 26 8 = some 8 := by kernel_rfl
theorem inf27 : Ex.Inf Try.prog 27 9 136 (.agg [.slice none 0 0, .slice none 0 0, .slice none 0 0, .slice none 0 0, .int .i64 0, .int .i64 0, .int .i64 0, .int .i64 0, .int .i64 0].toArray) := by unfold Ex.Inf; kernel_rfl
theorem agg27 : Ex.aggT Try.prog 27 = true := by kernel_rfl
theorem pl27 : Ex.placesOf Try.prog 27 = some [(0, 1), (1, 1), (2, 1), (3, 1), (4, 1), (5, 1), (6, 1), (7, 1), (8, 1)] := by kernel_rfl
theorem fty27_0 : Ex.fldTy Try.prog 27 0 = some 23 := by kernel_rfl
theorem fld27_0 : Ex.fldAt Try.prog 27 0 = some 0 := by kernel_rfl
theorem fty27_1 : Ex.fldTy Try.prog 27 1 = some 24 := by kernel_rfl
theorem fld27_1 : Ex.fldAt Try.prog 27 1 = some 1 := by kernel_rfl
theorem fty27_2 : Ex.fldTy Try.prog 27 2 = some 25 := by kernel_rfl
theorem fld27_2 : Ex.fldAt Try.prog 27 2 = some 2 := by kernel_rfl
theorem fty27_3 : Ex.fldTy Try.prog 27 3 = some 25 := by kernel_rfl
theorem fld27_3 : Ex.fldAt Try.prog 27 3 = some 3 := by kernel_rfl
theorem fty27_4 : Ex.fldTy Try.prog 27 4 = some 3 := by kernel_rfl
theorem fld27_4 : Ex.fldAt Try.prog 27 4 = some 4 := by kernel_rfl
theorem fty27_5 : Ex.fldTy Try.prog 27 5 = some 3 := by kernel_rfl
theorem fld27_5 : Ex.fldAt Try.prog 27 5 = some 5 := by kernel_rfl
theorem fty27_6 : Ex.fldTy Try.prog 27 6 = some 3 := by kernel_rfl
theorem fld27_6 : Ex.fldAt Try.prog 27 6 = some 6 := by kernel_rfl
theorem fty27_7 : Ex.fldTy Try.prog 27 7 = some 3 := by kernel_rfl
theorem fld27_7 : Ex.fldAt Try.prog 27 7 = some 7 := by kernel_rfl
theorem fty27_8 : Ex.fldTy Try.prog 27 8 = some 3 := by kernel_rfl
theorem fld27_8 : Ex.fldAt Try.prog 27 8 = some 8 := by kernel_rfl
theorem inf28 : Ex.Inf Try.prog 28 1 24 (.slice none 0 0) := by unfold Ex.Inf; kernel_rfl
theorem flat28 : Ex.flatT Try.prog 28 = true := by kernel_rfl
theorem inf30 : Ex.Inf Try.prog 30 1 8 (.int .i64 0) := by unfold Ex.Inf; kernel_rfl
theorem flat30 : Ex.flatT Try.prog 30 = true := by kernel_rfl
theorem inf34 : Ex.Inf Try.prog 34 7 56 (.agg [.int .i64 0, .int .i64 0, .int .i64 0, .int .i64 0, .int .i64 0, .int .i64 0, .int .i64 0].toArray) := by unfold Ex.Inf; kernel_rfl
theorem agg34 : Ex.aggT Try.prog 34 = true := by kernel_rfl
theorem pl34 : Ex.placesOf Try.prog 34 = some [(0, 1), (1, 1), (2, 1), (3, 1), (4, 1), (5, 1), (6, 1)] := by kernel_rfl
theorem fty34_0 : Ex.fldTy Try.prog 34 0 = some 3 := by kernel_rfl
theorem fld34_0 : Ex.fldAt Try.prog 34 0 = some 0 := by kernel_rfl
theorem fty34_1 : Ex.fldTy Try.prog 34 1 = some 3 := by kernel_rfl
theorem fld34_1 : Ex.fldAt Try.prog 34 1 = some 1 := by kernel_rfl
theorem fty34_2 : Ex.fldTy Try.prog 34 2 = some 3 := by kernel_rfl
theorem fld34_2 : Ex.fldAt Try.prog 34 2 = some 2 := by kernel_rfl
theorem fty34_3 : Ex.fldTy Try.prog 34 3 = some 3 := by kernel_rfl
theorem fld34_3 : Ex.fldAt Try.prog 34 3 = some 3 := by kernel_rfl
theorem fty34_4 : Ex.fldTy Try.prog 34 4 = some 3 := by kernel_rfl
theorem fld34_4 : Ex.fldAt Try.prog 34 4 = some 4 := by kernel_rfl
theorem fty34_5 : Ex.fldTy Try.prog 34 5 = some 3 := by kernel_rfl
theorem fld34_5 : Ex.fldAt Try.prog 34 5 = some 5 := by kernel_rfl
theorem fty34_6 : Ex.fldTy Try.prog 34 6 = some 3 := by kernel_rfl
theorem fld34_6 : Ex.fldAt Try.prog 34 6 = some 6 := by kernel_rfl
theorem inf35 : Ex.Inf Try.prog 35 7 56 (.agg [.int .i64 0, .int .i64 0, .int .i64 0, .int .i64 0, .int .i64 0, .int .i64 0, .int .i64 0].toArray) := by unfold Ex.Inf; kernel_rfl
theorem agg35 : Ex.aggT Try.prog 35 = true := by kernel_rfl
theorem pl35 : Ex.placesOf Try.prog 35 = some [(0, 1), (1, 1), (2, 1), (3, 1), (4, 1), (5, 1), (6, 1)] := by kernel_rfl
theorem fty35_0 : Ex.fldTy Try.prog 35 0 = some 3 := by kernel_rfl
theorem fld35_0 : Ex.fldAt Try.prog 35 0 = some 0 := by kernel_rfl
theorem fty35_1 : Ex.fldTy Try.prog 35 1 = some 3 := by kernel_rfl
theorem fld35_1 : Ex.fldAt Try.prog 35 1 = some 1 := by kernel_rfl
theorem fty35_2 : Ex.fldTy Try.prog 35 2 = some 3 := by kernel_rfl
theorem fld35_2 : Ex.fldAt Try.prog 35 2 = some 2 := by kernel_rfl
theorem fty35_3 : Ex.fldTy Try.prog 35 3 = some 3 := by kernel_rfl
theorem fld35_3 : Ex.fldAt Try.prog 35 3 = some 3 := by kernel_rfl
theorem fty35_4 : Ex.fldTy Try.prog 35 4 = some 3 := by kernel_rfl
theorem fld35_4 : Ex.fldAt Try.prog 35 4 = some 4 := by kernel_rfl
theorem fty35_5 : Ex.fldTy Try.prog 35 5 = some 3 := by kernel_rfl
theorem fld35_5 : Ex.fldAt Try.prog 35 5 = some 5 := by kernel_rfl
theorem fty35_6 : Ex.fldTy Try.prog 35 6 = some 3 := by kernel_rfl
theorem fld35_6 : Ex.fldAt Try.prog 35 6 = some 6 := by kernel_rfl
theorem inf38 : Ex.Inf Try.prog 38 2 16 (.agg [.int .i64 0, .int .i64 0].toArray) := by unfold Ex.Inf; kernel_rfl
theorem agg38 : Ex.aggT Try.prog 38 = true := by kernel_rfl
theorem pl38 : Ex.placesOf Try.prog 38 = some [(0, 1), (1, 1)] := by kernel_rfl
theorem fty38_0 : Ex.fldTy Try.prog 38 0 = some 3 := by kernel_rfl
theorem fld38_0 : Ex.fldAt Try.prog 38 0 = some 0 := by kernel_rfl
theorem fty38_1 : Ex.fldTy Try.prog 38 1 = some 3 := by kernel_rfl
theorem fld38_1 : Ex.fldAt Try.prog 38 1 = some 1 := by kernel_rfl
theorem inf39 : Ex.Inf Try.prog 39 2 16 (.agg [.int .i64 0, .int .i64 0].toArray) := by unfold Ex.Inf; kernel_rfl
theorem agg39 : Ex.aggT Try.prog 39 = true := by kernel_rfl
theorem pl39 : Ex.placesOf Try.prog 39 = some [(0, 1), (1, 1)] := by kernel_rfl
theorem fty39_0 : Ex.fldTy Try.prog 39 0 = some 3 := by kernel_rfl
theorem fld39_0 : Ex.fldAt Try.prog 39 0 = some 0 := by kernel_rfl
theorem fty39_1 : Ex.fldTy Try.prog 39 1 = some 3 := by kernel_rfl
theorem fld39_1 : Ex.fldAt Try.prog 39 1 = some 1 := by kernel_rfl
theorem inf49 : Ex.Inf Try.prog 49 1 24 (.slice none 0 0) := by unfold Ex.Inf; kernel_rfl
theorem flat49 : Ex.flatT Try.prog 49 = true := by kernel_rfl
theorem inf50 : Ex.Inf Try.prog 50 1 24 (.slice none 0 0) := by unfold Ex.Inf; kernel_rfl
theorem flat50 : Ex.flatT Try.prog 50 = true := by kernel_rfl
theorem inf52 : Ex.Inf Try.prog 52 1 24 (.slice none 0 0) := by unfold Ex.Inf; kernel_rfl
theorem flat52 : Ex.flatT Try.prog 52 = true := by kernel_rfl
theorem inf60 : Ex.Inf Try.prog 60 3 24 (.agg [.int .i64 0, .int .i64 0, .int .i64 0].toArray) := by unfold Ex.Inf; kernel_rfl
theorem agg60 : Ex.aggT Try.prog 60 = true := by kernel_rfl
theorem pl60 : Ex.placesOf Try.prog 60 = some [(0, 1), (1, 1), (2, 1)] := by kernel_rfl
theorem fty60_0 : Ex.fldTy Try.prog 60 0 = some 3 := by kernel_rfl
theorem fld60_0 : Ex.fldAt Try.prog 60 0 = some 0 := by kernel_rfl
theorem fty60_1 : Ex.fldTy Try.prog 60 1 = some 3 := by kernel_rfl
theorem fld60_1 : Ex.fldAt Try.prog 60 1 = some 1 := by kernel_rfl
theorem fty60_2 : Ex.fldTy Try.prog 60 2 = some 3 := by kernel_rfl
theorem fld60_2 : Ex.fldAt Try.prog 60 2 = some 2 := by kernel_rfl
theorem inf61 : Ex.Inf Try.prog 61 3 24 (.agg [.int .i64 0, .int .i64 0, .int .i64 0].toArray) := by unfold Ex.Inf; kernel_rfl
theorem agg61 : Ex.aggT Try.prog 61 = true := by kernel_rfl
theorem pl61 : Ex.placesOf Try.prog 61 = some [(0, 1), (1, 1), (2, 1)] := by kernel_rfl
theorem fty61_0 : Ex.fldTy Try.prog 61 0 = some 3 := by kernel_rfl
theorem fld61_0 : Ex.fldAt Try.prog 61 0 = some 0 := by kernel_rfl
theorem fty61_1 : Ex.fldTy Try.prog 61 1 = some 3 := by kernel_rfl
theorem fld61_1 : Ex.fldAt Try.prog 61 1 = some 1 := by kernel_rfl
theorem fty61_2 : Ex.fldTy Try.prog 61 2 = some 3 := by kernel_rfl
theorem fld61_2 : Ex.fldAt Try.prog 61 2 = some 2 := by kernel_rfl
theorem inf62 : Ex.Inf Try.prog 62 1 24 (.slice none 0 0) := by unfold Ex.Inf; kernel_rfl
theorem flat62 : Ex.flatT Try.prog 62 = true := by kernel_rfl
theorem inf69 : Ex.Inf Try.prog 69 1 8 (.pointer none) := by unfold Ex.Inf; kernel_rfl
theorem flat69 : Ex.flatT Try.prog 69 = true := by kernel_rfl
theorem inf77 : Ex.Inf Try.prog 77 8 64 (.agg [.int .i64 0, .int .i64 0, .int .i64 0, .int .i64 0, .int .i64 0, .int .i64 0, .int .i64 0, .int .i64 0].toArray) := by unfold Ex.Inf; kernel_rfl
theorem agg77 : Ex.aggT Try.prog 77 = true := by kernel_rfl
theorem pl77 : Ex.placesOf Try.prog 77 = some [(0, 1), (1, 7)] := by kernel_rfl
theorem fty77_0 : Ex.fldTy Try.prog 77 0 = some 3 := by kernel_rfl
theorem fld77_0 : Ex.fldAt Try.prog 77 0 = some 0 := by kernel_rfl
theorem fty77_1 : Ex.fldTy Try.prog 77 1 = some 35 := by kernel_rfl
theorem fld77_1 : Ex.fldAt Try.prog 77 1 = some 1 := by kernel_rfl
theorem inf78 : Ex.Inf Try.prog 78 8 64 (.agg [.int .i64 0, .int .i64 0, .int .i64 0, .int .i64 0, .int .i64 0, .int .i64 0, .int .i64 0, .int .i64 0].toArray) := by unfold Ex.Inf; kernel_rfl
theorem agg78 : Ex.aggT Try.prog 78 = true := by kernel_rfl
theorem pl78 : Ex.placesOf Try.prog 78 = some [(0, 1), (1, 7)] := by kernel_rfl
theorem fty78_0 : Ex.fldTy Try.prog 78 0 = some 3 := by kernel_rfl
theorem fld78_0 : Ex.fldAt Try.prog 78 0 = some 0 := by kernel_rfl
theorem fty78_1 : Ex.fldTy Try.prog 78 1 = some 35 := by kernel_rfl
theorem fld78_1 : Ex.fldAt Try.prog 78 1 = some 1 := by kernel_rfl
theorem inf80 : Ex.Inf Try.prog 80 2 16 (.agg [.int .i64 0, .int .i64 0].toArray) := by unfold Ex.Inf; kernel_rfl
theorem agg80 : Ex.aggT Try.prog 80 = true := by kernel_rfl
theorem pl80 : Ex.placesOf Try.prog 80 = some [(0, 1), (1, 1)] := by kernel_rfl
theorem fty80_0 : Ex.fldTy Try.prog 80 0 = some 30 := by kernel_rfl
theorem fld80_0 : Ex.fldAt Try.prog 80 0 = some 0 := by kernel_rfl
theorem fty80_1 : Ex.fldTy Try.prog 80 1 = some 3 := by kernel_rfl
theorem fld80_1 : Ex.fldAt Try.prog 80 1 = some 1 := by kernel_rfl
theorem inf81 : Ex.Inf Try.prog 81 2 16 (.agg [.int .i64 0, .int .i64 0].toArray) := by unfold Ex.Inf; kernel_rfl
theorem agg81 : Ex.aggT Try.prog 81 = true := by kernel_rfl
theorem pl81 : Ex.placesOf Try.prog 81 = some [(0, 1), (1, 1)] := by kernel_rfl
theorem fty81_0 : Ex.fldTy Try.prog 81 0 = some 30 := by kernel_rfl
theorem fld81_0 : Ex.fldAt Try.prog 81 0 = some 0 := by kernel_rfl
theorem fty81_1 : Ex.fldTy Try.prog 81 1 = some 3 := by kernel_rfl
theorem fld81_1 : Ex.fldAt Try.prog 81 1 = some 1 := by kernel_rfl
theorem inf88 : Ex.Inf Try.prog 88 2 32 (.agg [.string ⟨#[]⟩, .string ⟨#[]⟩].toArray) := by unfold Ex.Inf; kernel_rfl
theorem agg88 : Ex.aggT Try.prog 88 = true := by kernel_rfl
theorem pl88 : Ex.placesOf Try.prog 88 = some [(0, 1), (1, 1)] := by kernel_rfl
theorem fty88_0 : Ex.fldTy Try.prog 88 0 = some 9 := by kernel_rfl
theorem fld88_0 : Ex.fldAt Try.prog 88 0 = some 0 := by kernel_rfl
theorem fty88_1 : Ex.fldTy Try.prog 88 1 = some 9 := by kernel_rfl
theorem fld88_1 : Ex.fldAt Try.prog 88 1 = some 1 := by kernel_rfl
theorem inf89 : Ex.Inf Try.prog 89 2 32 (.agg [.string ⟨#[]⟩, .string ⟨#[]⟩].toArray) := by unfold Ex.Inf; kernel_rfl
theorem agg89 : Ex.aggT Try.prog 89 = true := by kernel_rfl
theorem pl89 : Ex.placesOf Try.prog 89 = some [(0, 1), (1, 1)] := by kernel_rfl
theorem fty89_0 : Ex.fldTy Try.prog 89 0 = some 9 := by kernel_rfl
theorem fld89_0 : Ex.fldAt Try.prog 89 0 = some 0 := by kernel_rfl
theorem fty89_1 : Ex.fldTy Try.prog 89 1 = some 9 := by kernel_rfl
theorem fld89_1 : Ex.fldAt Try.prog 89 1 = some 1 := by kernel_rfl
theorem inf98 : Ex.Inf Try.prog 98 5 40 (.agg [.int .i64 0, .int .i64 0, .int .i64 0, .int .i64 0, .int .i64 0].toArray) := by unfold Ex.Inf; kernel_rfl
theorem agg98 : Ex.aggT Try.prog 98 = true := by kernel_rfl
theorem pl98 : Ex.placesOf Try.prog 98 = some [(0, 1), (1, 2), (3, 1), (4, 1)] := by kernel_rfl
theorem fty98_0 : Ex.fldTy Try.prog 98 0 = some 3 := by kernel_rfl
theorem fld98_0 : Ex.fldAt Try.prog 98 0 = some 0 := by kernel_rfl
theorem fty98_1 : Ex.fldTy Try.prog 98 1 = some 39 := by kernel_rfl
theorem fld98_1 : Ex.fldAt Try.prog 98 1 = some 1 := by kernel_rfl
theorem fty98_2 : Ex.fldTy Try.prog 98 2 = some 3 := by kernel_rfl
theorem fld98_2 : Ex.fldAt Try.prog 98 2 = some 3 := by kernel_rfl
theorem fty98_3 : Ex.fldTy Try.prog 98 3 = some 3 := by kernel_rfl
theorem fld98_3 : Ex.fldAt Try.prog 98 3 = some 4 := by kernel_rfl
theorem inf99 : Ex.Inf Try.prog 99 5 40 (.agg [.int .i64 0, .int .i64 0, .int .i64 0, .int .i64 0, .int .i64 0].toArray) := by unfold Ex.Inf; kernel_rfl
theorem agg99 : Ex.aggT Try.prog 99 = true := by kernel_rfl
theorem pl99 : Ex.placesOf Try.prog 99 = some [(0, 1), (1, 2), (3, 1), (4, 1)] := by kernel_rfl
theorem fty99_0 : Ex.fldTy Try.prog 99 0 = some 3 := by kernel_rfl
theorem fld99_0 : Ex.fldAt Try.prog 99 0 = some 0 := by kernel_rfl
theorem fty99_1 : Ex.fldTy Try.prog 99 1 = some 39 := by kernel_rfl
theorem fld99_1 : Ex.fldAt Try.prog 99 1 = some 1 := by kernel_rfl
theorem fty99_2 : Ex.fldTy Try.prog 99 2 = some 3 := by kernel_rfl
theorem fld99_2 : Ex.fldAt Try.prog 99 2 = some 3 := by kernel_rfl
theorem fty99_3 : Ex.fldTy Try.prog 99 3 = some 3 := by kernel_rfl
theorem fld99_3 : Ex.fldAt Try.prog 99 3 = some 4 := by kernel_rfl
theorem inf104 : Ex.Inf Try.prog 104 3 24 (.agg [.int .i64 0, .int .i64 0, .int .i64 0].toArray) := by unfold Ex.Inf; kernel_rfl
theorem agg104 : Ex.aggT Try.prog 104 = true := by kernel_rfl
theorem pl104 : Ex.placesOf Try.prog 104 = some [(0, 1), (1, 1), (2, 1)] := by kernel_rfl
theorem fty104_0 : Ex.fldTy Try.prog 104 0 = some 3 := by kernel_rfl
theorem fld104_0 : Ex.fldAt Try.prog 104 0 = some 0 := by kernel_rfl
theorem fty104_1 : Ex.fldTy Try.prog 104 1 = some 3 := by kernel_rfl
theorem fld104_1 : Ex.fldAt Try.prog 104 1 = some 1 := by kernel_rfl
theorem fty104_2 : Ex.fldTy Try.prog 104 2 = some 3 := by kernel_rfl
theorem fld104_2 : Ex.fldAt Try.prog 104 2 = some 2 := by kernel_rfl
theorem inf105 : Ex.Inf Try.prog 105 1 24 (.slice none 0 0) := by unfold Ex.Inf; kernel_rfl
theorem flat105 : Ex.flatT Try.prog 105 = true := by kernel_rfl
theorem inf107 : Ex.Inf Try.prog 107 1 8 (.map none) := by unfold Ex.Inf; kernel_rfl
theorem flat107 : Ex.flatT Try.prog 107 = true := by kernel_rfl
theorem inf111 : Ex.Inf Try.prog 111 1 24 (.slice none 0 0) := by unfold Ex.Inf; kernel_rfl
theorem flat111 : Ex.flatT Try.prog 111 = true := by kernel_rfl
theorem inf119 : Ex.Inf Try.prog 119 1 4 (.int .u32 0) := by unfold Ex.Inf; kernel_rfl
theorem flat119 : Ex.flatT Try.prog 119 = true := by kernel_rfl
theorem inf123 : Ex.Inf Try.prog 123 1 8 (.pointer none) := by unfold Ex.Inf; kernel_rfl
theorem flat123 : Ex.flatT Try.prog 123 = true := by kernel_rfl
theorem eqv35 : EqV Try.prog 35 Sum sumE := ⟨fun a b w => by
  obtain ⟨a0, a1, a2, a3, a4, a5, a6⟩ := a
  obtain ⟨c0, c1, c2, c3, c4, c5, c6⟩ := b
  rw [run_equalIn_struct (P := Try.prog) w 9999 35 _ _ Try.underlying35 (by kernel_rfl)]
  simp [go_sem, sumE]
  try ((repeat' split) <;> simp_all), by kernel_rfl⟩
theorem eqv39 : EqV Try.prog 39 Sample sampleE := ⟨fun a b w => by
  obtain ⟨a0, a1⟩ := a
  obtain ⟨c0, c1⟩ := b
  rw [run_equalIn_struct (P := Try.prog) w 9999 39 _ _ Try.underlying39 (by kernel_rfl)]
  simp [go_sem, sampleE]
  try ((repeat' split) <;> simp_all), by kernel_rfl⟩
theorem eqv61 : EqV Try.prog 61 Part partE := ⟨fun a b w => by
  obtain ⟨a0, a1, a2⟩ := a
  obtain ⟨c0, c1, c2⟩ := b
  rw [run_equalIn_struct (P := Try.prog) w 9999 61 _ _ Try.underlying61 (by kernel_rfl)]
  simp [go_sem, partE]
  try ((repeat' split) <;> simp_all), by kernel_rfl⟩
theorem eqv78 : EqV Try.prog 78 Bucket bucketE := ⟨fun a b w => by
  obtain ⟨a, ⟨a0, a1, a2, a3, a4, a5, a6⟩⟩ := a
  obtain ⟨c, ⟨c0, c1, c2, c3, c4, c5, c6⟩⟩ := b
  rw [run_equalIn_struct (P := Try.prog) w 9999 78 _ _ Try.underlying78 (by kernel_rfl)]
  simp [go_sem, bucketE]
  try ((repeat' split) <;> simp_all), by kernel_rfl⟩
theorem eqv81 : EqV Try.prog 81 Fault faultE := ⟨fun a b w => by
  obtain ⟨a0, a1⟩ := a
  obtain ⟨c0, c1⟩ := b
  rw [run_equalIn_struct (P := Try.prog) w 9999 81 _ _ Try.underlying81 (by kernel_rfl)]
  simp [go_sem, faultE]
  try ((repeat' split) <;> simp_all), by kernel_rfl⟩
theorem eqv89 : EqV Try.prog 89 Label labelE := ⟨fun a b w => by
  obtain ⟨a0, a1⟩ := a
  obtain ⟨c0, c1⟩ := b
  rw [run_equalIn_struct (P := Try.prog) w 9999 89 _ _ Try.underlying89 (by kernel_rfl)]
  simp [go_sem, labelE, toList_inj]
  try ((repeat' split) <;> simp_all), by kernel_rfl⟩
end Go.Proofs.Ytnbkennlmnnbeaa
