/-
  Closed facts on the types of this translation.
-/
import Derived.Test.YteogkbpcibnifaaMore
import Derived.Test.YteogkbpcibnifaaProg
import Derived.KernelRfl
namespace Go.Proofs.Yteogkbpcibnifaa
open Ex
theorem mix : Try.prog.follows .mixedOrders = true := by kernel_rfl
theorem inf2 : Ex.Inf Try.prog 2 1 8 (.int .i64 0) := by unfold Ex.Inf; kernel_rfl
theorem flat2 : Ex.flatT Try.prog 2 = true := by kernel_rfl
theorem inf3 : Ex.Inf Try.prog 3 1 8 (.int .i64 0) := by unfold Ex.Inf; kernel_rfl
theorem flat3 : Ex.flatT Try.prog 3 = true := by kernel_rfl
theorem inf4 : Ex.Inf Try.prog 4 1 1 (.bool false) := by unfold Ex.Inf; kernel_rfl
theorem flat4 : Ex.flatT Try.prog 4 = true := by kernel_rfl
theorem inf5 : Ex.Inf Try.prog 5 1 1 (.int .u8 0) := by unfold Ex.Inf; kernel_rfl
theorem flat5 : Ex.flatT Try.prog 5 = true := by kernel_rfl
theorem inf9 : Ex.Inf Try.prog 9 1 16 (.string ⟨#[]⟩) := by unfold Ex.Inf; kernel_rfl
theorem flat9 : Ex.flatT Try.prog 9 = true := by kernel_rfl
theorem inf12 : Ex.Inf Try.prog 12 1 8 (.int .u64 0) := by unfold Ex.Inf; kernel_rfl
theorem flat12 : Ex.flatT Try.prog 12 = true := by kernel_rfl
theorem inf13 : Ex.Inf Try.prog 13 2 24 (.agg [.string ⟨#[]⟩, .int .u64 0].toArray) := by unfold Ex.Inf; kernel_rfl
theorem agg13 : Ex.aggT Try.prog 13 = true := by kernel_rfl
theorem pl13 : Ex.placesOf Try.prog 13 = some [(0, 1), (1, 1)] := by kernel_rfl
theorem fty13_0 : Ex.fldTy Try.prog 13 0 = some 9 := by kernel_rfl
theorem fld13_0 : Ex.fldAt Try.prog 13 0 = some 0 := by kernel_rfl
theorem fty13_1 : Ex.fldTy Try.prog 13 1 = some 12 := by kernel_rfl
theorem fld13_1 : Ex.fldAt Try.prog 13 1 = some 1 := by kernel_rfl
theorem inf20 : Ex.Inf Try.prog 20 1 16 (.nilIface) := by unfold Ex.Inf; kernel_rfl
theorem flat20 : Ex.flatT Try.prog 20 = true := by kernel_rfl
theorem inf21 : Ex.Inf Try.prog 21 1 4 (.int .i32 0) := by unfold Ex.Inf; kernel_rfl
theorem flat21 : Ex.flatT Try.prog 21 = true := by kernel_rfl
theorem inf22 : Ex.Inf Try.prog 22 1 24 (.slice none 0 0) := by unfold Ex.Inf; kernel_rfl
theorem flat22 : Ex.flatT Try.prog 22 = true := by kernel_rfl
theorem inf23 : Ex.Inf Try.prog 23 7 56 (.agg [.int .i64 0, .int .i64 0, .int .i64 0, .int .i64 0, .int .i64 0, .int .i64 0, .int .i64 0].toArray) := by unfold Ex.Inf; kernel_rfl
theorem agg23 : Ex.aggT Try.prog 23 = true := by kernel_rfl
theorem pl23 : Ex.placesOf Try.prog 23 = some [(0, 1), (1, 1), (2, 1), (3, 1), (4, 1), (5, 1), (6, 1)] := by kernel_rfl
theorem fty23_0 : Ex.fldTy Try.prog 23 0 = some 3 := by kernel_rfl
theorem fld23_0 : Ex.fldAt Try.prog 23 0 = some 0 := by kernel_rfl
theorem fty23_1 : Ex.fldTy Try.prog 23 1 = some 3 := by kernel_rfl
theorem fld23_1 : Ex.fldAt Try.prog 23 1 = some 1 := by kernel_rfl
theorem fty23_2 : Ex.fldTy Try.prog 23 2 = some 3 := by kernel_rfl
theorem fld23_2 : Ex.fldAt Try.prog 23 2 = some 2 := by kernel_rfl
theorem fty23_3 : Ex.fldTy Try.prog 23 3 = some 3 := by kernel_rfl
theorem fld23_3 : Ex.fldAt Try.prog 23 3 = some 3 := by kernel_rfl
theorem fty23_4 : Ex.fldTy Try.prog 23 4 = some 3 := by kernel_rfl
theorem fld23_4 : Ex.fldAt Try.prog 23 4 = some 4 := by kernel_rfl
theorem fty23_5 : Ex.fldTy Try.prog 23 5 = some 3 := by kernel_rfl
theorem fld23_5 : Ex.fldAt Try.prog 23 5 = some 5 := by kernel_rfl
theorem fty23_6 : Ex.fldTy Try.prog 23 6 = some 3 := by kernel_rfl
theorem fld23_6 : Ex.fldAt Try.prog 23 6 = some 6 := by kernel_rfl
theorem inf24 : Ex.Inf Try.prog 24 7 56 (.agg [.int .i64 0, .int .i64 0, .int .i64 0, .int .i64 0, .int .i64 0, .int .i64 0, .int .i64 0].toArray) := by unfold Ex.Inf; kernel_rfl
theorem agg24 : Ex.aggT Try.prog 24 = true := by kernel_rfl
theorem pl24 : Ex.placesOf Try.prog 24 = some [(0, 1), (1, 1), (2, 1), (3, 1), (4, 1), (5, 1), (6, 1)] := by kernel_rfl
theorem fty24_0 : Ex.fldTy Try.prog 24 0 = some 3 := by kernel_rfl
theorem fld24_0 : Ex.fldAt Try.prog 24 0 = some 0 := by kernel_rfl
theorem fty24_1 : Ex.fldTy Try.prog 24 1 = some 3 := by kernel_rfl
theorem fld24_1 : Ex.fldAt Try.prog 24 1 = some 1 := by kernel_rfl
theorem fty24_2 : Ex.fldTy Try.prog 24 2 = some 3 := by kernel_rfl
theorem fld24_2 : Ex.fldAt Try.prog 24 2 = some 2 := by kernel_rfl
theorem fty24_3 : Ex.fldTy Try.prog 24 3 = some 3 := by kernel_rfl
theorem fld24_3 : Ex.fldAt Try.prog 24 3 = some 3 := by kernel_rfl
theorem fty24_4 : Ex.fldTy Try.prog 24 4 = some 3 := by kernel_rfl
theorem fld24_4 : Ex.fldAt Try.prog 24 4 = some 4 := by kernel_rfl
theorem fty24_5 : Ex.fldTy Try.prog 24 5 = some 3 := by kernel_rfl
theorem fld24_5 : Ex.fldAt Try.prog 24 5 = some 5 := by kernel_rfl
theorem fty24_6 : Ex.fldTy Try.prog 24 6 = some 3 := by kernel_rfl
theorem fld24_6 : Ex.fldAt Try.prog 24 6 = some 6 := by kernel_rfl
theorem inf28 : Ex.Inf Try.prog 28 2 16 (.agg [.int .i64 0, .int .i64 0].toArray) := by unfold Ex.Inf; kernel_rfl
theorem agg28 : Ex.aggT Try.prog 28 = true := by kernel_rfl
theorem pl28 : Ex.placesOf Try.prog 28 = some [(0, 1), (1, 1)] := by kernel_rfl
theorem fty28_0 : Ex.fldTy Try.prog 28 0 = some 3 := by kernel_rfl
theorem fld28_0 : Ex.fldAt Try.prog 28 0 = some 0 := by kernel_rfl
theorem fty28_1 : Ex.fldTy Try.prog 28 1 = some 3 := by kernel_rfl
theorem fld28_1 : Ex.fldAt Try.prog 28 1 = some 1 := by kernel_rfl
theorem inf29 : Ex.Inf Try.prog 29 2 16 (.agg [.int .i64 0, .int .i64 0].toArray) := by unfold Ex.Inf; kernel_rfl
theorem agg29 : Ex.aggT Try.prog 29 = true := by kernel_rfl
theorem pl29 : Ex.placesOf Try.prog 29 = some [(0, 1), (1, 1)] := by kernel_rfl
theorem fty29_0 : Ex.fldTy Try.prog 29 0 = some 3 := by kernel_rfl
theorem fld29_0 : Ex.fldAt Try.prog 29 0 = some 0 := by kernel_rfl
theorem fty29_1 : Ex.fldTy Try.prog 29 1 = some 3 := by kernel_rfl
theorem fld29_1 : Ex.fldAt Try.prog 29 1 = some 1 := by kernel_rfl
theorem inf30 : Ex.Inf Try.prog 30 1 24 (.slice none 0 0) := by unfold Ex.Inf; kernel_rfl
theorem flat30 : Ex.flatT Try.prog 30 = true := by kernel_rfl
theorem inf39 : Ex.Inf Try.prog 39 1 24 (.slice none 0 0) := by unfold Ex.Inf; kernel_rfl
theorem flat39 : Ex.flatT Try.prog 39 = true := by kernel_rfl
theorem inf43 : Ex.Inf Try.prog 43 1 8 (.int .i64 0) := by unfold Ex.Inf; kernel_rfl
theorem flat43 : Ex.flatT Try.prog 43 = true := by kernel_rfl
theorem inf44 : Ex.Inf Try.prog 44 2 16 (.agg [.int .i64 0, .int .i64 0].toArray) := by unfold Ex.Inf; kernel_rfl
theorem agg44 : Ex.aggT Try.prog 44 = true := by kernel_rfl
theorem pl44 : Ex.placesOf Try.prog 44 = some [(0, 1), (1, 1)] := by kernel_rfl
theorem fty44_0 : Ex.fldTy Try.prog 44 0 = some 43 := by kernel_rfl
theorem fld44_0 : Ex.fldAt Try.prog 44 0 = some 0 := by kernel_rfl
theorem fty44_1 : Ex.fldTy Try.prog 44 1 = some 3 := by kernel_rfl
theorem fld44_1 : Ex.fldAt Try.prog 44 1 = some 1 := by kernel_rfl
theorem inf45 : Ex.Inf Try.prog 45 2 16 (.agg [.int .i64 0, .int .i64 0].toArray) := by unfold Ex.Inf; kernel_rfl
theorem agg45 : Ex.aggT Try.prog 45 = true := by kernel_rfl
theorem pl45 : Ex.placesOf Try.prog 45 = some [(0, 1), (1, 1)] := by kernel_rfl
theorem fty45_0 : Ex.fldTy Try.prog 45 0 = some 43 := by kernel_rfl
theorem fld45_0 : Ex.fldAt Try.prog 45 0 = some 0 := by kernel_rfl
theorem fty45_1 : Ex.fldTy Try.prog 45 1 = some 3 := by kernel_rfl
theorem fld45_1 : Ex.fldAt Try.prog 45 1 = some 1 := by kernel_rfl
theorem inf48 : Ex.Inf Try.prog 48 1 24 (.slice none 0 0) := by unfold Ex.Inf; kernel_rfl
theorem flat48 : Ex.flatT Try.prog 48 = true := by kernel_rfl
theorem inf52 : Ex.Inf Try.prog 52 8 64 (.agg [.int .i64 0, .int .i64 0, .int .i64 0, .int .i64 0, .int .i64 0, .int .i64 0, .int .i64 0, .int .i64 0].toArray) := by unfold Ex.Inf; kernel_rfl
theorem agg52 : Ex.aggT Try.prog 52 = true := by kernel_rfl
theorem pl52 : Ex.placesOf Try.prog 52 = some [(0, 1), (1, 7)] := by kernel_rfl
theorem fty52_0 : Ex.fldTy Try.prog 52 0 = some 3 := by kernel_rfl
theorem fld52_0 : Ex.fldAt Try.prog 52 0 = some 0 := by kernel_rfl
theorem fty52_1 : Ex.fldTy Try.prog 52 1 = some 24 := by kernel_rfl
theorem fld52_1 : Ex.fldAt Try.prog 52 1 = some 1 := by kernel_rfl
theorem inf53 : Ex.Inf Try.prog 53 8 64 (.agg [.int .i64 0, .int .i64 0, .int .i64 0, .int .i64 0, .int .i64 0, .int .i64 0, .int .i64 0, .int .i64 0].toArray) := by unfold Ex.Inf; kernel_rfl
theorem agg53 : Ex.aggT Try.prog 53 = true := by kernel_rfl
theorem pl53 : Ex.placesOf Try.prog 53 = some [(0, 1), (1, 7)] := by kernel_rfl
theorem fty53_0 : Ex.fldTy Try.prog 53 0 = some 3 := by kernel_rfl
theorem fld53_0 : Ex.fldAt Try.prog 53 0 = some 0 := by kernel_rfl
theorem fty53_1 : Ex.fldTy Try.prog 53 1 = some 24 := by kernel_rfl
theorem fld53_1 : Ex.fldAt Try.prog 53 1 = some 1 := by kernel_rfl
theorem inf55 : Ex.Inf Try.prog 55 1 8 (.map none) := by unfold Ex.Inf; kernel_rfl
theorem flat55 : Ex.flatT Try.prog 55 = true := by kernel_rfl
theorem inf60 : Ex.Inf Try.prog 60 1 24 (.slice none 0 0) := by unfold Ex.Inf; kernel_rfl
theorem flat60 : Ex.flatT Try.prog 60 = true := by kernel_rfl
theorem inf62 : Ex.Inf Try.prog 62 1 8 (.map none) := by unfold Ex.Inf; kernel_rfl
theorem flat62 : Ex.flatT Try.prog 62 = true := by kernel_rfl
theorem inf71 : Ex.Inf Try.prog 71 1 4 (.int .u32 0) := by unfold Ex.Inf; kernel_rfl
theorem flat71 : Ex.flatT Try.prog 71 = true := by kernel_rfl
theorem inf75 : Ex.Inf Try.prog 75 1 8 (.pointer none) := by unfold Ex.Inf; kernel_rfl
theorem flat75 : Ex.flatT Try.prog 75 = true := by kernel_rfl
theorem eqv24 : EqV Try.prog 24 Sum sumE := ⟨fun a b w => by
  obtain ⟨a0, a1, a2, a3, a4, a5, a6⟩ := a
  obtain ⟨c0, c1, c2, c3, c4, c5, c6⟩ := b
  rw [run_equalIn_struct (P := Try.prog) w 9999 24 _ _ Try.underlying24 (by kernel_rfl)]
  simp [go_sem, sumE]
  try ((repeat' split) <;> simp_all), by kernel_rfl⟩
theorem eqv29 : EqV Try.prog 29 Sample sampleE := ⟨fun a b w => by
  obtain ⟨a0, a1⟩ := a
  obtain ⟨c0, c1⟩ := b
  rw [run_equalIn_struct (P := Try.prog) w 9999 29 _ _ Try.underlying29 (by kernel_rfl)]
  simp [go_sem, sampleE]
  try ((repeat' split) <;> simp_all), by kernel_rfl⟩
theorem eqv45 : EqV Try.prog 45 Fault faultE := ⟨fun a b w => by
  obtain ⟨a0, a1⟩ := a
  obtain ⟨c0, c1⟩ := b
  rw [run_equalIn_struct (P := Try.prog) w 9999 45 _ _ Try.underlying45 (by kernel_rfl)]
  simp [go_sem, faultE]
  try ((repeat' split) <;> simp_all), by kernel_rfl⟩
theorem eqv53 : EqV Try.prog 53 Bucket bucketE := ⟨fun a b w => by
  obtain ⟨a, ⟨a0, a1, a2, a3, a4, a5, a6⟩⟩ := a
  obtain ⟨c, ⟨c0, c1, c2, c3, c4, c5, c6⟩⟩ := b
  rw [run_equalIn_struct (P := Try.prog) w 9999 53 _ _ Try.underlying53 (by kernel_rfl)]
  simp [go_sem, bucketE]
  try ((repeat' split) <;> simp_all), by kernel_rfl⟩
end Go.Proofs.Yteogkbpcibnifaa
