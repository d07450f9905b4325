/-
  Closed facts on the types of this translation.
-/
import Derived.Test.YtekamocheffppaaMore
import Derived.Test.YtekamocheffppaaProg
import Derived.KernelRfl
namespace Go.Proofs.Ytekamocheffppaa
open Ex
theorem mix : Try.prog.follows .mixedOrders = true := by kernel_rfl
theorem inf2 : Ex.Inf Try.prog 2 1 8 (.int .i64 0) := by unfold Ex.Inf; kernel_rfl
theorem flat2 : Ex.flatT Try.prog 2 = true := by kernel_rfl
theorem inf3 : Ex.Inf Try.prog 3 1 8 (.int .i64 0) := by unfold Ex.Inf; kernel_rfl
theorem flat3 : Ex.flatT Try.prog 3 = true := by kernel_rfl
theorem inf4 : Ex.Inf Try.prog 4 1 1 (.bool false) := by unfold Ex.Inf; kernel_rfl
theorem flat4 : Ex.flatT Try.prog 4 = true := by kernel_rfl
theorem inf5 : Ex.Inf Try.prog 5 1 1 (.int .u8 0) := by unfold Ex.Inf; kernel_rfl
theorem flat5 : Ex.flatT Try.prog 5 = true := by kernel_rfl
theorem inf9 : Ex.Inf Try.prog 9 1 16 (.string ⟨#[]⟩) := by unfold Ex.Inf; kernel_rfl
theorem flat9 : Ex.flatT Try.prog 9 = true := by kernel_rfl
theorem inf12 : Ex.Inf Try.prog 12 1 8 (.int .u64 0) := by unfold Ex.Inf; kernel_rfl
theorem flat12 : Ex.flatT Try.prog 12 = true := by kernel_rfl
theorem inf13 : Ex.Inf Try.prog 13 2 24 (.agg [.string ⟨#[]⟩, .int .u64 0].toArray) := by unfold Ex.Inf; kernel_rfl
theorem agg13 : Ex.aggT Try.prog 13 = true := by kernel_rfl
theorem pl13 : Ex.placesOf Try.prog 13 = some [(0, 1), (1, 1)] := by kernel_rfl
theorem fty13_0 : Ex.fldTy Try.prog 13 0 = some 9 := by kernel_rfl
theorem fld13_0 : Ex.fldAt Try.prog 13 0 = some 0 := by kernel_rfl
theorem fty13_1 : Ex.fldTy Try.prog 13 1 = some 12 := by kernel_rfl
theorem fld13_1 : Ex.fldAt Try.prog 13 1 = some 1 := by kernel_rfl
theorem inf20 : Ex.Inf Try.prog 20 1 16 (.nilIface) := by unfold Ex.Inf; kernel_rfl
theorem flat20 : Ex.flatT Try.prog 20 = true := by kernel_rfl
theorem inf21 : Ex.Inf Try.prog 21 1 4 (.int .i32 0) := by unfold Ex.Inf; kernel_rfl
theorem flat21 : Ex.flatT Try.prog 21 = true := by kernel_rfl
theorem inf22 : Ex.Inf Try.prog 22 1 24 (.slice none 0 0) := by unfold Ex.Inf; kernel_rfl
theorem flat22 : Ex.flatT Try.prog 22 = true := by kernel_rfl
theorem inf23 : Ex.Inf Try.prog 23 1 24 (.slice none 0 0) := by unfold Ex.Inf; kernel_rfl
theorem flat23 : Ex.flatT Try.prog 23 = true := by kernel_rfl
theorem inf24 : Ex.Inf Try.prog 24 1 8 (.int .i64 0) := by unfold Ex.Inf; kernel_rfl
theorem flat24 : Ex.flatT Try.prog 24 = true := by kernel_rfl
theorem inf25 : Ex.Inf Try.prog 25 2 16 (.agg [.int .i64 0, .int .i64 0].toArray) := by unfold Ex.Inf; kernel_rfl
theorem agg25 : Ex.aggT Try.prog 25 = true := by kernel_rfl
theorem pl25 : Ex.placesOf Try.prog 25 = some [(0, 1), (1, 1)] := by kernel_rfl
theorem fty25_0 : Ex.fldTy Try.prog 25 0 = some 24 := by kernel_rfl
theorem fld25_0 : Ex.fldAt Try.prog 25 0 = some 0 := by kernel_rfl
theorem fty25_1 : Ex.fldTy Try.prog 25 1 = some 3 := by kernel_rfl
theorem fld25_1 : Ex.fldAt Try.prog 25 1 = some 1 := by kernel_rfl
theorem inf26 : Ex.Inf Try.prog 26 2 16 (.agg [.int .i64 0, .int .i64 0].toArray) := by unfold Ex.Inf; kernel_rfl
theorem agg26 : Ex.aggT Try.prog 26 = true := by kernel_rfl
theorem pl26 : Ex.placesOf Try.prog 26 = some [(0, 1), (1, 1)] := by kernel_rfl
theorem fty26_0 : Ex.fldTy Try.prog 26 0 = some 24 := by kernel_rfl
theorem fld26_0 : Ex.fldAt Try.prog 26 0 = some 0 := by kernel_rfl
theorem fty26_1 : Ex.fldTy Try.prog 26 1 = some 3 := by kernel_rfl
theorem fld26_1 : Ex.fldAt Try.prog 26 1 = some 1 := by kernel_rfl
theorem inf35 : Ex.Inf Try.prog 35 2 16 (.agg [.int .i64 0, .int .i64 0].toArray) := by unfold Ex.Inf; kernel_rfl
theorem agg35 : Ex.aggT Try.prog 35 = true := by kernel_rfl
theorem pl35 : Ex.placesOf Try.prog 35 = some [(0, 1), (1, 1)] := by kernel_rfl
theorem fty35_0 : Ex.fldTy Try.prog 35 0 = some 3 := by kernel_rfl
theorem fld35_0 : Ex.fldAt Try.prog 35 0 = some 0 := by kernel_rfl
theorem fty35_1 : Ex.fldTy Try.prog 35 1 = some 3 := by kernel_rfl
theorem fld35_1 : Ex.fldAt Try.prog 35 1 = some 1 := by kernel_rfl
theorem inf36 : Ex.Inf Try.prog 36 2 16 (.agg [.int .i64 0, .int .i64 0].toArray) := by unfold Ex.Inf; kernel_rfl
theorem agg36 : Ex.aggT Try.prog 36 = true := by kernel_rfl
theorem pl36 : Ex.placesOf Try.prog 36 = some [(0, 1), (1, 1)] := by kernel_rfl
theorem fty36_0 : Ex.fldTy Try.prog 36 0 = some 3 := by kernel_rfl
theorem fld36_0 : Ex.fldAt Try.prog 36 0 = some 0 := by kernel_rfl
theorem fty36_1 : Ex.fldTy Try.prog 36 1 = some 3 := by kernel_rfl
theorem fld36_1 : Ex.fldAt Try.prog 36 1 = some 1 := by kernel_rfl
theorem inf39 : Ex.Inf Try.prog 39 1 24 (.slice none 0 0) := by unfold Ex.Inf; kernel_rfl
theorem flat39 : Ex.flatT Try.prog 39 = true := by kernel_rfl
theorem inf40 : Ex.Inf Try.prog 40 1 24 (.slice none 0 0) := by unfold Ex.Inf; kernel_rfl
theorem flat40 : Ex.flatT Try.prog 40 = true := by kernel_rfl
theorem inf44 : Ex.Inf Try.prog 44 1 24 (.slice none 0 0) := by unfold Ex.Inf; kernel_rfl
theorem flat44 : Ex.flatT Try.prog 44 = true := by kernel_rfl
theorem inf45 : Ex.Inf Try.prog 45 3 40 (.agg [.int .i64 0, .string ⟨#[]⟩, .string ⟨#[]⟩].toArray) := by unfold Ex.Inf; kernel_rfl
theorem agg45 : Ex.aggT Try.prog 45 = true := by kernel_rfl
theorem pl45 : Ex.placesOf Try.prog 45 = some [(0, 1), (1, 1), (2, 1)] := by kernel_rfl
theorem fty45_0 : Ex.fldTy Try.prog 45 0 = some 3 := by kernel_rfl
theorem fld45_0 : Ex.fldAt Try.prog 45 0 = some 0 := by kernel_rfl
theorem fty45_1 : Ex.fldTy Try.prog 45 1 = some 9 := by kernel_rfl
theorem fld45_1 : Ex.fldAt Try.prog 45 1 = some 1 := by kernel_rfl
theorem fty45_2 : Ex.fldTy Try.prog 45 2 = some 9 := by kernel_rfl
theorem fld45_2 : Ex.fldAt Try.prog 45 2 = some 2 := by kernel_rfl
theorem inf46 : Ex.Inf Try.prog 46 3 40 (.agg [.int .i64 0, .string ⟨#[]⟩, .string ⟨#[]⟩].toArray) := by unfold Ex.Inf; kernel_rfl
theorem agg46 : Ex.aggT Try.prog 46 = true := by kernel_rfl
theorem pl46 : Ex.placesOf Try.prog 46 = some [(0, 1), (1, 1), (2, 1)] := by kernel_rfl
theorem fty46_0 : Ex.fldTy Try.prog 46 0 = some 3 := by kernel_rfl
theorem fld46_0 : Ex.fldAt Try.prog 46 0 = some 0 := by kernel_rfl
theorem fty46_1 : Ex.fldTy Try.prog 46 1 = some 9 := by kernel_rfl
theorem fld46_1 : Ex.fldAt Try.prog 46 1 = some 1 := by kernel_rfl
theorem fty46_2 : Ex.fldTy Try.prog 46 2 = some 9 := by kernel_rfl
theorem fld46_2 : Ex.fldAt Try.prog 46 2 = some 2 := by kernel_rfl
theorem inf48 : Ex.Inf Try.prog 48 1 24 (.slice none 0 0) := by unfold Ex.Inf; kernel_rfl
theorem flat48 : Ex.flatT Try.prog 48 = true := by kernel_rfl
theorem inf54 : Ex.Inf Try.prog 54 2 32 (.agg [.string ⟨#[]⟩, .string ⟨#[]⟩].toArray) := by unfold Ex.Inf; kernel_rfl
theorem agg54 : Ex.aggT Try.prog 54 = true := by kernel_rfl
theorem pl54 : Ex.placesOf Try.prog 54 = some [(0, 1), (1, 1)] := by kernel_rfl
theorem fty54_0 : Ex.fldTy Try.prog 54 0 = some 9 := by kernel_rfl
theorem fld54_0 : Ex.fldAt Try.prog 54 0 = some 0 := by kernel_rfl
theorem fty54_1 : Ex.fldTy Try.prog 54 1 = some 9 := by kernel_rfl
theorem fld54_1 : Ex.fldAt Try.prog 54 1 = some 1 := by kernel_rfl
theorem inf55 : Ex.Inf Try.prog 55 2 32 (.agg [.string ⟨#[]⟩, .string ⟨#[]⟩].toArray) := by unfold Ex.Inf; kernel_rfl
theorem agg55 : Ex.aggT Try.prog 55 = true := by kernel_rfl
theorem pl55 : Ex.placesOf Try.prog 55 = some [(0, 1), (1, 1)] := by kernel_rfl
theorem fty55_0 : Ex.fldTy Try.prog 55 0 = some 9 := by kernel_rfl
theorem fld55_0 : Ex.fldAt Try.prog 55 0 = some 0 := by kernel_rfl
theorem fty55_1 : Ex.fldTy Try.prog 55 1 = some 9 := by kernel_rfl
theorem fld55_1 : Ex.fldAt Try.prog 55 1 = some 1 := by kernel_rfl
theorem inf59 : Ex.Inf Try.prog 59 1 8 (.pointer none) := by unfold Ex.Inf; kernel_rfl
theorem flat59 : Ex.flatT Try.prog 59 = true := by kernel_rfl
theorem inf60 : Ex.Inf Try.prog 60 2 32 (.agg [.slice none 0 0, .bool false].toArray) := by unfold Ex.Inf; kernel_rfl
theorem agg60 : Ex.aggT Try.prog 60 = true := by kernel_rfl
theorem pl60 : Ex.placesOf Try.prog 60 = some [(0, 1), (1, 1)] := by kernel_rfl
theorem fty60_0 : Ex.fldTy Try.prog 60 0 = some 23 := by kernel_rfl
theorem fld60_0 : Ex.fldAt Try.prog 60 0 = some 0 := by kernel_rfl
theorem fty60_1 : Ex.fldTy Try.prog 60 1 = some 4 := by kernel_rfl
theorem fld60_1 : Ex.fldAt Try.prog 60 1 = some 1 := by kernel_rfl
theorem inf61 : Ex.Inf Try.prog 61 2 32 (.agg [.slice none 0 0, .bool false].toArray) := by unfold Ex.Inf; kernel_rfl
theorem agg61 : Ex.aggT Try.prog 61 = true := by kernel_rfl
theorem pl61 : Ex.placesOf Try.prog 61 = some [(0, 1), (1, 1)] := by kernel_rfl
theorem fty61_0 : Ex.fldTy Try.prog 61 0 = some 23 := by kernel_rfl
theorem fld61_0 : Ex.fldAt Try.prog 61 0 = some 0 := by kernel_rfl
theorem fty61_1 : Ex.fldTy Try.prog 61 1 = some 4 := by kernel_rfl
theorem fld61_1 : Ex.fldAt Try.prog 61 1 = some 1 := by kernel_rfl
theorem inf70 : Ex.Inf Try.prog 70 2 32 (.agg [.string ⟨#[]⟩, .string ⟨#[]⟩].toArray) := by unfold Ex.Inf; kernel_rfl
theorem agg70 : Ex.aggT Try.prog 70 = true := by kernel_rfl
theorem inf71 : Ex.Inf Try.prog 71 1 24 (.slice none 0 0) := by unfold Ex.Inf; kernel_rfl
theorem flat71 : Ex.flatT Try.prog 71 = true := by kernel_rfl
theorem inf73 : Ex.Inf Try.prog 73 1 8 (.int .u64 0) := by unfold Ex.Inf; kernel_rfl
theorem flat73 : Ex.flatT Try.prog 73 = true := by kernel_rfl
theorem inf74 : Ex.Inf Try.prog 74 1 8 (.int .u64 0) := by unfold Ex.Inf; kernel_rfl
theorem flat74 : Ex.flatT Try.prog 74 = true := by kernel_rfl
theorem inf75 : Ex.Inf Try.prog 75 1 24 (.slice none 0 0) := by unfold Ex.Inf; kernel_rfl
theorem flat75 : Ex.flatT Try.prog 75 = true := by kernel_rfl
theorem inf83 : Ex.Inf Try.prog 83 1 4 (.int .u32 0) := by unfold Ex.Inf; kernel_rfl
theorem flat83 : Ex.flatT Try.prog 83 = true := by kernel_rfl
theorem inf87 : Ex.Inf Try.prog 87 1 8 (.pointer none) := by unfold Ex.Inf; kernel_rfl
theorem flat87 : Ex.flatT Try.prog 87 = true := by kernel_rfl
theorem eqv26 : EqV Try.prog 26 Fault faultE := ⟨fun a b w => by
  obtain ⟨a0, a1⟩ := a
  obtain ⟨c0, c1⟩ := b
  rw [run_equalIn_struct (P := Try.prog) w 9999 26 _ _ Try.underlying26 (by kernel_rfl)]
  simp [go_sem, faultE]
  try ((repeat' split) <;> simp_all), by kernel_rfl⟩
theorem eqv36 : EqV Try.prog 36 Sample sampleE := ⟨fun a b w => by
  obtain ⟨a0, a1⟩ := a
  obtain ⟨c0, c1⟩ := b
  rw [run_equalIn_struct (P := Try.prog) w 9999 36 _ _ Try.underlying36 (by kernel_rfl)]
  simp [go_sem, sampleE]
  try ((repeat' split) <;> simp_all), by kernel_rfl⟩
theorem eqv46 : EqV Try.prog 46 Match matchE := ⟨fun a b w => by
  obtain ⟨a0, a1, a2⟩ := a
  obtain ⟨c0, c1, c2⟩ := b
  rw [run_equalIn_struct (P := Try.prog) w 9999 46 _ _ Try.underlying46 (by kernel_rfl)]
  simp [go_sem, matchE, toList_inj]
  try ((repeat' split) <;> simp_all), by kernel_rfl⟩
theorem eqv55 : EqV Try.prog 55 Label labelE := ⟨fun a b w => by
  obtain ⟨a0, a1⟩ := a
  obtain ⟨c0, c1⟩ := b
  rw [run_equalIn_struct (P := Try.prog) w 9999 55 _ _ Try.underlying55 (by kernel_rfl)]
  simp [go_sem, labelE, toList_inj]
  try ((repeat' split) <;> simp_all), by kernel_rfl⟩
end Go.Proofs.Ytekamocheffppaa
