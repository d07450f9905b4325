/-
  The statement PlanTells (up to its bulk), from the walk of grainlaw8.PlanTells.
-/
import Derived.Test.YtnbkennlmnnbeaaLPlanTells
import Derived.Test.YtnbkennlmnnbeaaRd
import Derived.Test.YtnbkennlmnnbeaaRows
import Derived.Test.YtnbkennlmnnbeaaRd2
import Derived.JoinedCond
namespace Go.Proofs.Ytnbkennlmnnbeaa
namespace planTellsP
open Ex
open Go.ChangeShapes Go.WideShapes Go.ChangeAt Go.RowKit
set_option linter.unusedVariables false

theorem bulk_pos {H : Type} (d : DataW H) : 1 ≤ Rows.uptoBulk d := by
  cases d with
  | lit l => cases l <;> simp [Rows.uptoBulk]
  | _ => simp [Rows.uptoBulk]
theorem bulk_len {H : Type} : ∀ (es : List (DataW H)), es.length ≤ Rows.uptoBulkAll es
  | [] => Nat.zero_le _
  | d :: r => by
    have := bulk_pos d
    have := bulk_len r
    simp only [Rows.uptoBulkAll, List.length_cons]; omega
theorem bulk_mem {H : Type} {d : DataW H} : ∀ {es : List (DataW H)}, d ∈ es → Rows.uptoBulk d ≤ Rows.uptoBulkAll es
  | [], h => by cases h
  | e :: r, h => by
    simp only [Rows.uptoBulkAll]
    rcases List.mem_cons.1 h with rfl | h
    · omega
    · have := bulk_mem h; omega
theorem bulk_at {H : Type} {d : DataW H} {es : List (DataW H)} (hd : d ∈ es) (h : Rows.uptoSmall H es = true) : Rows.uptoBulk d ≤ 1048576 :=
  Nat.le_trans (bulk_mem hd) (by simpa [Rows.uptoSmall] using h)
theorem bulk_sl {H : Type} {α : Type} {d : DataW H} {l : List α} (h : (d = .nil ∧ l = []) ∨ ∃ es sp, d = .slice es sp ∧ es.length = l.length) : l.length ≤ Rows.uptoBulk d := by
  rcases h with ⟨_, rfl⟩ | ⟨es, sp, rfl, he⟩
  · exact Nat.zero_le _
  · rw [← he]; have := bulk_len es; simp only [Rows.uptoBulk]; omega

theorem bulk_D {H : Type} {d : DataW H} {n : Nat} (h : LenD d n) : n ≤ Rows.uptoBulk d := by
  rcases h with ⟨_, rfl⟩ | ⟨es, sp, rfl, he⟩
  · exact Nat.zero_le _
  · rw [← he]; have := bulk_len es; simp only [Rows.uptoBulk]; omega
theorem bulk_in {H : Type} {d e : DataW H} {es : List (DataW H)} (hd : d = .agg es) (h : e ∈ es) : Rows.uptoBulk e ≤ Rows.uptoBulk d := by
  rw [hd]; have := bulk_mem h; simp only [Rows.uptoBulk]; omega

set_option maxRecDepth 100000 in
theorem contract (H : Type) (enc : TypeId × Value → H) (W : World) (base : Nat) (args : Array Value) (ds gs : List (DataW H)) (before : List MemPlace)
    (hval0 : ∀ (j : Nat) t v, Try.f3.params[j]? = some t → args[j]? = some v → Value.okWide Try.prog W .any base t v)
    (hW : DataW.Whole enc Try.prog Try.f3.params.toList Rows.planTellsSpec.vars false W args.toList ds gs before) (hk : Rows.uptoSmall H (ds ++ gs) = true) :
    Calls Try.prog 3 args W fun e W' => ∃ v, e = .returned v ∧ Rows.planTellsSpec.post enc Try.prog Try.f3 false true false false W args v W' := by
  have hW' := hW
  obtain ⟨p, q, hA0, hV, rfl, hfz, hnd⟩ := hW
  have hA : DataW.TrodAll enc Try.prog W 0 (fun _ => true) true Try.f3.params.toList args.toList ds p := hA0
  have hval := hval0
  rw [Try.params3] at hA hval
  obtain ⟨v0, vs0, d0, ds0, p0, q0, hargs, rfl, rfl, h0, r0⟩ := trodAll_cons hA
  obtain ⟨v1, vs1, d1, ds1, p1, q1, rfl, rfl, rfl, h1, r1⟩ := trodAll_cons r0
  obtain ⟨v2, vs2, d2, ds2, p2, q2, rfl, rfl, rfl, h2, r2⟩ := trodAll_cons r1
  obtain ⟨v3, vs3, d3, ds3, p3, q3, rfl, rfl, rfl, h3, r3⟩ := trodAll_cons r2
  obtain ⟨rfl, rfl, rfl⟩ := trodAll_nil r3
  obtain rfl : args = #[v0, v1, v2, v3] := by cases args; simp_all
  obtain ⟨x00, x01, x02, x03, x0, y0_0, y0_1, y0_2, y0_3, rest0, rfl, ⟨hl0_0, hl0_1, hl0_2, hl0_3⟩, ⟨o0_0, o0_1, o0_2, o0_3⟩, i0, hd0, n0_0, n0_1, n0_2, n0_3⟩ := rdShelf (okWide_agg Try.underlying27 (hval 0 27 v0 rfl rfl)) h0
  have b0_0 : x0.series.length ≤ 1048576 := Nat.le_trans (bulk_D n0_0) (Nat.le_trans (bulk_in hd0 (by simp)) (bulk_at (by simp) hk))
  have b0_1 : x0.raw.length ≤ 1048576 := Nat.le_trans (bulk_D n0_1) (Nat.le_trans (bulk_in hd0 (by simp)) (bulk_at (by simp) hk))
  have b0_2 : x0.fine.length ≤ 1048576 := Nat.le_trans (bulk_D n0_2) (Nat.le_trans (bulk_in hd0 (by simp)) (bulk_at (by simp) hk))
  have b0_3 : x0.coarse.length ≤ 1048576 := Nat.le_trans (bulk_D n0_3) (Nat.le_trans (bulk_in hd0 (by simp)) (bulk_at (by simp) hk))
  obtain ⟨x1, hl1, o1, z1⟩ := rd_slice (k := 3) rdPart Try.underlying28 (by kernel_rfl) (by decide) (fun _ => rfl) (okWide_slice Try.underlying28 (hval 1 28 v1 rfl rfl)) h1
  have b1 : x1.length ≤ 1048576 := Nat.le_trans (bulk_sl z1) (bulk_at (by simp) hk)
  obtain ⟨x2, rfl, rfl, rfl, w2⟩ := open_int Try.underlying3 (hval 2 3 v2 rfl rfl) h2
  have o2 := ok64_wf w2
  obtain ⟨x3, rfl, rfl, rfl, w3⟩ := open_int Try.underlying3 (hval 3 3 v3 rfl rfl) h3
  have o3 := ok64_wf w3
  refine (law_PlanTells x00 x01 x02 x03 x0 v1 x1 x2 x3 (In W) W (fun _ h => h) hl0_0 hl0_1 hl0_2 hl0_3 hl1 b1 (fun x hx => o0_0 x hx)).mono fun e W' ⟨he, hf⟩ => ?_
  subst he
  exact ⟨_, rfl, post_true Ex.Try.laid_ (by rw [Try.params3]; intro t ht; simp only [List.mem_cons, List.not_mem_nil, or_false] at ht; rcases ht with rfl | rfl | rfl | rfl <;> exact ⟨by kernel_rfl, of_decide_eq_true (by kernel_rfl)⟩) rfl Try.underlying4 rfl hW' (fun ds hd => by
    rw [Try.params3] at hd
    match ds, hd with
    | [_, _, _, _], _ => exact ⟨rfl, rfl, rfl⟩) hf⟩

set_option maxRecDepth 100000 in
theorem lifted (os : Os) (started : os.Started) (H : Type) (enc : TypeId × Value → H) (F : Stop.Interp) :
    ReturnsInHanded {} Try.checked os 3 .any ((Rows.OpenSpec.upto Rows.planTellsSpec).pre6 enc Try.prog Try.f3 Rows.planTellsUptoRow.domain false) (((Rows.OpenSpec.upto Rows.planTellsSpec).at F).post enc Try.prog Try.f3 false true false false) := by
  refine returnsInHanded_of_cond (C := Try.checked) (s := Rows.OpenSpec.upto Rows.planTellsSpec) (k := Rows.uptoSmall) rfl Ex.Try.own_ started (by kernel_rfl) Try.func3
    (OpenSpec.witness (enc := enc) (C := Try.checked) (s := Rows.OpenSpec.upto Rows.planTellsSpec) (k := Rows.uptoSmall) rfl false ⟨#[], #[.agg #[.slice none 0 0, .slice none 0 0, .slice none 0 0, .slice none 0 0, .int .i64 0, .int .i64 0, .int .i64 0, .int .i64 0, .int .i64 0], .slice none 0 0, .int .i64 0, .int .i64 0], []⟩ 8 (by kernel_rfl) (by kernel_rfl) (by kernel_rfl)
      (x := ([.agg [.nil, .nil, .nil, .nil, .lit (.int .i64 0), .lit (.int .i64 0), .lit (.int .i64 0), .lit (.int .i64 0), .lit (.int .i64 0)], .nil, .lit (.int .i64 0), .lit (.int .i64 0)], [], [])) (by kernel_rfl) rfl (by kernel_rfl)) ?_
  intro W base args ds gs before hval hW _ hk _
  exact contract H enc W base args ds gs before hval hW hk

theorem holds : Rows.PlanTellsUptoSaid :=
  OpenClaim.holds_of_cond 3 Try.f3 rfl rfl rfl rfl rfl rfl rfl ⟨rfl, rfl, rfl, rfl, rfl⟩ rfl rfl rfl rfl rfl (by kernel_rfl) Try.func3 (by kernel_rfl)
    (of_decide_eq_true (by kernel_rfl)) (by unfold Func.isWrapper; first | (rw [if_pos (by decide +kernel)]; kernel_rfl) | (rw [if_neg (by decide +kernel)]; exact ⟨rfl, rfl⟩))
    (fun os started H enc _ F => lifted os started H enc F)

end planTellsP
end Go.Proofs.Ytnbkennlmnnbeaa
