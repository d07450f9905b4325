/-
  The statement MeanTotals (up to its bulk), from the walk of grainlaw6.MeanTotals.
-/
import Derived.Test.YtldecdningjkoaaLMeanTotals
import Derived.Test.YtldecdningjkoaaRd
import Derived.Test.YtldecdningjkoaaRows
import Derived.Test.YtldecdningjkoaaRd3
import Derived.JoinedCond
namespace Go.Proofs.Ytldecdningjkoaa
namespace meanTotalsP
open Ex
open Go.ChangeShapes Go.WideShapes Go.ChangeAt Go.RowKit
set_option linter.unusedVariables false

theorem bulk_pos {H : Type} (d : DataW H) : 1 ≤ Rows.uptoBulk d := by
  cases d with
  | lit l => cases l <;> simp [Rows.uptoBulk]
  | _ => simp [Rows.uptoBulk]
theorem bulk_len {H : Type} : ∀ (es : List (DataW H)), es.length ≤ Rows.uptoBulkAll es
  | [] => Nat.zero_le _
  | d :: r => by
    have := bulk_pos d
    have := bulk_len r
    simp only [Rows.uptoBulkAll, List.length_cons]; omega
theorem bulk_mem {H : Type} {d : DataW H} : ∀ {es : List (DataW H)}, d ∈ es → Rows.uptoBulk d ≤ Rows.uptoBulkAll es
  | [], h => by cases h
  | e :: r, h => by
    simp only [Rows.uptoBulkAll]
    rcases List.mem_cons.1 h with rfl | h
    · omega
    · have := bulk_mem h; omega
theorem bulk_at {H : Type} {d : DataW H} {es : List (DataW H)} (hd : d ∈ es) (h : Rows.uptoSmall H es = true) : Rows.uptoBulk d ≤ 1048576 :=
  Nat.le_trans (bulk_mem hd) (by simpa [Rows.uptoSmall] using h)
theorem bulk_sl {H : Type} {α : Type} {d : DataW H} {l : List α} (h : (d = .nil ∧ l = []) ∨ ∃ es sp, d = .slice es sp ∧ es.length = l.length) : l.length ≤ Rows.uptoBulk d := by
  rcases h with ⟨_, rfl⟩ | ⟨es, sp, rfl, he⟩
  · exact Nat.zero_le _
  · rw [← he]; have := bulk_len es; simp only [Rows.uptoBulk]; omega

theorem bulk_D {H : Type} {d : DataW H} {n : Nat} (h : LenX d n) : n ≤ Rows.uptoBulk d := by
  rcases h with ⟨_, rfl⟩ | ⟨es, sp, rfl, he⟩
  · exact Nat.zero_le _
  · rw [← he]; have := bulk_len es; simp only [Rows.uptoBulk]; omega
theorem bulk_in {H : Type} {d e : DataW H} {es : List (DataW H)} (hd : d = .agg es) (h : e ∈ es) : Rows.uptoBulk e ≤ Rows.uptoBulk d := by
  rw [hd]; have := bulk_mem h; simp only [Rows.uptoBulk]; omega

theorem bulk_lines {H : Type} {d : DataW H} {W : World} {l : List LineX} (hD : AllX (fun a d => LineX.Ok (In W) a W ∧ LineD a d) d l) (h : Rows.uptoBulk d ≤ 1048576) : l.length ≤ 1048576 ∧ ∀ x ∈ l, x.sr.l.length ≤ 1048576 ∧ x.sm.l.length ≤ 1048576 := by
  refine ⟨Nat.le_trans (bulk_D hD.len) h, fun x hx => ?_⟩
  obtain ⟨e, ⟨_, d1, d2, he, h1, h2⟩, ds, sp, hd, hm⟩ := hD.all x hx
  have h3 : Rows.uptoBulk e ≤ Rows.uptoBulk d := by rw [hd]; have := bulk_mem hm; simp only [Rows.uptoBulk]; omega
  have h4 := Nat.le_trans (bulk_D h1) (bulk_in he (by simp))
  have h5 := Nat.le_trans (bulk_D h2) (bulk_in he (by simp))
  omega
set_option maxRecDepth 100000 in
theorem contract (H : Type) (enc : TypeId × Value → H) (W : World) (base : Nat) (args : Array Value) (ds gs : List (DataW H)) (before : List MemPlace)
    (hval0 : ∀ (j : Nat) t v, Try.f5.params[j]? = some t → args[j]? = some v → Value.okWide Try.prog W .any base t v)
    (hW : DataW.Whole enc Try.prog Try.f5.params.toList Rows.meanTotalsSpec.vars false W args.toList ds gs before) (hk : Rows.uptoSmall H (ds ++ gs) = true) :
    Calls Try.prog 5 args W fun e W' => ∃ v, e = .returned v ∧ Rows.meanTotalsSpec.post enc Try.prog Try.f5 false true false false W args v W' := by
  have hW' := hW
  obtain ⟨p, q, hA0, hV, rfl, hfz, hnd⟩ := hW
  have hA : DataW.TrodAll enc Try.prog W 0 (fun _ => true) true Try.f5.params.toList args.toList ds p := hA0
  have hval := hval0
  rw [Try.params5] at hA hval
  obtain ⟨v0, vs0, d0, ds0, p0, q0, hargs, rfl, rfl, h0, r0⟩ := trodAll_cons hA
  obtain ⟨v1, vs1, d1, ds1, p1, q1, rfl, rfl, rfl, h1, r1⟩ := trodAll_cons r0
  obtain ⟨v2, vs2, d2, ds2, p2, q2, rfl, rfl, rfl, h2, r2⟩ := trodAll_cons r1
  obtain ⟨rfl, rfl, rfl⟩ := trodAll_nil r2
  obtain rfl : args = #[v0, v1, v2] := by cases args; simp_all
  obtain ⟨x0, hl0, hD0⟩ := open_xsD (e := lineE) (ok := fun a W d => LineX.Ok (In W) a W ∧ LineD a d) (k := 2) rdLineXD Try.underlying22 (by kernel_rfl) (by decide) (fun _ => rfl) (okWide_slice Try.underlying22 (hval 0 22 v0 rfl rfl)) h0
  have hx0 : ∀ a ∈ x0, LineX.Ok (In W) a W := fun a ha => (hD0.all a ha).elim fun _ h => h.1.1
  have b0 := bulk_lines hD0 (bulk_at (by simp) hk)
  obtain ⟨x1, rfl, hx1⟩ := open_x rdExprX (okWide_aggX Try.underlying27 (hval 1 27 v1 rfl rfl)) h1
  obtain ⟨x2, rfl, rfl, rfl, w2⟩ := open_int Try.underlying3 (hval 2 3 v2 rfl rfl) h2
  have o2 := ok64_wf w2
  refine (law_MeanTotals v0 x0 x1 x2 (In W) W (fun _ h => h) hl0 hx0 hx1 b0.1 b0.2).mono fun e W' ⟨he, hf⟩ => ?_
  subst he
  exact ⟨_, rfl, post_true Ex.Try.laid_ (by rw [Try.params5]; intro t ht; simp only [List.mem_cons, List.not_mem_nil, or_false] at ht; rcases ht with rfl | rfl | rfl <;> exact ⟨by kernel_rfl, of_decide_eq_true (by kernel_rfl)⟩) rfl Try.underlying4 rfl hW' (fun ds hd => by
    rw [Try.params5] at hd
    match ds, hd with
    | [_, _, _], _ => exact ⟨rfl, rfl, rfl⟩) hf⟩

set_option maxRecDepth 100000 in
theorem lifted (os : Os) (started : os.Started) (H : Type) (enc : TypeId × Value → H) (F : Stop.Interp) :
    ReturnsInHanded {} Try.checked os 5 .any ((Rows.OpenSpec.upto Rows.meanTotalsSpec).pre6 enc Try.prog Try.f5 Rows.meanTotalsUptoRow.domain false) (((Rows.OpenSpec.upto Rows.meanTotalsSpec).at F).post enc Try.prog Try.f5 false true false false) := by
  refine returnsInHanded_of_cond (C := Try.checked) (s := Rows.OpenSpec.upto Rows.meanTotalsSpec) (k := Rows.uptoSmall) rfl Ex.Try.own_ started (by kernel_rfl) Try.func5
    (OpenSpec.witness (enc := enc) (C := Try.checked) (s := Rows.OpenSpec.upto Rows.meanTotalsSpec) (k := Rows.uptoSmall) rfl false ⟨#[], #[.slice none 0 0, .agg #[.int .i64 0, .int .i64 0, .int .i64 0, .string .empty, .slice none 0 0, .slice none 0 0, .slice none 0 0], .int .i64 0], []⟩ 8 (by kernel_rfl) (by kernel_rfl) (by kernel_rfl)
      (x := ([.nil, .agg [.lit (.int .i64 0), .lit (.int .i64 0), .lit (.int .i64 0), .lit (.string []), .nil, .nil, .nil], .lit (.int .i64 0)], [], [])) (by kernel_rfl) rfl (by kernel_rfl)) ?_
  intro W base args ds gs before hval hW _ hk _
  exact contract H enc W base args ds gs before hval hW hk

theorem holds : Rows.MeanTotalsUptoSaid :=
  OpenClaim.holds_of_cond 5 Try.f5 rfl rfl rfl rfl rfl rfl rfl ⟨rfl, rfl, rfl, rfl, rfl⟩ rfl rfl rfl rfl rfl (by kernel_rfl) Try.func5 (by kernel_rfl)
    (of_decide_eq_true (by kernel_rfl)) (by unfold Func.isWrapper; first | (rw [if_pos (by decide +kernel)]; kernel_rfl) | (rw [if_neg (by decide +kernel)]; exact ⟨rfl, rfl⟩))
    (fun os started H enc _ F => lifted os started H enc F)

end meanTotalsP
end Go.Proofs.Ytldecdningjkoaa
