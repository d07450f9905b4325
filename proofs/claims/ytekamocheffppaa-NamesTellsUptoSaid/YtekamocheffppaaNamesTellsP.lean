/-
  The statement NamesTells (up to its bulk), from the walk of grainlaw4.NamesTells.
-/
import Derived.Test.YtekamocheffppaaLNamesTells
import Derived.Test.YtekamocheffppaaRd
import Derived.Test.YtekamocheffppaaRows
import Derived.JoinedCond
namespace Go.Proofs.Ytekamocheffppaa
namespace namesTellsP
open Ex
open Go.ChangeShapes Go.WideShapes Go.ChangeAt Go.RowKit
set_option linter.unusedVariables false

theorem bulk_pos {H : Type} (d : DataW H) : 1 ≤ Rows.uptoBulk d := by
  cases d with
  | lit l => cases l <;> simp [Rows.uptoBulk]
  | _ => simp [Rows.uptoBulk]
theorem bulk_len {H : Type} : ∀ (es : List (DataW H)), es.length ≤ Rows.uptoBulkAll es
  | [] => Nat.zero_le _
  | d :: r => by
    have := bulk_pos d
    have := bulk_len r
    simp only [Rows.uptoBulkAll, List.length_cons]; omega
theorem bulk_mem {H : Type} {d : DataW H} : ∀ {es : List (DataW H)}, d ∈ es → Rows.uptoBulk d ≤ Rows.uptoBulkAll es
  | [], h => by cases h
  | e :: r, h => by
    simp only [Rows.uptoBulkAll]
    rcases List.mem_cons.1 h with rfl | h
    · omega
    · have := bulk_mem h; omega
theorem bulk_at {H : Type} {d : DataW H} {es : List (DataW H)} (hd : d ∈ es) (h : Rows.uptoSmall H es = true) : Rows.uptoBulk d ≤ 1048576 :=
  Nat.le_trans (bulk_mem hd) (by simpa [Rows.uptoSmall] using h)
theorem bulk_sl {H : Type} {α : Type} {d : DataW H} {l : List α} (h : (d = .nil ∧ l = []) ∨ ∃ es sp, d = .slice es sp ∧ es.length = l.length) : l.length ≤ Rows.uptoBulk d := by
  rcases h with ⟨_, rfl⟩ | ⟨es, sp, rfl, he⟩
  · exact Nat.zero_le _
  · rw [← he]; have := bulk_len es; simp only [Rows.uptoBulk]; omega

theorem contract (H : Type) (enc : TypeId × Value → H) (W : World) (base : Nat) (args : Array Value) (ds gs : List (DataW H)) (before : List MemPlace)
    (hval0 : ∀ (j : Nat) t v, Try.f9.params[j]? = some t → args[j]? = some v → Value.okWide Try.prog W .any base t v)
    (hW : DataW.Whole enc Try.prog Try.f9.params.toList Rows.namesTellsSpec.vars false W args.toList ds gs before) (hk : Rows.uptoSmall H (ds ++ gs) = true) :
    Calls Try.prog 9 args W fun e W' => ∃ v, e = .returned v ∧ Rows.namesTellsSpec.post enc Try.prog Try.f9 false true false false W args v W' := by
  have hW' := hW
  obtain ⟨p, q, hA0, hV, rfl, hfz, hnd⟩ := hW
  have hA : DataW.TrodAll enc Try.prog W 0 (fun _ => true) true Try.f9.params.toList args.toList ds p := hA0
  have hval := hval0
  rw [Try.params9] at hA hval
  obtain ⟨v0, vs0, d0, ds0, p0, q0, hargs, rfl, rfl, h0, r0⟩ := trodAll_cons hA
  obtain ⟨v1, vs1, d1, ds1, p1, q1, rfl, rfl, rfl, h1, r1⟩ := trodAll_cons r0
  obtain ⟨v2, vs2, d2, ds2, p2, q2, rfl, rfl, rfl, h2, r2⟩ := trodAll_cons r1
  obtain ⟨v3, vs3, d3, ds3, p3, q3, rfl, rfl, rfl, h3, r3⟩ := trodAll_cons r2
  obtain ⟨v4, vs4, d4, ds4, p4, q4, rfl, rfl, rfl, h4, r4⟩ := trodAll_cons r3
  obtain ⟨rfl, rfl, rfl⟩ := trodAll_nil r4
  obtain rfl : args = #[v0, v1, v2, v3, v4] := by cases args; simp_all
  obtain ⟨x0, hl0, o0, z0⟩ := rd_slice (k := 2) rdLabel Try.underlying40 (by kernel_rfl) (by decide) (fun _ => rfl) (okWide_slice Try.underlying40 (hval 0 40 v0 rfl rfl)) h0
  have b0 : x0.length ≤ 1048576 := Nat.le_trans (bulk_sl z0) (bulk_at (by simp) hk)
  obtain ⟨x1, hl1, o1, z1⟩ := rd_slice (k := 2) rdLabel Try.underlying40 (by kernel_rfl) (by decide) (fun _ => rfl) (okWide_slice Try.underlying40 (hval 1 40 v1 rfl rfl)) h1
  have b1 : x1.length ≤ 1048576 := Nat.le_trans (bulk_sl z1) (bulk_at (by simp) hk)
  obtain ⟨x2, hl2, o2, z2⟩ := rd_slice (k := 3) rdMatch Try.underlying44 (by kernel_rfl) (by decide) (fun _ => rfl) (okWide_slice Try.underlying44 (hval 2 44 v2 rfl rfl)) h2
  have b2 : x2.length ≤ 1048576 := Nat.le_trans (bulk_sl z2) (bulk_at (by simp) hk)
  obtain ⟨x3, hl3, o3, z3⟩ := rd_slice (k := 1) (rd_str Try.underlying9) Try.underlying48 (by kernel_rfl) (by decide) (fun _ => rfl) (okWide_slice Try.underlying48 (hval 3 48 v3 rfl rfl)) h3
  have b3 : x3.length ≤ 1048576 := Nat.le_trans (bulk_sl z3) (bulk_at (by simp) hk)
  obtain ⟨x4, rfl, rfl, rfl, o4⟩ := Go.ChangeMaps.open_string Try.underlying9 (hval 4 9 v4 rfl rfl) h4
  refine (law_NamesTells v0 x0 v1 x1 v2 x2 v3 x3 x4 W hl0 hl1 hl2 hl3 b0 o0 b1 o1 b2 o2 b3 o3 o4).mono fun e W' ⟨he, hf⟩ => ?_
  subst he
  exact ⟨_, rfl, post_true Ex.Try.laid_ (by rw [Try.params9]; intro t ht; simp only [List.mem_cons, List.not_mem_nil, or_false] at ht; rcases ht with rfl | rfl | rfl | rfl | rfl <;> exact ⟨by kernel_rfl, of_decide_eq_true (by kernel_rfl)⟩) rfl Try.underlying4 rfl hW' (fun ds hd => by
    rw [Try.params9] at hd
    match ds, hd with
    | [_, _, _, _, _], _ => exact ⟨rfl, rfl, rfl⟩) hf⟩

set_option maxRecDepth 100000 in
theorem lifted (os : Os) (started : os.Started) (H : Type) (enc : TypeId × Value → H) (F : Stop.Interp) :
    ReturnsInHanded {} Try.checked os 9 .any ((Rows.OpenSpec.upto Rows.namesTellsSpec).pre6 enc Try.prog Try.f9 Rows.namesTellsUptoRow.domain false) (((Rows.OpenSpec.upto Rows.namesTellsSpec).at F).post enc Try.prog Try.f9 false true false false) := by
  refine returnsInHanded_of_cond (C := Try.checked) (s := Rows.OpenSpec.upto Rows.namesTellsSpec) (k := Rows.uptoSmall) rfl Ex.Try.own_ started (by kernel_rfl) Try.func9
    (OpenSpec.witness (enc := enc) (C := Try.checked) (s := Rows.OpenSpec.upto Rows.namesTellsSpec) (k := Rows.uptoSmall) rfl false ⟨#[], #[.slice none 0 0, .slice none 0 0, .slice none 0 0, .slice none 0 0, .string .empty], []⟩ 8 (by kernel_rfl) (by kernel_rfl) (by kernel_rfl)
      (x := ([.nil, .nil, .nil, .nil, .lit (.string [])], [], [])) (by kernel_rfl) rfl (by kernel_rfl)) ?_
  intro W base args ds gs before hval hW _ hk _
  exact contract H enc W base args ds gs before hval hW hk

theorem holds : Rows.NamesTellsUptoSaid :=
  OpenClaim.holds_of_cond 9 Try.f9 rfl rfl rfl rfl rfl rfl rfl ⟨rfl, rfl, rfl, rfl, rfl⟩ rfl rfl rfl rfl rfl (by kernel_rfl) Try.func9 (by kernel_rfl)
    (of_decide_eq_true (by kernel_rfl)) (by unfold Func.isWrapper; first | (rw [if_pos (by decide +kernel)]; kernel_rfl) | (rw [if_neg (by decide +kernel)]; exact ⟨rfl, rfl⟩))
    (fun os started H enc _ F => lifted os started H enc F)

end namesTellsP
end Go.Proofs.Ytekamocheffppaa
