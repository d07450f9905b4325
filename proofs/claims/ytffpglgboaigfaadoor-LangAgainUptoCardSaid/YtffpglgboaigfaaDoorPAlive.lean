/-
  A closed fact on one text; what printing and parsing tell of each other; what kinds have, field by field.
-/
import Derived.Test.YtffpglgboaigfaaDoorPBack
import Derived.Test.YtffpglgboaigfaaDoorPSame
namespace Go.Proofs.YtffpglgboaigfaaDoor
namespace Pz
open Ex Mn
set_option linter.unusedVariables false
def s0 : ByteArray := ⟨#[97, 108, 108, 32, 115, 117, 109, 32, 98, 121, 32, 104, 111, 115, 116, 32, 40, 114, 105, 115, 101, 40, 123, 106, 111, 98, 61, 119, 101, 98, 44, 33, 116, 101, 115, 116, 125, 91, 54, 48, 93, 41, 41, 32, 42, 32, 50]⟩
def e0 : Expr := (.mk 4 0 0 ⟨#[42]⟩ [] [] [.mk 3 0 0 ⟨#[115, 117, 109]⟩ [] [⟨#[104, 111, 115, 116]⟩] [.mk 2 0 60 ⟨#[114, 105, 115, 101]⟩ [⟨1, ⟨#[106, 111, 98]⟩, ⟨#[119, 101, 98]⟩⟩, ⟨4, ⟨#[116, 101, 115, 116]⟩, ⟨#[]⟩⟩] [] []], .mk 1 2 0 ⟨#[]⟩ [] [] []])
theorem parse_s0 : parse s0 = (e0, (0, 0)) := by decide +kernel
theorem print_e0 : Lg.print e0 = (s0.data.toList, 0) := by decide +kernel
theorem vector_e0 : Lg.vector e0 = true := by decide +kernel
theorem typed_e0 : Lg.typed e0 = 0 := by decide +kernel
theorem of_s0 {e : Expr} {a b : Int} (h : parse s0 = (e, (a, b))) : e = e0 ∧ a = 0 ∧ b = 0 := by
  rw [parse_s0] at h
  injection h with h1 h2
  injection h2 with h3 h4
  exact ⟨h1.symm, h3.symm, h4.symm⟩
theorem print_cases (e : Expr) : (Lg.print e).2 = 0 ∧ Lg.wrong e = 0 ∧ (Lg.txt e 0).length ≤ 2000 ∧ (Lg.print e).1 = Lg.txt e 0 ∨ (Lg.print e).2 ≠ 0 ∧ (Lg.print e).1 = [] ∧ (Lg.wrong e = 0 → (Lg.print e).2 = 4) := by
  unfold Lg.print
  split
  · rename_i h; exact .inr ⟨h, rfl, fun g => absurd g h⟩
  · rename_i h
    split
    · exact .inr ⟨by decide, rfl, fun _ => rfl⟩
    · exact .inl ⟨rfl, Classical.not_not.1 h, by omega, rfl⟩
theorem print_no {e : Expr} (h : (Lg.print e).2 ≠ 0) : (⟨(Lg.print e).1.toArray⟩ : ByteArray) = ⟨#[]⟩ := by
  rcases print_cases e with ⟨h1, _⟩ | ⟨_, h2, _⟩
  · exact absurd h1 h
  · rw [h2]
theorem print_much {e : Expr} (hw : Lg.wrong e = 0) (h : (Lg.print e).2 ≠ 0) : (Lg.print e).2 = 4 := by
  rcases print_cases e with ⟨h1, _⟩ | ⟨_, _, h2⟩
  · exact absurd h1 h
  · exact h2 hw
theorem print_right {e : Expr} (h : (Lg.print e).2 = 0) : Lg.wrong e = 0 := by
  rcases print_cases e with ⟨_, h1, _⟩ | ⟨h1, _⟩
  · exact h1
  · exact absurd h h1
/-- what is printed is parsed -/
theorem turns {e x : Expr} {a b : Int} (h : (Lg.print e).2 = 0) (hp : parse ⟨(Lg.print e).1.toArray⟩ = (x, (a, b))) : x = bare e ∧ a = 0 ∧ b = 0 := by
  rcases print_cases e with ⟨_, h1, h2, h3⟩ | ⟨h1, _⟩
  · rw [h3, back h1 h2] at hp
    injection hp with e1 e2
    injection e2 with e3 e4
    exact ⟨e1.symm, e3.symm, e4.symm⟩
  · exact absurd h h1
theorem parse_none {s : ByteArray} {e : Expr} {f : F} (h : parse s = (e, f)) (hf : f.1 ≠ 0) : e = none_ := by
  unfold parse at h
  split at h
  · injection h with h1 _; exact h1.symm
  · split at h
    · injection h with h1 _; exact h1.symm
    · split at h
      · injection h with h1 _; exact h1.symm
      · split at h
        · injection h with h1 _; exact h1.symm
        · injection h with h1 h2; rw [← h2] at hf; exact absurd rfl hf
/-! ## Field by field -/
theorem bareX_1 {x : ExprX} (h : x.kind = 1) : bare x.e = .mk x.kind x.n 0 ⟨#[]⟩ [] [] (bares (x.kids.l.map ExprX.e)) := by rw [ExprX.e_eq x, bare, if_pos h]
theorem bareX_2 {x : ExprX} (h1 : ¬ x.kind = 1) (h : x.kind = 2) : bare x.e = .mk x.kind 0 x.range x.word (x.ms.l.map bareM) [] (bares (x.kids.l.map ExprX.e)) := by rw [ExprX.e_eq x, bare, if_neg h1, if_pos h]
theorem bareX_3 {x : ExprX} (h1 : ¬ x.kind = 1) (h2 : ¬ x.kind = 2) (h : x.kind = 3) : bare x.e = .mk x.kind 0 0 x.word [] x.by_.l (bares (x.kids.l.map ExprX.e)) := by rw [ExprX.e_eq x, bare, if_neg h1, if_neg h2, if_pos h]
theorem bareX_4 {x : ExprX} (h1 : ¬ x.kind = 1) (h2 : ¬ x.kind = 2) (h3 : ¬ x.kind = 3) : bare x.e = .mk x.kind 0 0 x.word [] [] (bares (x.kids.l.map ExprX.e)) := by rw [ExprX.e_eq x, bare, if_neg h1, if_neg h2, if_neg h3]
theorem bares_take {l : List ExprX} {m : List ExprX} {k : Nat} {x z : ExprX} (h : m.map ExprX.e = bares ((l.take k).map ExprX.e)) (hx : l[k]? = some x) (hz : z.e = bare x.e) : (m ++ [z]).map ExprX.e = bares ((l.take (k + 1)).map ExprX.e) := by
  rw [List.take_add_one, hx, Option.toList_some, List.map_append, List.map_append, bares_map, List.map_append, ← bares_map, h, List.map_cons, List.map_nil, hz]; rfl
theorem ms_take {l m : List Match} {k : Nat} {x z : Match} (h : m = (l.take k).map bareM) (hx : l[k]? = some x) (hz : z = bareM x) : m ++ [z] = (l.take (k + 1)).map bareM := by
  rw [List.take_add_one, hx, Option.toList_some, List.map_append, ← h, hz]; rfl
theorem bareM_yes {m : Match} (h : 2 < m.kind) : (⟨m.kind, m.key, ⟨#[]⟩⟩ : Match) = bareM m := by unfold bareM; rw [if_pos h]
theorem bareM_no {m : Match} (h : ¬ 2 < m.kind) : m = bareM m := by unfold bareM; rw [if_neg h]
theorem bareMs_str {l : List Match} (h : ∀ x ∈ l, x.key.size ≤ 9223372036854775807 ∧ x.val.size ≤ 9223372036854775807) : ∀ x ∈ l.map bareM, x.key.size ≤ 9223372036854775807 ∧ x.val.size ≤ 9223372036854775807 := by
  intro x hx
  obtain ⟨y, hy, rfl⟩ := List.mem_map.1 hx
  have := h y hy
  unfold bareM
  split
  · exact ⟨this.1, by show ByteArray.size ⟨#[]⟩ ≤ _; decide⟩
  · exact this
end Pz
end Go.Proofs.YtffpglgboaigfaaDoor
