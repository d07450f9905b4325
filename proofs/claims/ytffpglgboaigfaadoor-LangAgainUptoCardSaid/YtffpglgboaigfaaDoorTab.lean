/-
  A table of the library's that the program's start lays; texts in a row.
-/
import Derived.Test.YtffpglgboaigfaaDoorPText
import Derived.Lib.LaidTab
import Derived.Lib.Itoa
import Derived.Sort.Grow
namespace Go.Proofs.YtffpglgboaigfaaDoor
namespace Ex
open Go.Lib
/-- a package's table, as its initialiser lays it, on blocks of S -/
def TabOk (P : Program) (name : String) (k : IntKind) (zs : List Int) (S : Nat → Prop) (w : World) : Prop := (∀ g, P.globalNamed name = some g → S g) ∧ TabIs P w name k zs
theorem TabOk.loc (P : Program) (name : String) (k : IntKind) (zs : List Int) : Loc (TabOk P name k zs) := fun S S' u u' hs hk h => by
  refine ⟨fun g hg => hs _ (h.1 g hg), ?_⟩
  have h2 := h.2
  unfold TabIs World.var? at h2 ⊢
  cases hg : P.globalNamed name with
  | none => rw [hg] at h2; cases h2
  | some g => rw [hg] at h2; simp only [Option.bind_some] at h2 ⊢; rw [hk _ (h.1 g hg)]; exact h2
theorem Fr.of_grow {w : World} (k : Nat) (os : Array Obj) : Fr no w (Go.Sort.grow (w.drewN k) os) := by
  refine ⟨rfl, ?_, rfl, ?_, fun j hj _ => ?_⟩
  · show (w.drewN k).tape = w.tape
    induction k <;> first | rfl | assumption
  · show w.heap.size ≤ ((w.drewN k).heap ++ os).size
    rw [Array.size_append]
    exact Nat.le_add_right _ _
  · show ((w.drewN k).heap ++ os)[j]? = w.heap[j]?
    exact Array.getElem?_append_left hj
theorem strs_at {Sb : Nat → Prop} {v : Value} {l : List ByteArray} {w : World} (h : FlatSl Sb 1 strE v l w) (hne : l ≠ []) :
    ∃ bk o c, v = .slice (some ⟨bk, o, none⟩) l.length c ∧ l.length ≤ c ∧ Sb bk ∧ ∀ (j : Nat) (x : ByteArray), l[j]? = some x → w.cell? ⟨bk, o + j, none⟩ = some (.string x) := by
  obtain ⟨A, c, rfl, h1, h2, h3⟩ := h
  obtain ⟨ad, rfl, hb, hc⟩ := h3 hne
  obtain ⟨bk, o, sp⟩ := ad
  have hcell : ∀ (j : Nat) (x : ByteArray), l[j]? = some x → w.cell? ((Addr.mk bk o sp).add j) = some (.string x) := fun j x hj => by
    have := hc j x hj 0 (.string x) rfl
    rw [Nat.mul_one] at this
    exact this
  obtain ⟨x, hx⟩ : ∃ x, l[0]? = some x := by
    cases l with
    | nil => exact absurd rfl hne
    | cons x _ => exact ⟨x, rfl⟩
  have h0 := hcell 0 x hx
  have hs : sp = none := by
    cases sp with
    | none => rfl
    | some z =>
      unfold World.cell? at h0
      split at h0
      · simp [Addr.add] at h0
      · cases h0
  subst hs
  refine ⟨bk, o, c, rfl, h1, hb, fun j x hj => ?_⟩
  have := hcell j x hj
  unfold Addr.add at this
  split at this
  · rename_i e; subst e; simpa using this
  · exact this
/-- what lies in a row, by its address -/
theorem Mem.celAt {α : Type} {w0 w : World} {M : Fp} {L : List Own} {k len c i : Nat} {enc : α → List Value} {l : List α} {A : Option Addr} {ad : Addr} {a : α} (h : Mem w0 M L w) (q : Nat) (hL : L[q]? = some (slP k enc (.slice A len c) l)) (hA : A = some ad) (hi : l[i]? = some a) : Mem w0 M (celP (ad.add (i * k)) (enc a) :: L) w :=
  h.note (CelAt.loc _ _) fun _ pp => cel_of (pp.at_ q _ hL) hA hi
end Ex
end Go.Proofs.YtffpglgboaigfaaDoor
