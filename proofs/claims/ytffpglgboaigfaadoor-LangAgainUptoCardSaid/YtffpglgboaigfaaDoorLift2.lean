/-
  Readings of slices that lie in structs.
-/
import Derived.Test.YtffpglgboaigfaaDoorRd
namespace Go.Proofs.YtffpglgboaigfaaDoor
open Go.ChangeShapes Go.WideShapes Go.ChangeAt Go.RowKit
namespace Ex
/-- what a slice of n things reads as -/
def LenD {H : Type} (d : DataW H) (n : Nat) : Prop := (d = .nil ∧ n = 0) ∨ ∃ es sp, d = .slice es sp ∧ es.length = n
theorem rd_sliceF {H : Type} {enc : TypeId × Value → H} {P : Program} {t et : TypeId} {α : Type} {e : α → List Value} {ok : α → Prop} {k : Nat} (hr : RdF P et e ok) (ht : P.underlying t = some (.slice et)) (hk : P.cellsOf et = k) (hk0 : 0 < k) (he : ∀ a, (e a).length = k) {W : World} {sp : Nat → Bool} {held : Bool} {fuel : Nat} {v : Value} {x : DataW H × List MemPlace}
    (hf : DataW.trod enc P W 0 sp held fuel t [v] = some x) : ∃ l : List α, FlatSl (In W) k e v l W ∧ (∀ a ∈ l, ok a) ∧ LenD x.1 l.length := by
  have hv : ∃ A n c, v = .slice A n c := by
    rcases DataW.trod_slice ht hf with ⟨h0, _⟩ | ⟨a, len, cap, _, _, _, _, h0, _⟩
    · exact ⟨_, _, _, by simpa using h0⟩
    · exact ⟨_, _, _, by simpa using h0⟩
  have hc : v.cells.toList = [v] := by obtain ⟨A, n, c, rfl⟩ := hv; rfl
  obtain ⟨l, h1, h2, h3⟩ := rd_slice (v := v) (d := x.1) (p := x.2) hr ht hk hk0 he hv ⟨fuel, by rw [hc]; exact hf⟩
  refine ⟨l, h1, h2, ?_⟩
  rcases h3 with ⟨h3, h4⟩ | h3
  · exact .inl ⟨h3, by rw [h4]; rfl⟩
  · exact .inr h3
theorem okWide_agg {P : Program} {t : TypeId} {fs : Array Field} (ht : P.underlying t = some (.struct fs)) {W : World} {r : Reach} {b0 : Nat} {v : Value} (hv : Value.okWide P W r b0 t v) : ∃ cs : Array Value, v = .agg cs := (okWide_struct ht hv).elim fun cs h => ⟨cs, h.1⟩
theorem rd_deep {H : Type} {enc : TypeId × Value → H} {P : Program} {t : TypeId} {fs : Array Field} (ht : P.underlying t = some (.struct fs)) {W : World} {base : Nat} {sp : Nat → Bool} {held : Bool} {v : Value} {d : DataW H} {p : List MemPlace}
    (hv : ∃ cs : Array Value, v = .agg cs) (h : DataW.Trod enc P W base sp held t v d p) : ∃ (cs : List Value) (xs : List (DataW H × List MemPlace)) (n : Nat), v = .agg cs.toArray ∧ d = .agg (xs.map (·.1)) ∧ cs.length = P.cellsOf t ∧ xs.length = fs.size ∧
      ∀ (j : Nat) (f : Field), fs[j]? = some f → DataW.trod enc P W base sp held n f.type ((cs.drop f.offset).take (P.cellsOf f.type)) = xs[j]? := by
  obtain ⟨cs, rfl⟩ := hv
  obtain ⟨fuel, hf⟩ := h
  obtain ⟨xs, n, _, hx, hl, hlen, hg⟩ := DataW.trod_struct ht hf
  rw [show (Value.agg cs).cells.toList = cs.toList by simp [Value.cells]] at hl hg
  injection hx with hx _
  exact ⟨cs.toList, xs, n, by simp, hx, hl, hlen, hg⟩
theorem list9 {α : Type} {l : List α} (h : l.length = 9) : ∃ c0 c1 c2 c3 c4 c5 c6 c7 c8, l = [c0, c1, c2, c3, c4, c5, c6, c7, c8] := by
  match l, h with
  | [c0, c1, c2, c3, c4, c5, c6, c7, c8], _ => exact ⟨_, _, _, _, _, _, _, _, _, rfl⟩
end Ex
end Go.Proofs.YtffpglgboaigfaaDoor
