/-
  Readings of slices whose elements hold slices, and of expressions: by the fuel of the reading.
-/
import Derived.Test.YtffpglgboaigfaaDoorRd
import Derived.Test.YtffpglgboaigfaaDoorDeep
namespace Go.Proofs.YtffpglgboaigfaaDoor
open Go.ChangeShapes Go.WideShapes Go.ChangeAt Go.RowKit
namespace Ex
theorem rdx_slice {H : Type} {enc : TypeId × Value → H} {P : Program} {t et : TypeId} {α : Type} {e : α → List Value} {ok : α → Prop} {k fuel : Nat} {W : World} {sp : Nat → Bool} {held : Bool} (hr : ∀ n, n < fuel → ∀ cs x, DataW.trod enc P W 0 sp held n et cs = some x → ∃ a, cs = e a ∧ ok a) (ht : P.underlying t = some (.slice et)) (hk : P.cellsOf et = k) (hk0 : 0 < k) (he : ∀ a, (e a).length = k) {cs : List Value} {x : DataW H × List MemPlace}
    (hf : DataW.trod enc P W 0 sp held fuel t cs = some x) : ∃ s : SlX α, cs = [.slice s.A s.l.length s.c] ∧ FlatSl (In W) k e (.slice s.A s.l.length s.c) s.l W ∧ ∀ a ∈ s.l, ok a := by
  rcases DataW.trod_slice ht hf with ⟨h0, _⟩ | ⟨a, n, cap, elems, rest, m, hfu, hcs, hx0, _, hl, hm, hlen, hel, hs1, hs2⟩
  · exact ⟨⟨none, 0, []⟩, h0, FlatSl.nil_ _ _ _ _, by simp⟩
  · have hex : ∀ i, i < n → ∃ x : α, ok x ∧ ∀ (j : Nat) (u : Value), (e x)[j]? = some u → W.cell? ((a.add (i * k)).add j) = some u := by
      intro i hin
      have h1 := hel i hin
      rw [List.getElem?_eq_getElem (by omega), Option.bind_eq_some_iff] at h1
      obtain ⟨cs', hc, ht'⟩ := h1
      rw [hk] at hc
      obtain ⟨x, ex, ox⟩ := hr m (by omega) _ _ ht'
      obtain ⟨_, hcl, hat⟩ := World.cells?_some hc
      refine ⟨x, ox, fun j u hu => ?_⟩
      rw [ex] at hat
      have hj : j < k := by rw [← he x]; exact (List.getElem?_eq_some_iff.1 hu).1
      exact (hat j hj).trans hu
    obtain ⟨l, hlen', hl'⟩ : ∃ l : List α, l.length = n ∧ ∀ i x, l[i]? = some x → ok x ∧ ∀ (j : Nat) (u : Value), (e x)[j]? = some u → W.cell? ((a.add (i * k)).add j) = some u := by
      clear hel hlen hl hcs hs1 hs2 hx0
      induction n with
      | zero => exact ⟨[], rfl, by simp⟩
      | succ n ih =>
        obtain ⟨l, h1, h2⟩ := ih (fun i hin => hex i (by omega))
        obtain ⟨x, hx⟩ := hex n (by omega)
        refine ⟨l ++ [x], by simp [h1], fun i y hy => ?_⟩
        rw [List.getElem?_append] at hy
        split at hy
        · exact h2 i y hy
        · rename_i hge
          have hin : i = n := by
            have : i - l.length < [x].length := (List.getElem?_eq_some_iff.1 hy).1
            simp at this; omega
          subst hin
          simp [h1] at hy
          subst hy
          exact hx
    refine ⟨⟨some a, cap, l⟩, by rw [hcs, hlen'], ⟨some a, cap, rfl, by show l.length ≤ cap; omega, hm, fun hne => ⟨a, rfl, ?_, fun i x hx => (hl' i x hx).2⟩⟩, fun y hy => ?_⟩
    · obtain ⟨y, hy⟩ := List.exists_mem_of_ne_nil l hne
      obtain ⟨i, hi', rfl⟩ := List.getElem_of_mem hy
      have h1 := (hl' i l[i] (List.getElem?_eq_getElem hi')).2 0 ((e l[i])[0]'(by rw [he]; exact hk0)) (List.getElem?_eq_getElem _)
      have := block_lt_of_cell h1
      rwa [add_block, add_block] at this
    · obtain ⟨i, hi', rfl⟩ := List.getElem_of_mem hy
      exact (hl' i _ (List.getElem?_eq_getElem hi')).1
/-- what a slice of n things reads as -/
def LenX {H : Type} (d : DataW H) (n : Nat) : Prop := (d = .nil ∧ n = 0) ∨ ∃ es sp, d = .slice es sp ∧ es.length = n
/-- .. and its elements -/
def AllX {H : Type} {α : Type} (ok : α → DataW H → Prop) (d : DataW H) (l : List α) : Prop := ∃ ds : List (DataW H), ((d = .nil ∧ ds = []) ∨ ∃ sp, d = .slice ds sp) ∧ ds.length = l.length ∧ ∀ (i : Nat) (a : α) (e : DataW H), l[i]? = some a → ds[i]? = some e → ok a e
theorem rdx_sliceD {H : Type} {enc : TypeId × Value → H} {P : Program} {t et : TypeId} {α : Type} {e : α → List Value} {ok : α → DataW H → Prop} {k fuel : Nat} {W : World} {sp : Nat → Bool} {held : Bool} (hr : ∀ n, n < fuel → ∀ cs x, DataW.trod enc P W 0 sp held n et cs = some x → ∃ a, cs = e a ∧ ok a x.1) (ht : P.underlying t = some (.slice et)) (hk : P.cellsOf et = k) (hk0 : 0 < k) (he : ∀ a, (e a).length = k) {cs : List Value} {x : DataW H × List MemPlace}
    (hf : DataW.trod enc P W 0 sp held fuel t cs = some x) : ∃ s : SlX α, cs = [.slice s.A s.l.length s.c] ∧ FlatSl (In W) k e (.slice s.A s.l.length s.c) s.l W ∧ AllX ok x.1 s.l := by
  rcases DataW.trod_slice ht hf with ⟨h0, hx0⟩ | ⟨a, n, cap, elems, rest, m, hfu, hcs, hx0, _, hl, hm, hlen, hel, hs1, hs2⟩
  · exact ⟨⟨none, 0, []⟩, h0, FlatSl.nil_ _ _ _ _, [], .inl ⟨by rw [hx0], rfl⟩, rfl, by simp⟩
  · have hex : ∀ i, i < n → ∃ x : α, (∀ y, elems[i]? = some y → ok x y.1) ∧ ∀ (j : Nat) (u : Value), (e x)[j]? = some u → W.cell? ((a.add (i * k)).add j) = some u := by
      intro i hin
      have h1 := hel i hin
      rw [List.getElem?_eq_getElem (by omega), Option.bind_eq_some_iff] at h1
      obtain ⟨cs', hc, ht'⟩ := h1
      rw [hk] at hc
      obtain ⟨x, ex, ox⟩ := hr m (by omega) _ _ ht'
      obtain ⟨_, hcl, hat⟩ := World.cells?_some hc
      refine ⟨x, fun y hy => ?_, fun j u hu => ?_⟩
      · rw [List.getElem?_eq_getElem (by omega)] at hy
        injection hy with hy
        rw [← hy]; exact ox
      rw [ex] at hat
      have hj : j < k := by rw [← he x]; exact (List.getElem?_eq_some_iff.1 hu).1
      exact (hat j hj).trans hu
    obtain ⟨l, hlen', hl'⟩ : ∃ l : List α, l.length = n ∧ ∀ i x, l[i]? = some x → (∀ y, elems[i]? = some y → ok x y.1) ∧ ∀ (j : Nat) (u : Value), (e x)[j]? = some u → W.cell? ((a.add (i * k)).add j) = some u := by
      clear hel hlen hl hcs hs1 hs2 hx0
      induction n with
      | zero => exact ⟨[], rfl, by simp⟩
      | succ n ih =>
        obtain ⟨l, h1, h2⟩ := ih (fun i hin => hex i (by omega))
        obtain ⟨x, hx⟩ := hex n (by omega)
        refine ⟨l ++ [x], by simp [h1], fun i y hy => ?_⟩
        rw [List.getElem?_append] at hy
        split at hy
        · exact h2 i y hy
        · rename_i hge
          have hin : i = n := by
            have : i - l.length < [x].length := (List.getElem?_eq_some_iff.1 hy).1
            simp at this; omega
          subst hin
          simp [h1] at hy
          subst hy
          exact hx
    refine ⟨⟨some a, cap, l⟩, by rw [hcs, hlen'], ⟨some a, cap, rfl, by show l.length ≤ cap; omega, hm, fun hne => ⟨a, rfl, ?_, fun i x hx => (hl' i x hx).2⟩⟩, elems.map (·.1), .inr ⟨_, by rw [hx0]⟩, by rw [List.length_map]; show elems.length = l.length; omega, fun i y d hy hd => ?_⟩
    · obtain ⟨y, hy⟩ := List.exists_mem_of_ne_nil l hne
      obtain ⟨i, hi', rfl⟩ := List.getElem_of_mem hy
      have h1 := (hl' i l[i] (List.getElem?_eq_getElem hi')).2 0 ((e l[i])[0]'(by rw [he]; exact hk0)) (List.getElem?_eq_getElem _)
      have := block_lt_of_cell h1
      rwa [add_block, add_block] at this
    · rw [List.getElem?_map] at hd
      obtain ⟨z, hz, rfl⟩ := Option.map_eq_some_iff.1 hd
      exact (hl' i y hy).1 z hz
theorem AllX.len {H : Type} {α : Type} {ok : α → DataW H → Prop} {d : DataW H} {l : List α} (h : AllX ok d l) : LenX d l.length := by
  obtain ⟨ds, h1, h2, _⟩ := h
  rcases h1 with ⟨h1, rfl⟩ | ⟨sp, h1⟩
  · exact .inl ⟨h1, h2.symm⟩
  · exact .inr ⟨_, _, h1, h2⟩
def LineD {H : Type} (a : LineX) (d : DataW H) : Prop := ∃ d1 d2, d = .agg [d1, d2] ∧ LenX d1 a.sr.l.length ∧ LenX d2 a.sm.l.length
def RdXD (P : Program) (t : TypeId) {α : Type} (e : α → List Value) (ok : {H : Type} → α → World → DataW H → Prop) : Prop :=
  ∀ {H : Type} (enc : TypeId × Value → H) (W : World) (sp : Nat → Bool) (held : Bool) (fuel : Nat) (cs : List Value) (x : DataW H × List MemPlace), DataW.trod enc P W 0 sp held fuel t cs = some x → ∃ a, cs = e a ∧ ok a W x.1
theorem open_xsD {H : Type} {enc : TypeId × Value → H} {P : Program} {t et : TypeId} {α : Type} {e : α → List Value} {ok : {H : Type} → α → World → DataW H → Prop} {k : Nat} (hr : RdXD P et e ok) (ht : P.underlying t = some (.slice et)) (hk : P.cellsOf et = k) (hk0 : 0 < k) (he : ∀ a, (e a).length = k) {W : World} {sp : Nat → Bool} {held : Bool} {v : Value} {d : DataW H} {p : List MemPlace}
    (hv : ∃ A n c, v = .slice A n c) (h : DataW.Trod enc P W 0 sp held t v d p) : ∃ l : List α, FlatSl (In W) k e v l W ∧ AllX (fun a d => ok a W d) d l := by
  obtain ⟨fuel, hf⟩ := h
  obtain ⟨A, n, c, rfl⟩ := hv
  obtain ⟨s, h1, h2, h3⟩ := rdx_sliceD (ok := fun a d => ok a W d) (fun n _ cs x hx => hr enc W sp held n cs x hx) ht hk hk0 he hf
  have h1 : [Value.slice A n c] = [.slice s.A s.l.length s.c] := h1
  injection h1 with h1
  exact ⟨s.l, by rw [h1]; exact h2, h3⟩
theorem AllX.all {H : Type} {α : Type} {ok : α → DataW H → Prop} {d : DataW H} {l : List α} (h : AllX ok d l) : ∀ a ∈ l, ∃ e, ok a e ∧ ∃ ds sp, d = .slice ds sp ∧ e ∈ ds := fun a ha => by
  obtain ⟨ds, h1, h2, h3⟩ := h
  obtain ⟨i, hi⟩ := List.mem_iff_getElem?.1 ha
  have hlt := (List.getElem?_eq_some_iff.1 hi).1
  have hd : ds[i]? = some (ds[i]'(by omega)) := List.getElem?_eq_getElem _
  refine ⟨_, h3 i a _ hi hd, ds, ?_⟩
  rcases h1 with ⟨_, rfl⟩ | ⟨sp, h1⟩
  · exfalso; have h2 : 0 = l.length := h2; omega
  · exact ⟨sp, h1, List.mem_of_getElem? hd⟩
theorem stx_fldD {H : Type} {enc : TypeId × Value → H} {P : Program} {w : World} {base : Nat} {sp : Nat → Bool} {held : Bool} {fuel : Nat} {t : TypeId} {cs : List Value} {x : DataW H × List MemPlace} {fs : Array Field} (ht : P.underlying t = some (.struct fs))
    (h : DataW.trod enc P w base sp held fuel t cs = some x) : cs.length = P.cellsOf t ∧ ∃ (n : Nat) (xs : List (DataW H × List MemPlace)), fuel = n + 1 ∧ x.1 = .agg (xs.map (·.1)) ∧ xs.length = fs.size ∧ ∀ (j : Nat) (f : Field), fs[j]? = some f → DataW.trod enc P w base sp held n f.type ((cs.drop f.offset).take (P.cellsOf f.type)) = xs[j]? := by
  obtain ⟨xs, n, hn, hx, hl, hlen, hg⟩ := DataW.trod_struct ht h
  exact ⟨hl, n, xs, hn, by rw [hx], hlen, hg⟩
theorem pair2 {α : Type} {l : List α} (h : l.length = 2) : ∃ a b, l = [a, b] := by
  match l, h with
  | [a, b], _ => exact ⟨a, b, rfl⟩
theorem stx_fld {H : Type} {enc : TypeId × Value → H} {P : Program} {w : World} {base : Nat} {sp : Nat → Bool} {held : Bool} {fuel : Nat} {t : TypeId} {cs : List Value} {x : DataW H × List MemPlace} {fs : Array Field} (ht : P.underlying t = some (.struct fs))
    (h : DataW.trod enc P w base sp held fuel t cs = some x) : cs.length = P.cellsOf t ∧ ∃ n, fuel = n + 1 ∧ ∀ (j : Nat) (f : Field), fs[j]? = some f → ∃ y, DataW.trod enc P w base sp held n f.type ((cs.drop f.offset).take (P.cellsOf f.type)) = some y := by
  obtain ⟨xs, n, hn, _, hl, hlen, hg⟩ := DataW.trod_struct ht h
  refine ⟨hl, n, hn, fun j f hj => ?_⟩
  have hjl : j < xs.length := by rw [hlen]; exact (Array.getElem?_eq_some_iff.1 hj).1
  exact ⟨xs[j], (hg j f hj).trans (List.getElem?_eq_getElem hjl)⟩
/-- a reading that is told at any fuel -/
def RdX (P : Program) (t : TypeId) {α : Type} (e : α → List Value) (ok : α → World → Prop) : Prop :=
  ∀ {H : Type} (enc : TypeId × Value → H) (W : World) (sp : Nat → Bool) (held : Bool) (fuel : Nat) (cs : List Value) (x : DataW H × List MemPlace), DataW.trod enc P W 0 sp held fuel t cs = some x → ∃ a, cs = e a ∧ ok a W
theorem RdF.x {P : Program} {t : TypeId} {α : Type} {e : α → List Value} {ok : α → Prop} (h : RdF P t e ok) : RdX P t e (fun a _ => ok a) := fun enc W sp held fuel cs x hx => h enc W 0 sp held fuel cs x hx
theorem open_xs {H : Type} {enc : TypeId × Value → H} {P : Program} {t et : TypeId} {α : Type} {e : α → List Value} {ok : α → World → Prop} {k : Nat} (hr : RdX P et e ok) (ht : P.underlying t = some (.slice et)) (hk : P.cellsOf et = k) (hk0 : 0 < k) (he : ∀ a, (e a).length = k) {W : World} {sp : Nat → Bool} {held : Bool} {v : Value} {d : DataW H} {p : List MemPlace}
    (hv : ∃ A n c, v = .slice A n c) (h : DataW.Trod enc P W 0 sp held t v d p) : ∃ l : List α, FlatSl (In W) k e v l W ∧ ∀ a ∈ l, ok a W := by
  obtain ⟨fuel, hf⟩ := h
  obtain ⟨A, n, c, rfl⟩ := hv
  obtain ⟨s, h1, h2, h3⟩ := rdx_slice (ok := fun a => ok a W) (fun n _ cs x hx => hr enc W sp held n cs x hx) ht hk hk0 he hf
  have h1 : [Value.slice A n c] = [.slice s.A s.l.length s.c] := h1
  injection h1 with h1
  exact ⟨s.l, by rw [h1]; exact h2, h3⟩
theorem open_x {H : Type} {enc : TypeId × Value → H} {P : Program} {t : TypeId} {α : Type} {e : α → List Value} {ok : α → World → Prop} (hr : RdX P t e ok) {W : World} {sp : Nat → Bool} {held : Bool} {v : Value} {d : DataW H} {p : List MemPlace}
    (hv : ∃ cs : Array Value, v = .agg cs) (h : DataW.Trod enc P W 0 sp held t v d p) : ∃ a, v = .agg (e a).toArray ∧ ok a W := by
  obtain ⟨fuel, hf⟩ := h
  obtain ⟨cs, rfl⟩ := hv
  obtain ⟨a, h1, h2⟩ := hr enc W sp held fuel _ _ hf
  refine ⟨a, ?_, h2⟩
  rw [← h1]; simp [Value.cells]
theorem okWide_aggX {P : Program} {t : TypeId} {fs : Array Field} (ht : P.underlying t = some (.struct fs)) {W : World} {r : Reach} {b0 : Nat} {v : Value} (hv : Value.okWide P W r b0 t v) : ∃ cs : Array Value, v = .agg cs := (okWide_struct ht hv).elim fun cs h => ⟨cs, h.1⟩
end Ex
end Go.Proofs.YtffpglgboaigfaaDoor
