/-
  From a law's walk to its statement: how arguments are opened, and what its answer is held against.
-/
import Derived.Test.YtffpglgboaigfaaDoorPure
import Derived.Test.YtffpglgboaigfaaDoorFacts
import Derived.Test.YtffpglgboaigfaaDoorRows
import Derived.Carry
import Derived.Deep.Slices
namespace Go.Proofs.YtffpglgboaigfaaDoor
open Go.ChangeShapes Go.WideShapes Go.ChangeAt Go.RowKit
namespace Ex

theorem Tryd.own_ : ownKnob Tryd.prog.godebug = none := by kernel_rfl
theorem Tryd.laid_ : laidOutB Tryd.prog = true := by kernel_rfl

section
variable {H : Type} {enc : TypeId × Value → H} {P : Program}
theorem trodAll_stays (hl : laidOutB P = true) {W W' : World} {sp' : Nat → Bool} (hsame : Fr no W W') : ∀ {ts : List TypeId} {vs : List Value} {ds : List (DataW H)} {ps : List MemPlace}, (∀ t ∈ ts, P.readableRec t = true ∧ t < P.types.size) →
    DataW.TrodAll enc P W 0 (fun _ => true) true ts vs ds ps → (∀ p ∈ ps, p.block < W.heap.size) → (∀ p ∈ ps, sp' p.block = true) → DataW.TrodAll enc P W' 0 sp' true ts vs ds ps
  | [], [], [], _, _, h, _, _ => h
  | t :: ts, v :: vs, d :: ds, _, hr, ⟨p, q, h1, h2, e⟩, hlt, hs =>
    ⟨p, q, WideElems.Trod_stays hl (hr t (List.mem_cons_self ..)).1 (hr t (List.mem_cons_self ..)).2 h1 (fun x hx => (Fr.below hsame).same (hlt x (by rw [e]; exact List.mem_append_left _ hx))) (fun x hx => hs x (by rw [e]; exact List.mem_append_left _ hx)),
      trodAll_stays hl hsame (fun t ht => hr t (List.mem_cons_of_mem _ ht)) h2 (fun x hx => hlt x (by rw [e]; exact List.mem_append_right _ hx)) (fun x hx => hs x (by rw [e]; exact List.mem_append_right _ hx)), e⟩

/-- The law answered true, and nothing that was there has turned: that is what the row asks. -/
theorem post_true {f : Func} {s : ChangeSpec} {W W' : World} {args : Array Value} {ds gs : List (DataW H)} {before : List MemPlace} {bt : TypeId} (hl : laidOutB P = true) (hr : ∀ t ∈ f.params.toList, P.readableRec t = true ∧ t < P.types.size)
    (hres : f.resultTypes = #[bt]) (hb : P.underlying bt = some .bool) (hvars : s.vars = []) (hW : DataW.Whole enc P f.params.toList s.vars false W args.toList ds gs before)
    (hs : ∀ ds : List (DataW H), ds.length = f.params.size → (s.fn H ds).results = [.lit (.bool true)] ∧ (s.fn H ds).args = ds ∧ (s.fn H ds).vars = []) (hf : Fr no W W') :
    s.post enc P f false true false false W args (.bool true) W' := by
  have hlt := hW.lt
  have hW0 := hW
  obtain ⟨p, q, hA, hV, rfl, hfz, hnd⟩ := hW
  rw [hvars] at hV
  obtain ⟨rfl, rfl⟩ := trodVars_none hV
  have hlen : ∀ {ts : List TypeId} {vs : List Value} {ds : List (DataW H)} {ps : List MemPlace}, DataW.TrodAll enc P W 0 (fun _ => true) true ts vs ds ps → ds.length = ts.length := by
    intro ts
    induction ts with
    | nil => intro vs ds ps h; cases vs <;> cases ds <;> simp_all [DataW.TrodAll]
    | cons t ts ih =>
      intro vs ds ps h
      cases vs <;> cases ds <;> try (simp [DataW.TrodAll] at h; done)
      obtain ⟨_, _, _, h2, _⟩ := h
      simp [ih h2]
  obtain ⟨e1, e2, e3⟩ := hs ds (by rw [hlen hA]; simp)
  refine ⟨ds, [], _, [], p, [], hW0, ?_, ?_, ?_, ?_, fun h => by cases h⟩
  · rw [List.append_nil, e1, hres]
    exact trodAll_mk1 (shut_bool hb true)
  · rw [List.append_nil, e2]
    exact trodAll_stays hl hf hr hA (fun x hx => hlt x (by simpa using hx)) (fun x hx => by simpa using hlt x (by simpa using hx))
  · rw [List.append_nil, e3, hvars]
    exact rfl
  · exact (Fr.below hf).frame _
end

/-! ## Readings -/
def ok64 (n : Int) : Prop := -9223372036854775808 ≤ n ∧ n ≤ 9223372036854775807
theorem ok64_wf {n : Int} (h : (Lit.int .i64 n).wf = true) : ok64 n := by
  simpa [Lit.wf, IntKind.min, IntKind.max, IntKind.signed, IntKind.bits, ok64] using h
/-- whatever reads as a value of type t is what a plain Lean value is written as -/
def RdF (P : Program) (t : TypeId) {α : Type} (e : α → List Value) (ok : α → Prop) : Prop :=
  ∀ {H : Type} (enc : TypeId × Value → H) (w : World) (base : Nat) (sp : Nat → Bool) (held : Bool) (fuel : Nat) (cs : List Value) (x : DataW H × List MemPlace),
    DataW.trod enc P w base sp held fuel t cs = some x → ∃ a, cs = e a ∧ ok a
theorem rd_int {P : Program} {t : TypeId} (h : P.underlying t = some (.int .i64)) : RdF P t intE ok64 := fun _ _ _ _ _ _ _ _ hx => by
  obtain ⟨n, e, _, hw⟩ := DataW.trod_int h hx
  exact ⟨n, e, ok64_wf hw⟩
theorem rd_byte {P : Program} {t : TypeId} (h : P.underlying t = some (.int .u8)) : RdF P t byteE (fun _ => True) := fun _ _ _ _ _ _ _ _ hx => by
  obtain ⟨n, e, _, hw⟩ := DataW.trod_int h hx
  have hw' : 0 ≤ n ∧ n ≤ 255 := by simpa [Lit.wf, IntKind.min, IntKind.max, IntKind.signed, IntKind.bits] using hw
  refine ⟨UInt8.ofNat n.toNat, ?_, trivial⟩
  rw [e]
  have : ((UInt8.ofNat n.toNat).toNat : Int) = n := by
    rw [UInt8.toNat_ofNat_of_lt' (by simp; omega)]; omega
  simp only [byteE, this]
def okStr (s : ByteArray) : Prop := s.size ≤ maxLen
theorem rd_str {P : Program} {t : TypeId} (h : P.underlying t = some .string) : RdF P t strE okStr := fun _ _ _ _ _ _ _ _ hx => by
  obtain ⟨s, e, _, hw⟩ := DataW.trod_string h hx
  exact ⟨s, e, hw⟩
/-- a field of what reads as a struct -/
theorem st_fld {H : Type} {enc : TypeId × Value → H} {P : Program} {w : World} {base : Nat} {sp : Nat → Bool} {held : Bool} {fuel : Nat} {t : TypeId} {cs : List Value} {x : DataW H × List MemPlace} {fs : Array Field} (ht : P.underlying t = some (.struct fs))
    (h : DataW.trod enc P w base sp held fuel t cs = some x) : cs.length = P.cellsOf t ∧ ∃ n, ∀ (j : Nat) (f : Field), fs[j]? = some f → ∃ y, DataW.trod enc P w base sp held n f.type ((cs.drop f.offset).take (P.cellsOf f.type)) = some y := by
  obtain ⟨xs, n, _, _, hl, hlen, hg⟩ := DataW.trod_struct ht h
  refine ⟨hl, n, fun j f hj => ?_⟩
  have hjl : j < xs.length := by rw [hlen]; exact (Array.getElem?_eq_some_iff.1 hj).1
  exact ⟨xs[j], (hg j f hj).trans (List.getElem?_eq_getElem hjl)⟩

theorem rd_val {H : Type} {enc : TypeId × Value → H} {P : Program} {t : TypeId} {α : Type} {e : α → List Value} {ok : α → Prop} (hr : RdF P t e ok) {fs : Array Field} (ht : P.underlying t = some (.struct fs)) {W : World} {r : Reach} {b0 base : Nat} {sp : Nat → Bool} {held : Bool} {v : Value} {d : DataW H} {p : List MemPlace}
    (hv : Value.okWide P W r b0 t v) (h : DataW.Trod enc P W base sp held t v d p) : ∃ a, v = .agg (e a).toArray ∧ ok a := by
  obtain ⟨cs, rfl, _⟩ := okWide_struct ht hv
  obtain ⟨fuel, hf⟩ := h
  obtain ⟨a, ea, ha⟩ := hr _ _ _ _ _ _ _ _ hf
  refine ⟨a, ?_, ha⟩
  rw [← ea]; simp [Value.cells]
theorem rd_slice {H : Type} {enc : TypeId × Value → H} {P : Program} {t et : TypeId} {α : Type} {e : α → List Value} {ok : α → Prop} {k : Nat} (hr : RdF P et e ok) (ht : P.underlying t = some (.slice et)) (hk : P.cellsOf et = k) (hk0 : 0 < k) (he : ∀ a, (e a).length = k) {W : World} {sp : Nat → Bool} {held : Bool} {v : Value} {d : DataW H} {p : List MemPlace}
    (hv : ∃ A n c, v = .slice A n c) (h : DataW.Trod enc P W 0 sp held t v d p) : ∃ l : List α, FlatSl (In W) k e v l W ∧ (∀ a ∈ l, ok a) ∧ ((d = .nil ∧ l = []) ∨ ∃ es sp, d = .slice es sp ∧ es.length = l.length) := by
  obtain ⟨fuel, hf⟩ := h
  obtain ⟨A, n, c, rfl⟩ := hv
  have hf' : DataW.trod enc P W 0 sp held fuel t [.slice A n c] = some (d, p) := hf
  rcases Go.Deep.open_slice ht hf' with ⟨h0, hd0⟩ | ⟨a, len, cap, m, q, Dd, Pl, hcs, _, hl, hm, hmm, hdp, hi⟩
  · simp only [List.cons.injEq, Value.slice.injEq, and_true] at h0
    obtain ⟨rfl, rfl, rfl⟩ := h0
    simp only [Prod.mk.injEq] at hd0
    exact ⟨[], FlatSl.nil_ _ _ _ _, by simp, .inl ⟨hd0.1, rfl⟩⟩
  · simp only [List.cons.injEq, Value.slice.injEq, and_true] at hcs
    obtain ⟨rfl, rfl, rfl⟩ := hcs
    have hlm : n ≤ m := by rw [hmm]; split <;> omega
    have hex : ∀ i, i < n → ∃ x : α, ok x ∧ ∀ (j : Nat) (u : Value), (e x)[j]? = some u → W.cell? ((a.add (i * k)).add j) = some u := by
      intro i hin
      obtain ⟨cs', hc, ht'⟩ := hi i (by omega)
      rw [hk] at hc
      obtain ⟨x, ex, ox⟩ := hr _ _ _ _ _ _ _ _ ht'
      obtain ⟨_, hcl, hat⟩ := World.cells?_some hc
      refine ⟨x, ox, fun j u hu => ?_⟩
      rw [ex] at hat
      have hj : j < k := by rw [← he x]; exact (List.getElem?_eq_some_iff.1 hu).1
      exact (hat j hj).trans hu
    obtain ⟨l, hlen, hl'⟩ : ∃ l : List α, l.length = n ∧ ∀ i x, l[i]? = some x → ok x ∧ ∀ (j : Nat) (u : Value), (e x)[j]? = some u → W.cell? ((a.add (i * k)).add j) = some u := by
      clear hi hf hf' hmm hm hl hlm hdp
      induction n with
      | zero => exact ⟨[], rfl, by simp⟩
      | succ n ih =>
        obtain ⟨l, h1, h2⟩ := ih (fun i hin => hex i (by omega))
        obtain ⟨x, hx⟩ := hex n (by omega)
        refine ⟨l ++ [x], by simp [h1], fun i y hy => ?_⟩
        rw [List.getElem?_append] at hy
        split at hy
        · exact h2 i y hy
        · rename_i hge
          have hin : i = n := by
            have : i - l.length < [x].length := (List.getElem?_eq_some_iff.1 hy).1
            simp at this; omega
          subst hin
          simp [h1] at hy
          subst hy
          exact hx
    subst hlen
    simp only [Prod.mk.injEq] at hdp
    refine ⟨l, ⟨some a, c, rfl, hl, hm, fun hne => ⟨a, rfl, ?_, fun i x hx => (hl' i x hx).2⟩⟩, fun y hy => ?_, .inr ⟨_, _, hdp.1, by simp⟩⟩
    · obtain ⟨y, hy⟩ := List.exists_mem_of_ne_nil l hne
      obtain ⟨i, hi', rfl⟩ := List.getElem_of_mem hy
      have h1 := (hl' i l[i] (List.getElem?_eq_getElem hi')).2 0 ((e l[i])[0]'(by rw [he]; exact hk0)) (List.getElem?_eq_getElem _)
      have := block_lt_of_cell h1
      rwa [add_block, add_block] at this
    · obtain ⟨i, hi', rfl⟩ := List.getElem_of_mem hy
      exact (hl' i _ (List.getElem?_eq_getElem hi')).1
end Ex
end Go.Proofs.YtffpglgboaigfaaDoor
