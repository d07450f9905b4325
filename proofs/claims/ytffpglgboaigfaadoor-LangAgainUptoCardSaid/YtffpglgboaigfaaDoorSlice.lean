/-
  Parts of slices; pairs laid into a map one behind the other.
-/
import Derived.Test.YtffpglgboaigfaaDoorMaps
namespace Go.Proofs.YtffpglgboaigfaaDoor
namespace Ex
set_option linter.unusedSimpArgs false

def lob (E : Env) : Option Operand → Nat → Prop
  | none, lo => lo = 0
  | some y, lo => ∃ k m, ev E y = some (.int k m) ∧ m = (lo : Int)
def hib (E : Env) (len : Nat) : Option Operand → Nat → Prop
  | none, hi => hi = len
  | some y, hi => ∃ k m, ev E y = some (.int k m) ∧ m = (hi : Int)
theorem lo0 {E : Env} : lob E none 0 := rfl
theorem lo1 {E : Env} {y : Operand} {k : IntKind} {m : Int} {lo : Nat} (h : ev E y = some (.int k m)) (hm : m = (lo : Int)) : lob E (some y) lo := ⟨k, m, h, hm⟩
theorem hi0 {E : Env} {n : Nat} : hib E n none n := rfl
theorem hi1 {E : Env} {y : Operand} {k : IntKind} {m : Int} {n hi : Nat} (h : ev E y = some (.int k m)) (hm : m = (hi : Int)) : hib E n (some y) hi := ⟨k, m, h, hm⟩
def subA (A : Option Addr) (k c lo : Nat) : Option Addr := if c = lo then A else A.map (·.add (lo * k))

section
variable {P : Program} {N : Nat} {D : List Deferred} {E : Env} {S : World → Prop} {Q : Exit → Act → World → Prop} {w0 w : World} {M : Fp} {L : List Own} {α : Type} {enc : α → List Value} {k : Nat} {l : List α} {A : Option Addr} {c lo hi : Nat} {Sb : Nat → Prop}
  {ops : Array Oper} {rest : List Oper} {d : Nat} {e ty T T' : TypeId} {pos : String} {aft : Array Edge} {g : Option (Nat × Bool)} {v u : Value} {x : Operand} {y z : Option Operand}

theorem r_dsl {len by1 : Nat} {zv : Value} (hx : ev E x = some (.slice A len c)) (hy : lob E y lo) (hz : hib E len z hi) (h1 : lo ≤ hi) (h2 : hi ≤ len) (h3 : len ≤ c) (hu : P.underlying T = some (.slice e)) (hs : Inf P e k by1 zv) : Runs P N D E S (.slice T x y z none) ty (.slice (subA A k c lo) (hi - lo) (c - lo)) := fun o ho hty a w ha _ => by
  have hb : (Instr.sliceBounds true len c (y.map a.eval) (z.map a.eval) none).run P w = .ok (lo, hi, c) w := by
    cases y with
    | none =>
      obtain rfl : lo = 0 := hy
      cases z with
      | none =>
        obtain rfl : hi = len := hz
        simp [Instr.sliceBounds]
      | some z =>
        obtain ⟨k2, m2, hz1, rfl⟩ := hz
        have h4 : hi ≤ c := by omega
        simp [Instr.sliceBounds, ha.eval hz1, Instr.sliceBound, asIntOf, h4]
    | some y =>
      obtain ⟨k1, m1, hy1, rfl⟩ := hy
      cases z with
      | none =>
        obtain rfl : hi = len := hz
        have h4 : lo ≤ hi := by omega
        simp [Instr.sliceBounds, ha.eval hy1, Instr.sliceBound, asIntOf, h4]
      | some z =>
        obtain ⟨k2, m2, hz1, rfl⟩ := hz
        have h4 : hi ≤ c := by omega
        have h5 : lo ≤ hi := by omega
        simp [Instr.sliceBounds, ha.eval hy1, ha.eval hz1, Instr.sliceBound, asIntOf, h4, h5]
  unfold execOp; rw [ho]
  simp only [ha.eval hx, Option.map_none, Sem.run_bind, Instr.sliceAt, run_underlying hu, Result.andThen_ok]
  simp only [Instr.slice, Sem.run_bind, run_underlying hu, Result.andThen_ok, hb, run_sizeOf' hs, Sem.run_pure, subA]
theorem sub_len (h2 : hi ≤ l.length) : ((l.take hi).drop lo).length = hi - lo := by simp; omega
theorem FlatSl.sub (h : FlatSl Sb k enc (.slice A l.length c) l w) (h1 : lo ≤ hi) (h2 : hi ≤ l.length) : FlatSl Sb k enc (.slice (subA A k c lo) (hi - lo) (c - lo)) ((l.take hi).drop lo) w := by
  obtain ⟨A', c', e1, e2, e3, h4⟩ := h
  injection e1 with f1 _ f3
  subst f1 f3
  refine ⟨subA A k c lo, c - lo, by rw [sub_len h2], by rw [sub_len h2]; omega, by omega, fun hne => ?_⟩
  have hlt : lo < hi := by
    rcases Nat.lt_or_ge lo hi with h | h
    · exact h
    · exact absurd (List.eq_nil_of_length_eq_zero (by rw [sub_len h2]; omega)) hne
  obtain ⟨ad, rfl, hb, hc⟩ := h4 (by rintro rfl; simp at h2; omega)
  refine ⟨ad.add (lo * k), by unfold subA; rw [if_neg (by omega)]; rfl, by rw [add_block]; exact hb, fun i x hi' j u hu => ?_⟩
  have : l[lo + i]? = some x := by
    rw [List.getElem?_drop, List.getElem?_take] at hi'
    split at hi'
    · exact hi'
    · cases hi'
  have h5 := hc (lo + i) x this j u hu
  rw [add_add, add_add] at *
  rw [Nat.add_mul, Nat.add_assoc] at h5
  exact h5
theorem FlatSl.subOf {v : Value} {sub : List α} (h : FlatSl Sb k enc (.slice A l.length c) l w) (h1 : lo ≤ hi) (h2 : hi ≤ l.length) (hs : (l.take hi).drop lo = sub) (hv : v = .slice (subA A k c lo) (hi - lo) (c - lo)) : FlatSl Sb k enc v sub w := by
  subst hs hv; exact h.sub h1 h2
/-- a part of what was laid down for good -/
theorem l_dslP (q : Nat) {by1 : Nat} {zv : Value} (sub : List α) (hw : Want N D ops E g true) (hx : ev E x = some (.slice A l.length c)) (hL : L[q]? = some (slP k enc (.slice A l.length c) l)) (hy : lob E y lo) (hz : hib E l.length z hi) (h1 : lo ≤ hi) (h2 : hi ≤ l.length) (h3 : l.length ≤ c) (hs : (l.take hi).drop lo = sub) (hu : P.underlying T = some (.slice e)) (hi_ : Inf P e k by1 zv) (hd : Nat.blt d N = true)
    (h : ∀ A' c', sub.length ≤ c' → c' ≤ 9223372036854775807 → (sub ≠ [] → ∃ ad, A' = some ad) → WL P N D ops Q rest ((d, .slice A' sub.length c') :: E) (Mem w0 M (slP k enc (.slice A' sub.length c') sub :: L))) :
    WL P N D ops Q (⟨some d, .slice T x y z none, ty, pos, aft, g⟩ :: rest) E (Mem w0 M L) := by
  refine l_genS hw hd fun o ho hty a w ha hS => ?_
  have hr := r_dsl (P := P) (N := N) (D := D) (S := fun _ => True) (ty := ty) hx hy hz h1 h2 h3 hu hi_ o ho hty a w ha trivial
  have hf := (hS.slp q hL).sub (lo := lo) h1 h2
  rw [hs] at hf
  obtain ⟨A', c', e1, f1, f2, f3⟩ := hf.form
  refine ⟨_, w, hr, _, ?_, by rw [e1]; exact h A' c' f1 f2 f3⟩
  refine hS.note (FlatSl.loc _ _ _ _) fun Pb hp => ?_
  have := (hp.sl q hL).sub (lo := lo) h1 h2
  rw [hs, e1] at this
  exact this
theorem l_dslD (q : Nat) {by1 : Nat} {zv : Value} (sub : List α) (hw : Want N D ops E g true) (hx : ev E x = some (.slice A l.length c)) (hL : L[q]? = some (slO Sb k enc (.slice A l.length c) l)) (hy : lob E y lo) (hz : hib E l.length z hi) (h1 : lo ≤ hi) (h2 : hi ≤ l.length) (h3 : l.length ≤ c) (hs : (l.take hi).drop lo = sub) (hu : P.underlying T = some (.slice e)) (hi_ : Inf P e k by1 zv) (hd : Nat.blt d N = true)
    (h : ∀ A' c', sub.length ≤ c' → c' ≤ 9223372036854775807 → (sub ≠ [] → ∃ ad, A' = some ad) → WL P N D ops Q rest ((d, .slice A' sub.length c') :: E) (Mem w0 M (slO Sb k enc (.slice A' sub.length c') sub :: L))) :
    WL P N D ops Q (⟨some d, .slice T x y z none, ty, pos, aft, g⟩ :: rest) E (Mem w0 M L) := by
  refine l_genS hw hd fun o ho hty a w ha hS => ?_
  have hr := r_dsl (P := P) (N := N) (D := D) (S := fun _ => True) (ty := ty) hx hy hz h1 h2 h3 hu hi_ o ho hty a w ha trivial
  have hf := (show FlatSl Sb k enc (.slice A l.length c) l w from hS.dat hL).sub (lo := lo) h1 h2
  rw [hs] at hf
  obtain ⟨A', c', e1, f1, f2, f3⟩ := hf.form
  rw [e1] at hf
  refine ⟨_, w, hr, _, ?_, by rw [e1]; exact h A' c' f1 f2 f3⟩
  have hi0 := hS.ok q _ hL
  refine ⟨hS.fr, fun i p hi => ?_, ?_, ?_⟩
  · cases i with
    | zero => obtain rfl : slO Sb k enc (.slice A' sub.length c') sub = p := by simpa using hi
              exact ⟨slO.holds_ hf, hi0.2.1, fun hm => by cases hm⟩
    | succ i => exact hS.ok i p (by simpa using hi)
  · intro i j p q' hi hj hij hm b hb hb'
    cases i with
    | zero =>
      obtain rfl : slO Sb k enc (.slice A' sub.length c') sub = p := by simpa using hi
      cases j with
      | zero => exact hij rfl
      | succ j =>
        have hj' : L[j]? = some q' := by simpa using hj
        have hm' : q'.mut = true := hm.resolve_left (by simp [slO, Own.mut])
        have hne : q ≠ j := fun e => by subst e; rw [hL] at hj'; cases hj'; simp [slO, Own.mut] at hm'
        exact hS.dj q j _ q' hL hj' hne (.inr hm') b hb hb'
    | succ i =>
      have hi' : L[i]? = some p := by simpa using hi
      cases j with
      | zero =>
        obtain rfl : slO Sb k enc (.slice A' sub.length c') sub = q' := by simpa using hj
        have hm' : p.mut = true := hm.resolve_right (by simp [slO, Own.mut])
        have hne : q ≠ i := fun e => by subst e; rw [hL] at hi'; cases hi'; simp [slO, Own.mut] at hm'
        exact hS.dj q i _ p hL hi' hne (.inr hm') b hb' hb
      | succ j => exact hS.dj i j p q' hi' (by simpa using hj) (by omega) hm b hb hb'
  · obtain ⟨Pb, pp⟩ := hS.pb
    refine ⟨Pb, pp.sub, pp.lt, fun i p hi hm b hb hb' => ?_, fun i G hi => ?_⟩
    · cases i with
      | zero => obtain rfl : slO Sb k enc (.slice A' sub.length c') sub = p := by simpa using hi
                cases hm
      | succ i => exact pp.dj i p (by simpa using hi) hm b hb hb'
    · cases i with
      | zero => simp [slO] at hi
      | succ i => exact pp.at_ i G (by simpa using hi)
end

section
variable {P : Program} {N : Nat} {D : List Deferred} {E : Env} {Q : Exit → Act → World → Prop} {w0 : World} {M : Fp} {L : List Own} {α : Type} {enc : α → List Value} {k e : Nat} {l l2 : List α} {A : Option Addr} {c : Nat}
  {ops : Array Oper} {rest : List Oper} {d : Nat} {T : TypeId} {pos : String} {aft : Array Edge} {g : Option (Nat × Bool)} {u : Value} {x y : Operand}
/-- append, either way: in place, or to a new place, the old one as it was -/
theorem l_app2 (i : Nat) {by1 : Nat} {zv : Value} (l l2 : List α) (he : Enc enc k) (hw : Want N D ops E g true) (hs : ev E x = some (.slice A l.length c)) (hx : ev E y = some u) (hL : L[i]? = some (Row (.slice A l.length c) e k enc l)) (hsrc : ∀ w, Mem w0 M L w → FlatSl (In w) k enc u l2 w)
    (hu : P.underlying T = some (.slice e)) (hi : Inf P e k by1 zv) (hz : zv.cells.size = k) (hp : Nat.blt 0 by1 = true) (hb : (l.length + l2.length) * by1 ≤ 140737488355328) (hd : Nat.blt d N = true) (hn1 : l ≠ []) (hn2 : l2 ≠ [])
    (hr : WL P N D ops Q rest ((d, .slice A (l ++ l2).length c) :: E) (Mem w0 M (L.set i (Row (.slice A (l ++ l2).length c) e k enc (l ++ l2)))))
    (hg : ∀ A' c', (l ++ l2).length ≤ c' → c' ≤ 9223372036854775807 → (l ++ l2 ≠ [] → ∃ ad, A' = some ad) → WL P N D ops Q rest ((d, .slice A' (l ++ l2).length c') :: E) (Mem w0 M (Row (.slice A' (l ++ l2).length c') e k enc (l ++ l2) :: L))) :
    WL P N D ops Q (⟨some d, .call { callee := .builtin .append, args := #[x, y], argTypes := #[T, T] }, T, pos, aft, g⟩ :: rest) E (Mem w0 M L) := by
  refine l_genS hw hd fun o ho hty a w ha hS => ?_
  obtain ⟨ti, h1, h2, h3, h4⟩ := hi.get
  have hown := hS.row hL
  have hlen : (l ++ l2).length = l.length + l2.length := List.length_append
  obtain ⟨A2, c2, rfl, g2, g3, g4⟩ := hsrc w hS
  obtain ⟨ad2, rfl, hbk, hc⟩ := g4 hn2
  have h0 : 0 < by1 := by simpa using hp
  have h63 : l.length + l2.length ≤ maxLen := by
    have h2 := Nat.le_mul_of_pos_right (l.length + l2.length) h0
    simp only [maxLen]; omega
  have hl0 := List.length_pos_iff.2 hn1
  have hown0 := hown
  rcases hown.2 with ⟨h, h'⟩ | ⟨gb, cap, cur, h, hbg, hgb, hnc, hcm, hcs, htk⟩
  · omega
  injection h with e1 e2 e3
  subst e1 e3
  by_cases hfit : l.length + l2.length ≤ c
  · obtain ⟨w', hrun, ho', hg'⟩ := run_append_fits (P := P) w 0 T o.type e ti k hu h1 h3 gb l.length c _ hown0 ad2 l2.length c2 (l2.flatMap enc) (by rw [flat_len he.len]) (flat_cells he.len hc) (fun u hu => by obtain ⟨a, _, ha⟩ := List.mem_flatMap.1 hu; exact he.one a u ha) hfit
    refine ⟨_, w', by unfold execOp; rw [ho]; simp [resolve, invoke, builtin, ha.eval hs, ha.eval hx, hrun]; rfl, _, ?_, by rw [← hlen]; exact hr⟩
    have hown2 : w'.ownsRow 0 e k (.slice (some ⟨gb, 0, none⟩) (l ++ l2).length c) (l ++ l2).length ((l ++ l2).flatMap enc) := by rw [hlen, List.flatMap_append]; exact ho'
    exact hS.grow hL (Fr.of_grown hg') hown2 (fun b hb => .inl hb)
  · have holds : ∀ j v, (l.flatMap enc)[j]? = some v → w.cell? ((⟨gb, 0, none⟩ : Addr).add j) = some v := hown0.cells (g := gb) rfl
    have hgr := growslice_fits (bytes := by1) (show c < l.length + l2.length by omega) hb
    have hrun := run_append_grow (P := P) w T o.type e ti zv hu h1 h2 ⟨gb, 0, none⟩ l.length c (l.flatMap enc) (by rw [h3, flat_len he.len]) holds ad2 l2.length c2 (l2.flatMap enc) (by rw [h3, flat_len he.len]) (flat_cells he.len hc) (by omega) (by simp only [maxLen] at h63; omega) (by rw [h4]; exact hgr)
    have hge := grownCap_ge w (l.length + l2.length) c e
    have hcm2 := grownCap_le_maxLen w (l.length + l2.length) c e h63
    generalize hcp : grownCap w (l.length + l2.length) c e = c' at hrun hge hcm2
    have hcx : c' - (l.length + l2.length) + (l.length + l2.length) = c' := by omega
    obtain ⟨W, hrun, hW⟩ : ∃ W, (Builtin.append_ #[T, T] o.type #[.slice (some ⟨gb, 0, none⟩) l.length c, .slice (some ad2) l2.length c2]).run P w = .ok (.slice (some ⟨w.heap.size, 0, none⟩) (l.length + l2.length) c') W ∧ W = w.drew.alloc (.cells ((l.flatMap enc).toArray ++ (l2.flatMap enc).toArray ++ Builtin.zeroCells zv.cells (c' - (l.length + l2.length))) e) := ⟨_, hrun, rfl⟩
    refine ⟨_, W, by unfold execOp; rw [ho]; simp [resolve, invoke, builtin, ha.eval hs, ha.eval hx, hrun]; rfl, _, ?_, by rw [← hlen]; exact hg (some ⟨w.heap.size, 0, none⟩) c' (by rw [hlen]; omega) (by simpa [maxLen] using hcm2) (fun _ => ⟨_, rfl⟩)⟩
    subst hW
    refine hS.add (o := Row (.slice (some ⟨w.heap.size, 0, none⟩) (l ++ l2).length c') e k enc (l ++ l2)) ((Fr.drew no w).trans (Fr.alloc no w.drew _) (fun _ _ h => h)) ?_ (fun b hb => ?_)
    · refine ⟨by rw [flat_len he.len], .inr ⟨w.heap.size, c', _, rfl, Nat.zero_le _, heap_alloc_new w.drew _, by rw [hlen]; omega, hcm2, ?_, ?_⟩⟩
      · simp only [Array.size_append, List.size_toArray, flat_len he.len, size_zeroCells, hz]
        rw [← Nat.add_mul, ← Nat.add_mul]; congr 1; omega
      · have e : (((l.flatMap enc).toArray ++ (l2.flatMap enc).toArray ++ Builtin.zeroCells zv.cells (c' - (l.length + l2.length))).toList) = ((l ++ l2).flatMap enc) ++ (Builtin.zeroCells zv.cells (c' - (l.length + l2.length))).toList := by simp [List.flatMap_append]
        rw [e]
        exact List.take_left' (by rw [flat_len he.len])
    · have hb' : w.heap.size = b := by simpa [Own.fp, Value.ownBlock] using hb
      subst hb'; simp
end
theorem rv_i {P : Program} {N : Nat} {D : List Deferred} {E : Env} {S : World → Prop} {op : Op} {ty : TypeId} {k : IntKind} {m n : Int} (h : m = n) (r : Runs P N D E S op ty (.int k m)) : Runs P N D E S op ty (.int k n) := h ▸ r
section
variable {α : Type} [DecidableEq α] {ek : α → Value} {P : Program} {kt et t : TypeId} {kd : TypeDesc} {N : Nat} {D : List Deferred} {E : Env} {Q : Exit → Act → World → Prop} {ops : Array Oper} {w0 : World} {M : Fp} {L : List Own}
  {rest : List Oper} {ty : TypeId} {pos : String} {aft : Array Edge} {g : Option (Nat × Bool)} {m x y : Operand} {b : Nat}
theorem l_insert (q : Nat) (K : KeyT P kt kd ek) (Dn : List (Nat × α × Int)) (i : Nat) (a : α) (n : Int) (hw : Want N D ops E g true) (hL : L[q]? = some (.map b (ents ek 0 Dn) Dn.length)) (hm : ev E m = some (.map (some b))) (hk : ev E x = some (ek a)) (hv : ev E y = some (.int .i64 n)) (hu : P.underlying t = some (.map kt et)) (hne : ∀ z ∈ Dn, z.2.1 ≠ a)
    (h : WL P N D ops Q rest E (Mem w0 M (L.set q (.map b (ents ek 0 (Dn ++ [(i, a, n)])) (Dn ++ [(i, a, n)]).length)))) : WL P N D ops Q (⟨none, .insert t m x y, ty, pos, aft, g⟩ :: rest) E (Mem w0 M L) := by
  refine l_act hw (fun o ho _ ac w ha hS => ?_) h
  have hb := hS.map hL
  have hf : Instr.findNow kd (ek a) (ents ek 0 Dn) 0 = some none := by
    rcases findNow_ents K a Dn 0 0 with ⟨h1, _⟩ | ⟨_, y, hy, e, _⟩
    · exact h1
    · exact absurd e (hne y hy)
  have hrun : (Instr.mapUpdate t (.map (some b)) (ek a) (.int .i64 n)).run P w = .ok () (Go.ChangeMaps.setBlock w b (.map (ents ek 0 (Dn ++ [(i, a, n)])).toArray (Dn ++ [(i, a, n)]).length)) := by
    simp only [Instr.mapUpdate, Sem.run_bind, run_underlying hu, Result.andThen_ok, MapKept.run_getObj_map hb, K.chk, Instr.findKey, run_underlying K.und, hf, Sem.run_pure, MapKept.run_setObj_map _ hb]
    simp [Go.ChangeMaps.setBlock, ents_snoc]
  refine ⟨_, by unfold execOp; rw [ho]; simp only [ha.eval hm, ha.eval hk, ha.eval hv]; simp [hrun]; rfl, ?_⟩
  have hlt : b < w.heap.size := (Array.getElem?_eq_some_iff.1 hb).1
  exact hS.upd (o' := .map b (ents ek 0 (Dn ++ [(i, a, n)])) (Dn ++ [(i, a, n)]).length) hL rfl ⟨rfl, rfl, rfl, by simp [Go.ChangeMaps.setBlock], fun k _ hk => by
      simp only [Go.ChangeMaps.setBlock]
      rw [Array.getElem?_setIfInBounds_ne (fun e => hk e.symm)]⟩ (by
      show (Go.ChangeMaps.setBlock w b _).heap[b]? = _
      simp [Go.ChangeMaps.setBlock, hlt]) (fun b' hb' => ⟨.inl hb', by
      have e : b' = b := hb'
      subst e; simpa [Go.ChangeMaps.setBlock] using hlt⟩)
end

end Ex
end Go.Proofs.YtffpglgboaigfaaDoor
