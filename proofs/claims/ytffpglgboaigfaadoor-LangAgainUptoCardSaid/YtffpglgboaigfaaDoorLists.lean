/-
  Rows of a call's own as lists of plain things: append, index, store, and calls that hand them on.
-/
import Derived.Test.YtffpglgboaigfaaDoorMore
import Derived.Maps.AppendAt
namespace Go.Proofs.YtffpglgboaigfaaDoor
namespace Ex

/-- a guard whose own operation was passed over -/
theorem wu {N : Nat} {D : List Deferred} {E : Env} {ops : Array Oper} {j d : Nat} {want : Bool} (hj : (ops[j]?).bind (·.dst) = some d) (hl : look E d = some undef) : Want N D ops E (some (j, want)) false := fun o ho a ha => by
  have h1 := ha.h d _ hl
  simp [Region.wanted, ho, yielded, hj, h1, undef]

/-- a plain encoding: so many cells each, each cell one value -/
structure Enc {α : Type} (enc : α → List Value) (k : Nat) : Prop where
  len : ∀ a, (enc a).length = k
  one : ∀ a, ∀ u ∈ enc a, u.oneCell' = true
  pos : 0 < k
theorem Enc.of {α : Type} {enc : α → List Value} {k : Nat} (h1 : ∀ a, (enc a).length = k) (h2 : ∀ a, (enc a).all (·.oneCell') = true) (h3 : Nat.blt 0 k = true) : Enc enc k :=
  ⟨h1, fun a u hu => List.all_eq_true.1 (h2 a) u hu, by simpa using h3⟩
theorem encFault : Enc faultE 2 := .of (fun _ => rfl) (fun _ => rfl) rfl
theorem encSample : Enc sampleE 2 := .of (fun _ => rfl) (fun _ => rfl) rfl
theorem encSum : Enc sumE 7 := .of (fun _ => rfl) (fun _ => rfl) rfl
theorem encBucket : Enc bucketE 8 := .of (fun _ => rfl) (fun _ => rfl) rfl
theorem encLabel : Enc labelE 2 := .of (fun _ => rfl) (fun _ => rfl) rfl
theorem encMatch : Enc matchE 3 := .of (fun _ => rfl) (fun _ => rfl) rfl
theorem encPart : Enc partE 3 := .of (fun _ => rfl) (fun _ => rfl) rfl
theorem encPair2 : Enc pair2E 2 := .of (fun _ => rfl) (fun _ => rfl) rfl
theorem encString : Enc strE 1 := .of (fun _ => rfl) (fun _ => rfl) rfl
theorem encInt : Enc intE 1 := .of (fun _ => rfl) (fun _ => rfl) rfl
theorem encByte : Enc byteE 1 := .of (fun _ => rfl) (fun _ => rfl) rfl

/-- a row of the call's own that reads as a list -/
@[reducible] def Row {α : Type} (v : Value) (e k : Nat) (enc : α → List Value) (l : List α) : Own := .row v e k l.length (l.flatMap enc)

section
variable {P : Program} {N : Nat} {D : List Deferred} {E : Env} {S : World → Prop} {Q : Exit → Act → World → Prop} {K : Act → World → Prop}
  {w0 w : World} {M : Fp} {L : List Own} {α : Type} {enc : α → List Value} {k e : Nat} {l l2 : List α} {A : Option Addr} {c n : Nat} {ad : Addr}
  {ops : Array Oper} {rest : List Oper} {d : Nat} {dst : Option Tmp} {op : Op} {ty T T' : TypeId} {pos : String} {aft : Array Edge} {g : Option (Nat × Bool)} {v u : Value} {x y z : Operand} {cd : Code}

theorem RowSl (he : Enc enc k) (h : Mem w0 M L w) (i : Nat) (hL : L[i]? = some (Row v e k enc l)) : FlatSl (In w) k enc v l w := rowSl l h i hL rfl rfl he.len
theorem row_form' {v : Value} (h : w.ownsRow 0 e k v l.length (l.flatMap enc)) : ∃ A c, v = .slice A l.length c ∧ l.length ≤ c ∧ c ≤ 9223372036854775807 ∧ (l ≠ [] → ∃ ad, A = some ad) := by
  obtain ⟨A, c, h1, h2, h3, h4⟩ := row_form h
  exact ⟨A, c, h1, h2, by simpa [maxLen] using h3, fun hne => by obtain ⟨ad, e, _⟩ := h4 (List.length_pos_iff.2 hne); exact ⟨ad, e⟩⟩
/-- what a row's value is -/
theorem c_open (i : Nat) (hL : L[i]? = some (Row v e k enc l)) (h : ∀ A c, v = .slice A l.length c → l.length ≤ c → c ≤ 9223372036854775807 → (l ≠ [] → ∃ ad, A = some ad) → WC P N D cd Q E (Mem w0 M L)) : WC P N D cd Q E (Mem w0 M L) :=
  fun w hS => by obtain ⟨A, c, h1, h2, h3, h4⟩ := row_form' (hS.row hL); exact h A c h1 h2 h3 h4 w hS
theorem l_open (i : Nat) (hL : L[i]? = some (Row v e k enc l)) (h : ∀ A c, v = .slice A l.length c → l.length ≤ c → c ≤ 9223372036854775807 → (l ≠ [] → ∃ ad, A = some ad) → WL P N D ops Q rest E (Mem w0 M L)) : WL P N D ops Q rest E (Mem w0 M L) :=
  fun w hS => by obtain ⟨A, c, h1, h2, h3, h4⟩ := row_form' (hS.row hL); exact h A c h1 h2 h3 h4 w hS
/-- a nil slice is a row of one's own -/
theorem Mem.nilRow (h : Mem w0 M L w) (α : Type) (e k : Nat) (enc : α → List Value) : Mem w0 M (Row (.slice none 0 0) e k enc [] :: L) w :=
  h.add (Fr.refl _ _) (World.ownsRow_nil _ _ _ _) fun b hb => by simp [Own.fp, Value.ownBlock] at hb
theorem c_mem {S' : World → Prop} (hm : ∀ w, S w → S' w) (h : WC P N D cd Q E S') : WC P N D cd Q E S := fun w hS => h w (hm w hS)
theorem l_mem {S' : World → Prop} (hm : ∀ w, S w → S' w) (h : WL P N D ops Q rest E S') : WL P N D ops Q rest E S := fun w hS => h w (hm w hS)
theorem l_nilRow (enc : α → List Value) (e k : Nat) (h : WL P N D ops Q rest E (Mem w0 M (Row (.slice none 0 0) e k enc [] :: L))) : WL P N D ops Q rest E (Mem w0 M L) := l_mem (fun _ hS => hS.nilRow α e k enc) h

theorem grown_fr {w w' : World} {v : Value} (h : w.grownBy w' v.ownBlock) : Fr (fun b => v.ownBlock = some b) w w' := Fr.of_grown h
theorem Mem.grow {w w' : World} {n n' : Nat} {xs xs' : List Value} {v' : Value} (h : Mem w0 M L w) {i : Nat} (hL : L[i]? = some (.row v e k n xs)) (hf : Fr (fun b => v.ownBlock = some b) w w') (ho : w'.ownsRow 0 e k v' n' xs') (hb : ∀ b, v'.ownBlock = some b → v.ownBlock = some b ∨ w.heap.size ≤ b) :
    Mem w0 M (L.set i (.row v' e k n' xs')) w' :=
  h.upd hL rfl hf ho fun b hb' => ⟨hb b hb', (ho.lt b hb').2⟩

theorem run_append_none_any {i : TypeInfo} (hu : P.underlying T = some (.slice e)) (hi : P.info? e = some i) (w : World) (ty : TypeId) {v : Value} {n : Nat} {xs : List Value} (c2 : Nat) (hown : w.ownsRow 0 e i.size v n xs) :
    (Builtin.append_ #[T, T] ty #[v, .slice none 0 c2]).run P w = .ok v w := by
  rcases hown.2 with ⟨rfl, rfl⟩ | ⟨g, cap, cur, rfl, _, _, hnc, _⟩
  · simp [Builtin.append_, run_underlying hu, sizeOf, typeInfo, hi, Builtin.lenOf, Builtin.firstCells]
  · simp [Builtin.append_, run_underlying hu, sizeOf, typeInfo, hi, Builtin.lenOf, Builtin.firstCells, hnc, storeCells]
theorem small_len {v : Value} {n : Nat} {xs : List Value} (h : w.ownsRow 0 e k v n xs) : n ≤ maxLen := by
  obtain ⟨A, c, _, h2, h3, _⟩ := row_form h
  exact Nat.le_trans h2 h3
theorem flat_len (h : ∀ a, (enc a).length = k) : ∀ (l : List α), (l.flatMap enc).length = l.length * k
  | [] => by simp
  | a :: l => by rw [List.flatMap_cons, List.length_append, h, flat_len h l, List.length_cons, Nat.succ_mul, Nat.add_comm]
theorem flat_at (he : ∀ a, (enc a).length = k) : ∀ (l : List α) (j : Nat) (u : Value), (l.flatMap enc)[j]? = some u → ∃ (i : Nat) (x : α) (p : Nat), l[i]? = some x ∧ (enc x)[p]? = some u ∧ j = i * k + p
  | [], j, u, h => by simp at h
  | a :: l, j, u, h => by
    rw [List.flatMap_cons] at h
    by_cases hj : j < k
    · rw [List.getElem?_append_left (by rw [he]; exact hj)] at h
      exact ⟨0, a, j, rfl, h, by simp⟩
    · rw [List.getElem?_append_right (by rw [he]; omega), he] at h
      obtain ⟨i, x, p, h1, h2, h3⟩ := flat_at he l _ u h
      exact ⟨i + 1, x, p, by simpa using h1, h2, by rw [Nat.succ_mul]; omega⟩
theorem flat_cells (he : ∀ a, (enc a).length = k) {ad : Addr} (hc : ∀ (i : Nat) (x : α), l[i]? = some x → ∀ (j : Nat) (u : Value), (enc x)[j]? = some u → w.cell? ((ad.add (i * k)).add j) = some u) :
    ∀ (j : Nat) (u : Value), (l.flatMap enc)[j]? = some u → w.cell? (ad.add j) = some u := fun j u h => by
  obtain ⟨i, x, p, h1, h2, rfl⟩ := flat_at he l j u h
  rw [← add_add]; exact hc i x h1 p u h2

theorem at_or {v v' : Value} {s b : Nat} (hat : v'.ownBlock = v.ownBlock ∨ v'.ownBlock = some s) (hb : v'.ownBlock = some b) : v.ownBlock = some b ∨ s ≤ b := by
  rcases hat with h | h
  · exact .inl (h ▸ hb)
  · right; rw [h] at hb; cases hb; exact Nat.le_refl _

/-- append of all that another slice has -/
theorem l_app (i : Nat) {by1 : Nat} {zv : Value} (l l2 : List α) (he : Enc enc k) (hw : Want N D ops E g true) (hs : ev E x = some v) (hx : ev E y = some u) (hL : L[i]? = some (Row v e k enc l)) (hsrc : ∀ w, Mem w0 M L w → FlatSl (In w) k enc u l2 w)
    (hu : P.underlying T = some (.slice e)) (hi : Inf P e k by1 zv) (hz : zv.cells.size = k) (hp : Nat.blt 0 by1 = true) (hb : (l.length + l2.length) * by1 ≤ 140737488355328) (hd : Nat.blt d N = true)
    (h : ∀ A c, (l ++ l2).length ≤ c → c ≤ 9223372036854775807 → (l ++ l2 ≠ [] → ∃ ad, A = some ad) → WL P N D ops Q rest ((d, .slice A (l ++ l2).length c) :: E) (Mem w0 M (L.set i (Row (.slice A (l ++ l2).length c) e k enc (l ++ l2))))) :
    WL P N D ops Q (⟨some d, .call { callee := .builtin .append, args := #[x, y], argTypes := #[T, T] }, T, pos, aft, g⟩ :: rest) E (Mem w0 M L) := by
  refine l_genS hw hd fun o ho hty a w ha hS => ?_
  obtain ⟨ti, h1, h2, h3, h4⟩ := hi.get
  have hown := hS.row hL
  have hlen : (l ++ l2).length = l.length + l2.length := List.length_append
  have hfin : ∀ (w' : World) (v' : Value), (Builtin.append_ #[T, T] o.type #[v, u]).run P w = .ok v' w' → w'.ownsRow 0 e k v' (l.length + l2.length) (l.flatMap enc ++ l2.flatMap enc) → Fr (fun b => v.ownBlock = some b) w w' → (∀ b, v'.ownBlock = some b → v.ownBlock = some b ∨ w.heap.size ≤ b) →
      ∃ v w', (execOp a.eval o).run P w = .ok (.value v) w' ∧ ∃ S' : World → Prop, S' w' ∧ WL P N D ops Q rest ((d, v) :: E) S' := by
    intro w' v' hr hown' hfr hbl
    have hown2 : w'.ownsRow 0 e k v' (l ++ l2).length ((l ++ l2).flatMap enc) := by rw [hlen, List.flatMap_append]; exact hown'
    have hm := hS.grow hL hfr hown2 hbl
    obtain ⟨A, c, rfl, e2, e3, e4⟩ := row_form' hown2
    refine ⟨_, w', ?_, _, hm, h A c e2 e3 e4⟩
    unfold execOp; rw [ho]; simp [resolve, invoke, builtin, ha.eval hs, ha.eval hx, hr]
  obtain ⟨A2, c2, rfl, g2, g3, g4⟩ := hsrc w hS
  by_cases hne : l2 = []
  · subst hne
    cases A2 with
    | none =>
      refine hfin w v ?_ (by simpa using hown) (Fr.refl _ _) (fun b hb => .inl hb)
      exact run_append_none_any hu h1 w o.type c2 (by rw [h3]; exact hown)
    | some ad =>
      obtain ⟨v', w', hr, ho', hg', _, hat⟩ := run_append_own_at (P := P) w 0 T o.type e ti zv k by1 hu h1 h2 h3 h4 hz he.pos v l.length _ hown ad 0 c2 [] (by simp) (by simp) (by simp) (by simpa [maxLen] using small_len hown) (by simpa using hb) (Nat.zero_le _)
      exact hfin w' v' hr (by simpa using ho') (Fr.of_grown hg') (fun b hb => at_or hat hb)
  · obtain ⟨ad, rfl, hbk, hc⟩ := g4 hne
    obtain ⟨v', w', hr, ho', hg', _, hat⟩ := run_append_own_at (P := P) w 0 T o.type e ti zv k by1 hu h1 h2 h3 h4 hz he.pos v l.length _ hown ad l2.length c2 (l2.flatMap enc)
      (by rw [flat_len he.len]) (flat_cells he.len hc) (fun u hu => by obtain ⟨a, _, ha⟩ := List.mem_flatMap.1 hu; exact he.one a u ha) (by
          have h1 : 0 < by1 := by simpa using hp
          have h2 := Nat.le_mul_of_pos_right (l.length + l2.length) h1
          simp only [maxLen]; omega) hb (Nat.zero_le _)
    exact hfin w' v' hr ho' (Fr.of_grown hg') (fun b hb => at_or hat hb)

/-- a literal slice -/
theorem l_bsL {n by1 : Nat} {zv : Value} {parts : Array (Nat × Operand)} {ps : List (Nat × Value)} (enc : α → List Value) (l : List α) (hw : Want N D ops E g true) (hu : P.underlying T = some (.slice e)) (hs : Inf P e k by1 zv) (he : evp E parts.toList = some ps) (hf : dense k 0 ps = some (l.flatMap enc)) (hn : ps.length = n) (hl : l.length = n)
    (hk : 0 < n * k) (hsm : n * k ≤ 16777216) (hd : Nat.blt d N = true)
    (h : ∀ b, WL P N D ops Q rest ((d, .slice (some ⟨b, 0, none⟩) n n) :: E) (Mem w0 M (Row (.slice (some ⟨b, 0, none⟩) n n) e k enc l :: L))) : WL P N D ops Q (⟨some d, .buildSlice T n parts, ty, pos, aft, g⟩ :: rest) E (Mem w0 M L) := by
  subst hl
  exact l_bs (l.flatMap enc) hw hu hs he hf hn hk hsm hd h
theorem l_bsL0 {by1 : Nat} {zv : Value} (enc : α → List Value) (hw : Want N D ops E g true) (hu : P.underlying T = some (.slice e)) (hs : Inf P e k by1 zv) (hd : Nat.blt d N = true)
    (h : ∀ b, WL P N D ops Q rest ((d, .slice (some ⟨b, 0, none⟩) 0 0) :: E) (Mem w0 M (Row (.slice (some ⟨b, 0, none⟩) 0 0) e k enc [] :: L))) : WL P N D ops Q (⟨some d, .buildSlice T 0 #[], ty, pos, aft, g⟩ :: rest) E (Mem w0 M L) :=
  l_bs0 hw hu hs hd h

/-! ## Reading and writing an element -/
theorem r_rl (q : Nat) {i j : Nat} {a : α} (he : Enc enc k) (hx : ev E x = some (.pointer (some ((ad.add (i * k)).add j)))) (hL : L[q]? = some (Row (.slice A n c) e k enc l)) (hA : A = some ad) (hi : l[i]? = some a) (hj : (enc a)[j]? = some u) (hf : flatT P T = true) : Runs P N D E (Mem w0 M L) (.load T x) ty u :=
  r_load1 hx hf fun _ h => (RowSl he h q hL).cell hA hi hj
theorem r_rln (q : Nat) {i j k1 by1 : Nat} {z1 : Value} {a : α} (vs : List Value) (he : Enc enc k) (hx : ev E x = some (.pointer (some ((ad.add (i * k)).add j)))) (hL : L[q]? = some (Row (.slice A n c) e k enc l)) (hA : A = some ad) (hi : l[i]? = some a) (hv : ((enc a).drop j).take k1 = vs) (hl : vs.length = k1) (hg : aggT P T = true) (hs : Inf P T k1 by1 z1) :
    Runs P N D E (Mem w0 M L) (.load T x) ty (.agg vs.toArray) :=
  r_loadn vs hx hg hs hl fun _ h p u hu => by
    rw [add_add, add_add, ← add_add]
    rw [← hv, List.getElem?_take] at hu
    split at hu
    · exact (RowSl he h q hL).cell hA hi (by simpa using hu)
    · cases hu
theorem splice_len {cs vs : List Value} {o : Nat} (h : o + vs.length ≤ cs.length) : (splice cs o vs).length = cs.length := by
  simp [splice]; omega
theorem splice_app {a b vs : List Value} {o : Nat} (h : o + vs.length ≤ a.length) : splice (a ++ b) o vs = splice a o vs ++ b := by
  simp only [splice]
  rw [List.take_append_of_le_length (by omega), List.drop_append_of_le_length h]
  simp
theorem take_splice {cs vs : List Value} {o m : Nat} (h : o + vs.length ≤ m) (hm : m ≤ cs.length) : (splice cs o vs).take m = splice (cs.take m) o vs := by
  have hl : (cs.take m).length = m := by simp; omega
  have h1 : splice cs o vs = splice (cs.take m) o vs ++ cs.drop m := by rw [← splice_app (by rw [hl]; exact h), List.take_append_drop]
  have h2 : (splice (cs.take m) o vs).length = m := by rw [splice_len (by rw [hl]; exact h), hl]
  rw [h1]
  exact List.take_left' h2
theorem flat_set (he : ∀ a, (enc a).length = k) {vs : List Value} {off : Nat} {a a' : α} (ha : splice (enc a) off vs = enc a') (ho : off + vs.length ≤ k) : ∀ (l : List α) (i : Nat), l[i]? = some a → splice (l.flatMap enc) (i * k + off) vs = (l.set i a').flatMap enc
  | [], i, h => by simp at h
  | b :: l, 0, h => by
    obtain rfl : b = a := by simpa using h
    rw [List.set_cons_zero, List.flatMap_cons, List.flatMap_cons, ← ha]
    have := he b
    simp only [splice, Nat.zero_mul, Nat.zero_add]
    rw [List.take_append_of_le_length (by omega), List.drop_append_of_le_length (by omega)]
    simp
  | b :: l, i + 1, h => by
    have ih := flat_set he ha ho l i (by simpa using h)
    rw [List.set_cons_succ, List.flatMap_cons, List.flatMap_cons, ← ih]
    have := he b
    simp only [splice]
    rw [List.take_append, List.drop_append]
    rw [List.take_of_length_le (by rw [Nat.succ_mul]; omega), List.drop_of_length_le (by rw [Nat.succ_mul]; omega)]
    rw [show (i + 1) * k + off - (enc b).length = i * k + off by rw [Nat.succ_mul]; omega, show (i + 1) * k + off + vs.length - (enc b).length = i * k + off + vs.length by rw [Nat.succ_mul]; omega]
    simp
theorem l_rst (q : Nat) {i j k1 by1 : Nat} {zv : Value} {vs : List Value} {a : α} (a' : α) (he : Enc enc k) (hw : Want N D ops E g true) (hx : ev E x = some (.pointer (some ((ad.add (i * k)).add j)))) (hy : ev E y = some v) (hv : v.cells = vs.toArray)
    (hL : L[q]? = some (Row (.slice A l.length c) e k enc l)) (hA : A = some ad) (hi : l[i]? = some a) (hs : Inf P T k1 by1 zv) (hl : vs.length = k1) (h1 : vs.all (·.oneCell') = true) (hj : Nat.ble (j + k1) k = true) (ha' : splice (enc a) j vs = enc a')
    (h : WL P N D ops Q rest E (Mem w0 M (L.set q (Row (.slice A l.length c) e k enc (l.set i a'))))) : WL P N D ops Q (⟨none, .store T x y, ty, pos, aft, g⟩ :: rest) E (Mem w0 M L) :=
  l_act hw (fun o ho _ ac w ha hS => by
    have hj' : j + k1 ≤ k := Nat.le_of_ble_eq_true hj
    have hil : i < l.length := (List.getElem?_eq_some_iff.1 hi).1
    have hown := hS.row hL
    subst hA
    rcases hown.2 with ⟨h0, _⟩ | ⟨gb, cap, cur, h0, hbg, hg, hnc, hcm, hcs, htk⟩
    · cases h0
    injection h0 with e1 e2 e3
    injection e1 with e1
    subst e1 e3
    have hpos : (i + 1) * k ≤ l.length * k := Nat.mul_le_mul_right k hil
    rw [Nat.succ_mul] at hpos
    have hle : l.length * k ≤ c * k := Nat.mul_le_mul_right k hnc
    have hcl : cur.toList.length = c * k := by simpa using hcs
    have haddr : (((⟨gb, 0, none⟩ : Addr).add (i * k)).add j) = ⟨gb, i * k + j, none⟩ := by rw [add_add, add_lit]; simp
    have hst := run_storeVarN (P := P) (T := T) hs (v := v) (vs := vs) hv hl h1 (b := gb) (j := i * k + j) (cur := cur.toList) (t := e) (w := w) (by simpa using hg) (by omega)
    refine ⟨w.setRow gb (splice cur.toList (i * k + j) vs).toArray, ?_, ?_⟩
    · unfold execOp; rw [ho]
      simp only [ha.eval hx, ha.eval hy, haddr]
      simp [Instr.storeAt, Instr.sureAddr, hst]
    · refine hS.upd hL rfl ⟨rfl, rfl, rfl, by simp, fun b _ hk => setRow_other w gb b _ (fun e => hk (by simp [Own.fp, Value.ownBlock, e]))⟩ ?_ (fun b hb => ⟨.inl hb, ?_⟩)
      · refine ⟨?_, .inr ⟨gb, c, _, by rw [List.length_set], hbg, setRow_heap w gb _ _ e _ hg, by rw [List.length_set]; exact hnc, hcm, ?_, ?_⟩⟩
        · rw [flat_len he.len]
        · simp only [List.size_toArray]; rw [splice_len (by omega)]; exact hcl
        · rw [← flat_set he.len ha' (by omega) l i hi, ← htk, List.length_set]
          exact take_splice (by omega) (by omega)
      · have := (hS.ok q _ hL).2.1 b hb
        simpa using this) h

/-! ## Calls that hand on rows -/
/-- hands back a row of its own that reads as a list; nothing that was there has turned -/
def RetL (w : World) (e k : Nat) {α : Type} (enc : α → List Value) (l : List α) : Ending → World → Prop := RetRow w e k l.length (l.flatMap enc)
theorem l_callL {f : Nat} {args : Array Operand} {ts : Array TypeId} {vs : List Value} (l : List α) (hw : Want N D ops E g true) (hargs : evs E args.toList = some vs)
    (hcall : ∀ vs w, (callFunc f vs).run P w = .ok (.enter f vs) w) (hd : Nat.blt d N = true)
    (hc : ∀ w, Mem w0 M L w → Calls P f vs.toArray w (RetL w e k enc l))
    (h : ∀ A c, l.length ≤ c → c ≤ 9223372036854775807 → (l ≠ [] → ∃ ad, A = some ad) → WL P N D ops Q rest ((d, .slice A l.length c) :: E) (Mem w0 M (Row (.slice A l.length c) e k enc l :: L))) :
    WL P N D ops Q (⟨some d, .call { callee := .value (.func f), args := args, argTypes := ts }, ty, pos, aft, g⟩ :: rest) E (Mem w0 M L) :=
  l_callRow hw hargs hcall hd hc fun v => by
    intro w hS
    obtain ⟨A, c, rfl, h2, h3, h4⟩ := row_form' (hS.row (i := 0) rfl)
    exact h A c h2 h3 h4 w hS
/-- .. inside of a tuple -/
def RetLT (w : World) (e k : Nat) {α : Type} (enc : α → List Value) (l : List α) (mk : Value → Value) : Ending → World → Prop := fun en w' => ∃ r, en = .returned (mk r) ∧ Fr no w w' ∧ w'.ownsRow w.heap.size e k r l.length (l.flatMap enc)
theorem l_callLT {f : Nat} {args : Array Operand} {ts : Array TypeId} {vs : List Value} (l : List α) (mk : Value → Value) (hw : Want N D ops E g true) (hx : ev E x = some (.func (.func f) #[] #[])) (hargs : evs E args.toList = some vs)
    (hcall : ∀ vs w, (callFunc f vs).run P w = .ok (.enter f vs) w) (hd : Nat.blt d N = true)
    (hc : ∀ w, Mem w0 M L w → Calls P f vs.toArray w (RetLT w e k enc l mk))
    (h : ∀ A c, l.length ≤ c → c ≤ 9223372036854775807 → (l ≠ [] → ∃ ad, A = some ad) → WL P N D ops Q rest ((d, mk (.slice A l.length c)) :: E) (Mem w0 M (Row (.slice A l.length c) e k enc l :: L))) :
    WL P N D ops Q (⟨some d, .call { callee := .value x, args := args, argTypes := ts }, ty, pos, aft, g⟩ :: rest) E (Mem w0 M L) :=
  l_call (Φ := fun v w' => ∃ r, v = mk r ∧ Mem w0 M (Row r e k enc l :: L) w') hw hx hargs hcall hd (fun w hS => by
    have := hc w hS
    simp only [Array.append_empty]
    exact this.mono fun en w' ⟨r, he, hf, ho⟩ => ⟨mk r, he, r, rfl, hS.addRow hf ho⟩) fun v w hw a ha => by
    obtain ⟨r, rfl, hS⟩ := hw
    obtain ⟨A, c, rfl, h2, h3, h4⟩ := row_form' (hS.row (i := 0) rfl)
    exact h A c h2 h3 h4 w hS a ha
theorem Mem.retLT {p : Nat → Prop} {l' : List α} {mk : Value → Value} {v' : Value} (h : Mem w ⟨no, p⟩ L w0) (i : Nat) (hL : L[i]? = some (Row v e k enc l)) (hl : l = l') (hv : v' = mk v) : RetLT w e k enc l' mk (.returned v') w0 := by
  obtain ⟨u, hu, h1, h2⟩ := h.retRow i hL
  subst hl hv
  cases hu
  exact ⟨v, rfl, h1, h2⟩
theorem Mem.retL {p : Nat → Prop} (h : Mem w ⟨no, p⟩ L w0) (i : Nat) (hL : L[i]? = some (Row v e k enc l)) : RetL w e k enc l (.returned v) w0 := h.retRow i hL
theorem Mem.retL' {p : Nat → Prop} {l' : List α} (h : Mem w ⟨no, p⟩ L w0) (i : Nat) (hL : L[i]? = some (Row v e k enc l)) (hl : l = l') : RetL w e k enc l' (.returned v) w0 := hl ▸ h.retRow i hL
/-- is handed a row of the caller's own, and hands back one in its stead -/
def RetU (w : World) (v : Value) (e k : Nat) {α : Type} (enc : α → List Value) (l : List α) : Ending → World → Prop := fun en w' => ∃ v', en = .returned v' ∧ Fr (fun b => v.ownBlock = some b) w w' ∧ w'.ownsRow 0 e k v' l.length (l.flatMap enc) ∧ ∀ b, v'.ownBlock = some b → v.ownBlock = some b ∨ w.heap.size ≤ b
theorem l_callU (i : Nat) {f : Nat} {args : Array Operand} {ts : Array TypeId} {vs : List Value} {l : List α} (l' : List α) (hL : L[i]? = some (Row v e k enc l)) (hw : Want N D ops E g true) (hargs : evs E args.toList = some vs)
    (hcall : ∀ vs w, (callFunc f vs).run P w = .ok (.enter f vs) w) (hd : Nat.blt d N = true)
    (hc : ∀ w, Mem w0 M L w → Calls P f vs.toArray w (RetU w v e k enc l'))
    (h : ∀ A c, l'.length ≤ c → c ≤ 9223372036854775807 → (l' ≠ [] → ∃ ad, A = some ad) → WL P N D ops Q rest ((d, .slice A l'.length c) :: E) (Mem w0 M (L.set i (Row (.slice A l'.length c) e k enc l')))) :
    WL P N D ops Q (⟨some d, .call { callee := .value (.func f), args := args, argTypes := ts }, ty, pos, aft, g⟩ :: rest) E (Mem w0 M L) :=
  l_callN (Φ := fun v w' => Mem w0 M (L.set i (Row v e k enc l')) w') hw hargs hcall hd (fun w hS => (hc w hS).mono fun _ _ ⟨v', he, hf, ho, hb⟩ => ⟨v', he, hS.grow hL hf ho hb⟩) fun v => by
    intro w hS
    have hi : i < L.length := (List.getElem?_eq_some_iff.1 hL).1
    obtain ⟨A, c, rfl, h2, h3, h4⟩ := row_form' (hS.row (i := i) (by rw [List.getElem?_set_self hi]))
    exact h A c h2 h3 h4 w hS
/-- the beginning of a function that is handed a row of the caller's own -/
theorem Mem.ownArg {n : Nat} {xs : List Value} (ho : w.ownsRow 0 e k v n xs) : Mem w (fun b => v.ownBlock = some b) [.row v e k n xs] w := by
  refine ⟨Fr.refl _ _, fun i o hi => ?_, fun i j o o' hi hj hij => ?_, fun _ => False, by simp, by simp, by simp, fun i F hi => ?_⟩
  · cases i with
    | zero => obtain rfl : Own.row v e k n xs = o := by simpa using hi
              exact ⟨ho, fun b hb => (ho.lt b hb).2, fun _ b hb => .inr hb⟩
    | succ i => simp at hi
  · have h1 : i < 1 := by have := (List.getElem?_eq_some_iff.1 hi).1; simpa using this
    have h2 : j < 1 := by have := (List.getElem?_eq_some_iff.1 hj).1; simpa using this
    omega
  · cases i <;> simp at hi
theorem Mem.retU {w1 : World} {v' : Value} (h : Mem w (fun b => v.ownBlock = some b) L w1) (i : Nat) (hL : L[i]? = some (Row v' e k enc l)) : RetU w v e k enc l (.returned v') w1 :=
  ⟨v', rfl, h.fr, h.row hL, fun b hb => ((h.ok i _ hL).2.2 rfl b hb).symm.imp id id⟩
theorem Mem.retU' {w1 : World} {v' : Value} {l' : List α} (h : Mem w (fun b => v.ownBlock = some b) L w1) (i : Nat) (hL : L[i]? = some (Row v' e k enc l)) (hl : l = l') : RetU w v e k enc l' (.returned v') w1 := hl ▸ h.retU i hL
end

end Ex
end Go.Proofs.YtffpglgboaigfaaDoor
