/-
  A builder of texts: a block (its own address, its bytes) and a row of bytes.
-/
import Derived.Test.YtffpglgboaigfaaDoorKeys
import Derived.Lib.AppendStr
import Derived.Lib.UnsafeStr
import Derived.Lib.Builder
import Derived.LaidEqlPtr
import Derived.Laws.Externs
namespace Go.Proofs.YtffpglgboaigfaaDoor
namespace Ex
open Go.Lib (strCells strCells_length)
section
variable {P : Program} {N n : Nat} {D : List Deferred} {E : Env} {S S0 : World → Prop} {Q : Exit → Act → World → Prop} {ops : Array Oper} {w0 : World} {M : Fp} {L : List Own}
  {rest : List Oper} {d : Nat} {ty T T' : TypeId} {pos : String} {aft : Array Edge} {g : Option (Nat × Bool)} {x y : Operand} {b : Nat}
theorem flat_byte (l : List UInt8) : l.flatMap byteE = l.map fun b => Value.int .u8 b.toNat := by
  induction l with
  | nil => rfl
  | cons a l ih => rw [List.flatMap_cons, ih]; rfl
theorem strCells_flat (s : ByteArray) : strCells s = s.data.toList.flatMap byteE := (flat_byte _).symm
/-- a pointer held against nil -/
theorem r_pnil_t {te : TypeId} (hx : ev E x = some (.pointer none)) (hy : ev E y = some (.pointer none)) (hp : P.underlying T = some (.pointer te)) : Runs P N D E S (.binOp .eql T x y T') ty (.bool true) := fun o ho _ a w ha _ => by
  unfold execOp; rw [ho]
  have h : ∀ d : Nat, (Op.equalIn (d + 1) T (.pointer none) (.pointer none)).run P w = .ok true w := fun d => by
    simp [Op.equalIn, run_underlying hp]
  simp [ha.eval hx, ha.eval hy, eqGuard_at_pointer, binOp, Op.equal, Op.maxDepth, h 9999]
theorem r_pnil_f {te : TypeId} {ad : Addr} (hx : ev E x = some (.pointer (some ad))) (hy : ev E y = some (.pointer none)) (hp : P.underlying T = some (.pointer te)) : Runs P N D E S (.binOp .eql T x y T') ty (.bool false) := fun o ho _ a w ha _ => by
  unfold execOp; rw [ho]
  have h : ∀ d : Nat, (Op.equalIn (d + 1) T (.pointer (some ad)) (.pointer none)).run P w = .ok false w := fun d => by
    simp [Op.equalIn, run_underlying hp]
  simp [ha.eval hx, ha.eval hy, eqGuard_at_pointer, binOp, Op.equal, Op.maxDepth, h 9999]
/-- a pointer held against itself -/
theorem r_pself {te : TypeId} {k1 by1 : Nat} {z1 : Value} {ad : Addr} (hx : ev E x = some (.pointer (some ad))) (hy : ev E y = some (.pointer (some ad))) (hp : P.underlying T = some (.pointer te)) (hi : Inf P te k1 by1 z1) : Runs P N D E S (.binOp .neq T x y T') ty (.bool false) := fun o ho _ a w ha _ => by
  unfold execOp; rw [ho]
  obtain ⟨j, hj, _⟩ := hi.get
  simp [ha.eval hx, ha.eval hy, eqGuard_at_pointer, Go.Lib.run_neq_ptr_same w ad hp hj]
/-- there and back by unsafe.Pointer -/
theorem r_toUns (i : Nat) {t u : TypeId} {k1 by1 : Nat} {z1 : Value} {cs : List Value} (hx : ev E x = some (.pointer (some ⟨b, 0, none⟩))) (hL : L[i]? = some (.blk b cs u)) (hs : P.underlying T = some (.pointer t)) (hd : P.underlying T' = some .unsafePointer) (ht : Inf P t k1 by1 z1) (hk : Nat.blt 0 k1 = true) (hc : Nat.blt 0 cs.length = true) :
    Runs P N D E (Mem w0 M L) (.convert T T' x) ty (.pointer (some ⟨b, 0, none⟩)) := fun o ho _ a w ha hS => by
  unfold execOp; rw [ho]
  obtain ⟨j, hj, _, hz, _⟩ := ht.get
  have hb : w.heap[b]? = some (.cells cs.toArray u (0, 0)) := (hS.ok i _ hL).1
  have hsh : w.shape? b = some (u, cs.length) := by simp [World.shape?, hb]
  have h0 : 0 < k1 := by simpa using hk
  simp [ha.eval hx, Go.Lib.run_to_unsafe w ⟨b, 0, none⟩ hs hd hj (by omega) hsh (by simpa using hc)]
theorem r_fromUns (i : Nat) {t u : TypeId} {k1 by1 : Nat} {z1 : Value} {cs : List Value} (hx : ev E x = some (.pointer (some ⟨b, 0, none⟩))) (hL : L[i]? = some (.blk b cs u)) (hs : P.underlying T = some .unsafePointer) (hd : P.underlying T' = some (.pointer t)) (ht : Inf P t k1 by1 z1) (hl : liesAt P P.depth u (cs.length / P.cellsOf u) 0 t 1 = true) :
    Runs P N D E (Mem w0 M L) (.convert T T' x) ty (.pointer (some ⟨b, 0, none⟩)) := fun o ho _ a w ha hS => by
  unfold execOp; rw [ho]
  obtain ⟨j, hj, _⟩ := ht.get
  have hb : w.heap[b]? = some (.cells cs.toArray u (0, 0)) := (hS.ok i _ hL).1
  have hsh : w.shape? b = some (u, cs.length) := by simp [World.shape?, hb]
  simp [ha.eval hx, Go.Lib.run_from_unsafe w ⟨b, 0, none⟩ hs hd hj hsh hl]
/-- a function of the library's that is given as an entry -/
theorem r_ext1 {f : Nat} {ts : Array TypeId} {v u : Value} {e : Array Value → Sem Value} (hx : ev E x = some (.func (.func f) #[] #[])) (hy : ev E y = some v) (hcall : ∀ args w, (callFunc f args).run P w = ((e args).run P w).andThen fun v w' => .ok (.value v) w') (he : ∀ w, (e #[v]).run P w = .ok u w) :
    Runs P N D E S (.call { callee := .value x, args := #[y], argTypes := ts }) ty u := fun o ho _ a w ha _ => by
  unfold execOp; rw [ho]
  simp [resolve, Deferred.ofValue, ha.eval hx, ha.eval hy, invoke, hcall, he]
theorem run_append_str_at (w : World) (t u ty e : TypeId) (i : TypeInfo) (ht : P.underlying t = some (.slice e)) (hu : P.underlying u = some .string) (hi : P.info? e = some i) (hz : i.zero = some (.int .u8 0)) (hsize : i.size = 1) (hby : i.bytes = 1)
    (v : Value) (n : Nat) (xs : List Value) (hown : w.ownsRow 0 e 1 v n xs) (s : ByteArray) (hb : n + s.size ≤ 140737488355328) :
    ∃ v' w', (Builtin.append_ #[t, u] ty #[v, .string s]).run P w = .ok v' w' ∧ w'.ownsRow 0 e 1 v' (n + s.size) (xs ++ strCells s) ∧ w.grownBy w' v.ownBlock ∧ ∀ b, v'.ownBlock = some b → v.ownBlock = some b ∨ w.heap.size ≤ b := by
  have hm : n + s.size ≤ maxLen := by simp only [maxLen]; omega
  obtain ⟨v', w', hr, ho, hg, _⟩ := Go.Lib.run_append_own_string (P := P) w 0 t u ty e i ht hu hi hz hsize hby v n xs hown s hm hb (Nat.zero_le _)
  refine ⟨v', w', hr, ho, hg, fun b hbk => ?_⟩
  rcases hown.2 with ⟨rfl, rfl⟩ | ⟨k, cap, cur, rfl, _, hgb, hnc, hcm, hcs, htake⟩
  · have hx : xs = [] := List.eq_nil_of_length_eq_zero (by simpa using hown.1)
    subst hx
    obtain ⟨v2, w2, hr2, ho2, _⟩ := Go.Lib.run_append_own_string (P := P) w w.heap.size t u ty e i ht hu hi hz hsize hby (.slice none 0 0) 0 [] (World.ownsRow_nil _ _ _ _) s hm hb (Nat.le_refl _)
    rw [hr] at hr2
    injection hr2 with e1 e2
    subst e1; subst e2
    exact .inr (ho2.lt b hbk).1
  · by_cases hroom : n + s.size ≤ cap
    · have e2 := Go.Lib.run_append_room_string (P := P) w t u ty e i ht hu hi hsize k n cap cur hgb s hroom (by omega)
      rw [hr] at e2
      injection e2 with e3 e4
      subst e3
      exact .inl hbk
    · have hxl : xs.length = n := by simpa using hown.1
      have e2 := Go.Lib.run_append_grow_string (P := P) w t u ty e i (.int .u8 0) ht hu hi hz ⟨k, 0, none⟩ n cap xs (by rw [hxl, hsize, Nat.mul_one]) (fun j u hj => hown.cells (g := k) rfl j u hj) s (by omega) (by omega) (by rw [hby]; exact growslice_fits (by omega) (by omega))
      rw [hr] at e2
      injection e2 with e3 e4
      subst e3
      right
      have : w.heap.size = b := by simpa [Value.ownBlock] using hbk
      omega
/-- append of a text's bytes to a row of bytes -/
theorem l_appS (i : Nat) {e : TypeId} {v : Value} {zv : Value} {by1 : Nat} (l : List UInt8) (s : ByteArray) (hw : Want N D ops E g true) (hs : ev E x = some v) (hx : ev E y = some (.string s)) (hL : L[i]? = some (Row v e 1 byteE l))
    (hu : P.underlying T = some (.slice e)) (hu2 : P.underlying T' = some .string) (hi : Inf P e 1 by1 zv) (hz : zv = .int .u8 0) (hp : by1 = 1) (hb : l.length + s.size ≤ 140737488355328) (hd : Nat.blt d N = true)
    (h : ∀ A c, (l ++ s.data.toList).length ≤ c → c ≤ 9223372036854775807 → (l ++ s.data.toList ≠ [] → ∃ ad, A = some ad) → WL P N D ops Q rest ((d, .slice A (l ++ s.data.toList).length c) :: E) (Mem w0 M (L.set i (Row (.slice A (l ++ s.data.toList).length c) e 1 byteE (l ++ s.data.toList))))) :
    WL P N D ops Q (⟨some d, .call { callee := .builtin .append, args := #[x, y], argTypes := #[T, T'] }, T, pos, aft, g⟩ :: rest) E (Mem w0 M L) := by
  refine l_genS hw hd fun o ho hty a w ha hS => ?_
  obtain ⟨ti, h1, h2, h3, h4⟩ := hi.get
  subst hz; subst hp
  have hown := hS.row hL
  have hlen : (l ++ s.data.toList).length = l.length + s.size := by rw [List.length_append, Array.length_toList]; rfl
  obtain ⟨v', w', hr, ho', hg', hat⟩ := run_append_str_at (P := P) w T T' o.type e ti hu hu2 h1 h2 h3 h4 v l.length _ hown s hb
  rw [strCells_flat, ← List.flatMap_append, ← hlen] at ho'
  have hm := hS.grow hL (Fr.of_grown hg') ho' hat
  obtain ⟨A, c, rfl, e2, e3, e4⟩ := row_form' ho'
  refine ⟨_, w', ?_, _, hm, h A c e2 e3 e4⟩
  unfold execOp; rw [ho]; simp [resolve, invoke, builtin, ha.eval hs, ha.eval hx, hr]
/-- the bytes' own address -/
theorem r_sliceData {A : Option Addr} {n c : Nat} (hx : ev E x = some (.slice A n c)) (hc : c ≠ 0) : Runs P N D E S (.call { callee := .builtin .unsafeSliceData, args := #[x], argTypes := #[T] }) ty (.pointer A) := fun o ho _ a w ha _ => by
  unfold execOp; rw [ho]
  have h : (Builtin.unsafeSliceData_ #[T] o.type #[.slice A n c]).run P w = .ok (.pointer A) w := by
    cases A with
    | none => exact Go.Lib.run_unsafeSliceData_nil ..
    | some ad => exact Go.Lib.run_unsafeSliceData_row w _ _ _ _ _ hc
  simp [resolve, invoke, builtin, ha.eval hx, h]
/-- the text out of the bytes: they are not written any more -/
theorem l_usString (q : Nat) {e : TypeId} {A : Option Addr} {c : Nat} (l : List UInt8) (hw : Want N D ops E g true) (hx : ev E x = some (.pointer A)) (hy : ev E y = some (.int .i64 (l.length : Int))) (hL : L[q]? = some (Row (.slice A l.length c) e 1 byteE l)) (hne : l ≠ [])
    (hp : P.underlying T = some (.pointer e)) (hc : P.cellsOf e = 1) (hd : Nat.blt d N = true)
    (h : WL P N D ops Q rest ((d, .string ⟨l.toArray⟩) :: E) (Mem w0 M (L.set q (.dat (fun _ => False) (fun _ => True))))) :
    WL P N D ops Q (⟨some d, .call { callee := .builtin .unsafeString, args := #[x, y], argTypes := #[T, T'] }, ty, pos, aft, g⟩ :: rest) E (Mem w0 M L) := by
  refine l_genS hw hd fun o ho hty a w ha hS => ?_
  have hown := hS.row hL
  have hl0 : l.length ≠ 0 := by simpa using hne
  rcases hown.2 with ⟨hv, hz⟩ | ⟨k, cap, cur, hv, _, hg, hnc, hcm, hcs, htake⟩
  · exact absurd hz hl0
  injection hv with e1 e2 e3
  subst e1; subst e3
  have hr := Go.Lib.run_unsafeString_row (P := P) w T T' o.type e hp hc k cur.size (by simp [World.shape?, hg]) l hne (by omega) (by unfold maxLen at hcm; omega) fun j b hj => hown.cells (g := k) rfl j (.int .u8 b.toNat) (by rw [flat_byte, List.getElem?_map, hj]; rfl)
  refine ⟨.string ⟨l.toArray⟩, w.freeze ⟨k, 0, none⟩ l.length, ?_, _, hS.upd (o' := .dat (fun _ => False) (fun _ => True)) hL rfl ?_ ⟨trivial, fun _ _ _ h => h⟩ (fun b hb => hb.elim), h⟩
  · unfold execOp; rw [ho]; simp [resolve, invoke, builtin, ha.eval hx, ha.eval hy, hr]
  · unfold World.freeze
    rw [if_neg hl0]
    exact ⟨rfl, rfl, rfl, by simp, fun j _ hj => by
      have hjk : k ≠ j := fun e9 => hj (by subst e9; rfl)
      simp only [Array.getElem?_modify]
      rw [if_neg hjk]⟩
end
end Ex
end Go.Proofs.YtffpglgboaigfaaDoor
