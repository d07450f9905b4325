/-
  What is asked for, of all that was told: in plain terms.
-/
import Derived.Test.YtffpglgboaigfaaDoorPLang
import Derived.Test.YtffpglgboaigfaaDoorPure
namespace Go.Proofs.YtffpglgboaigfaaDoor
namespace Mn
open Ex
def check (e : Expr) (t : Int) : Int := if Lg.wrong e ≠ 0 then Lg.wrong e else if Lg.typed e ≠ 0 then Lg.typed e else if t < 0 ∨ 1000000 < t then 3 else 0
def behind (p : Option (List Label)) (s : List Label) : Prop := match p with
  | none => False
  | some q => 0 ≤ Names.compare q s
instance (p : Option (List Label)) (s : List Label) : Decidable (behind p s) := by unfold behind; cases p <;> infer_instance
def linesFrom : Nat → Option (List Label) → List LineX → Fault
  | _, _, [] => ⟨0, 0⟩
  | i, p, x :: r => if Names.wrong x.sr.l ≠ 0 then ⟨Names.wrong x.sr.l, i⟩ else if (Codec.wrong x.sm.l).err ≠ 0 then ⟨(Codec.wrong x.sm.l).err, i⟩ else if behind p x.sr.l then ⟨2, i⟩ else linesFrom (i + 1) (some x.sr.l) r
def lines (l : List LineX) : Fault := if 8 < l.length then ⟨5, 0⟩ else linesFrom 0 none l
def prevOf (l : List LineX) (k : Nat) : Option (List Label) := if k = 0 then none else (l[k - 1]?).map (·.sr.l)
theorem lines_start (l : List LineX) : linesFrom 0 none l = linesFrom 0 (prevOf l 0) (l.drop 0) := rfl
theorem lines_step {l : List LineX} {k : Nat} {x : LineX} (h : l[k]? = some x) : linesFrom k (prevOf l k) (l.drop k) = if Names.wrong x.sr.l ≠ 0 then ⟨Names.wrong x.sr.l, k⟩ else if (Codec.wrong x.sm.l).err ≠ 0 then ⟨(Codec.wrong x.sm.l).err, k⟩ else if behind (prevOf l k) x.sr.l then ⟨2, k⟩ else linesFrom (k + 1) (prevOf l (k + 1)) (l.drop (k + 1)) := by
  have h0 := h
  obtain ⟨h1, rfl⟩ := List.getElem?_eq_some_iff.1 h
  rw [List.drop_eq_getElem_cons h1, linesFrom]
  have : prevOf l (k + 1) = some (l[k].sr.l) := by rw [prevOf, if_neg (by omega), Nat.add_sub_cancel, h0]; rfl
  rw [this]
theorem lines_end {l : List LineX} {k : Nat} {p : Option (List Label)} (h : l.length ≤ k) : linesFrom k p (l.drop k) = ⟨0, 0⟩ := by rw [List.drop_of_length_le h, linesFrom]
theorem prev_at {l : List LineX} {k : Nat} {x : LineX} {s : List Label} (hk : 0 < k) (h : l[k - 1]? = some x) : behind (prevOf l k) s ↔ 0 ≤ Names.compare x.sr.l s := by
  rw [prevOf, if_neg (by omega), h]; exact Iff.rfl
theorem prev_0 {l : List LineX} {k : Nat} {s : List Label} (hk : ¬ 0 < k) : ¬ behind (prevOf l k) s := by
  rw [prevOf, if_pos (by omega)]; exact id
theorem same_at {a b : List CellX} {k : Nat} {x y : CellX} (h : (a.take k).map CellX.e = (b.take k).map CellX.e) (hx : a[k]? = some x) (hy : b[k]? = some y) (hv : x.value = y.value) (hs : x.sr.l = y.sr.l) : (a.take (k + 1)).map CellX.e = (b.take (k + 1)).map CellX.e := by
  rw [List.take_add_one, List.take_add_one, hx, hy, List.map_append, List.map_append, h]
  simp [CellX.e, hv, hs]
theorem same_no {a b : List CellX} {k : Nat} {x y : CellX} (hx : a[k]? = some x) (hy : b[k]? = some y) (h : x.value ≠ y.value ∨ x.sr.l ≠ y.sr.l) : a.map CellX.e ≠ b.map CellX.e := fun e => by
  have := congrArg (·[k]?) e
  simp [List.getElem?_map, hx, hy, CellX.e] at this
  rcases h with h | h
  · exact h this.2
  · exact h this.1
/-! ## Numbers -/
def fits (n : Int) : Bool := decide (-1125899906842624 ≤ n ∧ n ≤ 1125899906842624)
def abs (n : Int) : Int := if n < 0 then -n else n
def tooBig (a b : Int) : Prop := 0 < abs b ∧ 1125899906842624 / abs b < abs a
instance (a b : Int) : Decidable (tooBig a b) := by unfold tooBig; infer_instance
def op (w : ByteArray) (a b : Int) : Int × Bool := if w = ⟨#[43]⟩ then (a + b, fits (a + b)) else if w = ⟨#[45]⟩ then (a - b, fits (a - b)) else if tooBig a b then (0, false) else (a * b, true)
theorem abs_nat (n : Int) : abs n = (n.natAbs : Int) := by unfold abs; split <;> omega
theorem abs_all (n : Int) : 0 ≤ abs n ∧ (abs n = 0 ↔ n = 0) ∧ (abs n = n ∨ abs n = -n) := by unfold abs; split <;> omega
theorem mul_rng {a b : Int} (h : ¬ tooBig a b) : -1125899906842624 ≤ a * b ∧ a * b ≤ 1125899906842624 := by
  unfold tooBig at h
  rw [abs_nat, abs_nat] at h
  by_cases hb : b = 0
  · subst hb; omega
  have hb' : 0 < b.natAbs := by omega
  have h1 : (a.natAbs : Int) ≤ 1125899906842624 / (b.natAbs : Int) := by
    refine Int.not_lt.1 fun g => h ⟨by omega, g⟩
  have h2 : (a.natAbs : Int) * (b.natAbs : Int) ≤ 1125899906842624 := by
    have := Int.mul_le_mul_of_nonneg_right h1 (show (0 : Int) ≤ b.natAbs by omega)
    have h3 := Int.ediv_mul_le 1125899906842624 (show (b.natAbs : Int) ≠ 0 by omega)
    omega
  have h4 : ((a * b).natAbs : Int) = (a.natAbs : Int) * (b.natAbs : Int) := by rw [Int.natAbs_mul]; push_cast; rfl
  omega
theorem fits_op {w : ByteArray} {a b : Int} (h : (op w a b).2 = true) : -1125899906842624 ≤ (op w a b).1 ∧ (op w a b).1 ≤ 1125899906842624 := by
  unfold op at h ⊢
  split at h
  · rename_i h1; rw [if_pos h1]; simpa [fits] using h
  rename_i h1
  split at h
  · rename_i h2; rw [if_neg h1, if_pos h2]; simpa [fits] using h
  rename_i h2
  split at h
  · cases h
  rename_i h3
  rw [if_neg h1, if_neg h2, if_neg h3]
  exact mul_rng h3
/-! ## Values -/
def zero : Val := ⟨false, 0, []⟩
/-- the series that an operation of two values is about, with both numbers -/
def pairs (a b : Val) : List (List Label × Int × Int) :=
  if b.vec = false then a.cells.map fun c => (c.sr, c.value, b.n)
  else if a.vec = false then b.cells.map fun c => (c.sr, a.n, c.value)
  else a.cells.filterMap fun c => (b.cells.find? fun d => decide (c.sr = d.sr)).map fun d => (c.sr, c.value, d.value)
def done (w : ByteArray) (l : List (List Label × Int × Int)) : List Cell := l.map fun t => ⟨t.1, (op w t.2.1 t.2.2).1⟩
def fine (w : ByteArray) (l : List (List Label × Int × Int)) : Bool := l.all fun t => (op w t.2.1 t.2.2).2
def bin (w : ByteArray) (a b : Val) : Val × Int :=
  if a.vec = false ∧ b.vec = false then (if (op w a.n b.n).2 = true then (⟨false, (op w a.n b.n).1, []⟩, 0) else (zero, 3))
  else if fine w (pairs a b) = true then (⟨true, 0, done w (pairs a b)⟩, 0) else (zero, 3)
/-- one more cell among those that there are, in its place -/
def put (w : ByteArray) (l : List Cell) (s : List Label) (x : Int) : List Cell :=
  match l with
  | [] => [⟨s, x⟩]
  | c :: r =>
    if c.sr = s then ⟨s, if w = ⟨#[109, 97, 120]⟩ then max c.value x else if w = ⟨#[109, 105, 110]⟩ then min c.value x else c.value + x⟩ :: r
    else if Names.compare c.sr s < 0 then c :: put w r s x else ⟨s, x⟩ :: c :: r
def unit (w : ByteArray) (x : Int) : Int := if w = ⟨#[99, 111, 117, 110, 116]⟩ then 1 else x
def allFrom (w : ByteArray) (by_ : List ByteArray) : List Cell → List Cell → Val × Int
  | out, [] => (⟨true, 0, out⟩, 0)
  | out, c :: r => if (put w out (Names.only c.sr by_) (unit w c.value)).all (fun d => fits d.value) = true then allFrom w by_ (put w out (Names.only c.sr by_) (unit w c.value)) r else (zero, 3)
def all (w : ByteArray) (by_ : List ByteArray) (l : List Cell) : Val × Int := allFrom w by_ [] l
/-! ## Step by step -/
def Bnd (v : Val) : Prop := (-1125899906842624 ≤ v.n ∧ v.n ≤ 1125899906842624) ∧ ∀ c ∈ v.cells, -1125899906842624 ≤ c.value ∧ c.value ≤ 1125899906842624
theorem Bnd.at_ {x : ValX} {k : Nat} {c : CellX} (h : Bnd x.e) (hc : x.cells.l[k]? = some c) : -1125899906842624 ≤ c.value ∧ c.value ≤ 1125899906842624 := h.2 c.e (List.mem_map.2 ⟨c, List.mem_of_getElem? hc, rfl⟩)
abbrev Pr := List Label × Int × Int
def p1 (a b : ValX) (k : Nat) : List Pr := (a.cells.l.take k).map fun c => (c.sr.l, c.value, b.n)
def p2 (a b : ValX) (k : Nat) : List Pr := (b.cells.l.take k).map fun c => (c.sr.l, a.n, c.value)
def p3 (a b : ValX) (k : Nat) : List Pr := (a.cells.l.take k).filterMap fun c => (b.cells.l.find? fun d => decide (c.sr.l = d.sr.l)).map fun d => (c.sr.l, c.value, d.value)
theorem p1_at {a b : ValX} {k : Nat} {s : CellX} (h : a.cells.l[k]? = some s) : p1 a b (k + 1) = p1 a b k ++ [(s.sr.l, s.value, b.n)] := by
  unfold p1; rw [List.take_add_one, h, List.map_append]; rfl
theorem p2_at {a b : ValX} {k : Nat} {s : CellX} (h : b.cells.l[k]? = some s) : p2 a b (k + 1) = p2 a b k ++ [(s.sr.l, a.n, s.value)] := by
  unfold p2; rw [List.take_add_one, h, List.map_append]; rfl
theorem find_at {α : Type} {p : α → Bool} : ∀ {l : List α} {j : Nat} {y : α}, l[j]? = some y → p y = true → (∀ z ∈ l.take j, p z = false) → l.find? p = some y
  | [], j, y, h, _, _ => by simp at h
  | x :: l, 0, y, h, hp, _ => by
    obtain rfl : x = y := by simpa using h
    rw [List.find?_cons_of_pos hp]
  | x :: l, j + 1, y, h, hp, hb => by
    rw [List.find?_cons_of_neg (by rw [hb x (by simp)]; decide)]
    exact find_at (by simpa using h) hp fun z hz => hb z (by simp [hz])
theorem p3_at {a b : ValX} {k j : Nat} {s y : CellX} (h : a.cells.l[k]? = some s) (hy : b.cells.l[j]? = some y) (hp : decide (s.sr.l = y.sr.l) = true) (hb : ∀ z ∈ b.cells.l.take j, decide (s.sr.l = z.sr.l) = false) : p3 a b (k + 1) = p3 a b k ++ [(s.sr.l, s.value, y.value)] := by
  unfold p3; rw [List.take_add_one, h, List.filterMap_append]
  simp [find_at (p := fun d => decide (s.sr.l = d.sr.l)) hy hp hb]
theorem p3_no {a b : ValX} {k : Nat} {s : CellX} (h : a.cells.l[k]? = some s) (hn : ∀ z ∈ b.cells.l, decide (s.sr.l = z.sr.l) = false) : p3 a b (k + 1) = p3 a b k := by
  have h1 : (b.cells.l.find? fun d => decide (s.sr.l = d.sr.l)) = none := List.find?_eq_none.2 fun z hz => by rw [hn z hz]; decide
  unfold p3; rw [List.take_add_one, h, List.filterMap_append]
  simp [h1]
theorem done_at {w : ByteArray} {cs : List CellX} {p p' : List Pr} {z : SlX Label} {x y : Int} (h : cs.map CellX.e = done w p) (hp : p' = p ++ [(z.l, x, y)]) : (cs ++ [CellX.mk z (op w x y).1]).map CellX.e = done w p' := by
  rw [hp, List.map_append, h, done, done, List.map_append]; rfl
theorem fine_t {w : ByteArray} {p p' : List Pr} {s : List Label} {x y : Int} {ok : Bool} (h : ok = fine w p) (hp : p' = p ++ [(s, x, y)]) (h1 : (op w x y).2 = true) : ok = fine w p' := by
  rw [hp, h, fine, fine, List.all_append]; simp [h1]
theorem fine_f {w : ByteArray} {p p' : List Pr} {s : List Label} {x y : Int} (hp : p' = p ++ [(s, x, y)]) (h1 : ¬ (op w x y).2 = true) : false = fine w p' := by
  rw [hp, fine, List.all_append]; simp [h1]
theorem bin_num {w : ByteArray} {a b : ValX} (ha : ¬ a.vec = true) (hb : ¬ b.vec = true) : bin w a.e b.e = if (op w a.n b.n).2 = true then (⟨false, (op w a.n b.n).1, []⟩, 0) else (zero, 3) := by
  rw [bin, if_pos ⟨by simpa [ValX.e] using ha, by simpa [ValX.e] using hb⟩]; rfl
theorem bin_vec {w : ByteArray} {a b : ValX} {cs : List CellX} {ok : Bool} {p : List Pr} (hv : a.vec = true ∨ b.vec = true) (hp : p = pairs a.e b.e) (hc : cs.map CellX.e = done w p) (ho : ok = fine w p) : bin w a.e b.e = if ok = true then (⟨true, 0, cs.map CellX.e⟩, 0) else (zero, 3) := by
  rw [bin, if_neg (by rintro ⟨h1, h2⟩; rcases hv with h | h <;> simp_all [ValX.e]), ← hp, ← hc, ← ho]
theorem p1_end {a b : ValX} {k : Nat} (hb : ¬ b.vec = true) (hk : a.cells.l.length ≤ k) : p1 a b k = pairs a.e b.e := by
  rw [p1, List.take_of_length_le hk, pairs, if_pos (by simpa [ValX.e] using hb)]; simp [ValX.e, CellX.e]
theorem p2_end {a b : ValX} {k : Nat} (hb : b.vec = true) (ha : ¬ a.vec = true) (hk : b.cells.l.length ≤ k) : p2 a b k = pairs a.e b.e := by
  rw [p2, List.take_of_length_le hk, pairs, if_neg (by simp [ValX.e, hb]), if_pos (by simpa [ValX.e] using ha)]; simp [ValX.e, CellX.e]
theorem p3_end {a b : ValX} {k : Nat} (hb : b.vec = true) (ha : a.vec = true) (hk : a.cells.l.length ≤ k) : p3 a b k = pairs a.e b.e := by
  rw [p3, List.take_of_length_le hk, pairs, if_neg (by simp [ValX.e, hb]), if_neg (by simp [ValX.e, ha])]
  simp only [ValX.e, List.filterMap_map, List.find?_map, Option.map_map]
  rfl
end Mn
end Go.Proofs.YtffpglgboaigfaaDoor
