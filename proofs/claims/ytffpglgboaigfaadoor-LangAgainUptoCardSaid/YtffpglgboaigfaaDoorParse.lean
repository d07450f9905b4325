/-
  How a text is read: the parser, in plain words.
-/
import Derived.Test.YtffpglgboaigfaaDoorPShape
import Derived.Test.YtffpglgboaigfaaDoorPBytes
namespace Go.Proofs.YtffpglgboaigfaaDoor
namespace Pz
open Ex
/-! ## Runs of bytes -/
def rest (s : ByteArray) (i : Nat) : List UInt8 := s.data.toList.drop i
def run (p : UInt8 → Bool) (s : ByteArray) (i : Nat) : Nat := i + ((rest s i).takeWhile p).length
theorem size_l (s : ByteArray) : s.data.toList.length = s.size := (bl_size s).symm
theorem rest_cons {s : ByteArray} {i : Nat} {b : UInt8} (h : s[i]? = some b) : rest s i = b :: rest s (i + 1) := by
  obtain ⟨h1, h2⟩ := List.getElem?_eq_some_iff.1 (Names.at_list h)
  unfold rest; rw [List.drop_eq_getElem_cons h1, h2]
theorem rest_nil {s : ByteArray} {i : Nat} (h : s.size ≤ i) : rest s i = [] := by unfold rest; exact List.drop_of_length_le (by rw [size_l]; exact h)
theorem run_step {p : UInt8 → Bool} {s : ByteArray} {i : Nat} {b : UInt8} (h : s[i]? = some b) (hp : p b = true) : run p s i = run p s (i + 1) := by
  unfold run; rw [rest_cons h, List.takeWhile_cons_of_pos hp, List.length_cons]; omega
theorem run_stop {p : UInt8 → Bool} {s : ByteArray} {i : Nat} {b : UInt8} (h : s[i]? = some b) (hp : p b = false) : run p s i = i := by
  unfold run; rw [rest_cons h, List.takeWhile_cons_of_neg (by simp [hp])]; rfl
theorem run_end {p : UInt8 → Bool} {s : ByteArray} {i : Nat} (h : s.size ≤ i) : run p s i = i := by
  unfold run; rw [rest_nil h]; rfl
theorem run_le (p : UInt8 → Bool) {s : ByteArray} {i : Nat} (h : i ≤ s.size) : i ≤ run p s i ∧ run p s i ≤ s.size := by
  have h1 := (List.takeWhile_prefix p (l := rest s i)).length_le
  unfold run
  have h2 : (rest s i).length = s.size - i := by unfold rest; rw [List.length_drop, size_l]
  omega
def spc (b : UInt8) : Bool := decide (b.toNat = 32)
def low (b : UInt8) : Bool := decide (97 ≤ b.toNat ∧ b.toNat ≤ 122)
def dig (b : UInt8) : Bool := decide (48 ≤ b.toNat ∧ b.toNat ≤ 57)
def wch (b : UInt8) : Bool := decide ((97 ≤ b.toNat ∧ b.toNat ≤ 122) ∨ (48 ≤ b.toNat ∧ b.toNat ≤ 57) ∨ b.toNat = 95)
def blank (s : ByteArray) (i : Nat) : Nat := run spc s i
theorem blank_step {s : ByteArray} {i : Nat} {b : UInt8} (h : s[i]? = some b) (hp : (b.toNat : Int) = 32) : blank s i = blank s (i + 1) := run_step h (by simp [spc]; omega)
theorem blank_stop {s : ByteArray} {i : Nat} {b : UInt8} (h : s[i]? = some b) (hp : ¬ (b.toNat : Int) = 32) : blank s i = i := run_stop h (by simp [spc]; omega)
theorem blank_end {s : ByteArray} {i : Nat} (h : s.size ≤ i) : blank s i = i := run_end h
theorem blank_le {s : ByteArray} {i : Nat} (h : i ≤ s.size) : i ≤ blank s i ∧ blank s i ≤ s.size := run_le _ h
theorem dig_step {s : ByteArray} {i : Nat} {b : UInt8} (h : s[i]? = some b) (hp : 48 ≤ (b.toNat : Int) ∧ (b.toNat : Int) ≤ 57) : run dig s i = run dig s (i + 1) := run_step h (by simp [dig]; omega)
theorem dig_stop {s : ByteArray} {i : Nat} {b : UInt8} (h : s[i]? = some b) (hp : ¬ (48 ≤ (b.toNat : Int) ∧ (b.toNat : Int) ≤ 57)) : run dig s i = i := run_stop h (by simp [dig]; omega)
/-- where a word that begins here ends -/
def wend (s : ByteArray) (i : Nat) : Nat := match rest s i with
  | [] => i
  | b :: _ => if low b = true then run wch s i else i
theorem wend_next {s : ByteArray} {i k : Nat} {b : UInt8} (hb : s[k]? = some b) (hI : k = i ∨ (i < k ∧ wend s i = run wch s k)) (hc : (97 ≤ (b.toNat : Int) ∧ (b.toNat : Int) ≤ 122) ∨ (k ≠ i ∧ ((48 ≤ (b.toNat : Int) ∧ (b.toNat : Int) ≤ 57) ∨ (b.toNat : Int) = 95))) : wend s i = run wch s (k + 1) := by
  rcases hI with rfl | ⟨h1, h2⟩
  · unfold wend; rw [rest_cons hb]
    show (if low b = true then _ else _) = _
    rw [if_pos (by simp [low]; omega), run_step hb (by simp [wch]; omega)]
  · rw [h2, run_step hb (by simp [wch]; omega)]
theorem wend_done {s : ByteArray} {i k : Nat} {b : UInt8} (hb : s[k]? = some b) (hI : k = i ∨ (i < k ∧ wend s i = run wch s k)) (hc : ¬ ((97 ≤ (b.toNat : Int) ∧ (b.toNat : Int) ≤ 122) ∨ (k ≠ i ∧ ((48 ≤ (b.toNat : Int) ∧ (b.toNat : Int) ≤ 57) ∨ (b.toNat : Int) = 95)))) : wend s i = k := by
  rcases hI with rfl | ⟨h1, h2⟩
  · unfold wend; rw [rest_cons hb]
    show (if low b = true then _ else _) = _
    rw [if_neg (by simp [low]; omega)]
  · rw [h2, run_stop hb (by simp [wch]; omega)]
theorem wend_end {s : ByteArray} {i k : Nat} (h : s.size ≤ k) (hI : k = i ∨ (i < k ∧ wend s i = run wch s k)) : wend s i = k := by
  rcases hI with rfl | ⟨h1, h2⟩
  · unfold wend; rw [rest_nil h]
  · rw [h2, run_end h]
theorem wend_le {s : ByteArray} {i : Nat} (h : i ≤ s.size) : i ≤ wend s i ∧ wend s i ≤ s.size := by
  unfold wend
  split
  · omega
  · split
    · exact run_le _ h
    · omega
def pfx (s sg : ByteArray) (i : Nat) : Bool := sg.data.toList.isPrefixOf (rest s i)
/-- a sign: is it there? and where one stands then -/
def eat (s sg : ByteArray) (i : Nat) : Bool × Nat := if pfx s sg (blank s i) = true then (true, blank s i + sg.size) else (false, blank s i)
theorem pfx_le {s sg : ByteArray} {i : Nat} (h : pfx s sg i = true) (hi : i ≤ s.size) : i + sg.size ≤ s.size := by
  have h1 := (List.isPrefixOf_iff_prefix.1 h).length_le
  have h2 : (rest s i).length = s.size - i := by unfold rest; rw [List.length_drop, size_l]
  rw [size_l] at h1; omega
theorem eat_le {s : ByteArray} (sg : ByteArray) {i : Nat} (h : i ≤ s.size) : i ≤ (eat s sg i).2 ∧ (eat s sg i).2 ≤ s.size := by
  have h1 := blank_le h
  unfold eat
  split
  · rename_i h2; have := pfx_le h2 h1.2; constructor <;> (show _ ≤ _; simp only; omega)
  · exact h1
/-! ## The parser: where one stands, and how many parts there are so far -/
structure St where
  at_ : Nat
  nd : Int
abbrev F := Int × Int
inductive Res (α : Type) where
  | ok (a : α)
  | no (f : F)
def Res.then {α β : Type} (x : Res α) (g : α → Res β) : Res β := match x with
  | .ok a => g a
  | .no f => .no f
theorem then_ok {α β : Type} (a : α) (g : α → Res β) : (Res.ok a).then g = g a := rfl
theorem then_no {α β : Type} (f : F) (g : α → Res β) : (Res.no f : Res α).then g = .no f := rfl
def St.go (t : St) (i : Nat) : St := ⟨i, t.nd⟩
def must (s sg : ByteArray) (t : St) : Res St := if (eat s sg t.at_).1 = true then .ok (t.go (eat s sg t.at_).2) else .no (2, (eat s sg t.at_).2)
def word (s : ByteArray) (t : St) : Res (ByteArray × St) :=
  if 12 < wend s (blank s t.at_) - blank s t.at_ then .no (7, blank s t.at_) else .ok (s.extract (blank s t.at_) (wend s (blank s t.at_)), t.go (wend s (blank s t.at_)))
def name (s : ByteArray) (t : St) : Res (ByteArray × St) := (word s t).then fun x => if x.1 = ⟨#[]⟩ then .no (2, x.2.at_) else .ok x
def dval (l : List UInt8) : Nat := l.foldl (fun n b => 10 * n + (b.toNat - 48)) 0
/-- the number that begins here -/
def numAt (s : ByteArray) (b : Nat) : Int := dval (s.extract b (run dig s b)).data.toList
def badNum (s : ByteArray) (least most : Int) (b : Nat) : Prop := numAt s b < least ∨ most < numAt s b ∨ (s[b]? = some 48 ∧ b + 1 < run dig s b)
instance (s : ByteArray) (least most : Int) (b : Nat) : Decidable (badNum s least most b) := by unfold badNum; infer_instance
def num (s : ByteArray) (least most : Int) (t : St) : Res (Int × St) :=
  if run dig s (blank s t.at_) = blank s t.at_ then .no (2, blank s t.at_) else if badNum s least most (blank s t.at_) then .no (3, blank s t.at_)
  else .ok (numAt s (blank s t.at_), t.go (run dig s (blank s t.at_)))
def node (t : St) : Res St := if 100 < t.nd + 1 then .no (4, t.at_) else .ok ⟨t.at_, t.nd + 1⟩
def g (l : List UInt8) : ByteArray := ⟨l.toArray⟩
def match_ (s : ByteArray) (t : St) : Res (Match × St) :=
  if (eat s ⟨#[33]⟩ t.at_).1 = true then (name s (t.go (eat s ⟨#[33]⟩ t.at_).2)).then fun x => .ok (⟨4, x.1, ⟨#[]⟩⟩, x.2)
  else (name s (t.go (eat s ⟨#[33]⟩ t.at_).2)).then fun x =>
    if (eat s ⟨#[33, 61]⟩ x.2.at_).1 = true then (name s (x.2.go (eat s ⟨#[33, 61]⟩ x.2.at_).2)).then fun y => .ok (⟨2, x.1, y.1⟩, y.2)
    else if (eat s ⟨#[61]⟩ (eat s ⟨#[33, 61]⟩ x.2.at_).2).1 = true then (name s (x.2.go (eat s ⟨#[61]⟩ (eat s ⟨#[33, 61]⟩ x.2.at_).2).2)).then fun y => .ok (⟨1, x.1, y.1⟩, y.2)
    else .ok (⟨3, x.1, ⟨#[]⟩⟩, x.2.go (eat s ⟨#[61]⟩ (eat s ⟨#[33, 61]⟩ x.2.at_).2).2)
def winL (s : ByteArray) : Nat → List Match → St → Res (List Match × St)
  | 0, _, _ => .no (4, 0)
  | n + 1, ms, t =>
    if (eat s ⟨#[125]⟩ t.at_).1 = true then .ok (ms, t.go (eat s ⟨#[125]⟩ t.at_).2)
    else (if 0 < ms.length then must s ⟨#[44]⟩ (t.go (eat s ⟨#[125]⟩ t.at_).2) else .ok (t.go (eat s ⟨#[125]⟩ t.at_).2)).then fun u =>
      if ms.length = 5 then .no (5, u.at_) else (match_ s u).then fun x => winL s n (ms ++ [x.1]) x.2
def window (s w : ByteArray) (t : St) : Res (Expr × St) :=
  (must s ⟨#[40]⟩ t).then fun a => (must s ⟨#[123]⟩ a).then fun b => (winL s 6 [] b).then fun c => (must s ⟨#[91]⟩ c.2).then fun d =>
    (num s 1 100000 d).then fun n => (must s ⟨#[93]⟩ n.2).then fun h => (must s ⟨#[41]⟩ h).then fun i => (node i).then fun j => .ok (.mk 2 0 n.1 w c.1 [] [], j)
def byL (s : ByteArray) : Nat → List ByteArray → St → Res (List ByteArray × St)
  | 0, _, _ => .no (4, 0)
  | n + 1, l, t => if (eat s ⟨#[44]⟩ t.at_).1 = true then (if l.length = 4 then .no (5, (eat s ⟨#[44]⟩ t.at_).2) else (name s (t.go (eat s ⟨#[44]⟩ t.at_).2)).then fun x => byL s n (l ++ [x.1]) x.2)
    else .ok (l, t.go (eat s ⟨#[44]⟩ t.at_).2)
def bys (s v : ByteArray) (t : St) : Res (List ByteArray × St) := if v = ⟨#[98, 121]⟩ then (name s t).then fun k => byL s 5 [k.1] k.2 else .ok ([], t)
def allTail (s : ByteArray) (kid : St → Res (Expr × St)) (w : ByteArray) (l : List ByteArray) (t : St) : Res (Expr × St) :=
  (must s ⟨#[40]⟩ t).then fun z => (kid z).then fun e => (must s ⟨#[41]⟩ e.2).then fun b => (node b).then fun c => .ok (.mk 3 0 0 w [] l [e.1], c)
def all (s : ByteArray) (kid : St → Res (Expr × St)) (t : St) : Res (Expr × St) :=
  (name s (t.go (blank s t.at_))).then fun x => if ¬ 0 ≤ Names.indexOf Lg.totals x.1 0 then .no (7, blank s t.at_) else
    (word s (x.2.go (blank s x.2.at_))).then fun v => if v.1 ≠ ⟨#[]⟩ ∧ v.1 ≠ ⟨#[98, 121]⟩ then .no (2, blank s x.2.at_) else
      (bys s v.1 v.2).then fun l => allTail s kid x.1 l.1 l.2
def factor (s : ByteArray) (kid : St → Res (Expr × St)) (t : St) : Res (Expr × St) :=
  if (eat s ⟨#[40]⟩ t.at_).1 = true then (kid (t.go (eat s ⟨#[40]⟩ t.at_).2)).then fun e => (must s ⟨#[41]⟩ e.2).then fun u => .ok (e.1, u)
  else (word s (t.go (blank s (eat s ⟨#[40]⟩ t.at_).2))).then fun w =>
    if w.1 = ⟨#[97, 108, 108]⟩ then all s kid w.2
    else if w.1 = ⟨#[]⟩ then (num s 0 1000000 w.2).then fun n => (node n.2).then fun c => .ok (.mk 1 n.1 0 ⟨#[]⟩ [] [] [], c)
    else if ¬ 0 ≤ Names.indexOf Agg.words w.1 0 then .no (7, blank s (eat s ⟨#[40]⟩ t.at_).2) else window s w.1 w.2
/-- the first of the signs that stands there -/
def pick (s : ByteArray) : List ByteArray → Nat → ByteArray × Nat
  | [], i => (⟨#[]⟩, i)
  | g :: gs, i => if (eat s g i).1 = true then (g, (eat s g i).2) else pick s gs (eat s g i).2
def binL (s : ByteArray) (sub : St → Res (Expr × St)) (signs : List ByteArray) : Nat → Expr → St → Res (Expr × St)
  | 0, _, _ => .no (4, 0)
  | n + 1, e, t => if (pick s signs t.at_).1 = ⟨#[]⟩ then .ok (e, t.go (pick s signs t.at_).2)
    else (sub (t.go (pick s signs t.at_).2)).then fun f => (node f.2).then fun u => binL s sub signs n (.mk 4 0 0 (pick s signs t.at_).1 [] [] [e, f.1]) u
def sumOf (s : ByteArray) (sub : St → Res (Expr × St)) (signs : List ByteArray) (t : St) : Res (Expr × St) := (sub t).then fun e => binL s sub signs 101 e.1 e.2
def star : List ByteArray := [⟨#[42]⟩]
def plus : List ByteArray := [⟨#[43]⟩, ⟨#[45]⟩]
def fac (s : ByteArray) : Nat → St → Res (Expr × St)
  | 0, t => .no (4, t.at_)
  | n + 1, t => factor s (fun u => sumOf s (fun v => sumOf s (fac s n) star v) plus u) t
def trm (s : ByteArray) (n : Nat) : St → Res (Expr × St) := fun v => sumOf s (fac s n) star v
def xpr (s : ByteArray) (n : Nat) : St → Res (Expr × St) := fun u => sumOf s (trm s n) plus u
theorem fac_succ (s : ByteArray) (n : Nat) (t : St) : fac s (n + 1) t = factor s (xpr s n) t := rfl
theorem xpr_0 (s : ByteArray) (t : St) : xpr s 0 t = .no (4, t.at_) := rfl
def none_ : Expr := .mk 0 0 0 ⟨#[]⟩ [] [] []
def parse (s : ByteArray) : Expr × F :=
  if 2000 < s.size then (none_, (4, 0)) else match xpr s 20 ⟨0, 0⟩ with
  | .no f => (none_, f)
  | .ok x => if blank s x.2.at_ < s.size then (none_, (2, blank s x.2.at_)) else if Lg.wrong x.1 ≠ 0 then (none_, (4, blank s x.2.at_)) else (x.1, (0, 0))
/-! ## What holds of all that is read -/
structure Good (s : ByteArray) (t u : St) : Prop where
  at_ : u.at_ ≤ s.size
  mono : t.nd ≤ u.nd
  most : t.nd ≤ 100 → u.nd ≤ 100
theorem Good.refl {s : ByteArray} {t : St} (h : t.at_ ≤ s.size) : Good s t t := ⟨h, Int.le_refl _, id⟩
theorem Good.trans {s : ByteArray} {t u v : St} (h : Good s t u) (k : Good s u v) : Good s t v := ⟨k.at_, Int.le_trans h.mono k.mono, fun g => k.most (h.most g)⟩
def Fine {α : Type} (s : ByteArray) (t : St) (st : α → St) : Res α → Prop
  | .ok a => Good s t (st a)
  | .no f => f.1 ≠ 0
theorem Fine.then {α β : Type} {s : ByteArray} {t : St} {p : α → St} {q : β → St} {x : Res α} {g : α → Res β} (h : Fine s t p x) (hg : ∀ a, x = .ok a → Good s t (p a) → Fine s (p a) q (g a)) : Fine s t q (x.then g) := by
  cases x with
  | no f => exact h
  | ok a =>
    have h1 := hg a rfl h
    show Fine s t q (g a)
    cases hx : g a with
    | no f => rw [hx] at h1; exact h1
    | ok b => rw [hx] at h1; exact (show Good s t (p a) from h).trans h1
theorem Fine.iff {α : Type} {s : ByteArray} {t : St} {p : α → St} {c : Prop} [Decidable c] {x y : Res α} (h : c → Fine s t p x) (k : ¬ c → Fine s t p y) : Fine s t p (if c then x else y) := by
  split
  · rename_i e; exact h e
  · rename_i e; exact k e
theorem Fine.no {α : Type} {s : ByteArray} {t : St} {p : α → St} (f : F) (h : f.1 ≠ 0) : Fine s t p (.no f) := h
theorem Good.go {s : ByteArray} {t : St} {i : Nat} (h : i ≤ s.size) : Good s t (t.go i) := ⟨h, Int.le_refl _, id⟩
theorem must_fine {s : ByteArray} (sg : ByteArray) {t : St} (h : t.at_ ≤ s.size) : Fine s t id (must s sg t) :=
  .iff (fun _ => .go (eat_le sg h).2) fun _ => .no _ (by simp)
theorem word_fine {s : ByteArray} {t : St} (h : t.at_ ≤ s.size) : Fine s t (·.2) (word s t) :=
  .iff (fun _ => .no _ (by simp)) fun _ => .go (wend_le (blank_le h).2).2
theorem name_fine {s : ByteArray} {t : St} (h : t.at_ ≤ s.size) : Fine s t (·.2) (name s t) :=
  (word_fine h).then fun a _ hg => .iff (fun _ => .no _ (by simp)) fun _ => .refl hg.at_
theorem num_fine {s : ByteArray} (least most : Int) {t : St} (h : t.at_ ≤ s.size) : Fine s t (·.2) (num s least most t) :=
  .iff (fun _ => .no _ (by simp)) fun _ => .iff (fun _ => .no _ (by simp)) fun _ => .go (run_le _ (blank_le h).2).2
theorem node_fine {s : ByteArray} {t : St} (h : t.at_ ≤ s.size) : Fine s t id (node t) :=
  .iff (fun _ => .no _ (by simp)) fun g => ⟨h, by show _ ≤ t.nd + 1; omega, fun _ => by show t.nd + 1 ≤ 100; omega⟩
theorem Fine.step {α : Type} {s : ByteArray} {t : St} {i : Nat} {p : α → St} {x : Res α} (h : Fine s (t.go i) p x) : Fine s t p x := by
  cases x with
  | no f => exact h
  | ok a => exact ⟨h.at_, h.mono, h.most⟩
theorem name_go {s : ByteArray} {t : St} {j : Nat} (h : j ≤ s.size) : Fine s t (·.2) (name s (t.go j)) := .step (i := j) (name_fine (t := t.go j) h)
theorem Fine.okI {α : Type} {s : ByteArray} {t : St} {p : α → St} {a : α} (h : Good s t (p a)) : Fine s t p (.ok a) := h
set_option maxHeartbeats 2000000 in
theorem match_fine {s : ByteArray} {t : St} (h : t.at_ ≤ s.size) : Fine s t (·.2) (match_ s t) := by
  unfold match_
  have h0 := (eat_le ⟨#[33]⟩ h).2
  refine .iff (fun _ => ?_) fun _ => ?_
  · exact (name_go h0).then fun x _ hg => Fine.okI (Good.refl hg.at_)
  · refine (name_go h0).then fun x _ hg => ?_
    have hx : x.2.at_ ≤ s.size := hg.at_
    have hy := (eat_le ⟨#[33, 61]⟩ hx).2
    have hz := (eat_le ⟨#[61]⟩ hy).2
    refine .iff (fun _ => ?_) fun _ => .iff (fun _ => ?_) fun _ => ?_
    · exact (name_go hy).then fun y _ hk => Fine.okI (Good.refl hk.at_)
    · exact (name_go hz).then fun y _ hk => Fine.okI (Good.refl hk.at_)
    · exact Fine.okI (Good.go hz)
theorem winL_fine {s : ByteArray} : ∀ (n : Nat) (ms : List Match) {t : St}, t.at_ ≤ s.size → Fine s t (·.2) (winL s n ms t)
  | 0, _, _, _ => .no _ (by simp)
  | n + 1, ms, t, h => by
    have he := fun {i : Nat} (sg : ByteArray) (h : i ≤ s.size) => (eat_le sg h).2
    rw [winL]
    refine .iff (fun _ => .go (he _ h)) fun _ => .step (i := (eat s ⟨#[125]⟩ t.at_).2) (.then (p := id) (.iff (fun _ => must_fine _ (he _ h)) fun _ => .refl (he _ h)) fun u _ hg => ?_)
    exact .iff (fun _ => .no _ (by simp)) fun _ => (match_fine hg.at_).then fun x _ hk => winL_fine n _ hk.at_
theorem window_fine {s : ByteArray} (w : ByteArray) {t : St} (h : t.at_ ≤ s.size) : Fine s t (·.2) (window s w t) :=
  (must_fine _ h).then fun _ _ h => (must_fine _ h.at_).then fun _ _ h => (winL_fine 6 [] h.at_).then fun _ _ h => (must_fine _ h.at_).then fun _ _ h => (num_fine _ _ h.at_).then fun _ _ h => (must_fine _ h.at_).then fun _ _ h =>
    (must_fine _ h.at_).then fun _ _ h => (node_fine h.at_).then fun _ _ h => .refl h.at_
theorem byL_fine {s : ByteArray} : ∀ (n : Nat) (l : List ByteArray) {t : St}, t.at_ ≤ s.size → Fine s t (·.2) (byL s n l t)
  | 0, _, _, _ => .no _ (by simp)
  | n + 1, l, t, h => by
    have he := fun {i : Nat} (sg : ByteArray) (h : i ≤ s.size) => (eat_le sg h).2
    rw [byL]
    exact .iff (fun _ => .iff (fun _ => .no _ (by simp)) fun _ => .step ((name_fine (he _ h)).then fun x _ hk => byL_fine n _ hk.at_)) fun _ => .go (he _ h)
theorem bys_fine {s : ByteArray} (v : ByteArray) {t : St} (h : t.at_ ≤ s.size) : Fine s t (·.2) (bys s v t) :=
  .iff (fun _ => (name_fine h).then fun _ _ h => byL_fine _ _ h.at_) fun _ => .refl h
def Kid (s : ByteArray) (kid : St → Res (Expr × St)) : Prop := ∀ t : St, t.at_ ≤ s.size → Fine s t (·.2) (kid t)
theorem allTail_fine {s : ByteArray} {kid : St → Res (Expr × St)} (hk : Kid s kid) (w : ByteArray) (l : List ByteArray) {t : St} (h : t.at_ ≤ s.size) : Fine s t (·.2) (allTail s kid w l t) :=
  (must_fine _ h).then fun _ _ h => (hk _ h.at_).then fun _ _ h => (must_fine _ h.at_).then fun _ _ h => (node_fine h.at_).then fun _ _ h => .refl h.at_
theorem all_fine {s : ByteArray} {kid : St → Res (Expr × St)} (hk : Kid s kid) {t : St} (h : t.at_ ≤ s.size) : Fine s t (·.2) (all s kid t) :=
  .step ((name_fine (blank_le h).2).then fun _ _ h => .iff (fun _ => .no _ (by simp)) fun _ => .step ((word_fine (blank_le h.at_).2).then fun _ _ h => .iff (fun _ => .no _ (by simp)) fun _ => (bys_fine _ h.at_).then fun _ _ h => allTail_fine hk _ _ h.at_))
theorem factor_fine {s : ByteArray} {kid : St → Res (Expr × St)} (hk : Kid s kid) {t : St} (h : t.at_ ≤ s.size) : Fine s t (·.2) (factor s kid t) := by
  have he := fun {i : Nat} (sg : ByteArray) (h : i ≤ s.size) => (eat_le sg h).2
  refine .iff (fun _ => .step ((hk _ (he _ h)).then fun _ _ h => (must_fine _ h.at_).then fun _ _ h => .refl h.at_)) fun _ => .step ((word_fine (blank_le (he _ h)).2).then fun w _ h => ?_)
  refine .iff (fun _ => all_fine hk h.at_) fun _ => .iff (fun _ => (num_fine _ _ h.at_).then fun _ _ h => (node_fine h.at_).then fun _ _ h => .refl h.at_) fun _ => .iff (fun _ => .no _ (by simp)) fun _ => window_fine _ h.at_
theorem pick_le {s : ByteArray} : ∀ (l : List ByteArray) {i : Nat}, i ≤ s.size → (pick s l i).2 ≤ s.size
  | [], _, h => h
  | g :: l, i, h => by
    rw [pick]
    split
    · exact (eat_le g h).2
    · exact pick_le l (eat_le g h).2
theorem binL_fine {s : ByteArray} {sub : St → Res (Expr × St)} (hk : Kid s sub) (signs : List ByteArray) : ∀ (n : Nat) (e : Expr) {t : St}, t.at_ ≤ s.size → Fine s t (·.2) (binL s sub signs n e t)
  | 0, _, _, _ => .no _ (by simp)
  | n + 1, e, t, h => by
    rw [binL]
    exact .iff (fun _ => .go (pick_le _ h)) fun _ => .step ((hk _ (pick_le _ h)).then fun _ _ h => (node_fine h.at_).then fun _ _ h => binL_fine hk signs n _ h.at_)
theorem sumOf_fine {s : ByteArray} {sub : St → Res (Expr × St)} (hk : Kid s sub) (signs : List ByteArray) : Kid s (fun t => sumOf s sub signs t) :=
  fun _ h => (hk _ h).then fun _ _ h => binL_fine hk signs _ _ h.at_
theorem fac_fine (s : ByteArray) : ∀ n, Kid s (fac s n)
  | 0 => fun _ _ => .no _ (by simp)
  | n + 1 => fun _ h => factor_fine (sumOf_fine (sumOf_fine (fac_fine s n) star) plus) h
theorem trm_fine (s : ByteArray) (n : Nat) : Kid s (trm s n) := sumOf_fine (fac_fine s n) star
theorem xpr_fine (s : ByteArray) (n : Nat) : Kid s (xpr s n) := sumOf_fine (trm_fine s n) plus
theorem Kid.ok {s : ByteArray} {kid : St → Res (Expr × St)} (hk : Kid s kid) {t : St} {x : Expr × St} (h : t.at_ ≤ s.size) (e : kid t = .ok x) : Good s t x.2 := by have := hk t h; rw [e] at this; exact this
theorem Kid.no {s : ByteArray} {kid : St → Res (Expr × St)} (hk : Kid s kid) {t : St} {f : F} (h : t.at_ ≤ s.size) (e : kid t = .no f) : f.1 ≠ 0 := by have := hk t h; rw [e] at this; exact this
theorem Fine.ok_ {α : Type} {s : ByteArray} {t : St} {p : α → St} {r : Res α} {a : α} (h : Fine s t p r) (e : r = .ok a) : Good s t (p a) := by rw [e] at h; exact h
end Pz
end Go.Proofs.YtffpglgboaigfaaDoor
