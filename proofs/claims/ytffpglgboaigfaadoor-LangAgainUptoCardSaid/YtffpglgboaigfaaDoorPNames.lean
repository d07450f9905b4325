/-
  Names, series and matches, in plain Lean.
-/
import Derived.Test.YtffpglgboaigfaaDoorRoll
namespace Go.Proofs.YtffpglgboaigfaaDoor
namespace Names

/-- a comparison that puts all things in one order -/
structure IsCmp {α : Type} (f : α → α → Int) : Prop where
  anti : ∀ a b, f b a = -f a b
  zero : ∀ a b, f a b = 0 ↔ a = b
  trans : ∀ a b c, f a b < 0 → f b c < 0 → f a c < 0

theorem IsCmp.refl {α : Type} {f : α → α → Int} (h : IsCmp f) (a : α) : f a a = 0 := (h.zero a a).2 rfl
/-- one comparison behind the other -/
theorem IsCmp.lex {α β : Type} {f : α → α → Int} {g : β → β → Int} (hf : IsCmp f) (hg : IsCmp g) : IsCmp (fun (a b : α × β) => if f a.1 b.1 ≠ 0 then f a.1 b.1 else g a.2 b.2) := by
  refine ⟨fun a b => ?_, fun a b => ?_, fun a b c h1 h2 => ?_⟩
  · have h1 := hf.anti a.1 b.1
    have h2 := hg.anti a.2 b.2
    split <;> split <;> omega
  · have h1 := hf.zero a.1 b.1
    have h2 := hg.zero a.2 b.2
    constructor
    · intro h
      split at h
      · contradiction
      · rename_i h0
        exact Prod.ext (h1.1 (Classical.not_not.1 h0)) (h2.1 h)
    · rintro rfl
      rw [if_neg (by simp [h1.2 rfl]), h2.2 rfl]
  · by_cases e1 : f a.1 b.1 = 0
    · have e1' := (hf.zero _ _).1 e1
      rw [if_neg (by simp [e1])] at h1
      rw [e1']
      by_cases e2 : f b.1 c.1 = 0
      · rw [if_neg (by simp [e2])] at h2 ⊢
        exact hg.trans _ _ _ h1 h2
      · rw [if_pos e2] at h2 ⊢; exact h2
    · rw [if_pos e1] at h1
      by_cases e2 : f b.1 c.1 = 0
      · rw [← (hf.zero _ _).1 e2, if_pos e1]; exact h1
      · rw [if_pos e2] at h2
        have h3 := hf.trans _ _ _ h1 h2
        rw [if_pos (by omega)]; exact h3

/-! ## Strings -/
theorem bl_irrefl : ∀ a : List UInt8, Op.bytesLess a a = false
  | [] => rfl
  | x :: a => by
    have h1 : ¬ x < x := fun k => by have := UInt8.lt_iff_toNat_lt.1 k; omega
    simp [Op.bytesLess, h1, bl_irrefl a]
theorem bl_trans : ∀ a b c : List UInt8, Op.bytesLess a b = true → Op.bytesLess b c = true → Op.bytesLess a c = true
  | [], _, [], _, h => by cases ‹List UInt8› <;> simp [Op.bytesLess] at h
  | [], _, _ :: _, _, _ => by simp [Op.bytesLess]
  | _ :: _, [], _, h, _ => by simp [Op.bytesLess] at h
  | _ :: _, _ :: _, [], _, h => by simp [Op.bytesLess] at h
  | x :: a, y :: b, z :: c, h1, h2 => by
    simp only [Op.bytesLess, Bool.or_eq_true, decide_eq_true_eq, Bool.and_eq_true, beq_iff_eq, UInt8.lt_iff_toNat_lt] at *
    rcases h1 with h1 | ⟨rfl, h1⟩
    · rcases h2 with h2 | ⟨rfl, h2⟩
      · left; omega
      · left; exact h1
    · rcases h2 with h2 | ⟨rfl, h2⟩
      · left; exact h2
      · right; exact ⟨rfl, bl_trans a b c h1 h2⟩
def cmpS (a b : ByteArray) : Int := if Ex.sless a b = true then -1 else if Ex.sless b a = true then 1 else 0
theorem cmpS_is : IsCmp cmpS := by
  have tot : ∀ a b : ByteArray, Ex.sless a b = false → Ex.sless b a = false → a = b := by
    intro a b h1 h2
    have := Ex.sl_total a b
    have h1' : Op.bytesLess a.toList b.toList = false := h1
    rw [h2, h1'] at this
    simpa using this
  have asym : ∀ a b : ByteArray, Ex.sless a b = true → Ex.sless b a = true → False := by
    intro a b h1 h2
    have := bl_trans _ _ _ h1 h2
    rw [bl_irrefl] at this; cases this
  have irr : ∀ a : ByteArray, Ex.sless a a = false := fun a => bl_irrefl _
  refine ⟨fun a b => ?_, fun a b => ?_, fun a b c h1 h2 => ?_⟩
  · unfold cmpS
    cases h1 : Ex.sless a b <;> cases h2 : Ex.sless b a <;> simp
    exact asym a b h1 h2
  · constructor
    · unfold cmpS
      cases h1 : Ex.sless a b <;> cases h2 : Ex.sless b a <;> simp
      exact tot a b h1 h2
    · rintro rfl
      unfold cmpS; simp [irr]
  · have f : ∀ a b, cmpS a b < 0 → Ex.sless a b = true := by
      intro a b
      unfold cmpS
      cases h1 : Ex.sless a b <;> cases h2 : Ex.sless b a <;> simp
    have : Ex.sless a c = true := bl_trans _ _ _ (f _ _ h1) (f _ _ h2)
    unfold cmpS; simp [this]

/-! ## Labels, series -/
def cmpL (x y : Label) : Int := if cmpS x.key y.key ≠ 0 then cmpS x.key y.key else cmpS x.val y.val
theorem cmpL_is : IsCmp cmpL := by
  have h := cmpS_is.lex cmpS_is
  exact ⟨fun a b => h.anti (a.key, a.val) (b.key, b.val), fun a b => (h.zero (a.key, a.val) (b.key, b.val)).trans ⟨fun e => by cases a; cases b; simp at e; simp [e], fun e => by rw [e]⟩, fun a b c => h.trans (a.key, a.val) (b.key, b.val) (c.key, c.val)⟩
def orI : List Int → Int
  | [] => 0
  | x :: l => if x ≠ 0 then x else orI l
theorem orI_two (a b : Int) : orI [a, b] = if a ≠ 0 then a else b := by
  simp only [orI]; split
  · rfl
  · split <;> simp_all
theorem or_step {l : List Int} {k : Nat} {x : Int} (h : l[k]? = some x) : orI (l.drop k) = if x ≠ 0 then x else orI (l.drop (k + 1)) := by
  obtain ⟨h1, rfl⟩ := List.getElem?_eq_some_iff.1 h
  rw [List.drop_eq_getElem_cons h1, orI]
theorem or_end {l : List Int} {k : Nat} (h : l.length ≤ k) : orI (l.drop k) = 0 := by
  rw [List.drop_of_length_le h, orI]
def compare : List Label → List Label → Int
  | [], [] => 0
  | [], _ :: _ => -1
  | _ :: _, [] => 1
  | x :: a, y :: b => if cmpL x y ≠ 0 then cmpL x y else compare a b
theorem compare_is : IsCmp compare := by
  refine ⟨?_, ?_, ?_⟩
  · intro a
    induction a with
    | nil => intro b; cases b <;> simp [compare]
    | cons x a ih =>
      intro b
      cases b with
      | nil => simp [compare]
      | cons y b =>
        have h1 := cmpL_is.anti x y
        have h2 := ih b
        simp only [compare]
        split <;> split <;> omega
  · intro a
    induction a with
    | nil => intro b; cases b <;> simp [compare]
    | cons x a ih =>
      intro b
      cases b with
      | nil => simp [compare]
      | cons y b =>
        have h1 := cmpL_is.zero x y
        have h2 := ih b
        simp only [compare, List.cons.injEq]
        constructor
        · intro h
          split at h
          · contradiction
          · rename_i h0
            exact ⟨h1.1 (Classical.not_not.1 h0), h2.1 h⟩
        · rintro ⟨rfl, rfl⟩
          rw [if_neg (by simp [h1.2 rfl]), h2.2 rfl]
  · intro a
    induction a with
    | nil => intro b c h1 h2; cases b <;> cases c <;> simp_all [compare]
    | cons x a ih =>
      intro b c h1 h2
      cases b with
      | nil => simp [compare] at h1
      | cons y b =>
        cases c with
        | nil => simp [compare] at h2
        | cons z c =>
          simp only [compare] at *
          by_cases e1 : cmpL x y = 0
          · obtain rfl := (cmpL_is.zero _ _).1 e1
            rw [if_neg (by simp [e1])] at h1
            by_cases e2 : cmpL x z = 0
            · rw [if_neg (by simp [e2])] at h2 ⊢
              exact ih b c h1 h2
            · rw [if_pos e2] at h2 ⊢; exact h2
          · rw [if_pos e1] at h1
            by_cases e2 : cmpL y z = 0
            · obtain rfl := (cmpL_is.zero _ _).1 e2
              rw [if_pos e1]; exact h1
            · rw [if_pos e2] at h2
              have h3 := cmpL_is.trans _ _ _ h1 h2
              rw [if_pos (by omega)]; exact h3
theorem compare_step {a b : List Label} {k : Nat} {x y : Label} (hx : a[k]? = some x) (hy : b[k]? = some y) : compare (a.drop k) (b.drop k) = if cmpL x y ≠ 0 then cmpL x y else compare (a.drop (k + 1)) (b.drop (k + 1)) := by
  obtain ⟨h1, rfl⟩ := List.getElem?_eq_some_iff.1 hx
  obtain ⟨h2, rfl⟩ := List.getElem?_eq_some_iff.1 hy
  rw [List.drop_eq_getElem_cons h1, List.drop_eq_getElem_cons h2, compare]
theorem compare_over {a b : List Label} {k : Nat} {x : Label} (hx : a[k]? = some x) (hb : b.length ≤ k) : compare (a.drop k) (b.drop k) = 1 := by
  obtain ⟨h1, rfl⟩ := List.getElem?_eq_some_iff.1 hx
  rw [List.drop_eq_getElem_cons h1, List.drop_of_length_le hb, compare]
theorem compare_end {a b : List Label} {k : Nat} (ha : a.length ≤ k) (hk : k ≤ a.length) : compare (a.drop k) (b.drop k) = if a.length < b.length then -1 else 0 := by
  rw [List.drop_of_length_le ha]
  split
  · rw [List.drop_eq_getElem_cons (by omega), compare]
  · rw [List.drop_of_length_le (by omega), compare]

def get : List Label → ByteArray → ByteArray × Bool
  | [], _ => (⟨#[]⟩, false)
  | x :: r, key => if x.key = key then (x.val, true) else get r key
theorem get_step {l : List Label} {k : Nat} {x : Label} {key : ByteArray} (hx : l[k]? = some x) : get (l.drop k) key = if x.key = key then (x.val, true) else get (l.drop (k + 1)) key := by
  obtain ⟨h1, rfl⟩ := List.getElem?_eq_some_iff.1 hx
  rw [List.drop_eq_getElem_cons h1, get]
theorem get_end {l : List Label} {k : Nat} {key : ByteArray} (h : l.length ≤ k) : get (l.drop k) key = (⟨#[]⟩, false) := by
  rw [List.drop_of_length_le h, get]
def match1 (s : List Label) (m : Match) : Bool :=
  if m.kind = 1 then (get s m.key).2 && decide ((get s m.key).1 = m.val)
  else if m.kind = 2 then !(get s m.key).2 || decide ((get s m.key).1 ≠ m.val)
  else if m.kind = 3 then (get s m.key).2
  else if m.kind = 4 then !(get s m.key).2
  else false
def matches_ (s : List Label) (l : List Match) : Bool := l.all (match1 s)
theorem matches_stop {s : List Label} {l : List Match} {k : Nat} {m : Match} (hm : l[k]? = some m) (h : match1 s m = false) : matches_ s l = false := by
  unfold matches_
  rw [List.all_eq_false]
  exact ⟨m, List.mem_of_getElem? hm, by simp [h]⟩
theorem matches_step {s : List Label} {l : List Match} {k : Nat} {m : Match} (hm : l[k]? = some m) (h : match1 s m = true) (hl : ∀ x ∈ l.take k, match1 s x = true) : ∀ x ∈ l.take (k + 1), match1 s x = true := by
  rw [List.take_add_one, hm]
  intro x hx
  rcases List.mem_append.1 hx with h1 | h1
  · exact hl x h1
  · obtain rfl : x = m := by simpa using h1
    exact h
theorem matches_done {s : List Label} {l : List Match} {k : Nat} (hk : l.length ≤ k) (hl : ∀ x ∈ l.take k, match1 s x = true) : matches_ s l = true := by
  rw [List.take_of_length_le hk] at hl
  exact List.all_eq_true.2 hl

/-! ## Where a string stands; only some labels -/
def indexOf : List ByteArray → ByteArray → Nat → Int
  | [], _, _ => -1
  | x :: l, v, i => if v = x then i else indexOf l v (i + 1)
theorem index_step {l : List ByteArray} {k : Nat} {x v : ByteArray} (h : l[k]? = some x) : indexOf (l.drop k) v k = if v = x then (k : Int) else indexOf (l.drop (k + 1)) v (k + 1) := by
  obtain ⟨h1, rfl⟩ := List.getElem?_eq_some_iff.1 h
  rw [List.drop_eq_getElem_cons h1, indexOf]
theorem index_end {l : List ByteArray} {k : Nat} {v : ByteArray} (h : l.length ≤ k) : indexOf (l.drop k) v k = -1 := by
  rw [List.drop_of_length_le h, indexOf]
theorem index_mem : ∀ (l : List ByteArray) (v : ByteArray) (i : Nat), 0 ≤ indexOf l v i ↔ v ∈ l
  | [], v, i => by simp [indexOf]
  | x :: l, v, i => by
    rw [indexOf]
    split
    · rename_i h; simp [h]
    · rename_i h; rw [index_mem l v (i + 1), List.mem_cons]; exact ⟨.inr, fun g => g.resolve_left h⟩
def only (s : List Label) (by_ : List ByteArray) : List Label := s.filter (fun l => decide (0 ≤ indexOf by_ l.key 0))
theorem only_succ {l : List Label} {by_ : List ByteArray} {k : Nat} {x : Label} (h : l[k]? = some x) : only (l.take (k + 1)) by_ = if 0 ≤ indexOf by_ x.key 0 then only (l.take k) by_ ++ [x] else only (l.take k) by_ := by
  unfold only
  rw [List.take_add_one, h, List.filter_append]
  split
  · rename_i hm; simp [hm]
  · rename_i hm; simp [hm]
theorem only_len (l : List Label) (by_ : List ByteArray) : (only l by_).length ≤ l.length := List.length_filter_le ..
theorem not_mem_step {l : List ByteArray} {k : Nat} {x v : ByteArray} (h : v ∉ l.take k) (hx : l[k]? = some x) (hne : ¬ x = v) : v ∉ l.take (k + 1) := by
  rw [List.take_add_one, hx]
  intro hm
  rcases List.mem_append.1 hm with h1 | h1
  · exact h h1
  · exact hne (by simpa using h1 : v = x).symm
theorem not_mem_done {l : List ByteArray} {k : Nat} {v : ByteArray} (h : v ∉ l.take k) (hk : l.length ≤ k) : v ∉ l := by rwa [List.take_of_length_le hk] at h
def pairs (x y : Label) : List Pair2 := [⟨x.key, y.key⟩, ⟨x.val, y.val⟩]
def cmpFrom (x y : Label) (j : Nat) : Int := orI (((pairs x y).drop j).map fun p => cmpS p.fst p.snd)
theorem cmpFrom_zero (x y : Label) : cmpL x y = cmpFrom x y 0 := by
  show _ = orI [cmpS x.key y.key, cmpS x.val y.val]
  rw [orI_two]; rfl
theorem cmpFrom_step {x y : Label} {j : Nat} {p : Pair2} (h : (pairs x y)[j]? = some p) : cmpFrom x y j = if cmpS p.fst p.snd ≠ 0 then cmpS p.fst p.snd else cmpFrom x y (j + 1) := by
  obtain ⟨h1, rfl⟩ := List.getElem?_eq_some_iff.1 h
  unfold cmpFrom
  rw [List.drop_eq_getElem_cons h1, List.map_cons, orI]
theorem cmpFrom_end {x y : Label} {j : Nat} (h : 2 ≤ j) : cmpFrom x y j = 0 := by
  unfold cmpFrom
  rw [List.drop_of_length_le (by simpa [pairs] using h)]; rfl
theorem cmpS_lt {a b : ByteArray} (h : Ex.sless a b = true) : cmpS a b = -1 := by unfold cmpS; rw [if_pos h]
theorem cmpS_gt {a b : ByteArray} (h0 : Ex.sless a b = false) (h : Ex.sless b a = true) : cmpS a b = 1 := by unfold cmpS; rw [if_neg (by simp [h0]), if_pos h]
theorem cmpS_eq {a b : ByteArray} (h0 : Ex.sless a b = false) (h : Ex.sless b a = false) : cmpS a b = 0 := by unfold cmpS; rw [if_neg (by simp [h0]), if_neg (by simp [h])]
theorem get_back {l : List Label} {k : Nat} {x : Label} {key : ByteArray} (hx : l[k]? = some x) : get (l.drop k) key = if x.key = key then (x.val, true) else get (l.drop (k + 1)) key := get_step hx
theorem get_none {l : List Label} {key : ByteArray} (h : (get l key).2 = false) : (get l key).1 = ⟨#[]⟩ := by
  induction l with
  | nil => rfl
  | cons x l ih =>
    rw [get] at h ⊢
    split
    · rename_i e; rw [if_pos e] at h; cases h
    · rename_i e; rw [if_neg e] at h; exact ih h

/-! ## Laws -/
theorem order1 (a b : List Label) : ¬ (((decide (compare a b < 0)) ≠ (decide (0 < compare b a))) ∨ (((decide (compare a b = 0)) ≠ (decide (a = b))) ∨ ((decide (compare b a = 0)) ≠ (decide (compare a b = 0))))) := by
  have h1 := compare_is.anti a b
  have h2 := compare_is.zero a b
  rintro (h | h | h)
  · exact h (by rw [h1]; congr 1; exact propext ⟨fun _ => by omega, fun _ => by omega⟩)
  · exact h (by congr 1; exact propext h2)
  · exact h (by rw [h1]; congr 1; exact propext ⟨fun _ => by omega, fun _ => by omega⟩)
theorem take_matches {r : List Label} {l : List Match} {k : Nat} {m : Match} (h : l[k]? = some m) : matches_ r (l.take (k + 1)) = (matches_ r (l.take k) && matches_ r [m]) := by
  unfold matches_
  rw [List.take_add_one, h, List.all_append]; rfl
theorem swap_ne {r : List Label} {m : Match} {k' : Int} (h : (m.kind = 1 ∧ k' = 2) ∨ (m.kind = 2 ∧ k' = 1) ∨ (m.kind = 3 ∧ k' = 4) ∨ (m.kind = 4 ∧ k' = 3)) : matches_ r [m] ≠ matches_ r [⟨k', m.key, m.val⟩] := by
  unfold matches_
  simp only [List.all_cons, List.all_nil, Bool.and_true]
  rcases h with ⟨h, rfl⟩ | ⟨h, rfl⟩ | ⟨h, rfl⟩ | ⟨h, rfl⟩
  · simp only [match1, h]
    cases (get r m.key).2 <;> by_cases e : (get r m.key).1 = m.val <;> simp [e]
  · simp only [match1, h]
    cases (get r m.key).2 <;> by_cases e : (get r m.key).1 = m.val <;> simp [e]
  · simp only [match1, h]
    cases (get r m.key).2 <;> simp
  · simp only [match1, h]
    cases (get r m.key).2 <;> simp
theorem match1_odd {r : List Label} {m : Match} (h1 : ¬ m.kind = 1) (h2 : ¬ m.kind = 2) (h3 : ¬ m.kind = 3) (h4 : ¬ m.kind = 4) : match1 r m = false := by
  unfold match1; rw [if_neg h1, if_neg h2, if_neg h3, if_neg h4]

/-! ## Names -/
def fineB (i : Nat) (c : UInt8) : Prop := (97 ≤ (c.toNat : Int) ∧ (c.toNat : Int) ≤ 122) ∨ (i ≠ 0 ∧ ((48 ≤ (c.toNat : Int) ∧ (c.toNat : Int) ≤ 57) ∨ (c.toNat : Int) = 95))
instance (i : Nat) (c : UInt8) : Decidable (fineB i c) := by unfold fineB; infer_instance
def namedL : Nat → List UInt8 → Bool
  | _, [] => true
  | i, c :: r => decide (fineB i c) && namedL (i + 1) r
def named (s : ByteArray) : Bool := decide (1 ≤ s.size) && decide (s.size ≤ 12) && namedL 0 s.data.toList
theorem at_list {s : ByteArray} {k : Nat} {c : UInt8} (h : s[k]? = some c) : s.data.toList[k]? = some c := by
  by_cases hk : k < s.size
  · rw [getElem?_pos s k hk] at h
    rw [Array.getElem?_toList, ← h]
    exact Array.getElem?_eq_getElem hk
  · rw [getElem?_neg s k hk] at h; cases h
theorem named_step {s : ByteArray} {k : Nat} {c : UInt8} (h : s[k]? = some c) : namedL k (s.data.toList.drop k) = (decide (fineB k c) && namedL (k + 1) (s.data.toList.drop (k + 1))) := by
  obtain ⟨h1, h2⟩ := List.getElem?_eq_some_iff.1 (at_list h)
  rw [List.drop_eq_getElem_cons h1, namedL, h2]
theorem named_end {s : ByteArray} {k : Nat} (h : s.size ≤ k) : namedL k (s.data.toList.drop k) = true := by
  rw [List.drop_of_length_le (by simpa using h), namedL]
theorem namedD_step {l : List UInt8} {k : Nat} {c : UInt8} (h : l[k]? = some c) : namedL k (l.drop k) = (decide (fineB k c) && namedL (k + 1) (l.drop (k + 1))) := by
  obtain ⟨h1, rfl⟩ := List.getElem?_eq_some_iff.1 h
  rw [List.drop_eq_getElem_cons h1, namedL]
theorem namedD_end {l : List UInt8} {k : Nat} (h : l.length ≤ k) : namedL k (l.drop k) = true := by
  rw [List.drop_of_length_le h, namedL]
def behind : Option Label → Label → Bool
  | some y, x => !(Ex.sless y.key x.key)
  | none, _ => false
/-- the first thing that is wrong with labels from number k on -/
def wrongFrom : Option Label → List Label → Int
  | _, [] => 0
  | p, x :: r => if (!named x.key) = true ∨ (!named x.val) = true then 7 else if behind p x = true then 2 else wrongFrom (some x) r
def wrong (l : List Label) : Int := if 4 < l.length then 5 else wrongFrom none l
def prevOf (l : List Label) (k : Nat) : Option Label := if k = 0 then none else l[k - 1]?
theorem wrong_start (l : List Label) : wrongFrom none l = wrongFrom (prevOf l 0) (l.drop 0) := by simp [prevOf]
theorem wrong_step {l : List Label} {k : Nat} {x : Label} (h : l[k]? = some x) : wrongFrom (prevOf l k) (l.drop k) = if (!named x.key) = true ∨ (!named x.val) = true then 7 else if behind (prevOf l k) x = true then 2 else wrongFrom (prevOf l (k + 1)) (l.drop (k + 1)) := by
  obtain ⟨h1, h2⟩ := List.getElem?_eq_some_iff.1 h
  have : prevOf l (k + 1) = some x := by unfold prevOf; rw [if_neg (by omega)]; simpa using h
  rw [List.drop_eq_getElem_cons h1, wrongFrom, h2, this]
theorem wrong_end {l : List Label} {k : Nat} {p : Option Label} (h : l.length ≤ k) : wrongFrom p (l.drop k) = 0 := by
  rw [List.drop_of_length_le h, wrongFrom]
end Names
end Go.Proofs.YtffpglgboaigfaaDoor
