/-
  What an expression's text is, in plain terms.
-/
import Derived.Test.YtffpglgboaigfaaDoorPShape
import Derived.Test.YtffpglgboaigfaaDoorBld
import Derived.Test.YtffpglgboaigfaaDoorPBytes
import Derived.Lib.ItoaLen
import Derived.Lib.Join
namespace Go.Proofs.YtffpglgboaigfaaDoor
namespace Lg
open Ex Mn
def nb (n : Int) : List UInt8 := Go.Lib.itoa n
def mt (m : Match) : List UInt8 := if m.kind = 1 then m.key.data.toList ++ 61 :: m.val.data.toList else if m.kind = 2 then m.key.data.toList ++ 33 :: 61 :: m.val.data.toList else if m.kind = 3 then m.key.data.toList else 33 :: m.key.data.toList
def mts : Bool → List Match → List UInt8
  | _, [] => []
  | f, m :: r => (if f then mt m else 44 :: mt m) ++ mts false r
theorem mts_snoc : ∀ (f : Bool) (l : List Match) (m : Match), mts f (l ++ [m]) = mts f l ++ (if f = true ∧ l = [] then mt m else 44 :: mt m)
  | f, [], m => by cases f <;> simp [mts]
  | f, x :: l, m => by rw [List.cons_append, mts, mts_snoc false l m, mts]; simp
def wint (w : ByteArray) (ms : List Match) (r : Int) : List UInt8 := w.data.toList ++ [40, 123] ++ mts true ms ++ [125, 91] ++ nb r ++ [93, 41]
def bys : Bool → List ByteArray → List UInt8
  | _, [] => []
  | f, b :: r => (if f then [32, 98, 121, 32] else [44]) ++ b.data.toList ++ bys false r
theorem bys_snoc : ∀ (f : Bool) (l : List ByteArray) (b : ByteArray), bys f (l ++ [b]) = bys f l ++ ((if f = true ∧ l = [] then [32, 98, 121, 32] else [44]) ++ b.data.toList)
  | f, [], m => by cases f <;> simp [bys]
  | f, x :: l, m => by rw [List.cons_append, bys, bys_snoc false l m, bys]; simp
theorem bys_tail : ∀ (l : List ByteArray), Go.Lib.joinTail [44] (l.map (·.data.toList)) = bys false l
  | [] => rfl
  | b :: l => by
    have ih := bys_tail l
    unfold Go.Lib.joinTail at ih ⊢
    rw [List.map_cons, List.map_cons, List.flatten_cons, ih, bys]; rfl
theorem bys_join : ∀ {l : List ByteArray}, l ≠ [] → [32, 98, 121, 32] ++ Go.Lib.join (l.map (·.data.toList)) [44] = bys true l
  | [], h => absurd rfl h
  | b :: l, _ => by rw [List.map_cons, Go.Lib.join_cons, bys_tail, bys]; simp
def lv (w : ByteArray) : Int := if w = ⟨#[42]⟩ then 1 else 0
theorem lv_pos (w : ByteArray) : ¬ lv w < 0 := by unfold lv; split <;> omega
def tb (w : ByteArray) (l : List (List UInt8)) : List UInt8 := l[0]?.getD [] ++ [32] ++ w.data.toList ++ [32] ++ l[1]?.getD []
mutual
def txt : Expr → Int → List UInt8
  | .mk k n r w ms by_ ks, least => if k = 1 then nb n else if k = 2 then wint w ms r else if k = 3 then [97, 108, 108, 32] ++ w.data.toList ++ bys true by_ ++ [32, 40] ++ (txts ks 0)[0]?.getD [] ++ [41]
    else if lv w < least then [40] ++ tb w (txts ks (lv w)) ++ [41] else tb w (txts ks (lv w))
def txts : List Expr → Int → List (List UInt8)
  | [], _ => []
  | x :: xs, l => txt x l :: txts xs (l + 1)
end
theorem txts_at : ∀ (l : List Expr) (a : Int) (i : Nat) (x : Expr), l[i]? = some x → (txts l a)[i]? = some (txt x (a + i))
  | [], _, _, _, h => by simp at h
  | y :: l, a, 0, x, h => by
    obtain rfl : y = x := by simpa using h
    simp [txts]
  | y :: l, a, i + 1, x, h => by
    rw [txts, List.getElem?_cons_succ, txts_at l (a + 1) i x (by simpa using h)]
    congr 2; omega
theorem kid_at {l : List ExprX} {i : Nat} {s : ExprX} {a b : Int} (h : l[i]? = some s) (hb : b = a + i) : (txts (l.map ExprX.e) a)[i]?.getD [] = txt s.e b := by
  rw [txts_at _ a i s.e (by rw [List.getElem?_map, h]; rfl), hb]; rfl
theorem txt_num {x : ExprX} (h : x.kind = 1) (least : Int) : txt x.e least = nb x.n := by rw [ExprX.e_eq, txt, if_pos h]
theorem txt_win {x : ExprX} (h : x.kind = 2) (least : Int) : txt x.e least = wint x.word x.ms.l x.range := by rw [ExprX.e_eq, txt, if_neg (by omega), if_pos h]
theorem txt_all {x : ExprX} {s : ExprX} (h : x.kind = 3) (hs : x.kids.l[0]? = some s) (least : Int) : txt x.e least = [97, 108, 108, 32] ++ x.word.data.toList ++ bys true x.by_.l ++ [32, 40] ++ txt s.e 0 ++ [41] := by
  rw [ExprX.e_eq, txt, if_neg (by omega), if_neg (by omega), if_pos h, kid_at hs (a := 0) (b := 0) (by simp)]
theorem txt_bin {x : ExprX} {s t : ExprX} {b : Int} (h : x.kind = 4) (hs : x.kids.l[0]? = some s) (ht : x.kids.l[1]? = some t) (least : Int) (hb : b = lv x.word + 1) : txt x.e least = if lv x.word < least then [40] ++ (txt s.e (lv x.word) ++ [32] ++ x.word.data.toList ++ [32] ++ txt t.e b) ++ [41] else txt s.e (lv x.word) ++ [32] ++ x.word.data.toList ++ [32] ++ txt t.e b := by
  rw [ExprX.e_eq, txt, if_neg (by omega), if_neg (by omega), if_neg (by omega), tb, kid_at hs (a := lv x.word) (b := lv x.word) (by simp), kid_at ht (a := lv x.word) (b := b) (by rw [hb]; rfl)]
theorem txt_par {x : ExprX} (h : x.kind = 4) {least : Int} (hl : lv x.word < least) : txt x.e least = [40] ++ txt x.e 0 ++ [41] := by
  rw [ExprX.e_eq, txt, txt, if_neg (by omega), if_neg (by omega), if_neg (by omega), if_pos hl, if_neg (by omega), if_neg (by omega), if_neg (by omega), if_neg (by unfold lv; split <;> omega)]
/-! ## What is right is short -/
theorem named_size {s : ByteArray} (h : Names.named s = true) : s.size ≤ 12 := by
  unfold Names.named at h
  simp only [Bool.and_eq_true, decide_eq_true_eq] at h
  exact h.1.2
theorem nb_len {n : Int} (h : 0 ≤ n ∧ n ≤ 1000000) : (nb n).length ≤ 21 := Go.Lib.itoa_length_le n (by omega) (by omega)
structure MatchR (m : Match) : Prop where
  kind : 1 ≤ m.kind ∧ m.kind ≤ 4
  key : m.key.size ≤ 12
  val : m.kind ≤ 2 → m.val.size ≤ 12
theorem matchR_of {m : Match} (h : matchW m = 0) : MatchR m := by
  unfold matchW at h
  split at h
  · cases h
  split at h
  · cases h
  rename_i g1 g2
  simp only [not_or, not_and, Bool.not_eq_false] at g2
  exact ⟨by omega, named_size g2.1, fun h => named_size (g2.2 (by omega))⟩
theorem matchesR_of : ∀ {l : List Match}, matchesW l = 0 → ∀ m ∈ l, MatchR m
  | [], _, m, hm => by cases hm
  | x :: l, h, m, hm => by
    rw [matchesW] at h
    split at h
    · rename_i g; exact absurd h g
    rename_i g
    rcases List.mem_cons.1 hm with rfl | hm
    · exact matchR_of (Classical.not_not.1 g)
    · exact matchesR_of h m hm
theorem mt_len {m : Match} (h : MatchR m) : (mt m).length ≤ 26 := by
  have h1 := h.key; have h2 := h.val; have h3 := h.kind
  rw [bl_size] at h1
  unfold mt
  split
  · have h4 := h2 (by omega); rw [bl_size] at h4; simp only [List.length_append, List.length_cons]; omega
  split
  · have h4 := h2 (by omega); rw [bl_size] at h4; simp only [List.length_append, List.length_cons]; omega
  split
  · omega
  · simp only [List.length_cons]; omega
theorem mts_len : ∀ (f : Bool) {l : List Match}, (∀ m ∈ l, MatchR m) → (mts f l).length ≤ 27 * l.length
  | _, [], _ => by simp [mts]
  | f, m :: l, h => by
    have h1 := mts_len false (l := l) fun x hx => h x (List.mem_cons_of_mem _ hx)
    have h2 := mt_len (h m List.mem_cons_self)
    rw [mts, List.length_append, List.length_cons]
    split
    · omega
    · rw [List.length_cons]; omega
theorem bys_len : ∀ (f : Bool) {l : List ByteArray}, (∀ b ∈ l, b.size ≤ 12) → (bys f l).length ≤ 16 * l.length
  | _, [], _ => by simp [bys]
  | f, b :: l, h => by
    have h1 := bys_len false (l := l) fun x hx => h x (List.mem_cons_of_mem _ hx)
    have h2 := h b List.mem_cons_self
    rw [bl_size] at h2
    rw [bys, List.length_append, List.length_append, List.length_cons]
    split <;> simp only [List.length_cons, List.length_nil] <;> omega
theorem mem_size {l : List ByteArray} {k : Nat} (hl : ∀ x ∈ l, x.size ≤ k) {w : ByteArray} (h : ¬ ¬ 0 ≤ Names.indexOf l w 0) : w.size ≤ k := hl w ((Names.index_mem _ _ _).1 (Classical.not_not.1 h))
structure WinR (w : ByteArray) (ms : List Match) (r : Int) : Prop where
  word : w.size ≤ 5
  len : ms.length ≤ 5
  each : ∀ m ∈ ms, MatchR m
  range : 1 ≤ r ∧ r ≤ 100000
theorem winR_of {n r : Int} {w : ByteArray} {ms : List Match} {by_ : List ByteArray} (h : ownW 2 n r w ms by_ = 0) : WinR w ms r := by
  rw [ownW, if_neg (by decide), if_pos rfl, windowW] at h
  split at h
  · cases h
  rename_i g1
  split at h
  · cases h
  split at h
  · rename_i g; exact absurd h g
  rename_i g3
  split at h
  · cases h
  exact ⟨mem_size (by decide) g1, by omega, matchesR_of (Classical.not_not.1 g3), by omega⟩
theorem numR_of {n r : Int} {w : ByteArray} {ms : List Match} {by_ : List ByteArray} (h : ownW 1 n r w ms by_ = 0) : 0 ≤ n ∧ n ≤ 1000000 := by
  rw [ownW, if_pos rfl] at h
  split at h
  · cases h
  · omega
structure AllR (w : ByteArray) (by_ : List ByteArray) : Prop where
  word : w.size ≤ 5
  len : by_.length ≤ 4
  each : ∀ b ∈ by_, b.size ≤ 12
theorem allR_of {n r : Int} {w : ByteArray} {ms : List Match} {by_ : List ByteArray} (h : ownW 3 n r w ms by_ = 0) : AllR w by_ := by
  rw [ownW, if_neg (by decide), if_neg (by decide), if_pos rfl] at h
  split at h
  · cases h
  rename_i g1
  split at h
  · cases h
  split at h
  · cases h
  rename_i g3
  refine ⟨mem_size (by decide) g1, by omega, fun b hb => ?_⟩
  rw [Bool.not_eq_true, List.any_eq_false] at g3
  have := g3 b hb
  exact named_size (by simpa using this)
theorem binR_of {n r : Int} {w : ByteArray} {ms : List Match} {by_ : List ByteArray} (h : ownW 4 n r w ms by_ = 0) : w.size ≤ 1 ∧ (w = ⟨#[43]⟩ ∨ w = ⟨#[45]⟩ ∨ w = ⟨#[42]⟩) := by
  rw [ownW, if_neg (by decide), if_neg (by decide), if_neg (by decide)] at h
  split at h
  · cases h
  rename_i g1
  exact ⟨mem_size (by decide) g1, (signs_iff _).1 (Classical.not_not.1 g1)⟩
theorem wint_len {w : ByteArray} {ms : List Match} {r : Int} (h : WinR w ms r) : (wint w ms r).length ≤ 200 := by
  have h1 := h.word; have h2 := h.len; have h3 := mts_len true h.each; have h4 := nb_len (n := r) ⟨by have := h.range; omega, by have := h.range; omega⟩
  rw [bl_size] at h1
  unfold wint
  simp only [List.length_append, List.length_cons, List.length_nil]
  omega
mutual
theorem txt_len : ∀ (e : Expr) (least : Int), fineE e → ((txt e least).length : Int) ≤ 250 * nodes e
  | .mk k n r w ms by_ ks, least, hf => by
    rw [fineE] at hf
    obtain ⟨hk, ha, ho, hs⟩ := hf
    have h0 := nodess_pos ks
    rw [nodes, txt]
    split
    · rename_i h; subst h; have := nb_len (numR_of ho); omega
    split
    · rename_i h; subst h; have := wint_len (winR_of ho); omega
    have hks := txts_len ks
    split
    · rename_i h; subst h
      have h3 := allR_of ho
      have h4 := bys_len true h3.each; have h5 := h3.len; have h6 := h3.word
      rw [bl_size] at h6
      have h7 := hks 0 hs
      have h8 : ((txts ks 0)[0]?.getD []).length ≤ (txts ks 0).flatten.length := by
        match txts ks 0 with
        | [] => simp
        | a :: l => simp
      simp only [List.length_append, List.length_cons, List.length_nil]
      omega
    · have h4 : k = 4 := by omega
      subst h4
      have h6 := (binR_of ho).1
      rw [bl_size] at h6
      have h7 := hks (lv w) hs
      have h8 : ((txts ks (lv w))[0]?.getD []).length + ((txts ks (lv w))[1]?.getD []).length ≤ (txts ks (lv w)).flatten.length := by
        match txts ks (lv w) with
        | [] => simp
        | [a] => simp
        | a :: b :: l => simp
      have h9 : (tb w (txts ks (lv w))).length ≤ (txts ks (lv w)).flatten.length + 3 := by
        unfold tb
        simp only [List.length_append, List.length_cons, List.length_nil]
        omega
      split
      · simp only [List.length_append, List.length_cons, List.length_nil]; omega
      · omega
theorem txts_len : ∀ (l : List Expr) (a : Int), fineEs l → ((txts l a).flatten.length : Int) ≤ 250 * nodess l
  | [], a, _ => by simp [txts, nodess]
  | x :: xs, a, h => by
    rw [fineEs] at h
    have h1 := txt_len x a h.1; have h2 := txts_len xs (a + 1) h.2
    rw [txts, nodess, List.flatten_cons, List.length_append]; omega
end
theorem fineEs_all : ∀ {l : List Expr}, fineEs l → ∀ x ∈ l, fineE x
  | [], _, x, hx => by cases hx
  | y :: l, h, x, hx => by
    rw [fineEs] at h
    rcases List.mem_cons.1 hx with h1 | h1
    · rw [h1]; exact h.1
    · exact fineEs_all h.2 x h1
theorem nodess_mem : ∀ {l : List Expr} {x : Expr}, x ∈ l → nodes x ≤ nodess l
  | y :: l, x, h => by
    have h1 := nodess_pos l; have h2 := nodes_pos y
    rw [nodess]
    rcases List.mem_cons.1 h with h | h
    · subst h; omega
    · have := nodess_mem h; omega
/-- a right expression, told of how it lies -/
theorem fine_x {x : ExprX} (h : fineE x.e) : (1 ≤ x.kind ∧ x.kind ≤ 4) ∧ (x.kids.l.length : Int) = arity x.kind ∧ ownW x.kind x.n x.range x.word x.ms.l x.by_.l = 0 ∧ ∀ y ∈ x.kids.l, fineE y.e := by
  rw [ExprX.e_eq, fineE] at h
  obtain ⟨h1, h2, h3, h4⟩ := h
  rw [List.length_map] at h2
  exact ⟨h1, h2, h3, fun y hy => fineEs_all h4 _ (List.mem_map_of_mem hy)⟩
/-- all texts in it, whatever they are for, are so long at most -/
def valsE : Nat → Expr → Prop
  | n, .mk _ _ _ _ ms _ ks => (∀ m ∈ ms, m.val.size ≤ n ∧ m.key.size ≤ n) ∧ valsEs n ks
where valsEs : Nat → List Expr → Prop
  | _, [] => True
  | n, x :: xs => valsE n x ∧ valsEs n xs
theorem valsEs_all {n : Nat} : ∀ {l : List Expr}, valsE.valsEs n l → ∀ x ∈ l, valsE n x
  | [], _, x, hx => by cases hx
  | y :: l, h, x, hx => by
    rw [valsE.valsEs] at h
    rcases List.mem_cons.1 hx with h1 | h1
    · rw [h1]; exact h.1
    · exact valsEs_all h.2 x h1
theorem vals_x {n : Nat} {x : ExprX} (h : valsE n x.e) : (∀ m ∈ x.ms.l, m.val.size ≤ n ∧ m.key.size ≤ n) ∧ ∀ y ∈ x.kids.l, valsE n y.e := by
  rw [ExprX.e_eq, valsE] at h
  exact ⟨h.1, fun y hy => valsEs_all h.2 _ (List.mem_map_of_mem hy)⟩
mutual
theorem valsE_mono {n m : Nat} (h : n ≤ m) : ∀ (e : Expr), valsE n e → valsE m e
  | .mk _ _ _ _ ms _ ks, hv => by
    rw [valsE] at hv ⊢
    exact ⟨fun x hx => ⟨Nat.le_trans (hv.1 x hx).1 h, Nat.le_trans (hv.1 x hx).2 h⟩, valsEs_mono h ks hv.2⟩
theorem valsEs_mono {n m : Nat} (h : n ≤ m) : ∀ (l : List Expr), valsE.valsEs n l → valsE.valsEs m l
  | [], _ => by rw [valsE.valsEs]; trivial
  | x :: xs, hv => by
    rw [valsE.valsEs] at hv ⊢
    exact ⟨valsE_mono h x hv.1, valsEs_mono h xs hv.2⟩
end
theorem valsEs_of {n : Nat} : ∀ {l : List Expr}, (∀ x ∈ l, valsE n x) → valsE.valsEs n l
  | [], _ => by rw [valsE.valsEs]; trivial
  | x :: xs, h => by rw [valsE.valsEs]; exact ⟨h x List.mem_cons_self, valsEs_of fun y hy => h y (List.mem_cons_of_mem _ hy)⟩
theorem vals_of {n : Nat} {x : ExprX} (h1 : ∀ m ∈ x.ms.l, m.val.size ≤ n ∧ m.key.size ≤ n) (h2 : ∀ y ∈ x.kids.l, valsE n y.e) : valsE n x.e := by
  rw [ExprX.e_eq, valsE]
  exact ⟨h1, valsEs_of fun y hy => by obtain ⟨z, hz, rfl⟩ := List.mem_map.1 hy; exact h2 z hz⟩
theorem nodes_all {x s : ExprX} (h : x.kids.l.length = 1) (hs : x.kids.l[0]? = some s) : nodes x.e = 1 + nodes s.e := by
  rw [ExprX.e_eq x, nodes]
  match hq : x.kids.l, h with
  | [a], _ =>
    rw [hq] at hs
    obtain rfl : a = s := by simpa using hs
    rw [List.map_cons, List.map_nil, nodess, nodess]; omega
theorem nodes_bin {x s t : ExprX} (h : x.kids.l.length = 2) (hs : x.kids.l[0]? = some s) (ht : x.kids.l[1]? = some t) : nodes x.e = 1 + nodes s.e + nodes t.e := by
  rw [ExprX.e_eq x, nodes]
  match hq : x.kids.l, h with
  | [a, b], _ =>
    rw [hq] at hs ht
    obtain rfl : a = s := by simpa using hs
    obtain rfl : b = t := by simpa using ht
    rw [List.map_cons, List.map_cons, List.map_nil, nodess, nodess, nodess]; omega
theorem right_of_wrong {e : Expr} (h : wrong e = 0) : fineE e ∧ nodes e ≤ 100 := by
  unfold wrong at h
  obtain ⟨h1, h2, _, _⟩ := shape_of e 1 0 h
  have := shape_le e 1 0 (by omega) (by omega) h
  exact ⟨h1, by omega⟩
theorem mts_at {l : List Match} {k : Nat} {m : Match} (h : l[k]? = some m) : mts true (l.take (k + 1)) = mts true (l.take k) ++ (if k = 0 then mt m else 44 :: mt m) := by
  obtain ⟨hk, _⟩ := List.getElem?_eq_some_iff.1 h
  rw [List.take_add_one, h, Option.toList_some, mts_snoc]
  congr 1
  by_cases hk0 : k = 0
  · subst hk0; simp
  · rw [if_neg hk0, if_neg]
    rintro ⟨_, h1⟩
    have := congrArg List.length h1
    rw [List.length_take, List.length_nil] at this
    omega
theorem bys_at {l : List ByteArray} {k : Nat} {b : ByteArray} (h : l[k]? = some b) : bys true (l.take (k + 1)) = bys true (l.take k) ++ ((if k = 0 then [32, 98, 121, 32] else [44]) ++ b.data.toList) := by
  obtain ⟨hk, _⟩ := List.getElem?_eq_some_iff.1 h
  rw [List.take_add_one, h, Option.toList_some, bys_snoc]
  congr 1
  congr 1
  by_cases hk0 : k = 0
  · subst hk0; simp
  · rw [if_neg hk0, if_neg]
    rintro ⟨_, h1⟩
    have := congrArg List.length h1
    rw [List.length_take, List.length_nil] at this
    omega
theorem win_len {w : ByteArray} {ms : List Match} {r : Int} (h : WinR w ms r) (k : Nat) : (w.data.toList ++ [40, 123] ++ mts true (ms.take k)).length ≤ 160 := by
  have h1 := h.word; have h2 := h.len
  have h3 := mts_len true (l := ms.take k) fun m hm => h.each m (List.mem_of_mem_take hm)
  rw [bl_size] at h1
  rw [List.length_take] at h3
  simp only [List.length_append, List.length_cons, List.length_nil]
  omega
theorem all_len {w : ByteArray} {by_ : List ByteArray} (h : AllR w by_) (k : Nat) : ([97, 108, 108, 32] ++ w.data.toList ++ bys true (by_.take k)).length ≤ 80 := by
  have h1 := h.word; have h2 := h.len
  have h3 := bys_len true (l := by_.take k) fun m hm => h.each m (List.mem_of_mem_take hm)
  rw [bl_size] at h1
  rw [List.length_take] at h3
  simp only [List.length_append, List.length_cons, List.length_nil]
  omega
theorem join_len {w : ByteArray} {by_ : List ByteArray} (h : AllR w by_) : (Go.Lib.join (by_.map (·.data.toList)) [44]).length ≤ 64 := by
  by_cases hn : by_ = []
  · subst hn; simp [Go.Lib.join_nil]
  have h1 := congrArg List.length (bys_join hn); have h2 := bys_len true h.each; have h3 := h.len
  simp only [List.length_append, List.length_cons, List.length_nil] at h1
  omega
theorem mt_pick {m : Match} (h : 1 ≤ m.kind ∧ m.kind ≤ 4) {a x : ByteArray} (hx : ([a, m.key ++ ⟨#[61]⟩ ++ m.val, m.key ++ ⟨#[33, 61]⟩ ++ m.val, m.key, ⟨#[33]⟩ ++ m.key] : List ByteArray)[m.kind.toNat]? = some x) : x.data.toList = mt m := by
  have hk : m.kind = 1 ∨ m.kind = 2 ∨ m.kind = 3 ∨ m.kind = 4 := by omega
  unfold mt
  rcases hk with h | h | h | h <;> rw [h] at hx ⊢
  · obtain rfl : m.key ++ ⟨#[61]⟩ ++ m.val = x := by simpa using hx
    simp
  · obtain rfl : m.key ++ ⟨#[33, 61]⟩ ++ m.val = x := by simpa using hx
    simp
  · obtain rfl : m.key = x := by simpa using hx
    simp
  · obtain rfl : (⟨#[33]⟩ : ByteArray) ++ m.key = x := by simpa using hx
    simp
theorem by_pick {k : Nat} {x : ByteArray} {i : Nat} (hi : i = if (1 : Int) < (k : Int) then 1 else k) (hx : ([⟨#[32, 98, 121, 32]⟩, ⟨#[44]⟩] : List ByteArray)[i]? = some x) : x.data.toList = if k = 0 then [32, 98, 121, 32] else [44] := by
  by_cases h0 : k = 0
  · subst h0
    rw [if_neg (by omega)] at hi
    subst hi
    obtain rfl : (⟨#[32, 98, 121, 32]⟩ : ByteArray) = x := by simpa using hx
    rfl
  · have h1 : i = 1 := by rw [hi]; split <;> omega
    subst h1
    obtain rfl : (⟨#[44]⟩ : ByteArray) = x := by simpa using hx
    rw [if_neg h0]
theorem nb_ne (n : Int) (h : 0 ≤ n ∧ n ≤ 1000000) : nb n ≠ [] := by
  have h1 : nb n = Go.Lib.itoa ((n.toNat : Nat) : Int) := by rw [Int.toNat_of_nonneg h.1]; rfl
  intro h2
  have h3 := congrArg List.length (h1.symm.trans h2)
  rw [Go.Lib.itoa_nonneg, Go.Lib.decDigits_length, List.length_nil] at h3
  by_cases h4 : n.toNat < 10
  · rw [Go.Lib.nDigits_small h4] at h3; omega
  · rw [Go.Lib.nDigits_big h4] at h3; omega
theorem txt_ne : ∀ (e : Expr) (least : Int), fineE e → txt e least ≠ []
  | .mk k n r w ms by_ ks, least, hf => by
    rw [fineE] at hf
    rw [txt]
    split
    · rename_i h; subst h; exact nb_ne n (numR_of hf.2.2.1)
    split
    · simp [wint]
    split
    · simp
    split
    · simp
    · simp [tb]
/-- what is written, if it is not too much -/
def print (e : Expr) : List UInt8 × Int := if wrong e ≠ 0 then ([], wrong e) else if 2000 < (txt e 0).length then ([], 4) else (txt e 0, 0)
end Lg
end Go.Proofs.YtffpglgboaigfaaDoor
