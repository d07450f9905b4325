/-
  What an expression comes to, in plain terms.
-/
import Derived.Test.YtffpglgboaigfaaDoorEval
import Derived.Test.YtffpglgboaigfaaDoorPMean2
namespace Go.Proofs.YtffpglgboaigfaaDoor
namespace Mn
open Ex
def winCells (word : ByteArray) (r : List (List Label × Sum)) : List Cell := r.filterMap fun t => if (Agg.value word t.2).2 = true then some ⟨t.1, (Agg.value word t.2).1⟩ else none
def frm (t r : Int) : Int := if t - r < 0 then 0 else t - r
theorem frm_nn (t r : Int) : 0 ≤ frm t r := by unfold frm; split <;> omega
def window (lk : Look) (t : Int) (word : ByteArray) (ms : List Match) (range : Int) : Val × Int :=
  if (lk ms (frm t range) t).2 ≠ 0 then (zero, (lk ms (frm t range) t).2) else (⟨true, 0, winCells word (lk ms (frm t range) t).1⟩, 0)
def close (k : Int) (w : ByteArray) (bs : List ByteArray) : List Val → Val × Int
  | a :: r => if k = 3 then all w bs a.cells else match r with
    | b :: _ => bin w a b
    | [] => (zero, 0)
  | [] => (zero, 0)
mutual
def eval (lk : Look) (t : Int) : Expr → Val × Int
  | .mk k n r w ms bs ks => if k = 1 then (⟨false, n, []⟩, 0) else if k = 2 then window lk t w ms r else if (evals lk t ks).2 ≠ 0 then (zero, (evals lk t ks).2) else close k w bs (evals lk t ks).1
def evals (lk : Look) (t : Int) : List Expr → List Val × Int
  | [] => ([], 0)
  | x :: xs => if (eval lk t x).2 ≠ 0 then ([], (eval lk t x).2) else ((eval lk t x).1 :: (evals lk t xs).1, (evals lk t xs).2)
end
theorem eval_e (lk : Look) (t : Int) (x : ExprX) : eval lk t x.e = if x.kind = 1 then (⟨false, x.n, []⟩, 0) else if x.kind = 2 then window lk t x.word x.ms.l x.range else if (evals lk t (x.kids.l.map ExprX.e)).2 ≠ 0 then (zero, (evals lk t (x.kids.l.map ExprX.e)).2) else close x.kind x.word x.by_.l (evals lk t (x.kids.l.map ExprX.e)).1 := by
  rw [ExprX.e_eq, eval]
mutual
/-- a right expression: as many as each kind has -/
def right : Expr → Prop
  | .mk k n r _ _ _ ks => ((k = 1 ∧ 0 ≤ n ∧ n ≤ 1000000) ∨ (k = 2 ∧ 1 ≤ r ∧ r ≤ 100000) ∨ (k = 3 ∧ ks.length = 1) ∨ (k = 4 ∧ ks.length = 2)) ∧ rights ks
def rights : List Expr → Prop
  | [] => True
  | x :: xs => right x ∧ rights xs
end
theorem rights_mem : ∀ {l : List Expr}, rights l → ∀ x ∈ l, right x
  | [], _, x, hx => by cases hx
  | y :: l, h, x, hx => by
    rw [rights] at h
    rcases List.mem_cons.1 hx with h1 | h1
    · rw [h1]; exact h.1
    · exact rights_mem h.2 x h1
theorem right_e {x : ExprX} (h : right x.e) : ((x.kind = 1 ∧ 0 ≤ x.n ∧ x.n ≤ 1000000) ∨ (x.kind = 2 ∧ 1 ≤ x.range ∧ x.range ≤ 100000) ∨ (x.kind = 3 ∧ x.kids.l.length = 1) ∨ (x.kind = 4 ∧ x.kids.l.length = 2)) ∧ ∀ k ∈ x.kids.l, right k.e := by
  rw [ExprX.e_eq, right, List.length_map] at h
  exact ⟨h.1, fun k hk => rights_mem h.2 _ (List.mem_map_of_mem hk)⟩
mutual
theorem shape_right : ∀ (e : Expr) (d c : Int), (Lg.shape e d c).1 = 0 → right e
  | .mk kind n range word ms by_ kids, d, c, h => by
    rw [Lg.shape] at h
    split at h
    · cases h
    split at h
    · cases h
    split at h
    · cases h
    split at h
    · rename_i h2; exact absurd h h2
    rename_i a1 a2 a3 a4
    rw [right]
    refine ⟨?_, shapes_right kids _ _ h⟩
    have h5 : kind = 1 ∨ kind = 2 ∨ kind = 3 ∨ kind = 4 := by omega
    rcases h5 with rfl | rfl | rfl | rfl
    · simp [Lg.ownW] at a4; exact .inl ⟨rfl, by omega, by omega⟩
    · simp only [Lg.ownW, Lg.windowW] at a4
      right; left
      refine ⟨rfl, ?_⟩
      by_cases h6 : range < 1 ∨ 100000 < range
      · exfalso; revert a4; simp only [h6]
        intro a4; apply a4; intro h7
        grind
      · omega
    · right; right; left; exact ⟨rfl, by simp [Lg.arity] at a3; omega⟩
    · right; right; right; exact ⟨rfl, by simp [Lg.arity] at a3; omega⟩
theorem shapes_right : ∀ (l : List Expr) (d c : Int), (Lg.shapes l d c).1 = 0 → rights l
  | [], _, _, _ => by rw [rights]; trivial
  | x :: xs, d, c, h => by
    rw [Lg.shapes] at h
    split at h
    · rename_i h2; exact absurd h h2
    rename_i h2
    rw [rights]
    exact ⟨shape_right x d c (Classical.not_not.1 h2), shapes_right xs _ _ h⟩
end
theorem check_right {e : Expr} {t : Int} (h : check e t = 0) : right e ∧ 0 ≤ t ∧ t ≤ 1000000 := by
  unfold check at h
  split at h
  · rename_i h1; exact absurd h h1
  rename_i h1
  split at h
  · rename_i h2; exact absurd h h2
  split at h
  · cases h
  exact ⟨shape_right e 1 0 (Classical.not_not.1 h1), by omega, by omega⟩
/-! ## What comes is small enough -/
structure Good (v : Val) : Prop where
  bnd : Bnd v
  sr : ∀ c ∈ v.cells, c.sr.length ≤ 1048576
  len : v.cells.length ≤ 1048576
theorem z_rng : (-1125899906842624 : Int) ≤ 0 ∧ (0 : Int) ≤ 1125899906842624 := by decide
def GoodLook (lk : Look) : Prop := ∀ m a b, (lk m a b).1.length ≤ 1048576 ∧ ∀ t ∈ (lk m a b).1, t.1.length ≤ 1048576 ∧ ∀ word, -1125899906842624 ≤ (Agg.value word t.2).1 ∧ (Agg.value word t.2).1 ≤ 1125899906842624
theorem good_zero : Good zero := ⟨⟨z_rng, fun c hc => (by cases hc)⟩, fun c hc => (by cases hc), by decide⟩
theorem good_window {lk : Look} (hl : GoodLook lk) (t : Int) (w : ByteArray) (ms : List Match) (r : Int) : Good (window lk t w ms r).1 := by
  unfold window
  split
  · exact good_zero
  obtain ⟨h1, h2⟩ := hl ms (frm t r) t
  have hm : ∀ c ∈ winCells w (lk ms (frm t r) t).1, ∃ u ∈ (lk ms (frm t r) t).1, c.sr = u.1 ∧ c.value = (Agg.value w u.2).1 := fun c hc => by
    obtain ⟨u, hu, he⟩ := List.mem_filterMap.1 hc
    split at he
    · injection he with he; exact ⟨u, hu, by rw [← he], by rw [← he]⟩
    · cases he
  refine ⟨⟨z_rng, fun c hc => ?_⟩, fun c hc => ?_, ?_⟩
  · obtain ⟨u, hu, _, h4⟩ := hm c hc
    rw [h4]; exact (h2 u hu).2 w
  · obtain ⟨u, hu, h3, _⟩ := hm c hc
    rw [h3]; exact (h2 u hu).1
  · exact Nat.le_trans (List.length_filterMap_le _ _) h1
theorem good_bin {w : ByteArray} {a b : Val} (ha : Good a) (hb : Good b) : Good (bin w a b).1 := by
  unfold bin
  split
  · split
    · rename_i h; exact ⟨⟨fits_op h, fun c hc => (by cases hc)⟩, fun c hc => (by cases hc), Nat.zero_le _⟩
    · exact good_zero
  split
  · rename_i h
    have hp : ∀ p ∈ pairs a b, p.1.length ≤ 1048576 := fun p hp => by
      unfold pairs at hp
      split at hp
      · obtain ⟨c, hc, rfl⟩ := List.mem_map.1 hp; exact ha.sr c hc
      split at hp
      · obtain ⟨c, hc, rfl⟩ := List.mem_map.1 hp; exact hb.sr c hc
      · obtain ⟨c, hc, h1⟩ := List.mem_filterMap.1 hp
        obtain ⟨d, _, rfl⟩ := Option.map_eq_some_iff.1 h1
        exact ha.sr c hc
    have hn : (pairs a b).length ≤ 1048576 := by
      unfold pairs
      split
      · rw [List.length_map]; exact ha.len
      split
      · rw [List.length_map]; exact hb.len
      · exact Nat.le_trans (List.length_filterMap_le _ _) ha.len
    refine ⟨⟨z_rng, fun c hc => ?_⟩, fun c hc => ?_, by simp only [done, List.length_map]; exact hn⟩
    · obtain ⟨p, hpm, rfl⟩ := List.mem_map.1 hc
      exact fits_op (by simpa using List.all_eq_true.1 h p hpm)
    · obtain ⟨p, hpm, rfl⟩ := List.mem_map.1 hc
      exact hp p hpm
  · exact good_zero
theorem put_len {w : ByteArray} {s : List Label} {x : Int} : ∀ (l : List Cell), (put w l s x).length ≤ l.length + 1
  | [] => by simp [put]
  | c :: r => by
    rw [put]
    split
    · simp
    split
    · have := put_len (w := w) (s := s) (x := x) r; simp; omega
    · simp
theorem only_len (l : List Label) (by_ : List ByteArray) : (Names.only l by_).length ≤ l.length := by
  unfold Names.only
  exact List.length_filter_le _ _
theorem good_all {w : ByteArray} {by_ : List ByteArray} : ∀ {l out : List Cell}, (∀ c ∈ l, c.sr.length ≤ 1048576) → (∀ c ∈ out, c.sr.length ≤ 1048576) → Fit out → l.length + out.length ≤ 1048576 → Good (allFrom w by_ out l).1
  | [], out, _, h2, h3, h4 => by
    rw [allFrom]
    exact ⟨⟨z_rng, fun c hc => fits_iff.1 (h3 c hc)⟩, h2, by simp at h4; exact h4⟩
  | c :: r, out, h1, h2, h3, h4 => by
    rw [allFrom]
    split
    · rename_i h5
      have hp := put_len (w := w) (s := Names.only c.sr by_) (x := unit w c.value) out
      refine good_all (fun d hd => h1 d (List.mem_cons_of_mem _ hd)) (fun d hd => ?_) (fun d hd => List.all_eq_true.1 h5 d hd) (by simp at h4; omega)
      rcases put_mem d hd with h6 | ⟨e, he, h6⟩
      · rw [h6]; exact Nat.le_trans (only_len _ _) (h1 c List.mem_cons_self)
      · rw [← h6]; exact h2 e he
    · exact good_zero
mutual
theorem eval_good {lk : Look} (hl : GoodLook lk) (t : Int) : ∀ (e : Expr), right e → Good (eval lk t e).1
  | .mk k n r w ms bs ks, h => by
    rw [right] at h
    rw [eval]
    split
    · rename_i h1
      exact ⟨⟨by rcases h.1 with h2 | h2 | h2 | h2 <;> simp <;> omega, fun c hc => (by cases hc)⟩, fun c hc => (by cases hc), by simp⟩
    split
    · exact good_window hl _ _ _ _
    split
    · exact good_zero
    have h3 := evals_good hl t ks h.2
    unfold close
    split
    · rename_i a rr he
      have ha : Good a := h3 a (by rw [he]; exact List.mem_cons_self)
      split
      · exact good_all ha.sr (fun c hc => (by cases hc)) (fun c hc => (by cases hc)) (by simp; exact ha.len)
      split
      · rename_i b hb
        exact good_bin ha (h3 _ (by rw [he]; exact List.mem_cons_of_mem _ List.mem_cons_self))
      · exact good_zero
    · exact good_zero
theorem evals_good {lk : Look} (hl : GoodLook lk) (t : Int) : ∀ (l : List Expr), rights l → ∀ v ∈ (evals lk t l).1, Good v
  | [], _, v, hv => by rw [evals] at hv; cases hv
  | x :: xs, h, v, hv => by
    rw [rights] at h
    rw [evals] at hv
    split at hv
    · cases hv
    rcases List.mem_cons.1 hv with h1 | h1
    · rw [h1]; exact eval_good hl t x h.1
    · exact evals_good hl t xs h.2 v h1
end
/-! ## One behind the other -/
theorem evals_0 (lk : Look) (t : Int) (l : List ExprX) : evals lk t (l.map ExprX.e) = (([] : List ValX).map ValX.e ++ (evals lk t ((l.drop 0).map ExprX.e)).1, (evals lk t ((l.drop 0).map ExprX.e)).2) := by
  simp
theorem kids_at {l : List ExprX} {k : Nat} {s : ExprX} (h : l[k]? = some s) : (l.drop k).map ExprX.e = s.e :: (l.drop (k + 1)).map ExprX.e := by
  obtain ⟨h1, rfl⟩ := List.getElem?_eq_some_iff.1 h
  rw [List.drop_eq_getElem_cons h1, List.map_cons]
theorem evals_next {lk : Look} {t : Int} {l : List ExprX} {k : Nat} {s : ExprX} {vs : List ValX} {z : ValX} (h : evals lk t (l.map ExprX.e) = (vs.map ValX.e ++ (evals lk t ((l.drop k).map ExprX.e)).1, (evals lk t ((l.drop k).map ExprX.e)).2)) (hs : l[k]? = some s) (hz : z.e = (eval lk t s.e).1) (h0 : (eval lk t s.e).2 = 0) :
    evals lk t (l.map ExprX.e) = ((vs ++ [z]).map ValX.e ++ (evals lk t ((l.drop (k + 1)).map ExprX.e)).1, (evals lk t ((l.drop (k + 1)).map ExprX.e)).2) := by
  rw [h, kids_at hs, evals, if_neg (by simp [h0]), List.map_append, List.map_cons, List.map_nil, hz]
  simp
theorem evals_bad {lk : Look} {t : Int} {l : List ExprX} {k : Nat} {s : ExprX} {vs : List ValX} (h : evals lk t (l.map ExprX.e) = (vs.map ValX.e ++ (evals lk t ((l.drop k).map ExprX.e)).1, (evals lk t ((l.drop k).map ExprX.e)).2)) (hs : l[k]? = some s) (h0 : (eval lk t s.e).2 ≠ 0) :
    (evals lk t (l.map ExprX.e)).2 = (eval lk t s.e).2 := by
  rw [h, kids_at hs, evals, if_pos h0]
theorem evals_end {lk : Look} {t : Int} {l : List ExprX} {k : Nat} {vs : List ValX} (h : evals lk t (l.map ExprX.e) = (vs.map ValX.e ++ (evals lk t ((l.drop k).map ExprX.e)).1, (evals lk t ((l.drop k).map ExprX.e)).2)) (hk : l.length ≤ k) : evals lk t (l.map ExprX.e) = (vs.map ValX.e, 0) := by
  rw [h, List.drop_of_length_le hk]; simp [evals]
theorem rights_of : ∀ {l : List ExprX}, (∀ k ∈ l, right k.e) → rights (l.map ExprX.e)
  | [], _ => by rw [List.map_nil, rights]; trivial
  | x :: xs, h => by rw [List.map_cons, rights]; exact ⟨h x List.mem_cons_self, rights_of fun k hk => h k (List.mem_cons_of_mem _ hk)⟩
theorem good_of {lk : Look} (hl : GoodLook lk) {t : Int} {l : List ExprX} {vs : List ValX} (he : evals lk t (l.map ExprX.e) = (vs.map ValX.e, 0)) (hr : ∀ k ∈ l, right k.e) : ∀ s ∈ vs, Good s.e := fun s hs =>
  evals_good hl t _ (rights_of hr) s.e (by rw [he]; exact List.mem_map_of_mem hs)
theorem Good.x {x : ValX} (h : Good x.e) : Bnd x.e ∧ (∀ c ∈ x.cells.l, -1125899906842624 ≤ c.value ∧ c.value ≤ 1125899906842624) ∧ (∀ c ∈ x.cells.l, c.sr.l.length ≤ 1048576) ∧ x.cells.l.length ≤ 1048576 :=
  ⟨h.bnd, fun c hc => h.bnd.2 c.e (List.mem_map_of_mem hc), fun c hc => h.sr c.e (List.mem_map_of_mem hc), by have := h.len; simpa [ValX.e] using this⟩
theorem close_all {k : Int} {w : ByteArray} {bs : List ByteArray} {vs : List ValX} {s : ValX} (hk : k = 3) (hs : vs[0]? = some s) : close k w bs (vs.map ValX.e) = all w bs (s.cells.l.map CellX.e) := by
  match vs, hs with
  | a :: r, hs =>
    obtain rfl : a = s := by simpa using hs
    simp only [List.map_cons, close, if_pos hk]; rfl
theorem close_bin {k : Int} {w : ByteArray} {bs : List ByteArray} {vs : List ValX} {s u : ValX} (hk : ¬ k = 3) (hs : vs[0]? = some s) (hu : vs[1]? = some u) : close k w bs (vs.map ValX.e) = bin w s.e u.e := by
  match vs, hs, hu with
  | a :: b :: r, hs, hu =>
    obtain rfl : a = s := by simpa using hs
    obtain rfl : b = u := by simpa using hu
    simp only [List.map_cons, close, if_neg hk]
theorem winCells_at {word : ByteArray} {r : List (List Label × Sum)} {k : Nat} {s : List Label} {m : Sum} (h1 : (r.map (·.1))[k]? = some s) (h2 : (r.map (·.2))[k]? = some m) : winCells word (r.take (k + 1)) = winCells word (r.take k) ++ if (Agg.value word m).2 = true then [⟨s, (Agg.value word m).1⟩] else [] := by
  rw [List.getElem?_map] at h1 h2
  cases hr : r[k]? with
  | none => rw [hr] at h1; cases h1
  | some u =>
    rw [hr] at h1 h2
    obtain rfl : u.1 = s := by simpa using h1
    obtain rfl : u.2 = m := by simpa using h2
    rw [winCells, List.take_add_one, hr, List.filterMap_append]
    congr 1
    simp only [Option.toList, List.filterMap_cons, List.filterMap_nil]
    split <;> simp_all
end Mn
end Go.Proofs.YtffpglgboaigfaaDoor
