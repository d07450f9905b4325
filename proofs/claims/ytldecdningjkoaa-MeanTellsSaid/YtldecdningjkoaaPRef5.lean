/-
  The document's answer for what is asked: it comes to the same.
-/
import Derived.Test.YtldecdningjkoaaPSigns
namespace Go.Proofs.Ytldecdningjkoaa
namespace Mn
open Ex
/-- cells, whether they are a vector, and an error -/
def rout (r : Val × Int) : List Cell × Bool × Int := if r.2 ≠ 0 then ([], false, r.2) else if r.1.vec = true then (r.1.cells, true, 0) else ([⟨[], r.1.n⟩], false, 0)
theorem rout_out (r : Val × Int) : out r = ((rout r).1, (rout r).2.2) := by
  unfold out rout; split
  · rfl
  · split <;> rfl
theorem rout_err (r : Val × Int) : (rout r).2.2 = r.2 := by
  unfold rout; split
  · rfl
  · rename_i h; split <;> exact (Classical.not_not.1 h).symm
theorem rout_ok {r : Val × Int} (h : r.2 = 0) : rout r = (if r.1.vec = true then r.1.cells else [⟨[], r.1.n⟩], r.1.vec, 0) := by
  unfold rout; rw [if_neg (by simpa using h)]
  cases hv : r.1.vec <;> simp
theorem rout_bad {r : Val × Int} (h : r.2 ≠ 0) : rout r = ([], false, r.2) := by
  unfold rout; rw [if_pos h]
/-! ## Vectors -/
theorem all_vec {w : ByteArray} {bs : List ByteArray} : ∀ (l out : List Cell), (allFrom w bs out l).2 = 0 → (allFrom w bs out l).1.vec = true
  | [], out, _ => by rw [allFrom]
  | c :: r, out, h => by
    rw [allFrom] at h ⊢
    split at h
    · rename_i h1; rw [if_pos h1]; exact all_vec r _ h
    · cases h
theorem bin_vec' {w : ByteArray} {a b : Val} (h : (bin w a b).2 = 0) : (bin w a b).1.vec = (a.vec || b.vec) := by
  unfold bin at h ⊢
  split at h
  · rename_i h1
    rw [if_pos h1]
    split at h
    · rename_i h2; rw [if_pos h2, h1.1, h1.2]; rfl
    · cases h
  · rename_i h1
    rw [if_neg h1]
    split at h
    · rename_i h2; rw [if_pos h2]
      cases ha : a.vec <;> cases hb : b.vec <;> simp_all
    · cases h
mutual
theorem eval_vec {lk : Look} (t : Int) : ∀ (e : Expr), fineE e → (eval lk t e).2 = 0 → (eval lk t e).1.vec = Lg.vector e
  | .mk k n r w ms bs ks, hf, h => by
    rw [fineE] at hf
    obtain ⟨hk, ha, _, hks⟩ := hf
    have hev := evals_vec (lk := lk) t ks hks
    rw [eval] at h ⊢
    rw [Lg.vector]
    have h5 : k = 1 ∨ k = 2 ∨ k = 3 ∨ k = 4 := by omega
    rcases h5 with rfl | rfl | rfl | rfl
    · have : ks = [] := List.eq_nil_of_length_eq_zero (by simp [Lg.arity] at ha; simpa using ha)
      subst this; rfl
    · rw [if_neg (by decide), if_pos rfl] at h ⊢
      unfold window at h ⊢
      split at h
      · rename_i g; exact absurd h g
      · rename_i g; rw [if_neg g]; rfl
    · rw [if_neg (by decide), if_neg (by decide)] at h ⊢
      split at h
      · rename_i g; exact absurd h g
      rename_i g
      rw [if_neg g]
      have hl : ks.length = 1 := by simp [Lg.arity] at ha; omega
      match ks, hl with
      | [a], _ =>
        rw [evals] at h g ⊢
        split at g
        · rename_i g2; exact absurd g2 (by simpa using g)
        rename_i g2
        rw [if_neg g2] at h ⊢
        rw [evals] at h ⊢
        rw [close, if_pos rfl] at h ⊢
        rw [all] at h ⊢
        rw [all_vec _ _ h]; simp
    · rw [if_neg (by decide), if_neg (by decide)] at h ⊢
      split at h
      · rename_i g; exact absurd h g
      rename_i g
      rw [if_neg g]
      have hv := hev (Classical.not_not.1 g)
      have hl : ks.length = 2 := by simp [Lg.arity] at ha; omega
      match ks, hl with
      | [a, b], _ =>
        rw [evals] at h g hv ⊢
        split at g
        · rename_i g2; exact absurd g2 (by simpa using g)
        rename_i g2
        rw [if_neg g2] at h hv ⊢
        rw [evals] at h g hv ⊢
        split at g
        · rename_i g3; exact absurd g3 (by simpa using g)
        rename_i g3
        rw [if_neg g3] at h hv ⊢
        rw [evals] at h hv ⊢
        rw [close, if_neg (by decide)] at h ⊢
        simp only [List.map_cons, List.cons.injEq] at hv
        rw [bin_vec' h, hv.1, hv.2.1, Lg.vectors, Lg.vectors, Lg.vectors]; simp
theorem evals_vec {lk : Look} (t : Int) : ∀ (l : List Expr), fineEs l → (evals lk t l).2 = 0 → (evals lk t l).1.map (·.vec) = l.map Lg.vector
  | [], _, _ => by rw [evals]; rfl
  | x :: xs, hf, h => by
    rw [fineEs] at hf
    rw [evals] at h ⊢
    split at h
    · rename_i h1; exact absurd h h1
    rename_i h1
    rw [if_neg h1, List.map_cons, List.map_cons, eval_vec t x hf.1 (Classical.not_not.1 h1), evals_vec t xs hf.2 h]
end
theorem fineEs_mem : ∀ {l : List Expr}, fineEs l → ∀ x ∈ l, fineE x
  | [], _, x, hx => by cases hx
  | y :: l, h, x, hx => by
    rw [fineEs] at h
    rcases List.mem_cons.1 hx with h1 | h1
    · rw [h1]; exact h.1
    · exact fineEs_mem h.2 x h1
theorem typeds_mem : ∀ {l : List Expr}, Lg.typeds l = 0 → ∀ x ∈ l, Lg.typed x = 0
  | [], _, x, hx => by cases hx
  | y :: l, h, x, hx => by
    rw [Lg.typeds] at h
    split at h
    · rename_i g; exact absurd h g
    rename_i g
    rcases List.mem_cons.1 hx with h1 | h1
    · rw [h1]; exact Classical.not_not.1 g
    · exact typeds_mem h x h1
/-- a right expression, whose totals are of vectors -/
structure Sound (e : Expr) : Prop where
  right : right e
  fine : fineE e
  typed : Lg.typed e = 0
theorem Sound.kid {x k : ExprX} (h : Sound x.e) (hk : k ∈ x.kids.l) : Sound k.e := by
  have h1 := h.right; have h2 := h.fine; have h3 := h.typed
  refine ⟨(right_e h1).2 k hk, ?_, ?_⟩
  · rw [ExprX.e_eq, fineE] at h2; exact fineEs_mem h2.2.2.2 _ (List.mem_map_of_mem hk)
  · rw [ExprX.e_eq, Lg.typed] at h3
    split at h3
    · cases h3
    · exact typeds_mem h3 _ (List.mem_map_of_mem hk)
theorem Sound.vec {x s : ExprX} (h : Sound x.e) (hk : x.kind = 3) (hl : x.kids.l.length = 1) (hs : x.kids.l[0]? = some s) : Lg.vector s.e = true := by
  have h3 := h.typed
  rw [Lg.typed_e] at h3
  split at h3
  · cases h3
  rename_i g
  cases hv : Lg.vector s.e with
  | true => rfl
  | false => exact absurd ⟨hk, hl, by rw [Lg.any_one hl hs]; exact hv⟩ g
theorem sound_of {e : Expr} {t : Int} (h : check e t = 0) : Sound e := by
  obtain ⟨c1, c2, _⟩ := check_parts h
  exact ⟨shape_right e 1 0 c1, (shape_of e 1 0 c1).1, c2⟩
theorem sound_words {x : ExprX} (h : Sound x.e) (hk : x.kind = 3) : x.word = ⟨#[99, 111, 117, 110, 116]⟩ ∨ x.word = ⟨#[109, 97, 120]⟩ ∨ x.word = ⟨#[109, 105, 110]⟩ ∨ x.word = ⟨#[115, 117, 109]⟩ := by
  have h2 := h.fine
  rw [ExprX.e_eq, fineE, hk, Lg.ownW, if_neg (by decide), if_neg (by decide), if_pos rfl] at h2
  have h3 := h2.2.2.1
  split at h3
  · cases h3
  rename_i g
  have h4 := (Names.index_mem _ _ _).1 (Classical.not_not.1 g)
  simpa [Lg.totals] using h4
/-! ## Kids -/
theorem kid1 {lk : Look} {t : Int} {x s : ExprX} (hk : x.kind = 3) (hl : x.kids.l.length = 1) (hs : x.kids.l[0]? = some s) : eval lk t x.e = if (eval lk t s.e).2 ≠ 0 then (zero, (eval lk t s.e).2) else all x.word x.by_.l (eval lk t s.e).1.cells := by
  rw [eval_e, if_neg (by omega), if_neg (by omega)]
  match hq : x.kids.l, hl with
  | [a], _ =>
    rw [hq] at hs
    obtain rfl : a = s := by simpa using hs
    rw [List.map_cons, List.map_nil, evals]
    by_cases g : (eval lk t a.e).2 ≠ 0
    · rw [if_pos g, if_pos g, if_pos g]
    · rw [if_neg g, if_neg g, evals, if_neg (by simp), close, if_pos hk]
theorem kid2 {lk : Look} {t : Int} {x s u : ExprX} (hk : x.kind = 4) (hl : x.kids.l.length = 2) (hs : x.kids.l[0]? = some s) (hu : x.kids.l[1]? = some u) : eval lk t x.e = if (eval lk t s.e).2 ≠ 0 then (zero, (eval lk t s.e).2) else if (eval lk t u.e).2 ≠ 0 then (zero, (eval lk t u.e).2) else bin x.word (eval lk t s.e).1 (eval lk t u.e).1 := by
  rw [eval_e, if_neg (by omega), if_neg (by omega)]
  match hq : x.kids.l, hl with
  | [a, b], _ =>
    rw [hq] at hs hu
    obtain rfl : a = s := by simpa using hs
    obtain rfl : b = u := by simpa using hu
    rw [List.map_cons, List.map_cons, List.map_nil, evals]
    by_cases g : (eval lk t a.e).2 ≠ 0
    · rw [if_pos g, if_pos g, if_pos g]
    · rw [if_neg g, if_neg g, evals]
      by_cases g2 : (eval lk t b.e).2 ≠ 0
      · rw [if_pos g2, if_pos g2, if_pos g2]
      · rw [if_neg g2, if_neg g2, evals, if_neg (by simp), close, if_neg (by omega)]
/-! ## Two, gone through -/
def rp1 (x y : Bool) (c : Cell) (b : List Cell) : List Pr := (b.filter fun d => !((x && y) && !decide (c.sr = d.sr))).map fun d => (if y = true then d.sr else c.sr, c.value, d.value)
def rp (x y : Bool) (a b : List Cell) : List Pr := a.flatMap fun c => rp1 x y c b
theorem rp1_at {x y : Bool} {c : Cell} {b : List CellX} {j : Nat} {d : CellX} (h : b[j]? = some d) : rp1 x y c ((b.take (j + 1)).map CellX.e) = rp1 x y c ((b.take j).map CellX.e) ++ if (x = true ∧ y = true) ∧ ¬ c.sr = d.sr.l then [] else [(if y = true then d.sr.l else c.sr, c.value, d.value)] := by
  unfold rp1
  rw [List.take_add_one, h, List.map_append, List.filter_append, List.map_append]
  congr 1
  simp only [Option.toList, List.map_cons, List.map_nil, List.filter_cons, List.filter_nil]
  by_cases g : (x = true ∧ y = true) ∧ ¬ c.sr = d.sr.l
  · rw [if_pos g, if_neg]; · rfl
    simp [g.1.1, g.1.2, CellX.e, g.2]
  · rw [if_neg g, if_pos]; · rfl
    simp only [CellX.e]
    cases hx : x <;> cases hy : y <;> simp_all
theorem rp1_no {x y : Bool} {s : CellX} {b : List CellX} {j : Nat} {d : CellX} (h : b[j]? = some d) (hg : (x = true ∧ y = true) ∧ ¬ s.sr.l = d.sr.l) : rp1 x y s.e ((b.take (j + 1)).map CellX.e) = rp1 x y s.e ((b.take j).map CellX.e) := by
  rw [rp1_at h, if_pos (show (x = true ∧ y = true) ∧ ¬ s.e.sr = d.sr.l from hg), List.append_nil]
theorem rp1_yes {x y : Bool} {s : CellX} {b : List CellX} {j : Nat} {d : CellX} (h : b[j]? = some d) (hg : ¬ ((x = true ∧ y = true) ∧ ¬ s.sr.l = d.sr.l)) (hy : y = true) : rp1 x y s.e ((b.take (j + 1)).map CellX.e) = rp1 x y s.e ((b.take j).map CellX.e) ++ [(d.sr.l, s.value, d.value)] := by
  rw [rp1_at h, if_neg (show ¬ ((x = true ∧ y = true) ∧ ¬ s.e.sr = d.sr.l) from hg), if_pos hy]; rfl
theorem rp1_yes' {x y : Bool} {s : CellX} {b : List CellX} {j : Nat} {d : CellX} (h : b[j]? = some d) (hg : ¬ ((x = true ∧ y = true) ∧ ¬ s.sr.l = d.sr.l)) (hy : ¬ y = true) : rp1 x y s.e ((b.take (j + 1)).map CellX.e) = rp1 x y s.e ((b.take j).map CellX.e) ++ [(s.sr.l, s.value, d.value)] := by
  rw [rp1_at h, if_neg (show ¬ ((x = true ∧ y = true) ∧ ¬ s.e.sr = d.sr.l) from hg), if_neg hy]; rfl
theorem rp_at {x y : Bool} {a : List CellX} {b : List Cell} {k : Nat} {s : CellX} (h : a[k]? = some s) : rp x y ((a.take (k + 1)).map CellX.e) b = rp x y ((a.take k).map CellX.e) b ++ rp1 x y s.e b := by
  unfold rp
  rw [List.take_add_one, h, List.map_append, List.flatMap_append]
  simp
theorem filter_find {b : List Cell} (hd : Dst b) (s : List Label) : (b.filter fun d => decide (s = d.sr)) = (b.find? fun d => decide (s = d.sr)).toList := by
  induction b with
  | nil => rfl
  | cons x r ih =>
    unfold Dst at hd
    rw [List.map_cons, List.nodup_cons] at hd
    by_cases g : s = x.sr
    · rw [List.filter_cons_of_pos (by simpa using g), List.find?_cons_of_pos (by simpa using g)]
      have : (r.filter fun d => decide (s = d.sr)) = [] := by
        rw [List.filter_eq_nil_iff]
        intro d hd' e
        exact hd.1 (by rw [← g, show s = d.sr by simpa using e]; exact List.mem_map_of_mem hd')
      rw [this]; rfl
    · rw [List.filter_cons_of_neg (by simpa using g), List.find?_cons_of_neg (by simpa using g), ih hd.2]
theorem flat_one {α β : Type} {f : α → List β} {g : α → β} : ∀ {l : List α}, (∀ c ∈ l, f c = [g c]) → l.flatMap f = l.map g
  | [], _ => rfl
  | x :: r, h => by rw [List.flatMap_cons, h x List.mem_cons_self, List.map_cons, flat_one fun c hc => h c (List.mem_cons_of_mem _ hc)]; rfl
theorem flat_opt {α β : Type} {f : α → List β} {g : α → Option β} : ∀ {l : List α}, (∀ c ∈ l, f c = (g c).toList) → l.flatMap f = l.filterMap g
  | [], _ => rfl
  | x :: r, h => by
    rw [List.flatMap_cons, h x List.mem_cons_self, List.filterMap_cons, flat_opt fun c hc => h c (List.mem_cons_of_mem _ hc)]
    cases g x <;> rfl
def cellsOf (v : Val) : List Cell := if v.vec = true then v.cells else [⟨[], v.n⟩]
theorem rp_bin {w : ByteArray} {A B : Val} (hd : Dst B.cells) : rout (bin w A B) = if fine w (rp A.vec B.vec (cellsOf A) (cellsOf B)) = true then (done w (rp A.vec B.vec (cellsOf A) (cellsOf B)), A.vec || B.vec, 0) else ([], false, 3) := by
  by_cases g : A.vec = false ∧ B.vec = false
  · have hp : rp A.vec B.vec (cellsOf A) (cellsOf B) = [([], A.n, B.n)] := by simp [rp, rp1, cellsOf, g.1, g.2]
    rw [hp, bin, if_pos g]
    have hf : fine w [([], A.n, B.n)] = (op w A.n B.n).2 := by simp [fine]
    rw [hf]
    by_cases h : (op w A.n B.n).2 = true
    · rw [if_pos h, if_pos h, rout_ok rfl]; simp [done, g.1, g.2]
    · rw [if_neg h, if_neg h]; rfl
  · have hp : rp A.vec B.vec (cellsOf A) (cellsOf B) = pairs A B := by
      unfold pairs
      cases hb : B.vec with
      | false =>
        have ha : A.vec = true := by cases ha : A.vec <;> simp_all
        rw [if_pos rfl, ha]
        unfold rp cellsOf
        rw [ha, hb, if_pos (show true = true from rfl), if_neg (show ¬ (false = true) by simp)]
        exact flat_one fun c _ => by simp [rp1]
      | true =>
        rw [if_neg (by simp)]
        cases ha : A.vec with
        | false =>
          rw [if_pos rfl]
          unfold rp cellsOf
          rw [ha, hb, if_neg (show ¬ (false = true) by simp), if_pos (show true = true from rfl)]
          simp only [List.flatMap_cons, List.flatMap_nil, List.append_nil, rp1, Bool.false_and, Bool.not_false, if_true]
          rw [List.filter_eq_self.2 (fun _ _ => rfl)]
        | true =>
          rw [if_neg (by simp)]
          unfold rp cellsOf
          rw [ha, hb, if_pos (show true = true from rfl)]
          refine flat_opt fun c _ => ?_
          simp only [rp1, Bool.and_self, Bool.true_and, Bool.not_not, if_true]
          rw [filter_find hd c.sr]
          cases hq : (B.cells.find? fun d => decide (c.sr = d.sr)) with
          | none => rfl
          | some d =>
            have : c.sr = d.sr := by have := List.find?_some hq; simpa using this
            simp [this]
    rw [hp, bin, if_neg g]
    split
    · rename_i h
      rw [rout_ok rfl]
      have : (A.vec || B.vec) = true := by cases ha : A.vec <;> cases hb : B.vec <;> simp_all
      rw [this]; rfl
    · rfl
/-! ## All, gone through -/
theorem pos_of {cs : List CellX} {S : List Label} {q : Nat} {y : CellX} (ha : Asc (cs.map CellX.e)) (hy : cs[q]? = some y) (hs : y.sr.l = S) : pos (cs.map CellX.e) S = q ∧ has (cs.map CellX.e) S = true := by
  have hm : (cs.map CellX.e)[q]? = some y.e := by rw [List.getElem?_map, hy]; rfl
  refine ⟨pos_eq (by have := (List.getElem?_eq_some_iff.1 hy).1; rw [List.length_map]; omega) (fun i z hz hi => ?_) (fun i z hz hi hlt => ?_), List.any_eq_true.2 ⟨y.e, List.mem_of_getElem? hm, decide_eq_true hs⟩⟩
  · have := ha.at_ hz hm hi; rwa [show y.e.sr = S from hs] at this
  · by_cases h : q = i
    · subst h; rw [hm] at hz; injection hz with hz; subst hz; exact cmp_lt_ne hlt hs
    · have := ha.at_ hm hz (by omega)
      rw [show y.e.sr = S from hs] at this
      have h2 := Names.compare_is.trans _ _ _ this hlt
      have h3 := Names.compare_is.refl S
      omega
theorem has_no {cs : List CellX} {S : List Label} (h : ∀ y ∈ cs, ¬ y.sr.l = S) : has (cs.map CellX.e) S = false := by
  rw [Bool.eq_false_iff]
  intro g
  obtain ⟨y, hy, hs⟩ := List.any_eq_true.1 g
  obtain ⟨x, hx, rfl⟩ := List.mem_map.1 hy
  exact h x hx (of_decide_eq_true hs)
theorem asc_take {cs : List CellX} {S : List Label} {j : Nat} (hj : j ≤ cs.length) (h1 : ∀ y ∈ cs.take j, Names.compare y.sr.l S < 0) (ha : Asc (cs.map CellX.e)) (h2 : ∀ y, cs[j]? = some y → ¬ Names.compare y.sr.l S < 0) : pos (cs.map CellX.e) S = j := by
  refine pos_eq (by rw [List.length_map]; exact hj) (fun q y hy hq => ?_) (fun q y hy hq hlt => ?_)
  · rw [List.getElem?_map] at hy
    obtain ⟨x, hx, rfl⟩ := Option.map_eq_some_iff.1 hy
    exact h1 x (List.mem_of_getElem? (by rw [List.getElem?_take, if_pos hq]; exact hx))
  · have hl := (List.getElem?_eq_some_iff.1 hy).1
    rw [List.length_map] at hl
    have hjx : cs[j]? = some (cs[j]'(by omega)) := List.getElem?_eq_getElem _
    exact asc_ge ha (k := j) (x := (cs[j]'(by omega)).e) (by rw [List.getElem?_map, hjx]; rfl) (h2 _ hjx) q y hy hq hlt
theorem comb_rng {w : ByteArray} {a b : Int} (ha : -1125899906842624 ≤ a ∧ a ≤ 1125899906842624) (hb : -1125899906842624 ≤ b ∧ b ≤ 1125899906842624) (hw : w = ⟨#[109, 97, 120]⟩ ∨ w = ⟨#[109, 105, 110]⟩) : fits (comb w a b) = true := by
  rcases hw with rfl | rfl
  · rw [comb, if_pos rfl]; exact fits_iff.2 (by omega)
  · rw [comb, if_neg (by decide), if_pos rfl]; exact fits_iff.2 (by omega)
theorem rout_cells {r : Val × Int} (h : r.2 = 0) : (rout r).1 = cellsOf r.1 ∧ (rout r).2.1 = r.1.vec := by rw [rout_ok h]; exact ⟨rfl, rfl⟩
theorem cells_good {A : Val} (hG : Good A) {l : List CellX} (hl : l.map CellX.e = cellsOf A) : (∀ c ∈ l, -1125899906842624 ≤ c.value ∧ c.value ≤ 1125899906842624) ∧ (∀ c ∈ l, c.sr.l.length ≤ 1048576) ∧ l.length ≤ 1048576 := by
  have hn : l.length = (cellsOf A).length := by rw [← hl, List.length_map]
  have hm : ∀ c ∈ l, c.e ∈ cellsOf A := fun c hc => by rw [← hl]; exact List.mem_map_of_mem hc
  unfold cellsOf at hn hm
  by_cases hv : A.vec = true
  · rw [if_pos hv] at hn hm
    exact ⟨fun c hc => hG.bnd.2 _ (hm c hc), fun c hc => hG.sr _ (hm c hc), by rw [hn]; exact hG.len⟩
  · rw [if_neg hv] at hn hm
    refine ⟨fun c hc => ?_, fun c hc => ?_, by rw [hn]; simp⟩
    · have h1 := List.mem_singleton.1 (hm c hc)
      have h2 : c.value = A.n := congrArg Cell.value h1
      rw [h2]; exact hG.bnd.1
    · have h1 := List.mem_singleton.1 (hm c hc)
      have h2 : c.sr.l = [] := congrArg Cell.sr h1
      rw [h2]; exact Nat.zero_le _
theorem fine_and {w : ByteArray} {p : List Pr} {s : List Label} {x y : Int} {g : Bool} (h : g = fine w p) : decide (g = true ∧ (op w x y).2 = true) = fine w (p ++ [(s, x, y)]) := by
  have e1 : fine w (p ++ [(s, x, y)]) = (fine w p && (op w x y).2) := by simp [fine, List.all_append]
  rw [e1, ← h]
  cases g <;> cases (op w x y).2 <;> rfl
theorem rp_end {x y : Bool} {a : List CellX} {b : List Cell} {k : Nat} (h : a.length ≤ k) : rp x y ((a.take k).map CellX.e) b = rp x y (a.map CellX.e) b := by rw [List.take_of_length_le h]
theorem set_same {α : Type} {l : List α} {q : Nat} {y : α} (h : l[q]? = some y) : l.set q y = l := by
  obtain ⟨h1, rfl⟩ := List.getElem?_eq_some_iff.1 h
  exact List.set_getElem_self h1
end Mn
namespace Ex
@[reducible] def rV (r : List Cell × Bool × Int) (z : SlX CellX) : Value := .tuple #[.slice z.A z.l.length z.c, .bool r.2.1, .int .i64 r.2.2]
end Ex
end Go.Proofs.Ytldecdningjkoaa
