/-
  Lines cut to a window, and lines that are all later: what is asked of them is the same.
-/
import Derived.Test.YtffpglgboaigfaaDoorPLaw6
import Derived.Test.YtffpglgboaigfaaDoorPCodec3
namespace Go.Proofs.YtffpglgboaigfaaDoor
namespace Mn
open Ex
theorem ask_ok {l : List LineX} {e : Expr} {t : Int} (h : (ask l e t).2 = 0) : (lines l).err = 0 ∧ check e t = 0 := by
  by_cases h1 : (lines l).err = 0
  · by_cases h2 : check e t = 0
    · exact ⟨h1, h2⟩
    · rw [ask, if_neg (by simpa using h1), if_pos h2] at h; exact absurd h h2
  · rw [ask, if_pos h1] at h; exact absurd h h1
def inCut (t r : Int) (s : Sample) : Bool := decide (s.time < t ∧ t - r ≤ s.time)
def cutP (t r : Int) (x : Line) : Line := ⟨x.sr, x.sm.filter (inCut t r)⟩
theorem right_filter {l : List Sample} (p : Sample → Bool) (h : Codec.Right l) : Codec.Right (l.filter p) :=
  ⟨Nat.le_trans (List.length_filter_le _ _) h.len, fun x hx => h.rng x (List.mem_filter.1 hx).1, h.inc.sublist List.filter_sublist⟩
theorem lines_cut (t r : Int) : ∀ (l : List Line) (i : Nat) (p : Option (List Label)), (linesFromP i p l).err = 0 → (linesFromP i p (l.map (cutP t r))).err = 0
  | [], _, _, h => h
  | x :: l, i, p, h => by
    rw [linesFromP] at h
    split at h
    · rename_i h1; exact absurd h h1
    rename_i h1
    split at h
    · rename_i h2; exact absurd h h2
    rename_i h2
    split at h
    · cases h
    rename_i h3
    have h4 : (Codec.wrong (cutP t r x).sm).err = 0 := Codec.wrong_ok (right_filter _ (Codec.right_of (Classical.not_not.1 h2)))
    rw [List.map_cons, linesFromP, show (cutP t r x).sr = x.sr from rfl, if_neg h1, if_neg (by rw [h4]; simp), if_neg h3]
    exact lines_cut t r l _ _ h
theorem in_cut {t r : Int} {s : Sample} (h : inWin (frm t r) t s = true) : inCut t r s = true := by
  simp only [inWin, decide_eq_true_eq] at h
  simp only [inCut, decide_eq_true_eq]
  unfold frm at h
  split at h <;> omega
theorem look_cut (l : List Line) (ms : List Match) (t r : Int) : lookL (l.map (cutP t r)) ms (frm t r) t = lookL l ms (frm t r) t := by
  unfold lookL
  congr 1
  rw [List.filter_map, List.map_map]
  have h1 : ((fun x : Line => Names.matches_ x.sr ms) ∘ cutP t r) = fun x : Line => Names.matches_ x.sr ms := rfl
  rw [h1]
  apply List.map_congr_left
  intro x _
  simp only [Function.comp, cutP, List.filter_filter]
  congr 2
  apply List.filter_congr
  intro s _
  by_cases h : inWin (frm t r) t s = true
  · simp [h, in_cut h]
  · simp [h]
theorem eval_win (lk : Look) (t n r : Int) (w : ByteArray) (ms : List Match) (bs : List ByteArray) (ks : List Expr) : eval lk t (.mk 2 n r w ms bs ks) = window lk t w ms r := by
  rw [eval, if_neg (show ¬ (2 : Int) = 1 by decide), if_pos rfl]
theorem window_same {l : List Line} {e : Expr} {t : Int} (h : (askP l e t).2 = 0) (hk : e.kind = 2) : askP (l.map (cutP t e.range)) e t = askP l e t := by
  have h1 : (linesP l).err = 0 := by
    by_cases g : (linesP l).err = 0
    · exact g
    · rw [askP, if_pos g] at h; exact absurd h g
  have h2 : (linesP (l.map (cutP t e.range))).err = 0 := by
    unfold linesP at h1 ⊢
    rw [List.length_map]
    split at h1
    · cases h1
    · rename_i g; rw [if_neg g]; exact lines_cut _ _ _ _ _ h1
  have e1 : askP (l.map (cutP t e.range)) e t = if check e t ≠ 0 then ([], check e t) else out (eval (lookL (l.map (cutP t e.range))) t e) := by rw [askP, if_neg (by rw [h2]; simp)]
  have e2 : askP l e t = if check e t ≠ 0 then ([], check e t) else out (eval (lookL l) t e) := by rw [askP, if_neg (by rw [h1]; simp)]
  rw [e1, e2]
  match e, hk with
  | .mk k n r w ms bs ks, hk =>
    have hk : k = 2 := hk
    subst hk
    rw [eval_win, eval_win]
    unfold window
    rw [show (Expr.mk 2 n r w ms bs ks).range = r from rfl, look_cut]
theorem cut_at {l : List LineX} {t r : Int} {k : Nat} {s : LineX} (h : l[k]? = some s) : (l.take (k + 1)).map (fun x => cutP t r x.e) = (l.take k).map (fun x => cutP t r x.e) ++ [⟨s.sr.l, s.sm.l.filter (inCut t r)⟩] := by
  rw [List.take_add_one, h, List.map_append]; rfl
/-! ## All later -/
def mv (b : Int) (s : Sample) : Sample := ⟨s.time + b, s.value⟩
def mvP (b : Int) (x : Line) : Line := ⟨x.sr, x.sm.map (mv b)⟩
def inMv (b : Int) (s : Sample) : Prop := 0 ≤ s.time ∧ s.time ≤ 1000000 - b
theorem codec_mv {b : Int} (hb : 0 ≤ b) : ∀ (l : List Sample) (k : Nat) (p : Option Sample), (∀ s ∈ l, inMv b s) → Codec.wrongFrom k (p.map (mv b)) (l.map (mv b)) = Codec.wrongFrom k p l
  | [], _, _, _ => rfl
  | s :: r, k, p, h => by
    have hs := h s List.mem_cons_self
    unfold inMv at hs
    rw [List.map_cons, Codec.wrongFrom, Codec.wrongFrom]
    have h1 : Codec.badRange (mv b s) ↔ Codec.badRange s := by simp only [Codec.badRange, mv]; omega
    have h2 : Codec.notAhead (p.map (mv b)) (mv b s) = Codec.notAhead p s := by
      cases p with
      | none => rfl
      | some q =>
      show decide ((mv b s).time ≤ (mv b q).time) = decide (s.time ≤ q.time)
      rw [decide_eq_decide]; simp only [mv]; omega
    have h3 := codec_mv hb r (k + 1) (some s) fun x hx => h x (List.mem_cons_of_mem _ hx)
    rw [Option.map_some] at h3
    simp only [h1, h2, h3]
theorem wrong_mv {b : Int} (hb : 0 ≤ b) {l : List Sample} (h : ∀ s ∈ l, inMv b s) : Codec.wrong (l.map (mv b)) = Codec.wrong l := by
  unfold Codec.wrong
  rw [List.length_map]
  split
  · rfl
  · exact codec_mv hb l 0 none h
theorem lines_mv {b : Int} (hb : 0 ≤ b) : ∀ (l : List Line) (i : Nat) (p : Option (List Label)), (∀ x ∈ l, ∀ s ∈ x.sm, inMv b s) → linesFromP i p (l.map (mvP b)) = linesFromP i p l
  | [], _, _, _ => rfl
  | x :: r, i, p, h => by
    rw [List.map_cons, linesFromP, linesFromP]
    have h1 : Codec.wrong (mvP b x).sm = Codec.wrong x.sm := wrong_mv hb (h x List.mem_cons_self)
    have h2 := lines_mv hb r (i + 1) (some x.sr) fun y hy => h y (List.mem_cons_of_mem _ hy)
    rw [h1, show (mvP b x).sr = x.sr from rfl, h2]
theorem look_mv {b t : Int} (hb : 0 ≤ b) (l : List Line) (ms : List Match) (r : Int) (h : ∀ x ∈ l, ∀ s ∈ x.sm, inMv b s) : lookL (l.map (mvP b)) ms (frm (t + b) r) (t + b) = ((lookL l ms (frm t r) t).1, 0) := by
  unfold lookL
  congr 1
  rw [List.filter_map, List.map_map]
  have h1 : ((fun x : Line => Names.matches_ x.sr ms) ∘ mvP b) = fun x : Line => Names.matches_ x.sr ms := rfl
  rw [h1]
  apply List.map_congr_left
  intro x hx
  have hx := h x (List.mem_filter.1 hx).1
  simp only [Function.comp, mvP]
  congr 1
  have key : ∀ (q : List Sample), (∀ s ∈ q, inMv b s) → (q.map (mv b)).filter (inWin (frm (t + b) r) (t + b)) = (q.filter (inWin (frm t r) t)).map (mv b) := fun q hq => by
    rw [List.filter_map]
    congr 1
    apply List.filter_congr
    intro s hs
    have := hq s hs
    unfold inMv at this
    show decide (frm (t + b) r ≤ (mv b s).time ∧ (mv b s).time < t + b) = decide (frm t r ≤ s.time ∧ s.time < t)
    rw [decide_eq_decide]
    simp only [mv, frm]
    split <;> split <;> omega
  rw [key _ hx]
  have ofm : ∀ (q : List Sample), Agg.of (q.map (mv b)) = Agg.of q := fun q => by
    unfold Agg.of; rw [List.foldl_map]; rfl
  rw [ofm]
mutual
theorem eval_look {lk lk' : Look} {t t' : Int} (h : ∀ ms r, lk ms (frm t r) t = lk' ms (frm t' r) t') : ∀ (e : Expr), eval lk t e = eval lk' t' e
  | .mk k n r w ms bs ks => by rw [eval, eval, evals_look h ks, window, window, h ms r]
theorem evals_look {lk lk' : Look} {t t' : Int} (h : ∀ ms r, lk ms (frm t r) t = lk' ms (frm t' r) t') : ∀ (l : List Expr), evals lk t l = evals lk' t' l
  | [] => by rw [evals, evals]
  | x :: xs => by rw [evals, evals, eval_look h x, evals_look h xs]
end
theorem later_same {l : List Line} {e : Expr} {t b : Int} (hb : 0 ≤ b ∧ b ≤ 1000000) (ht : 0 ≤ t ∧ t ≤ 1000000 - b) (h : ∀ x ∈ l, ∀ s ∈ x.sm, inMv b s) : askP (l.map (mvP b)) e (t + b) = askP l e t := by
  have h1 : linesP (l.map (mvP b)) = linesP l := by
    unfold linesP; rw [List.length_map]
    split
    · rfl
    · exact lines_mv hb.1 l 0 none h
  have h2 : check e (t + b) = check e t := by
    unfold check
    split
    · rfl
    split
    · rfl
    rw [if_neg (by omega), if_neg (by omega)]
  rw [askP, askP, h1, h2, eval_look (lk' := lookL l) (t' := t) fun ms r => by rw [look_mv hb.1 l ms r h]; rfl]
theorem mv_at {l : List LineX} {b : Int} {k : Nat} {s : LineX} (h : l[k]? = some s) : (l.take (k + 1)).map (fun x => mvP b x.e) = (l.take k).map (fun x => mvP b x.e) ++ [⟨s.sr.l, s.sm.l.map (mv b)⟩] := by
  rw [List.take_add_one, h, List.map_append]; rfl
theorem mvs_at {l : List Sample} {b : Int} {k : Nat} {s : Sample} (h : l[k]? = some s) : (l.take (k + 1)).map (mv b) = (l.take k).map (mv b) ++ [⟨s.time + b, s.value⟩] := by
  rw [List.take_add_one, h, List.map_append]; rfl
end Mn
end Go.Proofs.YtffpglgboaigfaaDoor
