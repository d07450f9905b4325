/-
  Expressions put together by signs: whether they are right, and what they come to.
-/
import Derived.Test.YtffpglgboaigfaaDoorPLaw6W
namespace Go.Proofs.YtffpglgboaigfaaDoor
namespace Mn
open Ex
mutual
def nodes : Expr → Int
  | .mk _ _ _ _ _ _ ks => 1 + nodess ks
def nodess : List Expr → Int
  | [] => 0
  | x :: xs => nodes x + nodess xs
end
mutual
/-- right, but for how deep, and how much it is -/
def fineE : Expr → Prop
  | .mk k n r w ms bs ks => (1 ≤ k ∧ k ≤ 4) ∧ (ks.length : Int) = Lg.arity k ∧ Lg.ownW k n r w ms bs = 0 ∧ fineEs ks
def fineEs : List Expr → Prop
  | [] => True
  | x :: xs => fineE x ∧ fineEs xs
end
mutual
def low (d : Int) : Expr → Prop
  | .mk _ _ _ _ _ _ ks => d ≤ 20 ∧ lows (d + 1) ks
def lows (d : Int) : List Expr → Prop
  | [] => True
  | x :: xs => low d x ∧ lows d xs
end
mutual
theorem nodes_pos : ∀ (e : Expr), 1 ≤ nodes e
  | .mk _ _ _ _ _ _ ks => by rw [nodes]; have := nodess_pos ks; omega
theorem nodess_pos : ∀ (l : List Expr), 0 ≤ nodess l
  | [] => by rw [nodess]; omega
  | x :: xs => by rw [nodess]; have := nodes_pos x; have := nodess_pos xs; omega
end
mutual
theorem shape_ok : ∀ (e : Expr) (d c : Int), fineE e → c + nodes e ≤ 100 → low d e → Lg.shape e d c = (0, c + nodes e)
  | .mk k n r w ms bs ks, d, c, hf, hn, hl => by
    rw [fineE] at hf; rw [nodes] at hn ⊢; rw [low] at hl
    have h0 := nodess_pos ks
    rw [Lg.shape, if_neg (by omega), if_neg (by omega), if_neg (by rw [hf.2.1]; simp), if_neg (by rw [hf.2.2.1]; simp), shapes_ok ks _ _ hf.2.2.2 (by omega) hl.2]
    rw [Int.add_assoc]
theorem shapes_ok : ∀ (l : List Expr) (d c : Int), fineEs l → c + nodess l ≤ 100 → lows d l → Lg.shapes l d c = (0, c + nodess l)
  | [], d, c, _, _, _ => by rw [Lg.shapes, nodess, Int.add_zero]
  | x :: xs, d, c, hf, hn, hl => by
    rw [fineEs] at hf; rw [nodess] at hn ⊢; rw [lows] at hl
    have h0 := nodess_pos xs
    rw [Lg.shapes, shape_ok x d c hf.1 (by omega) hl.1, if_neg (by simp), shapes_ok xs d _ hf.2 (by omega) hl.2, Int.add_assoc]
end
mutual
theorem shape_of : ∀ (e : Expr) (d c : Int), (Lg.shape e d c).1 = 0 → fineE e ∧ (Lg.shape e d c).2 = c + nodes e ∧ c + 1 ≤ 100 ∧ low d e
  | .mk k n r w ms bs ks, d, c, h => by
    rw [Lg.shape] at h ⊢
    split at h
    · cases h
    rename_i a1
    split at h
    · cases h
    rename_i a2
    split at h
    · cases h
    rename_i a3
    split at h
    · rename_i h2; exact absurd h h2
    rename_i a4
    obtain ⟨h1, h2, h3⟩ := shapes_of ks _ _ h
    rw [if_neg a1, if_neg a2, if_neg a3, if_neg a4, fineE, nodes, low]
    exact ⟨⟨by omega, by omega, Classical.not_not.1 a4, h1⟩, by omega, by omega, by omega, h3⟩
theorem shapes_of : ∀ (l : List Expr) (d c : Int), (Lg.shapes l d c).1 = 0 → fineEs l ∧ (Lg.shapes l d c).2 = c + nodess l ∧ lows d l
  | [], d, c, _ => by rw [Lg.shapes, fineEs, nodess, lows]; simp
  | x :: xs, d, c, h => by
    rw [Lg.shapes] at h ⊢
    split at h
    · rename_i h2; exact absurd h h2
    rename_i h2
    have h2 := Classical.not_not.1 h2
    obtain ⟨a1, a2, _, a3⟩ := shape_of x d c h2
    obtain ⟨b1, b2, b3⟩ := shapes_of xs d _ h
    rw [if_neg (by simpa using h2), fineEs, nodess, lows]
    exact ⟨⟨a1, b1⟩, by omega, a3, b3⟩
end
mutual
/-- all that may be wrong is that it is too much -/
theorem shape_4 : ∀ (e : Expr) (d c : Int), fineE e → (Lg.shape e d c).1 = 0 ∨ (Lg.shape e d c).1 = 4
  | .mk k n r w ms bs ks, d, c, hf => by
    rw [fineE] at hf
    rw [Lg.shape]
    split
    · exact .inr rfl
    rw [if_neg (by omega), if_neg (by rw [hf.2.1]; simp), if_neg (by rw [hf.2.2.1]; simp)]
    exact shapes_4 ks _ _ hf.2.2.2
theorem shapes_4 : ∀ (l : List Expr) (d c : Int), fineEs l → (Lg.shapes l d c).1 = 0 ∨ (Lg.shapes l d c).1 = 4
  | [], d, c, _ => by rw [Lg.shapes]; exact .inl rfl
  | x :: xs, d, c, hf => by
    rw [fineEs] at hf
    rw [Lg.shapes]
    split
    · exact shape_4 x d c hf.1
    · exact shapes_4 xs d _ hf.2
end
mutual
theorem low_le : ∀ (e : Expr) (d d' : Int), d' ≤ d → low d e → low d' e
  | .mk _ _ _ _ _ _ ks, d, d', h, hl => by rw [low] at hl ⊢; exact ⟨by omega, lows_le ks _ _ (by omega) hl.2⟩
theorem lows_le : ∀ (l : List Expr) (d d' : Int), d' ≤ d → lows d l → lows d' l
  | [], _, _, _, _ => by rw [lows]; trivial
  | x :: xs, d, d', h, hl => by rw [lows] at hl ⊢; exact ⟨low_le x d d' h hl.1, lows_le xs d d' h hl.2⟩
end
/-! ## Two, by a sign -/
def two (w : ByteArray) (a b : Expr) : Expr := .mk 4 0 0 w [] [] [a, b]
def num (n : Int) : Expr := .mk 1 n 0 .empty [] [] []
theorem num_fine {n : Int} (h : 0 ≤ n ∧ n ≤ 1000000) : fineE (num n) := by
  rw [num, fineE, fineEs]
  refine ⟨by decide, by simp [Lg.arity], ?_, trivial⟩
  rw [Lg.ownW, if_pos rfl, if_neg (by omega)]
theorem num_nodes (n : Int) : nodes (num n) = 1 := by rw [num, nodes, nodess]; rfl
theorem two_shape {w : ByteArray} {a b : Expr} (hw : 0 ≤ Names.indexOf Lg.signs w 0) : Lg.shape (two w a b) 1 0 = Lg.shapes [a, b] 2 1 := by
  rw [two, Lg.shape, if_neg (by omega), if_neg (by omega), if_neg (by simp [Lg.arity]), if_neg]
  · rfl
  · rw [Lg.ownW, if_neg (by decide), if_neg (by decide), if_neg (by decide), if_neg (fun h => h hw)]; simp
theorem two_wrong {w : ByteArray} {a b : Expr} (hw : 0 ≤ Names.indexOf Lg.signs w 0) (ha : fineE a) (hb : fineE b) : Lg.wrong (two w a b) = 0 ∨ Lg.wrong (two w a b) = 4 := by
  rw [Lg.wrong, two_shape hw]; exact shapes_4 _ _ _ (by rw [fineEs, fineEs, fineEs]; exact ⟨ha, hb, trivial⟩)
theorem two_of {w : ByteArray} {a b : Expr} (hw : 0 ≤ Names.indexOf Lg.signs w 0) (h : Lg.wrong (two w a b) = 0) : 1 + nodes a + nodes b ≤ 100 ∧ low 2 a ∧ low 2 b := by
  rw [Lg.wrong, two_shape hw] at h
  obtain ⟨h1, h2, h3⟩ := shapes_of _ _ _ h
  have h4 := Lg.shapes_le [a, b] 2 1 (by omega) (by omega) h
  rw [h2, nodess, nodess, nodess] at h4
  rw [lows, lows] at h3
  exact ⟨by omega, h3.1, h3.2.1⟩
theorem two_ok {w : ByteArray} {a b : Expr} (hw : 0 ≤ Names.indexOf Lg.signs w 0) (ha : fineE a) (hb : fineE b) (hn : 1 + nodes a + nodes b ≤ 100) (la : low 2 a) (lb : low 2 b) : Lg.wrong (two w a b) = 0 := by
  rw [Lg.wrong, two_shape hw, shapes_ok _ _ _ (by rw [fineEs, fineEs, fineEs]; exact ⟨ha, hb, trivial⟩) (by rw [nodess, nodess, nodess]; omega) (by rw [lows, lows, lows]; exact ⟨la, lb, trivial⟩)]
theorem two_typed {w : ByteArray} {a b : Expr} (ha : Lg.typed a = 0) (hb : Lg.typed b = 0) : Lg.typed (two w a b) = 0 := by
  rw [two, Lg.typed, if_neg (by simp), Lg.typeds, if_neg (by simpa using ha), Lg.typeds, if_neg (by simpa using hb), Lg.typeds]
theorem num_typed (n : Int) : Lg.typed (num n) = 0 := by rw [num, Lg.typed, if_neg (by simp), Lg.typeds]
theorem check_parts {e : Expr} {t : Int} (h : check e t = 0) : Lg.wrong e = 0 ∧ Lg.typed e = 0 ∧ (0 ≤ t ∧ t ≤ 1000000) := by
  unfold check at h
  split at h
  · rename_i h1; exact absurd h h1
  rename_i h1
  split at h
  · rename_i h2; exact absurd h h2
  rename_i h2
  split at h
  · cases h
  exact ⟨Classical.not_not.1 h1, Classical.not_not.1 h2, by omega⟩
theorem check_of {e : Expr} {t : Int} (h1 : Lg.wrong e = 0) (h2 : Lg.typed e = 0) (h3 : 0 ≤ t ∧ t ≤ 1000000) : check e t = 0 := by
  unfold check; rw [if_neg (by simpa using h1), if_neg (by simpa using h2), if_neg (by omega)]
theorem check_4 {e : Expr} {t : Int} (h1 : Lg.wrong e = 4) : check e t = 4 := by
  unfold check; rw [if_pos (by rw [h1]; decide), h1]
theorem two_eval {lk : Look} {t : Int} {w : ByteArray} {a b : Expr} (ha : (eval lk t a).2 = 0) (hb : (eval lk t b).2 = 0) : eval lk t (two w a b) = bin w (eval lk t a).1 (eval lk t b).1 := by
  have he : evals lk t [a, b] = ([(eval lk t a).1, (eval lk t b).1], 0) := by
    rw [evals, if_neg (by simpa using ha), evals, if_neg (by simpa using hb), evals]
  rw [two, eval, if_neg (by decide), if_neg (by decide), he, if_neg (by simp), close, if_neg (by decide)]
theorem num_eval (lk : Look) (t n : Int) : eval lk t (num n) = (⟨false, n, []⟩, 0) := by rw [num, eval, if_pos rfl]
/-! ## No series twice -/
def Dst (l : List Cell) : Prop := (l.map (·.sr)).Nodup
def DstLook (lk : Look) : Prop := ∀ m a b, ((lk m a b).1.map (·.1)).Nodup
theorem dst_asc {l : List Cell} (h : Asc l) : Dst l := by
  unfold Dst; unfold Asc at h
  rw [List.Nodup, List.pairwise_map]
  exact h.imp fun hc => cmp_lt_ne hc
theorem nodup_filterMap {α : Type} (f : α → Option (List Label)) (g : α → List Label) (hfg : ∀ a s, f a = some s → s = g a) : ∀ {l : List α}, (l.map g).Nodup → (l.filterMap f).Nodup
  | [], _ => by simp
  | a :: l, h => by
    rw [List.map_cons, List.nodup_cons] at h
    have ih := nodup_filterMap f g hfg h.2
    rw [List.filterMap_cons]
    split
    · exact ih
    · rename_i s hs
      rw [List.nodup_cons]
      refine ⟨fun hm => h.1 ?_, ih⟩
      obtain ⟨b, hb, hbs⟩ := List.mem_filterMap.1 hm
      rw [← hfg a s hs, hfg b s hbs]
      exact List.mem_map_of_mem hb
theorem dst_win {w : ByteArray} {r : List (List Label × Sum)} (h : (r.map (·.1)).Nodup) : Dst (winCells w r) := by
  unfold Dst winCells
  rw [List.map_filterMap]
  refine nodup_filterMap _ (·.1) (fun a s hs => ?_) h
  simp only [Option.map_eq_some_iff] at hs
  obtain ⟨c, hc, rfl⟩ := hs
  split at hc
  · injection hc with hc; rw [← hc]
  · cases hc
theorem dst_bin {w : ByteArray} {a b : Val} (ha : Dst a.cells) (hb : Dst b.cells) : Dst (bin w a b).1.cells := by
  unfold bin
  split
  · split <;> simp [Dst, zero]
  split
  · show Dst (done w (pairs a b))
    unfold Dst done pairs
    rw [List.map_map]
    split
    · rw [List.map_map]; exact ha
    split
    · rw [List.map_map]; exact hb
    · rw [List.map_filterMap]
      refine nodup_filterMap _ (fun x : Cell => x.sr) (fun c s hs => ?_) ha
      simp only [Option.map_map, Option.map_eq_some_iff] at hs
      obtain ⟨d, _, rfl⟩ := hs
      rfl
  · simp [Dst, zero]
theorem dst_all {w : ByteArray} {by_ : List ByteArray} : ∀ {l out : List Cell}, Asc out → Dst (allFrom w by_ out l).1.cells
  | [], out, h => by rw [allFrom]; exact dst_asc h
  | c :: r, out, h => by
    rw [allFrom]
    split
    · exact dst_all (put_asc h)
    · simp [Dst, zero]
mutual
theorem eval_dst {lk : Look} (hl : DstLook lk) (t : Int) : ∀ (e : Expr), Dst (eval lk t e).1.cells
  | .mk k n r w ms bs ks => by
    rw [eval]
    split
    · simp [Dst]
    split
    · unfold window
      split
      · simp [Dst, zero]
      · exact dst_win (hl _ _ _)
    split
    · simp [Dst, zero]
    have h3 := evals_dst hl t ks
    unfold close
    split
    · rename_i a rr he
      have ha : Dst a.cells := h3 a (by rw [he]; exact List.mem_cons_self)
      split
      · exact dst_all List.Pairwise.nil
      split
      · rename_i b hb
        exact dst_bin ha (h3 _ (by rw [he]; exact List.mem_cons_of_mem _ List.mem_cons_self))
      · simp [Dst, zero]
    · simp [Dst, zero]
theorem evals_dst {lk : Look} (hl : DstLook lk) (t : Int) : ∀ (l : List Expr), ∀ v ∈ (evals lk t l).1, Dst v.cells
  | [], v, hv => by rw [evals] at hv; cases hv
  | x :: xs, v, hv => by
    rw [evals] at hv
    split at hv
    · cases hv
    rcases List.mem_cons.1 hv with h1 | h1
    · rw [h1]; exact eval_dst hl t x
    · exact evals_dst hl t xs v h1
end
theorem dst_lookL {l : List LineX} (h : OkLines l) : DstLook (lookL (l.map LineX.e)) := fun m a b => by
  unfold lookL
  rw [List.map_map]
  have h1 : (((fun x : List Label × Sum => x.1) ∘ fun x : Line => (x.sr, Agg.of (x.sm.filter (inWin a b))))) = fun x : Line => x.sr := rfl
  rw [h1]
  have h2 : ((l.map LineX.e).map (·.sr)).Nodup := by
    rw [List.map_map, List.Nodup, List.pairwise_map]
    exact h.inc.imp fun hc => cmp_lt_ne hc
  exact h2.sublist (List.filter_sublist.map _)
/-! ## Signs are numbers' -/
theorem op_twice {a : Int} (h : -1125899906842624 ≤ a ∧ a ≤ 1125899906842624) : (op ⟨#[42]⟩ a 2).2 = (op ⟨#[43]⟩ a a).2 ∧ ((op ⟨#[43]⟩ a a).2 = true → (op ⟨#[42]⟩ a 2).1 = (op ⟨#[43]⟩ a a).1) := by
  have h1 : op ⟨#[42]⟩ a 2 = if tooBig a 2 then (0, false) else (a * 2, true) := by
    rw [op, if_neg (by decide), if_neg (by decide)]
  have h2 : op ⟨#[43]⟩ a a = (a + a, fits (a + a)) := by rw [op, if_pos rfl]
  have h3 : tooBig a 2 ↔ ¬ (-1125899906842624 ≤ a + a ∧ a + a ≤ 1125899906842624) := by
    have e : abs 2 = 2 := by decide
    unfold tooBig; rw [e]; unfold abs; split <;> omega
  rw [h1, h2]
  by_cases g : tooBig a 2
  · have := h3.1 g
    rw [if_pos g]
    refine ⟨?_, fun h => absurd (fits_iff.1 h) this⟩
    simp only [fits]; exact (decide_eq_false this).symm
  · have : -1125899906842624 ≤ a + a ∧ a + a ≤ 1125899906842624 := Classical.not_not.1 fun k => g (h3.2 k)
    rw [if_neg g]
    refine ⟨?_, fun _ => by show a * 2 = a + a; omega⟩
    simp only [fits]; exact (decide_eq_true this).symm
theorem op_less (a : Int) : op ⟨#[45]⟩ a a = (0, true) := by
  rw [op, if_neg (by decide), if_pos rfl, Int.sub_self]; rfl
theorem op_0 {a : Int} (h : -1125899906842624 ≤ a ∧ a ≤ 1125899906842624) : op ⟨#[43]⟩ 0 a = (a, true) := by
  rw [op, if_pos rfl, Int.zero_add]; simp [fits, h]
theorem find_self {l : List Cell} (hd : Dst l) {c : Cell} (hc : c ∈ l) : (l.find? fun d => decide (c.sr = d.sr)) = some c := by
  induction l with
  | nil => cases hc
  | cons x r ih =>
    unfold Dst at hd
    rw [List.map_cons, List.nodup_cons] at hd
    rcases List.mem_cons.1 hc with h | h
    · subst h; rw [List.find?_cons_of_pos (by simp)]
    · rw [List.find?_cons_of_neg, ih hd.2 h]
      simp only [decide_eq_true_eq]
      intro e; exact hd.1 (by rw [← e]; exact List.mem_map_of_mem h)
theorem pairs_self {v : Val} (hv : v.vec = true) (hd : Dst v.cells) : pairs v v = v.cells.map fun c => (c.sr, c.value, c.value) := by
  unfold pairs
  rw [if_neg (by rw [hv]; simp), if_neg (by rw [hv]; simp)]
  have : ∀ (l : List Cell), (∀ c ∈ l, (v.cells.find? fun d => decide (c.sr = d.sr)) = some c) → (l.filterMap fun c => (v.cells.find? fun d => decide (c.sr = d.sr)).map fun d => (c.sr, c.value, d.value)) = l.map fun c => (c.sr, c.value, c.value) := by
    intro l
    induction l with
    | nil => intro _; rfl
    | cons x r ih =>
      intro h
      rw [List.filterMap_cons, h x List.mem_cons_self, Option.map_some, List.map_cons, ih fun c hc => h c (List.mem_cons_of_mem _ hc)]
  exact this _ fun c hc => find_self hd hc
structure Signs (v : Val) : Prop where
  twice : bin ⟨#[42]⟩ v ⟨false, 2, []⟩ = bin ⟨#[43]⟩ v v
  less : (bin ⟨#[45]⟩ v v).2 = 0 ∧ (bin ⟨#[45]⟩ v v).1.vec = v.vec ∧ (v.vec = false → (bin ⟨#[45]⟩ v v).1.n = 0) ∧ (v.vec = true → (bin ⟨#[45]⟩ v v).1.cells = v.cells.map fun c => ⟨c.sr, 0⟩)
  more : (bin ⟨#[43]⟩ ⟨false, 0, []⟩ v).2 = 0 ∧ (bin ⟨#[43]⟩ ⟨false, 0, []⟩ v).1.vec = v.vec ∧ (v.vec = false → (bin ⟨#[43]⟩ ⟨false, 0, []⟩ v).1.n = v.n) ∧ (v.vec = true → (bin ⟨#[43]⟩ ⟨false, 0, []⟩ v).1.cells = v.cells)
theorem signs_of {v : Val} (hg : Good v) (hd : Dst v.cells) : Signs v := by
  by_cases hv : v.vec = true
  · have hb := hg.bnd.2
    have p1 : pairs v ⟨false, 2, []⟩ = v.cells.map fun c => (c.sr, c.value, 2) := by unfold pairs; rw [if_pos rfl]
    have p2 := pairs_self hv hd
    have p3 : pairs ⟨false, 0, []⟩ v = v.cells.map fun c => (c.sr, 0, c.value) := by unfold pairs; rw [if_neg (by rw [hv]; simp), if_pos rfl]
    have bv : ∀ (w : ByteArray) (a b : Val), (a.vec = true ∨ b.vec = true) → bin w a b = if fine w (pairs a b) = true then (⟨true, 0, done w (pairs a b)⟩, 0) else (zero, 3) := fun w a b h => by
      rw [bin, if_neg]; rintro ⟨h1, h2⟩; rcases h with h | h <;> simp_all
    refine ⟨?_, ?_, ?_⟩
    · rw [bv _ _ _ (.inl hv), bv _ _ _ (.inl hv), p1, p2]
      have f : fine ⟨#[42]⟩ (v.cells.map fun c => (c.sr, c.value, 2)) = fine ⟨#[43]⟩ (v.cells.map fun c => (c.sr, c.value, c.value)) := by
        rw [Bool.eq_iff_iff]
        simp only [fine, List.all_map, List.all_eq_true, Function.comp]
        exact ⟨fun h c hc => by rw [← (op_twice (hb c hc)).1]; exact h c hc, fun h c hc => by rw [(op_twice (hb c hc)).1]; exact h c hc⟩
      rw [f]
      by_cases g : fine ⟨#[43]⟩ (v.cells.map fun c => (c.sr, c.value, c.value)) = true
      · rw [if_pos g, if_pos g]
        have : done ⟨#[42]⟩ (v.cells.map fun c => (c.sr, c.value, 2)) = done ⟨#[43]⟩ (v.cells.map fun c => (c.sr, c.value, c.value)) := by
          simp only [done, List.map_map]
          refine List.map_congr_left fun c hc => ?_
          have h1 : (op ⟨#[43]⟩ c.value c.value).2 = true := by
            simp only [fine, List.all_map, List.all_eq_true, Function.comp] at g
            exact g c hc
          simp only [Function.comp]; rw [(op_twice (hb c hc)).2 h1]
        rw [this]
      · rw [if_neg g, if_neg g]
    · rw [bv _ _ _ (.inl hv), p2, if_pos (by simp only [fine, List.all_map, List.all_eq_true, Function.comp]; intro c _; rw [op_less])]
      refine ⟨rfl, hv.symm, fun h => by simp [hv] at h, fun _ => ?_⟩
      simp only [done, List.map_map]
      refine List.map_congr_left fun c hc => ?_
      simp only [Function.comp, op_less]
    · rw [bv _ _ _ (.inr hv), p3, if_pos (by simp only [fine, List.all_map, List.all_eq_true, Function.comp]; intro c hc; rw [op_0 (hb c hc)])]
      refine ⟨rfl, hv.symm, fun h => by simp [hv] at h, fun _ => ?_⟩
      simp only [done, List.map_map]
      refine (List.map_congr_left fun c hc => ?_).trans (List.map_id _)
      simp only [Function.comp, op_0 (hb c hc)]; rfl
  · have hv : v.vec = false := by simpa using hv
    have hn := hg.bnd.1
    have bn : ∀ (w : ByteArray) (a b : Val), a.vec = false → b.vec = false → bin w a b = if (op w a.n b.n).2 = true then (⟨false, (op w a.n b.n).1, []⟩, 0) else (zero, 3) := fun w a b h1 h2 => by rw [bin, if_pos ⟨h1, h2⟩]
    refine ⟨?_, ?_, ?_⟩
    · rw [bn _ _ _ hv rfl, bn _ _ _ hv hv]
      have := op_twice hn
      rw [this.1]
      by_cases g : (op ⟨#[43]⟩ v.n v.n).2 = true
      · rw [if_pos g, if_pos g, this.2 g]
      · rw [if_neg g, if_neg g]
    · rw [bn _ _ _ hv hv, op_less, if_pos rfl]; exact ⟨rfl, hv.symm, fun _ => rfl, fun h => by simp [hv] at h⟩
    · rw [bn _ _ _ rfl hv, op_0 hn, if_pos rfl]; exact ⟨rfl, hv.symm, fun _ => rfl, fun h => by simp [hv] at h⟩
theorem ask_bad {l : List LineX} {e : Expr} {t : Int} (h : (ask l e t).2 ≠ 0) : (ask l e t).1 = [] := by
  unfold ask at h ⊢
  split
  · rfl
  rename_i h1
  rw [if_neg h1] at h
  split
  · rfl
  rename_i h2
  rw [if_neg h2] at h
  unfold out at h ⊢
  split
  · rfl
  rename_i h3
  rw [if_neg h3] at h
  split at h <;> exact absurd rfl h
/-- what the statement asks -/
theorem signs {l : List LineX} {e : Expr} {t : Int} (h : (ask l e t).2 = 0) (h1 : (ask l (two ⟨#[42]⟩ e (num 2)) t).2 ≠ 4) (h2 : (ask l (two ⟨#[43]⟩ e e) t).2 ≠ 4) :
    ask l (two ⟨#[42]⟩ e (num 2)) t = ask l (two ⟨#[43]⟩ e e) t ∧ (ask l (two ⟨#[45]⟩ e e) t).2 = 0 ∧ (ask l (two ⟨#[43]⟩ (num 0) e) t).2 = 0 ∧ (ask l (two ⟨#[43]⟩ (num 0) e) t).1 = (ask l e t).1 ∧
      (ask l (two ⟨#[45]⟩ e e) t).1 = (ask l e t).1.map fun c => ⟨c.sr, 0⟩ := by
  obtain ⟨ha, hc⟩ := ask_ok h
  have hok := lines_ok ha
  obtain ⟨c1, c2, c3⟩ := check_parts hc
  have hf : fineE e := (shape_of e 1 0 c1).1
  have as : ∀ (x : Expr), ask l x t = if check x t ≠ 0 then ([], check x t) else out (eval (lookL (l.map LineX.e)) t x) := fun x => by rw [ask, if_neg (by simpa using ha)]
  have s1 : 0 ≤ Names.indexOf Lg.signs ⟨#[42]⟩ 0 := by decide
  have s2 : 0 ≤ Names.indexOf Lg.signs ⟨#[43]⟩ 0 := by decide
  have s3 : 0 ≤ Names.indexOf Lg.signs ⟨#[45]⟩ 0 := by decide
  have n4 : ∀ (x : Expr), (ask l x t).2 ≠ 4 → Lg.wrong x ≠ 4 := fun x hx hw => hx (by rw [as, check_4 hw]; rfl)
  have w1 := (two_wrong s1 hf (num_fine (n := 2) (by decide))).resolve_right (n4 _ h1)
  have w2 := (two_wrong s2 hf hf).resolve_right (n4 _ h2)
  obtain ⟨a1, a2, a3⟩ := two_of s2 w2
  have hp := nodes_pos e
  have lz : low 2 (num 0) := by rw [num, low, lows]; exact ⟨by omega, trivial⟩
  have w3 := two_ok s3 hf hf a1 a2 a3
  have w4 := two_ok s2 (num_fine (n := 0) (by decide)) hf (by rw [num_nodes]; omega) lz a2
  have k : ∀ (x : Expr), Lg.wrong x = 0 → Lg.typed x = 0 → ask l x t = out (eval (lookL (l.map LineX.e)) t x) := fun x hx hy => by rw [as, if_neg (by simpa using check_of hx hy c3)]
  have e0 := k e c1 c2
  have ev : (eval (lookL (l.map LineX.e)) t e).2 = 0 := by
    by_cases g : (eval (lookL (l.map LineX.e)) t e).2 = 0
    · exact g
    · rw [e0, out, if_pos g] at h; exact absurd h g
  have sg := signs_of (eval_good (good_lookL hok) t e (shape_right e 1 0 c1)) (eval_dst (dst_lookL hok) t e)
  have z2 := num_eval (lookL (l.map LineX.e)) t 2
  have z0 := num_eval (lookL (l.map LineX.e)) t 0
  rw [k _ w1 (two_typed c2 (num_typed 2)), k _ w2 (two_typed c2 c2), k _ w3 (two_typed c2 c2), k _ w4 (two_typed (num_typed 0) c2), e0, two_eval ev (by rw [z2]), two_eval ev ev, two_eval ev ev, two_eval (by rw [z0]) ev, z2, z0]
  generalize eval (lookL (l.map LineX.e)) t e = r at ev sg ⊢
  obtain ⟨v, x⟩ := r
  have ev : x = 0 := ev
  subst ev
  refine ⟨by rw [sg.twice], ?_⟩
  obtain ⟨l1, l2, l3, l4⟩ := sg.less
  obtain ⟨m1, m2, m3, m4⟩ := sg.more
  dsimp only at l1 l2 l3 l4 m1 m2 m3 m4 ⊢
  simp only [out, l1, m1, l2, m2]
  by_cases hv : v.vec = true
  · simp [hv, l4 hv, m4 hv]
  · have hv' : v.vec = false := by simpa using hv
    simp [hv', l3 hv', m3 hv']
end Mn
end Go.Proofs.YtffpglgboaigfaaDoor
