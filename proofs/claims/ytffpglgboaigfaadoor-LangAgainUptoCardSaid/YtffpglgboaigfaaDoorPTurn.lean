/-
  What is read is right: what holds of each expression that was parsed, in plain terms.
-/
import Derived.Test.YtffpglgboaigfaaDoorPan
namespace Go.Proofs.YtffpglgboaigfaaDoor
namespace Pz
open Ex Mn
set_option linter.unusedVariables false
/-! ## What kinds have -/
def bareM (m : Match) : Match := if 2 < m.kind then ⟨m.kind, m.key, ⟨#[]⟩⟩ else m
mutual
def bare : Expr → Expr
  | .mk k n r w ms bs ks => if k = 1 then .mk k n 0 ⟨#[]⟩ [] [] (bares ks) else if k = 2 then .mk k 0 r w (ms.map bareM) [] (bares ks) else if k = 3 then .mk k 0 0 w [] bs (bares ks) else .mk k 0 0 w [] [] (bares ks)
def bares : List Expr → List Expr
  | [] => []
  | x :: xs => bare x :: bares xs
end
theorem bares_map : ∀ l, bares l = l.map bare
  | [] => rfl
  | x :: xs => by rw [bares, bares_map xs]; rfl
theorem bare_1 {n r : Int} {w : ByteArray} {ms : List Match} {bs : List ByteArray} {ks : List Expr} : bare (.mk 1 n r w ms bs ks) = .mk 1 n 0 ⟨#[]⟩ [] [] (bares ks) := by rw [bare, if_pos rfl]
theorem bare_2 {n r : Int} {w : ByteArray} {ms : List Match} {bs : List ByteArray} {ks : List Expr} : bare (.mk 2 n r w ms bs ks) = .mk 2 0 r w (ms.map bareM) [] (bares ks) := by rw [bare, if_neg (by decide), if_pos rfl]
theorem bare_3 {n r : Int} {w : ByteArray} {ms : List Match} {bs : List ByteArray} {ks : List Expr} : bare (.mk 3 n r w ms bs ks) = .mk 3 0 0 w [] bs (bares ks) := by rw [bare, if_neg (by decide), if_neg (by decide), if_pos rfl]
theorem bare_4 {n r : Int} {w : ByteArray} {ms : List Match} {bs : List ByteArray} {ks : List Expr} : bare (.mk 4 n r w ms bs ks) = .mk 4 0 0 w [] [] (bares ks) := by rw [bare, if_neg (by decide), if_neg (by decide), if_neg (by decide)]
/-! ## What holds behind each step -/
def Post {α : Type} (x : Res α) (p : α → Prop) : Prop := ∀ a, x = .ok a → p a
theorem Post.then {α β : Type} {x : Res α} {g : α → Res β} {p : α → Prop} {q : β → Prop} (h : Post x p) (hg : ∀ a, p a → Post (g a) q) : Post (x.then g) q := fun b hb => by
  obtain ⟨a, h1, h2⟩ := then_some hb
  exact hg a (h a h1) b h2
theorem Post.iff {α : Type} {c : Prop} [Decidable c] {x y : Res α} {p : α → Prop} (h : c → Post x p) (k : ¬ c → Post y p) : Post (if c then x else y) p := by
  split
  · rename_i e; exact h e
  · rename_i e; exact k e
theorem Post.ok {α : Type} {a : α} {p : α → Prop} (h : p a) : Post (.ok a) p := fun b hb => by cases hb; exact h
theorem Post.no {α : Type} (f : F) (p : α → Prop) : Post (.no f) p := fun b hb => by cases hb
theorem namedL_wch : ∀ (l : List UInt8) (i : Nat), i ≠ 0 → (∀ c ∈ l, wch c = true) → Names.namedL i l = true
  | [], _, _, _ => rfl
  | c :: r, i, hi, h => by
    have h1 := h c List.mem_cons_self
    rw [Names.namedL, namedL_wch r (i + 1) (by omega) fun x hx => h x (List.mem_cons_of_mem _ hx), Bool.and_true]
    unfold wch at h1; simp only [decide_eq_true_eq] at h1
    exact decide_eq_true (by unfold Names.fineB; omega)
theorem ext_rest (s : ByteArray) (b e : Nat) : (s.extract b e).data.toList = (rest s b).take (e - b) := by
  rw [ByteArray.data_extract, Array.toList_extract, List.extract_eq_take_drop]; rfl
theorem wend_cases (s : ByteArray) (b : Nat) : wend s b = b ∨ ∃ c r, rest s b = c :: r ∧ low c = true ∧ wend s b = run wch s b := by
  unfold wend
  cases hr : rest s b with
  | nil => exact .inl rfl
  | cons c r =>
    by_cases hl : low c = true
    · exact .inr ⟨c, r, rfl, hl, if_pos hl⟩
    · exact .inl (if_neg hl)
theorem tw_all {p : UInt8 → Bool} : ∀ {l : List UInt8} {x : UInt8}, x ∈ l.takeWhile p → p x = true
  | c :: r, x, h => by
    rw [List.takeWhile_cons] at h
    split at h
    · rename_i g
      rcases List.mem_cons.1 h with rfl | h
      · exact g
      · exact tw_all h
    · cases h
theorem low_wch {c : UInt8} (hl : low c = true) : wch c = true := by unfold low at hl; unfold wch; simp only [decide_eq_true_eq] at hl ⊢; omega
theorem low_fine {c : UInt8} (hl : low c = true) : Names.fineB 0 c := by unfold low at hl; simp only [decide_eq_true_eq] at hl; unfold Names.fineB; omega
theorem word_named {s : ByteArray} {b : Nat} (h12 : ¬ 12 < wend s b - b) : s.extract b (wend s b) = ⟨#[]⟩ ∨ Names.named (s.extract b (wend s b)) = true := by
  rcases wend_cases s b with h | ⟨c, r, hr, hl, h⟩
  · left
    have h0 := ext_rest s b (wend s b)
    rw [toB h0, h]; simp
  · right
    rw [h] at h12 ⊢
    have h0 := ext_rest s b (run wch s b)
    have h1 : run wch s b - b = ((rest s b).takeWhile wch).length := by unfold run; omega
    rw [h1, hr] at h0
    have h2 : (c :: r).take ((c :: r).takeWhile wch).length = (c :: r).takeWhile wch := (List.prefix_iff_eq_take.1 (List.takeWhile_prefix wch)).symm
    rw [h2, List.takeWhile_cons_of_pos (low_wch hl)] at h0
    have hsz : (s.extract b (run wch s b)).size = (r.takeWhile wch).length + 1 := by rw [bl_size, h0]; rfl
    have hle : (s.extract b (run wch s b)).size ≤ 12 := by rw [bl_size, ext_rest, List.length_take]; omega
    unfold Names.named
    rw [h0, Names.namedL, namedL_wch _ 1 (by decide) fun x hx => tw_all hx]
    simp only [decide_eq_true (low_fine hl), Bool.and_true]
    simp only [Bool.and_eq_true, decide_eq_true_eq]; omega
theorem word_post (s : ByteArray) (t : St) : Post (word s t) fun x => x.2.nd = t.nd ∧ (x.1 = ⟨#[]⟩ ∨ Names.named x.1 = true) :=
  .iff (fun _ => .no _ _) fun h => .ok ⟨rfl, word_named h⟩
theorem name_post (s : ByteArray) (t : St) : Post (name s t) fun x => x.2.nd = t.nd ∧ Names.named x.1 = true :=
  (word_post s t).then fun a h => .iff (fun _ => .no _ _) fun g => .ok ⟨h.1, h.2.resolve_left g⟩
theorem must_post (s sg : ByteArray) (t : St) : Post (must s sg t) fun u => u.nd = t.nd := .iff (fun _ => .ok rfl) fun _ => .no _ _
theorem num_post (s : ByteArray) (least most : Int) (t : St) : Post (num s least most t) fun x => x.2.nd = t.nd ∧ least ≤ x.1 ∧ x.1 ≤ most :=
  .iff (fun _ => .no _ _) fun _ => .iff (fun _ => .no _ _) fun g => .ok ⟨rfl, by unfold badNum at g; show least ≤ numAt _ _; omega, by unfold badNum at g; show numAt _ _ ≤ most; omega⟩
theorem node_post (t : St) : Post (node t) fun u => u.nd = t.nd + 1 := .iff (fun _ => .no _ _) fun _ => .ok rfl
def fineM (m : Match) : Prop := Lg.matchW m = 0 ∧ bareM m = m
theorem fineM_of {k : Int} {a b : ByteArray} (hk : 1 ≤ k ∧ k ≤ 4) (ha : Names.named a = true) (hb : k ≤ 2 → Names.named b = true) (hc : 2 < k → b = ⟨#[]⟩) : fineM ⟨k, a, b⟩ := by
  refine ⟨?_, ?_⟩
  · unfold Lg.matchW
    rw [if_neg (by show ¬ (k < 1 ∨ 4 < k); omega), if_neg]
    rintro (g | ⟨g, h⟩)
    · rw [show Names.named a = false from g] at ha; cases ha
    · have := hb (by rcases g with g | g <;> (have g' : k = _ := g; omega))
      rw [show Names.named b = false from h] at this; cases this
  · unfold bareM
    split
    · rename_i g; rw [hc g]
    · rfl
theorem match_post (s : ByteArray) (t : St) : Post (match_ s t) fun x => x.2.nd = t.nd ∧ fineM x.1 := by
  unfold match_
  refine .iff (fun _ => ?_) fun _ => ?_
  · exact (name_post s _).then fun a h => .ok ⟨h.1, fineM_of (by decide) h.2 (by decide) fun _ => rfl⟩
  · refine (name_post s _).then fun a h => .iff (fun _ => ?_) fun _ => .iff (fun _ => ?_) fun _ => ?_
    · exact (name_post s _).then fun b g => .ok ⟨g.1.trans h.1, fineM_of (by decide) h.2 (fun _ => g.2) (fun h9 => absurd h9 (by decide))⟩
    · exact (name_post s _).then fun b g => .ok ⟨g.1.trans h.1, fineM_of (by decide) h.2 (fun _ => g.2) (fun h9 => absurd h9 (by decide))⟩
    · exact .ok ⟨h.1, fineM_of (by decide) h.2 (by decide) fun _ => rfl⟩
theorem winL_post (s : ByteArray) : ∀ (q : Nat) (ms : List Match) (t : St), (∀ m ∈ ms, fineM m) → ms.length ≤ 5 → Post (winL s q ms t) fun x => x.2.nd = t.nd ∧ (∀ m ∈ x.1, fineM m) ∧ x.1.length ≤ 5
  | 0, _, _, _, _ => .no _ _
  | q + 1, ms, t, h, hl => by
    rw [winL]
    refine .iff (fun _ => .ok ⟨rfl, h, hl⟩) fun _ => .then (p := fun u => u.nd = t.nd) (.iff (fun _ => must_post s _ _) fun _ => .ok rfl) fun u hu => .iff (fun _ => .no _ _) fun h5 => ?_
    refine (match_post s u).then fun x hx => ?_
    intro y hy
    have := winL_post s q (ms ++ [x.1]) x.2 (fun m hm => (List.mem_append.1 hm).elim (h m) fun g => by rw [List.mem_singleton.1 g]; exact hx.2) (by rw [List.length_append, List.length_singleton]; omega) y hy
    exact ⟨this.1.trans (hx.1.trans hu), this.2⟩
theorem matchesW_0 : ∀ {l : List Match}, (∀ m ∈ l, fineM m) → Lg.matchesW l = 0
  | [], _ => rfl
  | m :: l, h => by rw [Lg.matchesW, (h m List.mem_cons_self).1, if_neg (by simp)]; exact matchesW_0 fun x hx => h x (List.mem_cons_of_mem _ hx)
/-- an expression that was read: right, as kinds have it, so many parts -/
structure Read (e : Expr) (n m : Int) : Prop where
  fine : fineE e
  bare : bare e = e
  nd : m = n + nodes e
theorem window_post (s w : ByteArray) (t : St) (hw : 0 ≤ Names.indexOf Agg.words w 0) : Post (window s w t) fun x => Read x.1 t.nd x.2.nd := by
  refine (must_post s _ _).then fun a ha => (must_post s _ _).then fun b hb => (winL_post s 6 [] b (fun m hm => by cases hm) (by simp)).then fun c hc => (must_post s _ _).then fun d hd => (num_post s 1 100000 d).then fun n hn =>
    (must_post s _ _).then fun h hh => (must_post s _ _).then fun i hi => (node_post i).then fun j hj => .ok ⟨?_, ?_, ?_⟩
  · show fineE (.mk 2 0 n.1 w c.1 [] [])
    rw [fineE, fineEs]
    refine ⟨by decide, by simp [Lg.arity], ?_, trivial⟩
    rw [Lg.ownW, if_neg (by decide), if_pos rfl, Lg.windowW, if_neg (by simpa using hw), if_neg (by omega), matchesW_0 hc.2.1, if_neg (by simp), if_neg (by omega)]
  · show Pz.bare (.mk 2 0 n.1 w c.1 [] []) = _
    rw [bare_2, bares]
    congr 1
    exact (List.map_congr_left fun m hm => (hc.2.1 m hm).2).trans (List.map_id'' (fun _ => rfl) _)
  · show j.nd = t.nd + nodes (.mk 2 0 n.1 w c.1 [] [])
    rw [nodes, nodess]; omega
theorem byL_post (s : ByteArray) : ∀ (q : Nat) (l : List ByteArray) (t : St), (∀ b ∈ l, Names.named b = true) → l.length ≤ 4 → Post (byL s q l t) fun x => x.2.nd = t.nd ∧ (∀ b ∈ x.1, Names.named b = true) ∧ x.1.length ≤ 4
  | 0, _, _, _, _ => .no _ _
  | q + 1, l, t, h, hl => by
    rw [byL]
    refine .iff (fun _ => .iff (fun _ => .no _ _) fun h4 => (name_post s _).then fun x hx => ?_) fun _ => .ok ⟨rfl, h, hl⟩
    intro y hy
    have := byL_post s q (l ++ [x.1]) x.2 (fun m hm => (List.mem_append.1 hm).elim (h m) fun g => by rw [List.mem_singleton.1 g]; exact hx.2) (by rw [List.length_append, List.length_singleton]; omega) y hy
    exact ⟨this.1.trans hx.1, this.2⟩
theorem bys_post (s v : ByteArray) (t : St) : Post (bys s v t) fun x => x.2.nd = t.nd ∧ (∀ b ∈ x.1, Names.named b = true) ∧ x.1.length ≤ 4 := by
  refine .iff (fun _ => (name_post s t).then fun k hk => ?_) fun _ => .ok (⟨rfl, (fun b hb => (by cases hb)), by simp⟩ : _ ∧ _ ∧ _)
  intro y hy
  have := byL_post s 5 [k.1] k.2 (fun b hb => by rw [List.mem_singleton.1 hb]; exact hk.2) (by simp) y hy
  exact ⟨this.1.trans hk.1, this.2⟩
theorem all_post (s : ByteArray) (kid : St → Res (Expr × St)) (hk : ∀ t, Post (kid t) fun x => Read x.1 t.nd x.2.nd) (t : St) : Post (all s kid t) fun x => Read x.1 t.nd x.2.nd := by
  refine (name_post s _).then fun x hx => .iff (fun _ => .no _ _) fun hw => (word_post s _).then fun v hv => .iff (fun _ => .no _ _) fun _ => (bys_post s _ _).then fun l hl => ?_
  refine (must_post s _ _).then fun z hz => (hk z).then fun e he => (must_post s _ _).then fun b hb => (node_post b).then fun c hc => .ok ⟨?_, ?_, ?_⟩
  · show fineE (.mk 3 0 0 x.1 [] l.1 [e.1])
    rw [fineE, fineEs, fineEs]
    refine ⟨by decide, by simp [Lg.arity], ?_, he.fine, trivial⟩
    rw [Lg.ownW, if_neg (by decide), if_neg (by decide), if_pos rfl, if_neg hw, if_neg (by omega), if_neg]
    rw [Bool.not_eq_true, List.any_eq_false]
    intro b hb; simp [hl.2.1 b hb]
  · show Pz.bare (.mk 3 0 0 x.1 [] l.1 [e.1]) = _
    rw [bare_3, bares, bares, he.bare]
  · show c.nd = t.nd + nodes (.mk 3 0 0 x.1 [] l.1 [e.1])
    rw [nodes, nodess, nodess]
    have h1 : x.2.nd = t.nd := hx.1
    have h2 : v.2.nd = x.2.nd := hv.1
    have h3 := he.nd
    have h4 : l.2.nd = v.2.nd := hl.1
    have h5 : z.nd = l.2.nd := hz
    omega
theorem factor_post (s : ByteArray) (kid : St → Res (Expr × St)) (hk : ∀ t, Post (kid t) fun x => Read x.1 t.nd x.2.nd) (t : St) : Post (factor s kid t) fun x => Read x.1 t.nd x.2.nd := by
  refine .iff (fun _ => (hk _).then fun e he => (must_post s _ _).then fun u hu => .ok ⟨he.fine, he.bare, ?_⟩) fun _ => (word_post s _).then fun w hw => .iff (fun _ => ?_) fun _ => .iff (fun _ => ?_) fun _ => .iff (fun _ => .no _ _) fun hi => ?_
  · show u.nd = _
    rw [show u.nd = e.2.nd from hu]; exact he.nd
  · intro y hy
    have h1 : w.2.nd = t.nd := hw.1
    have := all_post s kid hk w.2 y hy
    rwa [h1] at this
  · refine (num_post s _ _ _).then fun n hn => (node_post _).then fun c hc => .ok ⟨?_, ?_, ?_⟩
    · show fineE (.mk 1 n.1 0 ⟨#[]⟩ [] [] [])
      rw [fineE, fineEs]
      refine ⟨by decide, by simp [Lg.arity], ?_, trivial⟩
      rw [Lg.ownW, if_pos rfl, if_neg (by omega)]
    · show Pz.bare (.mk 1 n.1 0 ⟨#[]⟩ [] [] []) = _
      rw [bare_1, bares]
    · show c.nd = t.nd + nodes (.mk 1 n.1 0 ⟨#[]⟩ [] [] [])
      rw [nodes, nodess]
      have h1 : w.2.nd = t.nd := hw.1
      have h2 : n.2.nd = w.2.nd := hn.1
      omega
  · intro y hy
    have h1 : w.2.nd = t.nd := hw.1
    have := window_post s w.1 w.2 (Classical.not_not.1 hi) y hy
    rwa [h1] at this
theorem pick_in (s : ByteArray) : ∀ (l : List ByteArray) (i : Nat), (pick s l i).1 = ⟨#[]⟩ ∨ (pick s l i).1 ∈ l
  | [], _ => .inl rfl
  | g :: gs, i => by
    rw [pick]
    split
    · exact .inr List.mem_cons_self
    · exact (pick_in s gs _).imp id (List.mem_cons_of_mem _)
theorem two_read {w : ByteArray} {a b : Expr} {n m k : Int} (hw : w = ⟨#[43]⟩ ∨ w = ⟨#[45]⟩ ∨ w = ⟨#[42]⟩) (ha : Read a n m) (hb : Read b m k) : Read (.mk 4 0 0 w [] [] [a, b]) n (k + 1) := by
  refine ⟨?_, ?_, ?_⟩
  · rw [fineE, fineEs, fineEs, fineEs]
    refine ⟨by decide, by simp [Lg.arity], ?_, ha.fine, hb.fine, trivial⟩
    rw [Lg.ownW, if_neg (by decide), if_neg (by decide), if_neg (by decide), if_neg (by rw [Classical.not_not]; exact (Lg.signs_iff w).2 hw)]
  · rw [bare_4, bares, bares, bares, ha.bare, hb.bare]
  · rw [nodes, nodess, nodess, nodess]; have := ha.nd; have := hb.nd; omega
theorem binL_post (s : ByteArray) (sub : St → Res (Expr × St)) (signs : List ByteArray) (hs : ∀ g ∈ signs, g = ⟨#[43]⟩ ∨ g = ⟨#[45]⟩ ∨ g = ⟨#[42]⟩) (hk : ∀ t, Post (sub t) fun x => Read x.1 t.nd x.2.nd) (n : Int) : ∀ (q : Nat) (e : Expr) (t : St), Read e n t.nd → Post (binL s sub signs q e t) fun x => Read x.1 n x.2.nd
  | 0, _, _, _ => .no _ _
  | q + 1, e, t, he => by
    rw [binL]
    refine .iff (fun _ => .ok ⟨he.fine, he.bare, he.nd⟩) fun hp => (hk _).then fun f hf => (node_post f.2).then fun u hu => ?_
    refine binL_post s sub signs hs hk n q _ u ?_
    have := two_read (hs _ ((pick_in s signs t.at_).resolve_left hp)) he hf
    rwa [← hu] at this
theorem sum_post (s : ByteArray) (sub : St → Res (Expr × St)) (signs : List ByteArray) (hs : ∀ g ∈ signs, g = ⟨#[43]⟩ ∨ g = ⟨#[45]⟩ ∨ g = ⟨#[42]⟩) (hk : ∀ t, Post (sub t) fun x => Read x.1 t.nd x.2.nd) (t : St) : Post (sumOf s sub signs t) fun x => Read x.1 t.nd x.2.nd :=
  (hk t).then fun e he => binL_post s sub signs hs hk t.nd _ _ _ he
theorem fac_post (s : ByteArray) : ∀ (N : Nat) (t : St), Post (fac s N t) fun x => Read x.1 t.nd x.2.nd
  | 0, t => .no _ _
  | N + 1, t => by
    rw [fac]
    exact factor_post s _ (fun u => sum_post s _ plus (by simp [plus]) (fun v => sum_post s _ star (by simp [star]) (fac_post s N) v) u) t
theorem xpr_post (s : ByteArray) (N : Nat) (t : St) : Post (xpr s N t) fun x => Read x.1 t.nd x.2.nd :=
  sum_post s _ plus (by simp [plus]) (fun v => sum_post s _ star (by simp [star]) (fac_post s N) v) t
/-! ## How deep -/
mutual
def depth : Expr → Int
  | .mk _ _ _ _ _ _ ks => depths ks + 1
def depths : List Expr → Int
  | [] => 0
  | x :: xs => if depths xs < depth x then depth x else depths xs
end
mutual
theorem depth_pos : ∀ (e : Expr), 1 ≤ depth e
  | .mk _ _ _ _ _ _ ks => by rw [depth]; have := depths_pos ks; omega
theorem depths_pos : ∀ (l : List Expr), 0 ≤ depths l
  | [] => by rw [depths]; omega
  | x :: xs => by rw [depths]; have := depth_pos x; have := depths_pos xs; split <;> omega
end
mutual
theorem low_depth : ∀ (e : Expr) (d : Int), Mn.low d e ↔ d + depth e ≤ 21
  | .mk _ _ _ _ _ _ ks, d => by
    rw [Mn.low, depth]
    have h1 := lows_depth ks (d + 1); have h2 := depths_pos ks
    constructor
    · rintro ⟨a, b⟩
      rcases h1.1 b with h | h <;> omega
    · intro h; exact ⟨by omega, h1.2 (.inl (by omega))⟩
theorem lows_depth : ∀ (l : List Expr) (d : Int), lows d l ↔ (d + depths l ≤ 21 ∨ depths l = 0)
  | [], d => by rw [lows, depths]; simp
  | x :: xs, d => by
    rw [lows, depths]
    have h1 := low_depth x d; have h2 := lows_depth xs d; have h3 := depth_pos x; have h4 := depths_pos xs
    rw [h1, h2]
    split <;> omega
end
/-- what was read is wrong just if it is too deep -/
theorem read_wrong {e : Expr} {m : Int} (h : Read e 0 m) (hm : m ≤ 100) : Lg.wrong e ≠ 0 ↔ 20 < depth e := by
  unfold Lg.wrong
  have h0 := h.nd
  constructor
  · intro hw
    refine Classical.byContradiction fun g => hw ?_
    rw [shape_ok e 1 0 h.fine (by omega) ((low_depth e 1).2 (by omega))]
  · intro hd hw
    have := (low_depth e 1).1 (shape_of e 1 0 hw).2.2.2
    omega
end Pz
end Go.Proofs.YtffpglgboaigfaaDoor
