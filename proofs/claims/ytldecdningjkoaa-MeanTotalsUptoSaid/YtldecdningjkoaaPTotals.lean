/-
  Totals of a window, by all labels and by none.
-/
import Derived.Test.YtldecdningjkoaaPSigns
namespace Go.Proofs.Ytldecdningjkoaa
namespace Mn
open Ex
def tot (w : ByteArray) (bs : List ByteArray) (e : Expr) : Expr := .mk 3 0 0 w [] bs [e]
theorem value_small {l : List Sample} (hl : l.length ≤ 500) (hb : ∀ x ∈ l, -1000000000 ≤ x.value ∧ x.value ≤ 1000000000) (word : ByteArray) : -1000000000000 ≤ (Agg.value word (Agg.of l)).1 ∧ (Agg.value word (Agg.of l)).1 ≤ 1000000000000 := by
  by_cases hne : l = []
  · subst hne
    have : (Agg.value word (Agg.of [])).1 = 0 := by unfold Agg.value; rw [if_pos (by decide)]
    rw [this]; decide
  have h := Agg.fits l hne (by omega) hb
  have hr := rise_bnd l hl hb
  have hpos := List.length_pos_iff.2 hne
  have hc : ¬ (Agg.of l).count < 1 := by rw [h.count]; omega
  have hd := Agg.tdiv_between (t := (Agg.of l).total) (c := (Agg.of l).count) (by omega) h.s1 h.s2
  have h1 := h.m1; have h2 := h.m2; have h3 := h.f1; have h4 := h.f2; have h5 := h.l1; have h6 := h.l2; have h7 := h.count; have h8 := h.t1; have h9 := h.t2
  unfold Agg.value
  rw [if_neg hc, wr_id (by omega) (by omega)]
  (repeat' split) <;> dsimp only <;> omega
/-- what a window comes to, of right lines -/
structure WinV (l : List LineX) (v : Val) : Prop where
  vec : v.vec = true
  asc : Asc v.cells
  len : v.cells.length ≤ 8
  small : ∀ c ∈ v.cells, -1000000000000 ≤ c.value ∧ c.value ≤ 1000000000000
  sr : ∀ c ∈ v.cells, ∃ x ∈ l, c.sr = x.sr.l
theorem asc_filterMap {f : List Label × Sum → Option Cell} (hf : ∀ t c, f t = some c → c.sr = t.1) : ∀ {r : List (List Label × Sum)}, (r.map (·.1)).Pairwise (fun a b => Names.compare a b < 0) → Asc (r.filterMap f)
  | [], _ => List.Pairwise.nil
  | t :: r, h => by
    rw [List.map_cons, List.pairwise_cons] at h
    have ih := asc_filterMap hf h.2
    rw [List.filterMap_cons]
    split
    · exact ih
    · rename_i c hc
      refine List.pairwise_cons.2 ⟨fun d hd => ?_, ih⟩
      obtain ⟨u, hu, hud⟩ := List.mem_filterMap.1 hd
      rw [hf t c hc, hf u d hud]
      exact h.1 _ (List.mem_map_of_mem hu)
theorem win_v {l : List LineX} (h : OkLines l) (t : Int) (w : ByteArray) (ms : List Match) (r : Int) : WinV l (window (lookL (l.map LineX.e)) t w ms r).1 ∧ (window (lookL (l.map LineX.e)) t w ms r).2 = 0 := by
  have hw : window (lookL (l.map LineX.e)) t w ms r = (⟨true, 0, winCells w (lookL (l.map LineX.e) ms (frm t r) t).1⟩, 0) := by rw [window, if_neg (by simp [lookL])]
  rw [hw]
  have hm : ∀ u ∈ (lookL (l.map LineX.e) ms (frm t r) t).1, ∃ x ∈ l, u.1 = x.sr.l ∧ u.2 = Agg.of (x.sm.l.filter (inWin (frm t r) t)) := fun u hu => by
    obtain ⟨y, hy, rfl⟩ := List.mem_map.1 hu
    obtain ⟨x, hx, rfl⟩ := List.mem_map.1 (List.mem_filter.1 hy).1
    exact ⟨x, hx, rfl, rfl⟩
  have hc : ∀ c ∈ winCells w (lookL (l.map LineX.e) ms (frm t r) t).1, ∃ u ∈ (lookL (l.map LineX.e) ms (frm t r) t).1, c.sr = u.1 ∧ c.value = (Agg.value w u.2).1 := fun c hc => by
    obtain ⟨u, hu, he⟩ := List.mem_filterMap.1 hc
    split at he
    · injection he with he; exact ⟨u, hu, by rw [← he], by rw [← he]⟩
    · cases he
  refine ⟨⟨rfl, ?_, ?_, fun c hcm => ?_, fun c hcm => ?_⟩, rfl⟩
  · refine asc_filterMap (fun t c hc => ?_) ?_
    · split at hc
      · injection hc with hc; rw [← hc]
      · cases hc
    · unfold lookL
      rw [List.map_map]
      have h1 : (((fun x : List Label × Sum => x.1) ∘ fun x : Line => (x.sr, Agg.of (x.sm.filter (inWin (frm t r) t))))) = fun x : Line => x.sr := rfl
      rw [h1, List.pairwise_map]
      have h2 : (l.map LineX.e).Pairwise (fun a b => Names.compare a.sr b.sr < 0) := by rw [List.pairwise_map]; exact h.inc
      exact h2.sublist List.filter_sublist
  · have h1 := List.length_filterMap_le (fun u : List Label × Sum => if (Agg.value w u.2).2 = true then some (⟨u.1, (Agg.value w u.2).1⟩ : Cell) else none) (lookL (l.map LineX.e) ms (frm t r) t).1
    have h2 : (lookL (l.map LineX.e) ms (frm t r) t).1.length ≤ l.length := by
      simp only [lookL, List.length_map]
      exact Nat.le_trans (List.length_filter_le _ _) (by rw [List.length_map]; exact Nat.le_refl _)
    have h3 := h.len
    exact Nat.le_trans h1 (Nat.le_trans h2 h3)
  · obtain ⟨u, hu, _, h2⟩ := hc c hcm
    obtain ⟨x, hx, _, h4⟩ := hm u hu
    rw [h2, h4]
    exact value_small (Nat.le_trans (List.length_filter_le _ _) (Codec.right_of (h.sm x hx)).len) (fun s hs => h.vals x hx s (List.mem_filter.1 hs).1) w
  · obtain ⟨u, hu, h1, _⟩ := hc c hcm
    obtain ⟨x, hx, h3, _⟩ := hm u hu
    exact ⟨x, hx, by rw [h1, h3]⟩
/-! ## By all labels -/
theorem only_self {s : List Label} {bs : List ByteArray} (h : ∀ y ∈ s, y.key ∈ bs) : Names.only s bs = s := by
  unfold Names.only
  rw [List.filter_eq_self]
  intro y hy
  exact decide_eq_true ((Names.index_mem _ _ _).2 (h y hy))
theorem put_end {w : ByteArray} {s : List Label} {x : Int} : ∀ {out : List Cell}, (∀ d ∈ out, Names.compare d.sr s < 0) → put w out s x = out ++ [⟨s, x⟩]
  | [], _ => rfl
  | c :: r, h => by
    have hc := h c List.mem_cons_self
    rw [put, if_neg (cmp_lt_ne hc), if_pos hc, put_end fun d hd => h d (List.mem_cons_of_mem _ hd)]; rfl
theorem all_self {w : ByteArray} {bs : List ByteArray} (hw : w ≠ ⟨#[99, 111, 117, 110, 116]⟩) : ∀ (l out : List Cell), Asc (out ++ l) → (∀ c ∈ l, Names.only c.sr bs = c.sr) → Fit (out ++ l) → allFrom w bs out l = (⟨true, 0, out ++ l⟩, 0)
  | [], out, _, _, _ => by rw [allFrom, List.append_nil]
  | c :: r, out, ha, ho, hf => by
    have h1 : ∀ d ∈ out, Names.compare d.sr c.sr < 0 := fun d hd => (List.pairwise_append.1 ha).2.2 d hd c List.mem_cons_self
    have hu : unit w c.value = c.value := by unfold unit; rw [if_neg hw]
    have hp : put w out (Names.only c.sr bs) (unit w c.value) = out ++ [c] := by rw [ho c List.mem_cons_self, hu, put_end h1]
    have he : out ++ c :: r = (out ++ [c]) ++ r := by simp
    rw [he] at ha hf ⊢
    rw [allFrom, hp, if_pos (List.all_eq_true.2 fun d hd => hf d (List.mem_append_left _ hd)), all_self hw r (out ++ [c]) ha (fun d hd => ho d (List.mem_cons_of_mem _ hd)) hf]
/-! ## By none -/
theorem only_nil (s : List Label) : Names.only s [] = [] := by
  unfold Names.only
  rw [List.filter_eq_nil_iff]
  intro y _ h
  exact absurd ((Names.index_mem _ _ _).1 (of_decide_eq_true h)) (by simp)
theorem all_none {w : ByteArray} (hw : w = ⟨#[99, 111, 117, 110, 116]⟩ ∨ w = ⟨#[109, 97, 120]⟩ ∨ w = ⟨#[109, 105, 110]⟩ ∨ w = ⟨#[115, 117, 109]⟩) : ∀ (l : List Cell) (v : Int) (n : Nat), n + l.length ≤ 9 → -1000000000000 * (n : Int) ≤ v → v ≤ 1000000000000 * (n : Int) → (∀ c ∈ l, -1000000000000 ≤ c.value ∧ c.value ≤ 1000000000000) →
    ∃ u, allFrom w [] [⟨[], v⟩] l = (⟨true, 0, [⟨[], u⟩]⟩, 0) ∧ (w = ⟨#[99, 111, 117, 110, 116]⟩ → u = v + l.length)
  | [], v, n, _, _, _, _ => ⟨v, by rw [allFrom], fun _ => by simp⟩
  | c :: r, v, n, hn, h1, h2, hs => by
    have hc := hs c List.mem_cons_self
    have hx : -1000000000000 ≤ unit w c.value ∧ unit w c.value ≤ 1000000000000 := by unfold unit; split <;> omega
    have hp : put w [⟨[], v⟩] (Names.only c.sr []) (unit w c.value) = [⟨[], comb w v (unit w c.value)⟩] := by
      rw [only_nil, put, if_pos rfl]; rfl
    simp only [List.length_cons] at hn
    have hb : -1000000000000 * ((n + 1 : Nat) : Int) ≤ comb w v (unit w c.value) ∧ comb w v (unit w c.value) ≤ 1000000000000 * ((n + 1 : Nat) : Int) := by
      unfold comb; split
      · omega
      split <;> omega
    obtain ⟨u, hu1, hu2⟩ := all_none hw r (comb w v (unit w c.value)) (n + 1) (by omega) hb.1 hb.2 fun d hd => hs d (List.mem_cons_of_mem _ hd)
    refine ⟨u, ?_, fun e => ?_⟩
    · rw [allFrom, hp, if_pos (by simp only [List.all_cons, List.all_nil, Bool.and_true]; exact fits_iff.2 (by omega)), hu1]
    · rw [hu2 e]
      subst e
      have e1 : unit ⟨#[99, 111, 117, 110, 116]⟩ c.value = 1 := if_pos rfl
      have e2 : comb ⟨#[99, 111, 117, 110, 116]⟩ v 1 = v + 1 := by rw [comb, if_neg (by decide), if_neg (by decide)]
      rw [e1, e2, List.length_cons]; omega
theorem none_all {w : ByteArray} (hw : w = ⟨#[99, 111, 117, 110, 116]⟩ ∨ w = ⟨#[109, 97, 120]⟩ ∨ w = ⟨#[109, 105, 110]⟩ ∨ w = ⟨#[115, 117, 109]⟩) {l : List Cell} (hl : l.length ≤ 8) (hs : ∀ c ∈ l, -1000000000000 ≤ c.value ∧ c.value ≤ 1000000000000) :
    (all w [] l).2 = 0 ∧ (all w [] l).1.vec = true ∧ (all w [] l).1.cells.length = min l.length 1 ∧ (w = ⟨#[99, 111, 117, 110, 116]⟩ → l ≠ [] → ∃ s, (all w [] l).1.cells = [⟨s, l.length⟩]) := by
  cases l with
  | nil => rw [all, allFrom]; exact ⟨rfl, rfl, rfl, fun _ h => absurd rfl h⟩
  | cons c r =>
    have hc := hs c List.mem_cons_self
    have hx : -1000000000000 ≤ unit w c.value ∧ unit w c.value ≤ 1000000000000 := by unfold unit; split <;> omega
    have hp : put w [] (Names.only c.sr []) (unit w c.value) = [⟨[], unit w c.value⟩] := by rw [only_nil, put]
    simp only [List.length_cons] at hl
    obtain ⟨u, hu1, hu2⟩ := all_none hw r (unit w c.value) 1 (by omega) (by omega) (by omega) fun d hd => hs d (List.mem_cons_of_mem _ hd)
    have he : all w [] (c :: r) = (⟨true, 0, [⟨[], u⟩]⟩, 0) := by
      rw [all, allFrom, hp, if_pos (by simp only [List.all_cons, List.all_nil, Bool.and_true]; exact fits_iff.2 (by omega)), hu1]
    rw [he]
    refine ⟨rfl, rfl, by simp, fun e _ => ⟨[], ?_⟩⟩
    have e1 : unit w c.value = 1 := by rw [e]; exact if_pos rfl
    rw [hu2 e, e1, List.length_cons, show (1 : Int) + (r.length : Int) = ((r.length + 1 : Nat) : Int) by omega]
/-! ## What the statement asks -/
theorem named_keys {l : List Label} (h : Names.wrong l = 0) : ∀ y ∈ l, Names.named y.key = true := by
  unfold Names.wrong at h
  split at h
  · cases h
  have key : ∀ (l : List Label) (p : Option Label), Names.wrongFrom p l = 0 → ∀ y ∈ l, Names.named y.key = true := by
    intro l
    induction l with
    | nil => intro _ _ y hy; cases hy
    | cons x r ih =>
      intro p h y hy
      rw [Names.wrongFrom] at h
      split at h
      · cases h
      rename_i g
      split at h
      · cases h
      rcases List.mem_cons.1 hy with rfl | hy
      · simp only [not_or, Bool.not_eq_true', Bool.not_eq_false] at g; simpa using g.1
      · exact ih _ h y hy
  exact key l none h
theorem tot_check {w : ByteArray} {bs : List ByteArray} {e : Expr} {t : Int} (h : check e t = 0) (hk : e.kind = 2) (hw : w ∈ Lg.totals) (hb : bs.length ≤ 4) (hn : ∀ b ∈ bs, Names.named b = true) : check (tot w bs e) t = 0 := by
  obtain ⟨c1, c2, c3⟩ := check_parts h
  have hf := (shape_of e 1 0 c1).1
  match e, hk with
  | .mk k n r wd ms by_ ks, hk =>
    have hk : k = 2 := hk
    subst hk
    have hks : ks = [] := by rw [fineE] at hf; exact List.eq_nil_of_length_eq_zero (by have := hf.2.1; simp [Lg.arity] at this; simpa using this)
    subst hks
    have hn1 : nodes (.mk 2 n r wd ms by_ []) = 1 := by rw [nodes, nodess]; rfl
    refine check_of ?_ ?_ c3
    · have hft : fineE (tot w bs (.mk 2 n r wd ms by_ [])) := by
        rw [tot, fineE, fineEs, fineEs]
        refine ⟨by decide, by simp [Lg.arity], ?_, hf, trivial⟩
        rw [Lg.ownW, if_neg (by decide), if_neg (by decide), if_pos rfl, if_neg (fun g => g ((Names.index_mem _ _ _).2 hw)), if_neg (by omega), if_neg]
        rw [List.any_eq_true]; rintro ⟨b, hb1, hb2⟩; rw [hn b hb1] at hb2; cases hb2
      rw [Lg.wrong, shape_ok _ _ _ hft (by rw [tot, nodes, nodess, nodess, hn1]; omega) (by rw [tot, low, lows, lows, low, lows]; exact ⟨by omega, ⟨by omega, trivial⟩, trivial⟩)]
    · rw [tot, Lg.typed, if_neg]
      · rw [Lg.typeds, if_neg (by simpa using c2), Lg.typeds]
      · rintro ⟨_, _, g⟩
        rw [Lg.vectors, Lg.vector] at g; simp at g
theorem tot_eval {lk : Look} {t : Int} {w : ByteArray} {bs : List ByteArray} {e : Expr} (h : (eval lk t e).2 = 0) : eval lk t (tot w bs e) = all w bs (eval lk t e).1.cells := by
  have he : evals lk t [e] = ([(eval lk t e).1], 0) := by rw [evals, if_neg (by simpa using h), evals]
  rw [tot, eval, if_neg (by decide), if_neg (by decide), he, if_neg (by simp), close, if_pos rfl]
theorem tot_facts {l : List LineX} {e : Expr} {t : Int} (h : (ask l e t).2 = 0) (hk : e.kind = 2) {bs : List ByteArray} (hb : bs.length ≤ 4) (hin : ∀ x ∈ l, ∀ y ∈ x.sr.l, y.key ∈ bs) (hfrom : ∀ b ∈ bs, ∃ x ∈ l, ∃ y ∈ x.sr.l, b = y.key) :
    (∀ w ∈ ([⟨#[109, 97, 120]⟩, ⟨#[109, 105, 110]⟩, ⟨#[115, 117, 109]⟩] : List ByteArray), ask l (tot w bs e) t = ask l e t ∧ (ask l (tot w [] e) t).2 = 0 ∧ (ask l (tot w [] e) t).1.length = min (ask l e t).1.length 1) ∧
      (ask l (tot ⟨#[99, 111, 117, 110, 116]⟩ [] e) t).2 = 0 ∧ ((ask l e t).1 ≠ [] → ∃ s, (ask l (tot ⟨#[99, 111, 117, 110, 116]⟩ [] e) t).1 = [⟨s, (ask l e t).1.length⟩]) := by
  obtain ⟨ha, hc⟩ := ask_ok h
  have hok := lines_ok ha
  have as : ∀ (x : Expr), check x t = 0 → ask l x t = out (eval (lookL (l.map LineX.e)) t x) := fun x hx => by rw [ask, if_neg (by simpa using ha), if_neg (by simpa using hx)]
  have hv : WinV l (eval (lookL (l.map LineX.e)) t e).1 ∧ (eval (lookL (l.map LineX.e)) t e).2 = 0 := by
    match e, hk with
    | .mk k n r wd ms by_ ks, hk =>
      have hk : k = 2 := hk
      subst hk
      rw [eval_win]; exact win_v hok t wd ms r
  obtain ⟨hv, ev⟩ := hv
  have hnb : ∀ b ∈ bs, Names.named b = true := fun b hb => by
    obtain ⟨x, hx, y, hy, rfl⟩ := hfrom b hb
    exact named_keys (hok.sr x hx) y hy
  have e0 : ask l e t = ((eval (lookL (l.map LineX.e)) t e).1.cells, 0) := by rw [as e hc, out, if_neg (by simpa using ev), if_pos hv.vec]
  have on : ∀ (w : ByteArray), w ∈ Lg.totals → w = ⟨#[99, 111, 117, 110, 116]⟩ ∨ w = ⟨#[109, 97, 120]⟩ ∨ w = ⟨#[109, 105, 110]⟩ ∨ w = ⟨#[115, 117, 109]⟩ := fun w hw => by simpa [Lg.totals] using hw
  have kn : ∀ (w : ByteArray), w ∈ Lg.totals → ask l (tot w [] e) t = ((all w [] (eval (lookL (l.map LineX.e)) t e).1.cells).1.cells, 0) := fun w hw => by
    obtain ⟨n1, n2, _⟩ := none_all (on w hw) hv.len hv.small
    rw [as _ (tot_check hc hk hw (by simp) (by simp)), tot_eval ev, out, if_neg (by simpa using n1), if_pos n2]
  refine ⟨fun w hw => ?_, ?_⟩
  · have hwt : w ∈ Lg.totals := by simp [Lg.totals] at hw ⊢; rcases hw with h | h | h <;> simp [h]
    have hwc : w ≠ ⟨#[99, 111, 117, 110, 116]⟩ := fun e9 => by rw [e9] at hw; revert hw; simp only [List.mem_cons, List.not_mem_nil, or_false]; decide
    obtain ⟨_, _, n3, _⟩ := none_all (on w hwt) hv.len hv.small
    refine ⟨?_, by rw [kn w hwt], by rw [kn w hwt, e0]; exact n3⟩
    rw [as _ (tot_check hc hk hwt hb hnb), tot_eval ev, all, all_self hwc _ [] hv.asc (fun c hcm => ?_) (fun c hcm => fits_iff.2 (by have := hv.small c hcm; omega)), e0]
    · rfl
    · obtain ⟨x, hx, hs⟩ := hv.sr c hcm
      rw [hs]; exact only_self fun y hy => hin x hx y hy
  · have hwt : (⟨#[99, 111, 117, 110, 116]⟩ : ByteArray) ∈ Lg.totals := by simp [Lg.totals]
    obtain ⟨_, _, _, n4⟩ := none_all (on _ hwt) hv.len hv.small
    refine ⟨by rw [kn _ hwt], fun hne => ?_⟩
    rw [e0] at hne
    obtain ⟨s, hs⟩ := n4 rfl hne
    exact ⟨s, by rw [kn _ hwt, e0]; exact hs⟩
end Mn
end Go.Proofs.Ytldecdningjkoaa
