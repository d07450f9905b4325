/-
  Shelves: what is kept is what was taken, whatever is done.
-/
import Derived.Test.YtnbkennlmnnbeaaPShelf4
import Derived.Test.YtnbkennlmnnbeaaStar
namespace Go.Proofs.Ytnbkennlmnnbeaa

namespace Roll
section
variable {α : Type} {t : α → Int} {s : α → Sum} {st : Int} {l : List α} {a b m : Int}
theorem fold_out : ∀ (B : List α) (out : List Bucket), (∀ b, out.getLast? = some b → ∀ x ∈ B, b.at_ ≠ at' (t x) st) → B.foldl (fun b x => add b (t x) st (s x)) out = out ++ gf t s st B := by
  intro B
  induction B using List.reverseRecOn' with
  | nil => intro out _; simp [gf]
  | snoc B x ih =>
    intro out h
    rw [List.foldl_append, ih out (fun b hb y hy => h b hb y (by simp [hy])), gf_snoc]
    simp only [List.foldl_cons, List.foldl_nil]
    rcases hg : gf t s st B with _ | ⟨c, r⟩
    · rw [List.append_nil]
      have hx := fun b hb => h b hb x (by simp)
      show add out (t x) st (s x) = out ++ add [] (t x) st (s x)
      rw [add_empty]
      unfold add
      split
      · rename_i b hl
        rw [if_neg (hx b hl)]
      · rename_i hl
        have : out = [] := List.getLast?_eq_none_iff.1 hl
        subst this; rfl
    · unfold add
      have e1 : (out ++ c :: r).getLast? = (c :: r).getLast? := by rw [List.getLast?_append]; simp [List.getLast?_cons]
      rw [e1]
      cases hl : (c :: r).getLast? with
      | none => simp at hl
      | some b =>
        simp only
        split
        · rw [List.set_append]; simp; omega
        · rw [List.append_assoc]
theorem gf_append (hst : st = 10 ∨ st = 60) (hr : Rises t l) (h1 : a ≤ m) (h2 : m ≤ b) (hm : m % st = 0) : gf t s st (win t l a b) = gf t s st (win t l a m) ++ gf t s st (win t l m b) := by
  have hq : m / st * st = m := by rcases hst with rfl | rfl <;> omega
  rw [win_split h1 h2 hr.inc]
  conv => lhs; unfold gf
  rw [List.foldl_append]
  refine fold_out _ _ fun c hc x hx => ?_
  obtain ⟨y, hy, e⟩ := gf_ats (t := t) (s := s) (st := st) _ c (List.mem_of_getLast? hc)
  obtain ⟨y1, y2, y3⟩ := win_mem.1 hy
  obtain ⟨x1, x2, x3⟩ := win_mem.1 hx
  have h3 := at_le hst (hr.rng y y1)
  have h4 : m ≤ at' (t x) st := by
    have hx0 := hr.rng x x1
    unfold at'
    rw [Int.tmod_eq_emod_of_nonneg hx0.1]
    rcases hst with rfl | rfl <;> (rw [wr_id (by omega) (by omega)]; omega)
  omega
end
theorem greater_ups2 : ∀ (l : List Sample), l.length ≤ 1000000 → (∀ x ∈ l, 0 ≤ x.time ∧ x.time ≤ 1000000) → greater (ups l 10) = ups l 60 := by
  intro l
  induction l using List.reverseRecOn' with
  | nil => intro _ _; rfl
  | snoc l x ih =>
    intro hl hr
    have hlen : (l ++ [x]).length = l.length + 1 := by simp
    rw [hlen] at hl
    have hx := hr x (by simp)
    have ih' := ih (by omega) (fun y hy => hr y (by simp [hy]))
    rw [ups_snoc, ups_snoc, ← ih']
    have hc := ups_counts l 10 (by omega)
    have hat := at_at hx.1 hx.2
    rcases add_cases (ups l 10) x.time 10 (Agg.one x.value) with e | ⟨l0, b, e0, hb, e⟩
    · rw [e, greater_snoc]
      exact add_time (by exact hat)
    · rw [e0] at hc
      rw [e, e0, greater_snoc, greater_snoc]
      have hci := hc.init
      have hg := greater_counts hci (by have := hc.pos b (by simp); omega)
      have h1 := hc.pos b (by simp)
      show add (greater l0) b.at_ 60 (Agg.join b.sum (Agg.one x.value)) = _
      rw [add_add hg (by simp [Agg.one]; omega) h1 (by simp [Agg.one]) (by rw [hb]; exact hat)]
theorem up2_win (l : List Sample) (a b : Int) : up (inT l a b) 2 = gf Sample.time (fun x => Agg.one x.value) 60 (win Sample.time l a b) := rfl
section
variable {l : List Sample} {a b m : Int}
theorem up_append (hr : Rises Sample.time l) (h1 : a ≤ m) (h2 : m ≤ b) (hm : m % 10 = 0) : up (inT l a b) 1 = up (inT l a m) 1 ++ up (inT l m b) 1 := gf_append (.inl rfl) hr h1 h2 hm
theorem up2_append (hr : Rises Sample.time l) (h1 : a ≤ m) (h2 : m ≤ b) (hm : m % 60 = 0) : up (inT l a b) 2 = up (inT l a m) 2 ++ up (inT l m b) 2 := gf_append (.inr rfl) hr h1 h2 hm
theorem rises_len (hr : Rises Sample.time l) : l.length ≤ 1000001 := by
  have := rise_len (t := Sample.time) (b := 1000001) 1 (by decide) l 0 hr.inc (fun x hx => by have := hr.rng x hx; omega) (by omega) (by omega) (by omega)
  omega
theorem win_len (hr : Rises Sample.time l) (h0 : 0 ≤ a) (h1 : b ≤ 1000000) : (inT l a b).length ≤ 1000000 := by
  rcases Int.lt_or_le a b with h | h
  · have := rise_len (t := Sample.time) (b := b) 1 (by decide) (win Sample.time l a b) a (win_rises hr).inc (fun x hx => by have := win_mem.1 hx; omega) (by omega) (by omega) (by omega)
    rw [win_inT]; omega
  · rw [win_inT, win_self h]; simp
theorem greater_up2 (hr : Rises Sample.time l) (h0 : 0 ≤ a) (h1 : b ≤ 1000000) : greater (up (inT l a b) 1) = up (inT l a b) 2 :=
  greater_ups2 _ (win_len hr h0 h1) fun x hx => hr.rng x (win_mem.1 hx).1
theorem Tier.bIn_all {l : List Bucket} {st lo hi a b : Int} (h : Tier l st lo hi) (h1 : a ≤ lo) (h2 : hi ≤ b) : Sh.bIn l a b = l := List.filter_eq_self.2 fun x hx => by have := h.ok x hx; exact decide_eq_true ⟨by omega, by omega⟩
theorem Tier.bIn_none {l : List Bucket} {st lo hi a b : Int} (h : Tier l st lo hi) (h1 : hi ≤ a ∨ b ≤ lo) : Sh.bIn l a b = [] := List.filter_eq_nil_iff.2 fun x hx => by have := h.ok x hx; simp; omega
theorem Tier.from_all {l : List Bucket} {st lo hi a : Int} (h : Tier l st lo hi) (h1 : a ≤ lo) : Sh.fromB l a = l := List.filter_eq_self.2 fun x hx => by have := h.ok x hx; simp; omega
theorem Tier.from_none {l : List Bucket} {st lo hi a : Int} (h : Tier l st lo hi) (h1 : hi ≤ a) : Sh.fromB l a = [] := List.filter_eq_nil_iff.2 fun x hx => by have := h.ok x hx; simp; omega
theorem up2_tier (hr : Rises Sample.time l) (ha : a % 60 = 0) (hb : b % 60 = 0) : Tier (up (inT l a b) 2) 60 a b := by
  rw [up2_win]
  obtain ⟨h1, h2⟩ := gf_to (s := fun x => Agg.one x.value) (.inr rfl) hr ha hb
  refine ⟨fun x hx => ?_, h2⟩
  obtain ⟨m, g1, g2, g3, g4, rfl⟩ := h1 x hx
  have hl := rises_len hr
  have hw : (win Sample.time l m (m + 60)).length ≤ l.length := List.length_filter_le ..
  have hc := gsum_count (s := fun x : Sample => Agg.one x.value) 1 (by omega) (by omega) (win Sample.time l m (m + 60)) (by omega) (fun x _ => by simp [Agg.one])
  have hp : 0 < (win Sample.time l m (m + 60)).length := List.length_pos_iff.2 g4
  have hk := rise_len (t := Sample.time) (b := m + 60) 1 (by decide) (win Sample.time l m (m + 60)) m (win_rises hr).inc (fun x hx => by have := win_mem.1 hx; omega) (by omega) (by omega) (by omega)
  simp only
  omega
theorem bIn_append (x y : List Bucket) (a b : Int) : Sh.bIn (x ++ y) a b = Sh.bIn x a b ++ Sh.bIn y a b := List.filter_append ..
theorem fromB_append (x y : List Bucket) (a : Int) : Sh.fromB (x ++ y) a = Sh.fromB x a ++ Sh.fromB y a := List.filter_append ..
/-- fine buckets of a coarse time are those of the samples of that time -/
theorem up_bIn {c d : Int} (hr : Rises Sample.time l) (ha : a % 10 = 0) (hb : b % 10 = 0) (hc : c % 10 = 0) (hd : d % 10 = 0) (h1 : a ≤ c) (h2 : c ≤ d) (h3 : d ≤ b) : Sh.bIn (up (inT l a b) 1) c d = up (inT l c d) 1 := by
  have hl := rises_len hr
  rw [up_append hr h1 (by omega : c ≤ b) hc, up_append hr h2 h3 hd, bIn_append, bIn_append,
    (up_tier hr (by omega) ha hc).bIn_none (.inl (Int.le_refl _)), (up_tier hr (by omega) hc hd).bIn_all (Int.le_refl _) (Int.le_refl _), (up_tier hr (by omega) hd hb).bIn_none (.inr (Int.le_refl _)), List.nil_append, List.append_nil]
theorem up_from {c : Int} (hr : Rises Sample.time l) (ha : a % 10 = 0) (hb : b % 10 = 0) (hc : c % 10 = 0) (h1 : a ≤ c) (h2 : c ≤ b) : Sh.fromB (up (inT l a b) 1) c = up (inT l c b) 1 := by
  have hl := rises_len hr
  rw [up_append hr h1 h2 hc, fromB_append, (up_tier hr (by omega) ha hc).from_none (Int.le_refl _), (up_tier hr (by omega) hc hb).from_all (Int.le_refl _), List.nil_append]
theorem up2_from {c : Int} (hr : Rises Sample.time l) (ha : a % 60 = 0) (hb : b % 60 = 0) (hc : c % 60 = 0) (h1 : a ≤ c) (h2 : c ≤ b) : Sh.fromB (up (inT l a b) 2) c = up (inT l c b) 2 := by
  rw [up2_append hr h1 h2 hc, fromB_append, (up2_tier hr ha hc).from_none (Int.le_refl _), (up2_tier hr hc hb).from_all (Int.le_refl _), List.nil_append]
theorem inT_from {f : Int} (h : f ≤ a) : inT (Sh.fromS l f) a b = inT l a b := by
  unfold inT Sh.fromS
  rw [List.filter_filter]
  exact List.filter_congr fun x _ => by
    rw [Bool.eq_iff_iff]; simp; omega
theorem inT_app_none {x : Sample} (h : b ≤ x.time) : inT (l ++ [x]) a b = inT l a b := by
  unfold inT
  rw [List.filter_append]
  have : ¬ (a ≤ x.time ∧ x.time < b) := by omega
  simp [this]
end
end Roll
namespace Sh
/-- a shelf keeps what was taken -/
structure Keep (z : Shelf) (all : List Sample) : Prop where
  ok : OK z
  rises : Roll.Rises Sample.time all
  vals : ∀ x ∈ all, -1000000000 ≤ x.value ∧ x.value ≤ 1000000000
  raw : z.raw = fromS all z.rawFrom
  fine : z.fine = Roll.up (Roll.inT all z.fineFrom z.fineTo) 1
  coarse : z.coarse = Roll.up (Roll.inT all z.coarseFrom z.coarseTo) 2
section
variable {z : Shelf} {all : List Sample} {x : Sample} {to tier : Int}
theorem Keep.append (h : Keep z all) (ha : (append z x).2 = 0) : Keep (append z x).1 (all ++ [x]) := by
  have hok := (append_right ha).1
  obtain ⟨ho, hx, hl, hn, e⟩ := append_done ha
  rw [e] at hok ⊢
  have hx' := Codec.one_right hx
  obtain ⟨⟨g1, g2, g3, g4⟩, _⟩ := ho.rng
  have hlt : ∀ y ∈ all, y.time < x.time := fun y hy => by
    by_cases c : z.rawFrom ≤ y.time
    · have hy' : y ∈ z.raw := by rw [h.raw]; exact List.mem_filter.2 ⟨hy, by simp; omega⟩
      have h2 : ¬ (late z.raw x = true) := fun g => hl (.inr g)
      rw [late_any ho.rawRises x, List.any_eq_true] at h2
      have : ¬ (x.time ≤ y.time) := fun g => h2 ⟨y, hy', decide_eq_true g⟩
      omega
    · omega
  refine ⟨hok, ⟨fun y hy => ?_, ?_⟩, fun y hy => ?_, ?_, ?_, ?_⟩
  · rcases List.mem_append.1 hy with h1 | h1
    · exact h.rises.rng y h1
    · obtain rfl : y = x := by simpa using h1
      omega
  · exact List.pairwise_append.2 ⟨h.rises.inc, by simp, fun y hy w hw => by rw [show w = x from by simpa using hw]; exact hlt y hy⟩
  · rcases List.mem_append.1 hy with h1 | h1
    · exact h.vals y h1
    · obtain rfl : y = x := by simpa using h1
      omega
  · show z.raw ++ [x] = fromS (all ++ [x]) z.rawFrom
    have : ¬ x.time < z.rawFrom := by omega
    rw [h.raw, fromS, fromS, List.filter_append]
    simp [this]
  · show z.fine = Roll.up (Roll.inT (all ++ [x]) z.fineFrom z.fineTo) 1
    rw [Roll.inT_app_none (by omega)]; exact h.fine
  · show z.coarse = Roll.up (Roll.inT (all ++ [x]) z.coarseFrom z.coarseTo) 2
    rw [Roll.inT_app_none (by omega)]; exact h.coarse
theorem Keep.roll (h : Keep z all) (ha : (roll z to).2 = 0) : Keep (roll z to).1 all := by
  have hok := (roll_right ha).1
  obtain ⟨ho, h1, h2, h3, h4, e⟩ := roll_done ha
  rw [e] at hok ⊢
  obtain ⟨⟨g1, g2, g3, g4⟩, ⟨g5, g6, g7, g8, g9⟩, g10, g11, g12, g13, g14⟩ := ho.rng
  obtain ⟨f1, f2, f3, f4⟩ := fineTo_rng ho h1 h2
  obtain ⟨c1, c2, c3⟩ := coarseTo_rng ho h1 h2
  have hf : fineL z to = Roll.up (Roll.inT all z.fineFrom (fineTo z to)) 1 := by
    unfold fineL
    rw [Roll.up_append h.rises g6 f1 g9, ← h.fine]
    congr 1
    rw [h.raw, Roll.inT_from g2]
  refine ⟨hok, h.rises, h.vals, h.raw, hf, ?_⟩
  show coarseL z to = Roll.up (Roll.inT all z.coarseFrom (coarseTo z to)) 2
  unfold coarseL
  rw [hf, Roll.up_bIn h.rises g8 f4 (by omega) (by omega) g3 c1 c2, Roll.greater_up2 h.rises (by omega) (by omega), Roll.up2_append h.rises g11 c1 g14, ← h.coarse]
theorem fromS_from {l : List Sample} {f g : Int} (h : f ≤ g) : fromS (fromS l f) g = fromS l g := by
  unfold fromS
  rw [List.filter_filter]
  exact List.filter_congr fun x _ => by
    rw [Bool.eq_iff_iff]; simp; omega
theorem Keep.forget (h : Keep z all) (ha : (forget z tier to).2 = 0) : Keep (forget z tier to).1 all := by
  have hok := (forget_right ha).1
  obtain ⟨ho, h1, h2, h3, e⟩ := forget_done ha
  rw [e] at hok ⊢
  obtain ⟨⟨g1, g2, g3, g4⟩, ⟨g5, g6, g7, g8, g9⟩, g10, g11, g12, g13, g14⟩ := ho.rng
  have a1 := rawF_rng (to := to) ho; have a2 := fineF_rng (to := to) ho; have a3 := coarseF_rng (to := to) ho
  refine ⟨hok, h.rises, h.vals, ?_, ?_, ?_⟩
  all_goals
    unfold forgot
    rcases h3 with rfl | rfl | rfl
  · show fromS z.raw (rawF z to) = fromS all (rawF z to)
    rw [h.raw, fromS_from a1.1]
  · exact h.raw
  · exact h.raw
  · exact h.fine
  · show fromB z.fine (fineF z to) = Roll.up (Roll.inT all (fineF z to) z.fineTo) 1
    rw [h.fine, Roll.up_from h.rises g8 g9 a2.2.2 a2.1 (by omega)]
  · exact h.fine
  · exact h.coarse
  · exact h.coarse
  · show fromB z.coarse (coarseF z to) = Roll.up (Roll.inT all (coarseF z to) z.coarseTo) 2
    rw [h.coarse, Roll.up2_from h.rises g13 g14 a3.2.2 a3.1 a3.2.1]
end
/-! ## Acts -/
def res (z : Shelf) (a : ShAct) : Shelf × Int := if a.kind = 0 then append z a.sample else if a.kind = 1 then roll z a.to else if a.kind = 2 then forget z a.tier a.to else (z, 1)
def step (p : Shelf × List Sample) (a : ShAct) : Shelf × List Sample := if (res p.1 a).2 ≠ 0 then p else ((res p.1 a).1, if a.kind = 0 then p.2 ++ [a.sample] else p.2)
def start : Shelf := ⟨[⟨⟨#[97]⟩, ⟨#[98]⟩⟩], [], [], [], 0, 0, 0, 0, 0⟩
def play (l : List ShAct) : Shelf × List Sample := l.foldl step (start, [])
theorem play_succ {l : List ShAct} {k : Nat} {a : ShAct} (h : l[k]? = some a) : play (l.take (k + 1)) = step (play (l.take k)) a := by
  rw [play, List.take_add_one, h, List.foldl_append]; rfl
section
variable {p : Shelf × List Sample} {a : ShAct}
theorem step_app_no (h : a.kind = 0) (h2 : (append p.1 a.sample).2 ≠ 0) : step p a = p := by rw [step, res, if_pos h, if_pos h2]
theorem step_app (h : a.kind = 0) (h2 : ¬ (append p.1 a.sample).2 ≠ 0) : step p a = ((append p.1 a.sample).1, p.2 ++ [a.sample]) := by rw [step, res, if_pos h, if_neg h2, if_pos h]
theorem step_roll_no (h : ¬ a.kind = 0) (h1 : a.kind = 1) (h2 : (roll p.1 a.to).2 ≠ 0) : step p a = p := by rw [step, res, if_neg h, if_pos h1, if_pos h2]
theorem step_roll (h : ¬ a.kind = 0) (h1 : a.kind = 1) (h2 : ¬ (roll p.1 a.to).2 ≠ 0) : step p a = ((roll p.1 a.to).1, p.2) := by rw [step, res, if_neg h, if_pos h1, if_neg h2, if_neg h]
theorem step_forget_no (h : ¬ a.kind = 0) (h1 : ¬ a.kind = 1) (h3 : a.kind = 2) (h2 : (forget p.1 a.tier a.to).2 ≠ 0) : step p a = p := by rw [step, res, if_neg h, if_neg h1, if_pos h3, if_pos h2]
theorem step_forget (h : ¬ a.kind = 0) (h1 : ¬ a.kind = 1) (h3 : a.kind = 2) (h2 : ¬ (forget p.1 a.tier a.to).2 ≠ 0) : step p a = ((forget p.1 a.tier a.to).1, p.2) := by rw [step, res, if_neg h, if_neg h1, if_pos h3, if_neg h2, if_neg h]
theorem step_none (h : ¬ a.kind = 0) (h1 : ¬ a.kind = 1) (h3 : ¬ a.kind = 2) : step p a = p := by rw [step, res, if_neg h, if_neg h1, if_neg h3, if_pos (show (1 : Int) ≠ 0 by decide)]
theorem Keep.step (h : Keep p.1 p.2) (a : ShAct) : Keep (step p a).1 (step p a).2 := by
  by_cases h0 : a.kind = 0
  · by_cases h2 : (Sh.append p.1 a.sample).2 ≠ 0
    · rw [step_app_no h0 h2]; exact h
    · rw [step_app h0 h2]; exact h.append (Classical.not_not.1 h2)
  by_cases h1 : a.kind = 1
  · by_cases h2 : (Sh.roll p.1 a.to).2 ≠ 0
    · rw [step_roll_no h0 h1 h2]; exact h
    · rw [step_roll h0 h1 h2]; exact h.roll (Classical.not_not.1 h2)
  by_cases h3 : a.kind = 2
  · by_cases h2 : (Sh.forget p.1 a.tier a.to).2 ≠ 0
    · rw [step_forget_no h0 h1 h3 h2]; exact h
    · rw [step_forget h0 h1 h3 h2]; exact h.forget (Classical.not_not.1 h2)
  · rw [step_none h0 h1 h3]; exact h
end
theorem keep_new (s : List Label) (h : Names.wrong s = 0) : Keep ⟨s, [], [], [], 0, 0, 0, 0, 0⟩ [] :=
  ⟨mk_ok h ⟨by simp, by simp, by simp⟩ ⟨by simp, by simp⟩ ⟨by simp, by simp⟩ (by simp) (by simp) (times_iff.2 (by simp only; omega)) (by simp), ⟨by simp, by simp⟩, by simp, rfl, rfl, rfl⟩
theorem keep_play (l : List ShAct) : Keep (play l).1 (play l).2 := by
  have key : ∀ (l : List ShAct) (p : Shelf × List Sample), Keep p.1 p.2 → Keep (l.foldl step p).1 (l.foldl step p).2 := by
    intro l
    induction l with
    | nil => exact fun p h => h
    | cons a l ih => exact fun p h => ih _ (h.step a)
  exact key l _ (keep_new _ (by decide +kernel))
theorem keeps_raw (l : List ShAct) : (play l).1.raw = fromS (play l).2 (play l).1.rawFrom := (keep_play l).raw
theorem keeps_fine (l : List ShAct) : (play l).1.fine = Roll.up (Roll.inT (play l).2 (play l).1.fineFrom (play l).1.fineTo) 1 := (keep_play l).fine
theorem keeps_coarse (l : List ShAct) : (play l).1.coarse = Roll.up (Roll.inT (play l).2 (play l).1.coarseFrom (play l).1.coarseTo) 2 := (keep_play l).coarse
theorem play_len (l : List ShAct) : (play l).2.length ≤ 1000001 := Roll.rises_len (keep_play l).rises
end Sh
end Go.Proofs.Ytnbkennlmnnbeaa
