/-
  Plans: what is chosen covers its window, is exact, is cheap, and is there as long as coarse buckets are.
-/
import Derived.Test.YtnbkennlmnnbeaaPPlan
namespace Go.Proofs.Ytnbkennlmnnbeaa
namespace Roll
theorem gsum_tot {b : List Bucket} {n : Int} (h : Counts b n) (hn : n ≤ 1000000000) : (gsum Bucket.sum b).count = n ∧ 0 ≤ n := by
  induction b using List.reverseRecOn' generalizing n with
  | nil => obtain ⟨_, rfl⟩ := h; exact ⟨rfl, by simp [tot]⟩
  | snoc b x ih =>
    have h1 := h.pos x (by simp)
    obtain ⟨i1, i2⟩ := ih h.init (by omega)
    rw [gsum_snoc, Agg.join_count (by omega) (by omega) (by omega), i1]
    omega
/-- buckets come to what their samples come to -/
theorem gsum_ups (st : Int) : ∀ (l : List Sample), l.length ≤ 1048576 → gsum Bucket.sum (ups l st) = Agg.of l := by
  intro l
  induction l using List.reverseRecOn' with
  | nil => intro _; rfl
  | snoc l x ih =>
    intro hl
    have hlen : (l ++ [x]).length = l.length + 1 := by simp
    rw [hlen] at hl
    have ih := ih (by omega)
    have hc := ups_counts l st (by omega)
    rw [ups_snoc, Agg.of_snoc, ← ih]
    rcases add_cases (ups l st) x.time st (Agg.one x.value) with e | ⟨l0, b, e0, hb, e⟩
    · rw [e, gsum_snoc]
    · rw [e, e0, gsum_snoc, gsum_snoc]
      rw [e0] at hc
      have h1 := hc.pos b (by simp)
      obtain ⟨i1, i2⟩ := gsum_tot hc.init (by omega)
      exact Agg.join_assoc (by omega) (by omega) (by simp [Agg.one]) (by simp [Agg.one]; omega)
section
variable {l : List Sample} {a b c d : Int}
theorem up2_bIn (hr : Rises Sample.time l) (ha : a % 60 = 0) (hb : b % 60 = 0) (hc : c % 60 = 0) (hd : d % 60 = 0) (h1 : a ≤ c) (h2 : c ≤ d) (h3 : d ≤ b) : Sh.bIn (up (inT l a b) 2) c d = up (inT l c d) 2 := by
  rw [up2_append hr h1 (by omega : c ≤ b) hc, up2_append hr h2 h3 hd, bIn_append, bIn_append,
    (up2_tier hr ha hc).bIn_none (.inl (Int.le_refl _)), (up2_tier hr hc hd).bIn_all (Int.le_refl _) (Int.le_refl _), (up2_tier hr hd hb).bIn_none (.inr (Int.le_refl _)), List.nil_append, List.append_nil]
end
end Roll
namespace Sh
/-! ## Covers, from behind -/
theorem covers_snoc {z : Shelf} {p : Part} : ∀ (l : List Part) (f t : Int), covers z (l ++ [p]) f t = true ↔ covers z l f p.frm = true ∧ may z p ∧ p.to = t
  | [], f, t => by
    simp only [List.nil_append, covers, Bool.and_eq_true, decide_eq_true_eq, and_assoc]
    exact ⟨fun ⟨h1, h2, h3⟩ => ⟨h1.symm, h2, h3⟩, fun ⟨h1, h2, h3⟩ => ⟨h1.symm, h2, h3⟩⟩
  | q :: l, f, t => by
    simp only [List.cons_append, covers, Bool.and_eq_true, decide_eq_true_eq, and_assoc]
    rw [covers_snoc l q.to t]
theorem covers_nil {z : Shelf} {f t : Int} : covers z [] f t = true ↔ f = t := by simp [covers]
theorem covers_le {z : Shelf} : ∀ (l : List Part) (f t : Int), covers z l f t = true → f ≤ t := by
  intro l
  induction l using List.reverseRecOn' with
  | nil => intro f t h; rw [covers_nil] at h; omega
  | snoc l p ih =>
    intro f t h
    obtain ⟨h1, h2, h3⟩ := (covers_snoc l f t).1 h
    have := ih f p.frm h1; have := may_lt h2; omega
theorem covers_all {z : Shelf} : ∀ (l : List Part) (f t : Int), covers z l f t = true → ∀ p ∈ l, may z p ∧ f ≤ p.frm ∧ p.to ≤ t
  | [], _, _, _, _, hp => by cases hp
  | q :: l, f, t, h, p, hp => by
    simp only [covers, Bool.and_eq_true, decide_eq_true_eq, and_assoc] at h
    obtain ⟨h1, h2, h3⟩ := h
    have := covers_le l _ _ h3
    have := may_lt h2
    rcases List.mem_cons.1 hp with rfl | hp
    · exact ⟨h2, by omega, by omega⟩
    · obtain ⟨g1, g2, g3⟩ := covers_all l _ _ h3 p hp
      exact ⟨g1, by omega, g3⟩
/-- what parts that cover come to -/
def costs (z : Shelf) (l : List Part) : Int := l.foldl (fun c p => c + partCost z p) 0
theorem costs_snoc (z : Shelf) (l : List Part) (p : Part) : costs z (l ++ [p]) = costs z l + partCost z p := by simp [costs]
theorem readN_cov {z : Shelf} : ∀ (l : List Part) (prev : Option Part) (f t : Int) (s : Sum) (c : Int), covers z l f t = true → (∀ q, prev = some q → q.to = f) → readN z prev l s c = (l.foldl (fun a p => Agg.join a (partSum z p)) s, l.foldl (fun c p => c + partCost z p) c, 0)
  | [], _, _, _, _, _, _, _ => rfl
  | p :: l, prev, f, t, s, c, h, hq => by
    simp only [covers, Bool.and_eq_true, decide_eq_true_eq, and_assoc] at h
    obtain ⟨h1, h2, h3⟩ := h
    have hb : ¬ (¬ may z p ∨ apart prev p = true) := by
      rintro (g | g)
      · exact g h2
      · cases prev with
        | none => simp [apart] at g
        | some q => have := hq q rfl; simp [apart] at g; omega
    rw [readN, if_neg hb, readN_cov l (some p) p.to t _ _ h3 (by rintro q ⟨⟩; rfl)]
    rfl
theorem read_cov {z : Shelf} (ho : OK z) {l : List Part} {f t : Int} (h : covers z l f t = true) : read z l = (Roll.gsum (partSum z) l, costs z l, 0) := by
  rw [read, if_neg (by simp [ho.wrong]), readN_cov l none f t _ _ h (by simp)]
  rfl
/-! ## What is chosen -/
def Alt (l : List Part) : Prop := ∀ (i : Nat) (p q : Part), l[i]? = some p → l[i + 1]? = some q → p.tier ≠ q.tier
theorem emod_tmod {a m : Int} (ha : 0 ≤ a) : Int.tmod a m = a % m := Int.tmod_eq_emod_of_nonneg ha
theorem may_join {z : Shelf} {q p : Part} (hq : may z q) (hp : may z p) (ht : q.tier = p.tier) (he : q.to = p.frm) : may z ⟨q.tier, q.frm, p.to⟩ := by
  have h1 := may_lt hq; have h2 := may_lt hp
  obtain ⟨a1, a2, a3, a4, a5⟩ := hq
  obtain ⟨b1, b2, b3, b4, b5⟩ := hp
  refine ⟨by simp only; omega, a2, ?_, a4, ?_⟩
  · show p.to ≤ spanTo z q.tier; rw [ht]; exact b3
  · show Int.tmod p.to (stepOf q.tier) = 0; rw [ht]; exact b5
theorem push_cov {z : Shelf} {out : List Part} {p : Part} {f : Int} (h : covers z out f p.frm = true) (ha : Alt out) (hp : may z p) : covers z (push out p) f p.to = true ∧ Alt (push out p) := by
  rcases List.eq_nil_or_concat out with rfl | ⟨l, q, rfl⟩
  · have : push [] p = [] ++ [p] := rfl
    rw [this]
    exact ⟨(covers_snoc [] f p.to).2 ⟨h, hp, rfl⟩, fun i a b h1 h2 => by
      match i, h1, h2 with
      | 0, _, h2 => simp at h2
      | i + 1, h1, _ => simp at h1⟩
  · rw [List.concat_eq_append] at *
    obtain ⟨c1, c2, c3⟩ := (covers_snoc l f p.frm).1 h
    have hl : (l ++ [q])[(l ++ [q]).length - 1]? = some q := by simp
    by_cases ht : q.tier = p.tier
    · rw [push_last hl ht]
      have e : (l ++ [q]).set ((l ++ [q]).length - 1) ⟨q.tier, q.frm, p.to⟩ = l ++ [⟨q.tier, q.frm, p.to⟩] := by simp
      rw [e]
      refine ⟨(covers_snoc (p := ⟨q.tier, q.frm, p.to⟩) l f p.to).2 ⟨c1, may_join c2 hp ht c3, rfl⟩, fun i a b h1 h2 => ?_⟩
      have hi : i + 1 < l.length + 1 := by have := (List.getElem?_eq_some_iff.1 h2).1; simpa using this
      rw [List.getElem?_append_left (by omega)] at h1
      rcases Nat.lt_or_ge (i + 1) l.length with h3 | h3
      · rw [List.getElem?_append_left h3] at h2
        exact ha i a b (by rw [List.getElem?_append_left (by omega)]; exact h1) (by rw [List.getElem?_append_left h3]; exact h2)
      · have e2 : i + 1 = l.length := by omega
        rw [List.getElem?_append_right h3, e2] at h2
        obtain rfl : _ = b := by simpa using h2
        exact ha i a q (by rw [List.getElem?_append_left (by omega)]; exact h1) (by rw [e2]; simp)
    · rw [push_new hl ht]
      refine ⟨(covers_snoc (l ++ [q]) f p.to).2 ⟨h, hp, rfl⟩, fun i a b h1 h2 => ?_⟩
      have hi : i + 1 < l.length + 1 + 1 := by have := (List.getElem?_eq_some_iff.1 h2).1; simpa using this
      rw [List.getElem?_append_left (by simp; omega)] at h1
      rcases Nat.lt_or_ge (i + 1) (l ++ [q]).length with h3 | h3
      · rw [List.getElem?_append_left h3] at h2
        exact ha i a b h1 h2
      · simp at h3
        have e2 : i = l.length := by omega
        subst e2
        rw [List.getElem?_append_right (by simp)] at h2
        obtain rfl : p = b := by simpa using h2
        obtain rfl : q = a := by simpa using h1
        exact ht
theorem chooseL_cov {z : Shelf} {t : Int} : ∀ (n : Nat) (f g : Int) (out l : List Part), (t - g).toNat ≤ n → g ≤ t → covers z out f g = true → Alt out → chooseL z g t out = some l → covers z l f t = true ∧ Alt l
  | n, f, g, out, l, hn, hg, hc, ha, h => by
    by_cases c : g < t
    · by_cases hp : (pick z g t).tier < 0
      · rw [chooseL_gone c hp] at h; cases h
      · rw [chooseL_next c hp] at h
        obtain ⟨m1, m2, m3⟩ := pick_may hp
        have hto := pick_to hp
        obtain ⟨k1, k2⟩ := push_cov (z := z) (p := pick z g t) (by rw [m2]; exact hc) ha m1
        match n, hn with
        | 0, hn => omega
        | n + 1, hn => exact chooseL_cov n f _ _ l (by omega) hto.2 k1 k2 h
    · rw [chooseL_end c] at h
      obtain rfl : out = l := by simpa using h
      obtain rfl : g = t := by omega
      exact ⟨hc, ha⟩
section
variable {z : Shelf} {f t : Int}
theorem choose_cov (h : (choose z f t).2 = 0) : OK z ∧ covers z (choose z f t).1 f t = true ∧ Alt (choose z f t).1 := by
  obtain ⟨ho, h1, h2, h3, e⟩ := choose_done h
  obtain ⟨k1, k2⟩ := chooseL_cov _ f f [] _ (Nat.le_refl _) h2 (covers_nil.2 rfl) (fun i p q h => by simp at h) e
  exact ⟨ho, k1, k2⟩
theorem covers_len : ∀ (l : List Part) (f t : Int), covers z l f t = true → (l.length : Int) ≤ t - f
  | [], f, t, h => by rw [covers_nil] at h; simp; omega
  | p :: l, f, t, h => by
    simp only [covers, Bool.and_eq_true, decide_eq_true_eq, and_assoc] at h
    obtain ⟨h1, h2, h3⟩ := h
    have := covers_len l _ _ h3
    have := may_lt h2
    simp only [List.length_cons]; push_cast; omega
theorem choose_len (z : Shelf) (f t : Int) : (choose z f t).1.length ≤ 1048576 := by
  by_cases h : (choose z f t).2 = 0
  · obtain ⟨_, h1, h2, h3, _⟩ := choose_done h
    have := covers_len _ _ _ (choose_cov h).2.1
    omega
  · rw [choose_fail h]; simp
end
/-! ## Exact, and cheap -/
section
variable {z : Shelf} {all : List Sample} {f t : Int} {p : Part}
theorem Keep.part (h : Keep z all) (hp : may z p) : partSum z p = Agg.of (Roll.inT all p.frm p.to) ∧ partCost z p ≤ (Roll.inT all p.frm p.to).length := by
  obtain ⟨⟨g1, g2, g3, g4⟩, ⟨g5, g6, g7, g8, g9⟩, g10, g11, g12, g13, g14⟩ := h.ok.rng
  have hl := Roll.rises_len h.rises
  have hw := Roll.inT_len all p.frm p.to
  obtain ⟨r1, r2, r3⟩ := may_rng h.ok hp
  have hlt := may_lt hp
  rcases may_tier hp with e | e | e
  · rw [may0 (by omega) e] at hp
    obtain ⟨k1, k2⟩ := partSum_0 (z := z) (p := p) (by omega) (by omega)
    rw [k1, k2, h.raw, Roll.inT_from hp.1]
    exact ⟨rfl, Int.le_refl _⟩
  · rw [may1 (by omega) e, emod_tmod r1, emod_tmod (by omega)] at hp
    obtain ⟨k1, k2⟩ := partSum_1 (z := z) (p := p) e
    have hb : bIn z.fine p.frm p.to = Roll.up (Roll.inT all p.frm p.to) 1 := by
      rw [h.fine, Roll.up_bIn h.rises g8 g9 hp.2.2.1 hp.2.2.2 hp.1 (by omega) hp.2.1]
    rw [k1, k2, Roll.of_win, ← Roll.win_bIn, hb]
    refine ⟨Roll.gsum_ups 10 _ (by omega), ?_⟩
    have := Roll.up_len (Roll.inT all p.frm p.to) 1
    omega
  · rw [may2 (by omega) e, emod_tmod r1, emod_tmod (by omega)] at hp
    obtain ⟨k1, k2⟩ := partSum_2 (z := z) (p := p) (by omega) e
    have hb : bIn z.coarse p.frm p.to = Roll.up (Roll.inT all p.frm p.to) 2 := by
      rw [h.coarse, Roll.up2_bIn h.rises g13 g14 hp.2.2.1 hp.2.2.2 hp.1 (by omega) hp.2.1]
    rw [k1, k2, Roll.of_win, ← Roll.win_bIn, hb]
    refine ⟨Roll.gsum_ups 60 _ (by omega), ?_⟩
    have := Roll.up_len (Roll.inT all p.frm p.to) 2
    omega
theorem Keep.covered (h : Keep z all) : ∀ (l : List Part) (f t : Int), covers z l f t = true → Roll.gsum (partSum z) l = Agg.of (Roll.inT all f t) ∧ costs z l ≤ (Roll.inT all f t).length := by
  intro l
  induction l using List.reverseRecOn' with
  | nil =>
    intro f t hc
    rw [covers_nil] at hc
    subst hc
    have : Roll.inT all f f = [] := Roll.win_self (Int.le_refl _)
    rw [this]; exact ⟨rfl, Int.le_refl _⟩
  | snoc l p ih =>
    intro f t hc
    obtain ⟨c1, c2, c3⟩ := (covers_snoc l f t).1 hc
    obtain ⟨i1, i2⟩ := ih f p.frm c1
    obtain ⟨k1, k2⟩ := h.part c2
    have hle := covers_le l _ _ c1
    have hlt := may_lt c2
    have hl := Roll.rises_len h.rises
    have e : Roll.inT all f t = Roll.inT all f p.frm ++ Roll.inT all p.frm p.to := by
      rw [← c3]; exact Roll.win_split hle (by omega) h.rises.inc
    have hw1 := Roll.inT_len all f p.frm
    have hw2 := Roll.inT_len all p.frm p.to
    rw [Roll.gsum_snoc, costs_snoc, i1, k1, e]
    refine ⟨(Agg.of_append _ _ (by omega)).symm, ?_⟩
    rw [List.length_append]; push_cast; omega
end
/-! ## How it is made -/
def addAll : Shelf → List Sample → Shelf × Bool
  | z, [] => (z, true)
  | z, x :: r => if (append z x).2 ≠ 0 then (z, false) else addAll (append z x).1 r
def forgetAll (s0 : Shelf) : Shelf → Int → List Int → Shelf × Bool
  | y, _, [] => (y, true)
  | y, i, o :: r => if (forget y i o).2 ≠ 0 then (s0, false) else forgetAll s0 (forget y i o).1 (i + 1) r
def made (l : List Sample) (rolled : Int) (fo : List Int) : Shelf × Bool :=
  if (addAll zero l).2 = false then ((addAll zero l).1, false) else if (roll (addAll zero l).1 rolled).2 ≠ 0 then ((addAll zero l).1, false) else forgetAll (addAll zero l).1 (roll (addAll zero l).1 rolled).1 0 fo
theorem addAll_step {l : List Sample} {k : Nat} {x : Sample} (h : l[k]? = some x) (z : Shelf) : addAll z (l.drop k) = if (append z x).2 ≠ 0 then (z, false) else addAll (append z x).1 (l.drop (k + 1)) := by
  obtain ⟨hk, rfl⟩ := List.getElem?_eq_some_iff.1 h
  rw [List.drop_eq_getElem_cons hk, addAll]
theorem addAll_end {l : List Sample} {k : Nat} (h : l.length ≤ k) (z : Shelf) : addAll z (l.drop k) = (z, true) := by rw [List.drop_of_length_le h, addAll]
theorem forgetAll_step {l : List Int} {k : Nat} {o : Int} (h : l[k]? = some o) (s0 y : Shelf) : forgetAll s0 y k (l.drop k) = if (forget y k o).2 ≠ 0 then (s0, false) else forgetAll s0 (forget y k o).1 ((k + 1 : Nat) : Int) (l.drop (k + 1)) := by
  obtain ⟨hk, rfl⟩ := List.getElem?_eq_some_iff.1 h
  rw [List.drop_eq_getElem_cons hk, forgetAll]; rfl
theorem forgetAll_end {l : List Int} {k : Nat} (h : l.length ≤ k) (s0 y : Shelf) (i : Int) : forgetAll s0 y i (l.drop k) = (y, true) := by rw [List.drop_of_length_le h, forgetAll]
section
variable {l : List Sample} {rolled : Int} {fo : List Int} {z y s0 : Shelf} {k : Nat}
theorem made_bad (e : addAll zero l = addAll z (l.drop k)) {x : Sample} (hx : l[k]? = some x) (h : (append z x).2 ≠ 0) : made l rolled fo = (z, false) := by
  have : addAll zero l = (z, false) := by rw [e, addAll_step hx, if_pos h]
  rw [made, this, if_pos rfl]
theorem made_roll (e : addAll zero l = addAll z (l.drop k)) (hk : l.length ≤ k) (h : (roll z rolled).2 ≠ 0) : made l rolled fo = (z, false) := by
  have : addAll zero l = (z, true) := by rw [e, addAll_end hk]
  rw [made, this, if_neg (by simp), if_pos h]
theorem made_on (e : addAll zero l = addAll z (l.drop k)) (hk : l.length ≤ k) (h : ¬ (roll z rolled).2 ≠ 0) : made l rolled fo = forgetAll z (roll z rolled).1 0 fo := by
  have : addAll zero l = (z, true) := by rw [e, addAll_end hk]
  rw [made, this, if_neg (by simp), if_neg h]
theorem addAll_keep : ∀ (l : List Sample) (z : Shelf) (all : List Sample), Keep z all → (addAll z l).2 = true → Keep (addAll z l).1 (all ++ l)
  | [], z, all, h, _ => by simpa [addAll] using h
  | x :: r, z, all, h, h2 => by
    rw [addAll] at h2 ⊢
    by_cases c : (append z x).2 ≠ 0
    · rw [if_pos c] at h2; cases h2
    · rw [if_neg c] at h2 ⊢
      have := addAll_keep r _ _ (h.append (Classical.not_not.1 c)) h2
      simpa using this
theorem forgetAll_keep (s0 : Shelf) : ∀ (fo : List Int) (y : Shelf) (i : Int) (all : List Sample), Keep y all → (forgetAll s0 y i fo).2 = true → Keep (forgetAll s0 y i fo).1 all
  | [], _, _, _, h, _ => h
  | o :: r, y, i, all, h, h2 => by
    rw [forgetAll] at h2 ⊢
    by_cases c : (forget y i o).2 ≠ 0
    · rw [if_pos c] at h2; cases h2
    · rw [if_neg c] at h2 ⊢
      exact forgetAll_keep s0 r _ _ all (h.forget (Classical.not_not.1 c)) h2
theorem keep_zero : Keep zero [] := keep_new [] (by decide)
theorem made_keep (h : (made l rolled fo).2 = true) : Keep (made l rolled fo).1 l := by
  unfold made at h ⊢
  by_cases c : (addAll zero l).2 = false
  · rw [if_pos c] at h; cases h
  rw [if_neg c] at h ⊢
  have hk := addAll_keep l zero [] keep_zero (by simpa using c)
  by_cases c2 : (roll (addAll zero l).1 rolled).2 ≠ 0
  · rw [if_pos c2] at h; cases h
  rw [if_neg c2] at h ⊢
  exact forgetAll_keep _ fo _ 0 l ((by simpa using hk : Keep (addAll zero l).1 l).roll (Classical.not_not.1 c2)) h
theorem addAll_cf : ∀ (l : List Sample) (z : Shelf), (addAll z l).1.coarseFrom = z.coarseFrom
  | [], _ => rfl
  | x :: r, z => by
    rw [addAll]
    by_cases c : (append z x).2 ≠ 0
    · rw [if_pos c]
    · rw [if_neg c, addAll_cf r]
      obtain ⟨_, _, _, _, e⟩ := append_done (Classical.not_not.1 c)
      rw [e]
theorem made_cf {raw fine : Int} (h : (made l rolled [raw, fine]).2 = true) : (made l rolled [raw, fine]).1.coarseFrom = 0 := by
  unfold made at h ⊢
  by_cases c : (addAll zero l).2 = false
  · rw [if_pos c] at h; cases h
  rw [if_neg c] at h ⊢
  by_cases c2 : (roll (addAll zero l).1 rolled).2 ≠ 0
  · rw [if_pos c2] at h; cases h
  rw [if_neg c2] at h ⊢
  have e0 : (roll (addAll zero l).1 rolled).1.coarseFrom = 0 := by
    obtain ⟨_, _, _, _, _, e⟩ := roll_done (Classical.not_not.1 c2)
    rw [e]
    exact addAll_cf l zero
  generalize (roll (addAll zero l).1 rolled).1 = y at e0 h ⊢
  rw [forgetAll] at h ⊢
  by_cases c3 : (forget y 0 raw).2 ≠ 0
  · rw [if_pos c3] at h; cases h
  rw [if_neg c3] at h ⊢
  have e1 : (forget y 0 raw).1.coarseFrom = 0 := by
    obtain ⟨_, _, _, _, e⟩ := forget_done (Classical.not_not.1 c3)
    rw [e, forgot, if_pos rfl]; exact e0
  generalize (forget y 0 raw).1 = y2 at e1 h ⊢
  rw [forgetAll] at h ⊢
  by_cases c4 : (forget y2 (0 + 1) fine).2 ≠ 0
  · rw [if_pos c4] at h; cases h
  rw [if_neg c4, forgetAll]
  obtain ⟨_, _, _, _, e⟩ := forget_done (Classical.not_not.1 c4)
  rw [e, forgot, if_neg (by decide), if_pos (by decide)]
  exact e1
end
theorem raw_cost {z : Shelf} {all : List Sample} {f t : Int} (h : Keep z all) (hc : covers z [⟨0, f, t⟩] f t = true) : costs z [⟨0, f, t⟩] = (Roll.inT all f t).length := by
  obtain ⟨hm, _⟩ := covers_all _ _ _ hc ⟨0, f, t⟩ (by simp)
  have hlt := may_lt hm
  simp only at hlt
  rw [may0 (by simp only; omega) rfl] at hm
  have : costs z [⟨0, f, t⟩] = partCost z ⟨0, f, t⟩ := by simp [costs]
  rw [this, (partSum_0 (z := z) (p := ⟨0, f, t⟩) (by simp) (by simp)).2, h.raw, Roll.inT_from hm.1]
/-! ## Nothing is gone until the coarse is -/
theorem pick_there {z : Shelf} (ho : OK z) (hc : z.coarseFrom = 0) {g t : Int} (h0 : 0 ≤ g) (ht : g < t) (h1 : t ≤ 1000000) (k1 : g < z.coarseTo → g % 60 = 0) (k2 : g < z.fineTo → g % 10 = 0) (t1 : t < z.coarseTo → t % 60 = 0) (t2 : t < z.fineTo → t % 10 = 0) :
    ¬ (pick z g t).tier < 0 ∧ ((pick z g t).to < z.coarseTo → (pick z g t).to % 60 = 0) ∧ ((pick z g t).to < z.fineTo → (pick z g t).to % 10 = 0) := by
  obtain ⟨⟨g1, g2, g3, g4⟩, ⟨g5, g6, g7, g8, g9⟩, g10, g11, g12, g13, g14⟩ := ho.rng
  have s2 : Roll.step 2 = 60 := rfl
  have s1 : Roll.step 1 = 10 := rfl
  by_cases c2 : g + Roll.step 2 ≤ t ∧ may z ⟨2, g, g + Roll.step 2⟩
  · rw [pick_2 c2.1 c2.2]
    have hm := c2.2
    rw [may2 (by simp only; omega) rfl] at hm
    simp only [emod_tmod h0, emod_tmod (show (0 : Int) ≤ g + Roll.step 2 by omega)] at hm
    exact ⟨by simp, fun _ => hm.2.2.2, fun _ => by have := hm.2.2.2; simp only; omega⟩
  have hgc : z.coarseTo ≤ g := by
    rcases Int.lt_or_le g z.coarseTo with h | h
    · exfalso
      have := k1 h
      have h60 : g + 60 ≤ t := by
        rcases Int.lt_or_le t z.coarseTo with h3 | h3
        · have := t1 h3; omega
        · omega
      refine c2 ⟨by omega, (may2 (by simp only; omega) rfl).2 ?_⟩
      simp only [emod_tmod h0, emod_tmod (show (0 : Int) ≤ g + Roll.step 2 by omega)]
      omega
    · exact h
  by_cases c1 : g + Roll.step 1 ≤ t ∧ may z ⟨1, g, g + Roll.step 1⟩
  · rw [pick_1 c2 c1.1 c1.2]
    have hm := c1.2
    rw [may1 (by simp only; omega) rfl] at hm
    simp only [emod_tmod h0, emod_tmod (show (0 : Int) ≤ g + Roll.step 1 by omega)] at hm
    exact ⟨by simp, fun h => by simp only at h; omega, fun _ => hm.2.2.2⟩
  have hgf : z.fineTo ≤ g := by
    rcases Int.lt_or_le g z.fineTo with h | h
    · exfalso
      have := k2 h
      have h10 : g + 10 ≤ t := by
        rcases Int.lt_or_le t z.fineTo with h3 | h3
        · have := t2 h3; omega
        · omega
      refine c1 ⟨by omega, (may1 (by simp only; omega) rfl).2 ?_⟩
      simp only [emod_tmod h0, emod_tmod (show (0 : Int) ≤ g + Roll.step 1 by omega)]
      omega
    · exact h
  have hmn : mn (g - g % 10 + 10) t ≤ t := mn_le _ _
  have hgm : g < mn (g - g % 10 + 10) t := by unfold mn; split <;> omega
  have c0 : mn (g - g % 10 + 10) t ≤ t ∧ may z ⟨0, g, mn (g - g % 10 + 10) t⟩ := ⟨hmn, (may0 (by simp only; omega) rfl).2 (by simp only; omega)⟩
  rw [pick_0 c2 c1 c0.1 c0.2]
  exact ⟨by simp, fun h => by simp only at h; omega, fun h => by simp only at h; omega⟩
theorem chooseL_there {z : Shelf} (ho : OK z) (hc : z.coarseFrom = 0) {t : Int} (h1 : t ≤ 1000000) (t1 : t < z.coarseTo → t % 60 = 0) (t2 : t < z.fineTo → t % 10 = 0) : ∀ (n : Nat) (g : Int) (out : List Part), (t - g).toNat ≤ n → 0 ≤ g → (g < z.coarseTo → g % 60 = 0) → (g < z.fineTo → g % 10 = 0) → chooseL z g t out ≠ none
  | n, g, out, hn, h0, k1, k2 => by
    by_cases c : g < t
    · obtain ⟨p1, p2, p3⟩ := pick_there ho hc h0 c h1 k1 k2 t1 t2
      rw [chooseL_next c p1]
      have hto := pick_to p1
      match n, hn with
      | 0, hn => omega
      | n + 1, hn => exact chooseL_there ho hc h1 t1 t2 n _ _ (by omega) (by omega) p2 p3
    · rw [chooseL_end c]; simp
theorem choose_there {z : Shelf} (ho : OK z) (hc : z.coarseFrom = 0) {f t : Int} (h0 : 0 ≤ f) (h2 : f ≤ t) (h1 : t ≤ 1000000) (t1 : t < z.coarseTo → t % 60 = 0) (t2 : t < z.fineTo → t % 10 = 0) (hf : f % 60 = 0) : (choose z f t).2 = 0 := by
  have := chooseL_there ho hc h1 t1 t2 (t - f).toNat f [] (Nat.le_refl _) h0 (fun _ => hf) (fun _ => by omega)
  rw [choose, if_neg (by simp [ho.wrong]), if_neg (by omega)]
  cases h : chooseL z f t [] with
  | none => exact absurd h this
  | some l => rfl
theorem choose_err {z : Shelf} (ho : OK z) {f t : Int} (h0 : 0 ≤ f) (h2 : f ≤ t) (h1 : t ≤ 1000000) (h : (choose z f t).2 ≠ 0) : (choose z f t).2 = 10 := by
  rw [choose, if_neg (by simp [ho.wrong]), if_neg (by omega)] at h ⊢
  cases hc : chooseL z f t [] with
  | none => rfl
  | some l => rw [hc] at h; exact absurd rfl h
end Sh
end Go.Proofs.Ytnbkennlmnnbeaa
