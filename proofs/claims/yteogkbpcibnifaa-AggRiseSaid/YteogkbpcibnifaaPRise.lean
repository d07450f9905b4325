/-
  What never falls rises by all.
-/
import Derived.Test.YteogkbpcibnifaaPAgg
namespace Go.Proofs.Yteogkbpcibnifaa
namespace Agg
def isum : List Int → Int
  | [] => 0
  | x :: l => x + isum l
theorem isum_snoc (x : Int) : ∀ l, isum (l ++ [x]) = isum l + x
  | [] => by simp [isum]
  | y :: l => by simp only [List.cons_append, isum, isum_snoc x l]; omega
theorem isum_succ {l : List Int} {k : Nat} {x : Int} (h : l[k]? = some x) : isum (l.take (k + 1)) = isum (l.take k) + x := by
  rw [List.take_add_one, h]; exact isum_snoc x _
theorem isum_bound : ∀ (l : List Int), (∀ x ∈ l, 0 ≤ x ∧ x ≤ 1000) → 0 ≤ isum l ∧ isum l ≤ 1000 * l.length
  | [], _ => by simp [isum]
  | x :: l, h => by
    have h1 := h x (List.mem_cons_self ..)
    have h2 := isum_bound l fun y hy => h y (List.mem_cons_of_mem _ hy)
    simp only [isum, List.length_cons]; omega
def outs (l : List Int) : List Sample := (List.range l.length).map fun (i : Nat) => ⟨(i : Int), isum (l.take (i + 1))⟩
theorem outs_len (l : List Int) : (outs l).length = l.length := by simp [outs]
theorem outs_snoc (l : List Int) (x : Int) : outs (l ++ [x]) = outs l ++ [⟨l.length, isum l + x⟩] := by
  unfold outs
  rw [List.length_append, List.length_singleton, List.range_succ, List.map_append]
  congr 1
  · apply List.map_congr_left
    intro i hi
    have hi' : i < l.length := by simpa using hi
    rw [List.take_append_of_le_length (by omega)]
  · simp only [List.map_cons, List.map_nil]
    rw [List.take_of_length_le (by simp), isum_snoc]
theorem outs_succ {l : List Int} {k : Nat} {x : Int} (h : l[k]? = some x) : outs (l.take (k + 1)) = outs (l.take k) ++ [⟨k, isum (l.take k) + x⟩] := by
  have hk : k < l.length := (List.getElem?_eq_some_iff.1 h).1
  rw [List.take_add_one, h]
  show outs (l.take k ++ [x]) = _
  rw [outs_snoc]
  have : (l.take k).length = k := by simp; omega
  rw [this]
def okRise (l : List Int) : Prop := l.length ≤ 1001 ∧ ∀ x ∈ l, 0 ≤ x ∧ x ≤ 1000
instance (l : List Int) : Decidable (okRise l) := by unfold okRise; infer_instance
def riseOf (l : List Int) : List Sample × Int := if okRise l then (outs l, isum l) else ([], -1)
theorem riseOf_ok {l : List Int} (h : okRise l) : riseOf l = (outs l, isum l) := if_pos h
theorem riseOf_bad {l : List Int} (h : ¬ okRise l) : riseOf l = ([], -1) := if_neg h
theorem riseOf_done {l : List Int} {k : Nat} (h1 : k ≤ 1001) (h2 : ∀ x ∈ l.take k, 0 ≤ x ∧ x ≤ 1000) (hk : k ≤ l.length) (hl : l.length ≤ k) : riseOf l = (outs (l.take k), isum (l.take k)) := by
  obtain rfl : k = l.length := by omega
  rw [List.take_length] at h2
  rw [List.take_length]; exact riseOf_ok ⟨h1, h2⟩
theorem riseOf_stop {l : List Int} {k : Nat} {x : Int} (h : l[k]? = some x) (hb : x < 0 ∨ 1000 < x ∨ 1000 < (k : Int)) : riseOf l = ([], -1) := by
  have hk : k < l.length := (List.getElem?_eq_some_iff.1 h).1
  refine riseOf_bad fun ⟨g1, g2⟩ => ?_
  have := g2 x (List.mem_of_getElem? h)
  omega
theorem rise_all (l : List Int) : l ≠ [] → okRise l → ∃ s, (outs l)[0]? = some s ∧ 0 ≤ s.value ∧ s.value ≤ isum l ∧ (of (outs l)).rise = isum l - s.value ∧ (of (outs l)).first = s.value ∧ (of (outs l)).last = isum l ∧ (of (outs l)).count = l.length := by
  induction l using List.reverseRecOn' with
  | nil => intro h; exact absurd rfl h
  | snoc l x ih =>
    intro _ ⟨h1, h2⟩
    have hlen : (l ++ [x]).length = l.length + 1 := by simp
    rw [hlen] at h1
    have hx := h2 x (by simp)
    have hl : ∀ y ∈ l, 0 ≤ y ∧ y ≤ 1000 := fun y hy => h2 y (List.mem_append_left _ hy)
    have hb := isum_bound l hl
    rw [outs_snoc, isum_snoc, of_snoc, hlen]
    by_cases hne : l = []
    · subst hne
      refine ⟨⟨0, x⟩, by simp [outs, isum], ?_⟩
      simp only [show outs [] = [] from rfl, of_nil, none_join, one, isum]
      simp; omega
    · obtain ⟨s, h0, g1, g2, g3, g4, g5, g6⟩ := ih hne ⟨by omega, hl⟩
      have hp : 0 < l.length := List.length_pos_iff.2 hne
      refine ⟨s, by rw [List.getElem?_append_left (by rw [outs_len]; exact hp)]; exact h0, g1, by omega, ?_⟩
      unfold join
      rw [if_neg (by omega), if_neg (by simp [one])]
      simp only [one, g3, g4, g5, g6, rise]
      rw [if_neg (by omega), wr_id (n := isum l + x - isum l) (by omega) (by omega), wr_id (n := isum l - s.value + (isum l + x - isum l)) (by omega) (by omega), wr_id (n := isum l - s.value + (isum l + x - isum l) + 0) (by omega) (by omega), wr_id (n := (l.length : Int) + 1) (by omega) (by omega)]
      refine ⟨by omega, trivial, trivial, by simp⟩
theorem okRise_of {l : List Int} (h : (riseOf l).1 ≠ []) : okRise l ∧ l ≠ [] := by
  by_cases hk : okRise l
  · refine ⟨hk, ?_⟩
    rintro rfl
    exact h (by rw [riseOf_ok hk]; rfl)
  · exact absurd (by rw [riseOf_bad hk]) h
theorem riseOf_one {l : List Int} {s : Sample} (h : (riseOf l).1 ≠ []) (hs : (riseOf l).1[0]? = some s) : (of (riseOf l).1).rise = (riseOf l).2 - s.value ∧ 0 ≤ s.value ∧ s.value ≤ (riseOf l).2 ∧ (riseOf l).2 ≤ 1001000 ∧ (riseOf l).1.length ≤ 1001 := by
  obtain ⟨hk, hne⟩ := okRise_of h
  obtain ⟨t, h0, g1, g2, g3, _⟩ := rise_all l hne hk
  have hb := isum_bound l hk.2
  have := hk.1
  rw [riseOf_ok hk] at hs ⊢
  obtain rfl : t = s := Option.some.inj (h0.symm.trans hs)
  exact ⟨g3, g1, g2, by simp only []; omega, by simp only []; rw [outs_len]; omega⟩
theorem riseOf_two {a b : List Int} {s t : Sample} (ha : (riseOf a).1 ≠ []) (hb : (riseOf b).1 ≠ []) (hs : (riseOf a).1[0]? = some s) (ht : (riseOf b).1[0]? = some t) (hlt : t.value < (riseOf a).2) : (of ((riseOf a).1 ++ (riseOf b).1)).rise = (riseOf a).2 - s.value + (riseOf b).2 := by
  obtain ⟨ka, na⟩ := okRise_of ha
  obtain ⟨kb, nb⟩ := okRise_of hb
  obtain ⟨s', h0, g1, g2, g3, g4, g5, g6⟩ := rise_all a na ka
  obtain ⟨t', k0, f1, f2, f3, f4, f5, f6⟩ := rise_all b nb kb
  have ba := isum_bound a ka.2
  have bb := isum_bound b kb.2
  have la := ka.1
  have lb := kb.1
  rw [riseOf_ok ka] at hs hlt ⊢
  rw [riseOf_ok kb] at ht ⊢
  obtain rfl : s' = s := Option.some.inj (h0.symm.trans hs)
  obtain rfl : t' = t := Option.some.inj (k0.symm.trans ht)
  have pa := List.length_pos_iff.2 na
  have pb := List.length_pos_iff.2 nb
  simp only at hlt ⊢
  rw [of_append _ _ (by rw [outs_len, outs_len]; omega)]
  unfold join
  rw [if_neg (by omega), if_neg (by omega)]
  simp only [g3, g5, f3, f4, rise]
  rw [if_pos hlt, wr_id (n := isum a - s'.value + t'.value) (by omega) (by omega), wr_id (by omega) (by omega)]
  omega
end Agg
end Go.Proofs.Yteogkbpcibnifaa
