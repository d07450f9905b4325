/-
  Shelves: whatever is done, a right shelf stays right; what is done twice is done once.
-/
import Derived.Test.YtnbkennlmnnbeaaPShelf3
namespace Go.Proofs.Ytnbkennlmnnbeaa
namespace Codec
theorem wrong_right {l : List Sample} (h : Right l) : (wrong l).err = 0 := by
  have key : ∀ (l : List Sample) (k : Nat) (p : Option Sample), (∀ x ∈ l, ¬ badRange x) → l.Pairwise (fun x y => x.time < y.time) → (∀ q, p = some q → ∀ x ∈ l, q.time < x.time) → wrongFrom k p l = ⟨0, 0⟩ := by
    intro l
    induction l with
    | nil => intros; rfl
    | cons s r ih =>
      intro k p h1 h2 h3
      unfold wrongFrom
      rw [if_neg (h1 s (by simp))]
      have hb : ¬ (notAhead p s = true) := by
        cases p with
        | none => simp [notAhead]
        | some q => have := h3 q rfl s (by simp); simp [notAhead]; omega
      rw [if_neg hb]
      have hp := List.pairwise_cons.1 h2
      exact ih (k + 1) (some s) (fun x hx => h1 x (by simp [hx])) hp.2 (by rintro q ⟨⟩ x hx; exact hp.1 x hx)
  have hl := h.len
  rw [wrong, if_neg (by omega), key l 0 none (fun x hx => by have := h.rng x hx; unfold badRange; omega) h.inc (by simp)]
theorem Right.filter {l : List Sample} (h : Right l) (p : Sample → Bool) : Right (l.filter p) :=
  ⟨Nat.le_trans (List.length_filter_le ..) h.len, fun x hx => h.rng x (List.mem_filter.1 hx).1, h.inc.sublist List.filter_sublist⟩
theorem one_right {x : Sample} (h : (wrong [x]).err = 0) : 0 ≤ x.time ∧ x.time ≤ 1000000 ∧ -1000000000 ≤ x.value ∧ x.value ≤ 1000000000 := (right_of h).rng x (by simp)
end Codec
namespace Sh
section
variable {z : Shelf} {x : Sample} {to tier : Int}
theorem ok_iff : wrong z = 0 ↔ OK z := ⟨fun h => ok_of (by simp [h]), OK.wrong⟩
theorem mk_ok (h1 : Names.wrong z.series = 0) (h2 : Codec.Right z.raw) (h3 : Roll.Tier z.fine 10 z.fineFrom z.fineTo) (h4 : Roll.Tier z.coarse 60 z.coarseFrom z.coarseTo) (h5 : z.fine.length ≤ 500) (h6 : z.coarse.length ≤ 500) (h7 : times z) (h8 : ∀ x ∈ z.raw, z.rawFrom ≤ x.time) : OK z := by
  obtain ⟨⟨t1, t2⟩, t3⟩ := h7
  have t1' := t1; have t2' := t2
  unfold badT at t1 t2
  simp only at t1 t2
  exact ⟨h1, Codec.wrong_right h2, Roll.wrong_right (h3.right (.inl rfl) (by omega) (by omega) h5) (by decide), Roll.wrong_right (h4.right (.inr rfl) (by omega) (by omega) h6) (by decide),
    ⟨⟨⟨t1', t2'⟩, t3⟩, by rw [head_all (Roll.rises_of h2)]; exact List.all_eq_true.2 fun x hx => decide_eq_true (h8 x hx), h3.within, h4.within⟩⟩
theorem OK.rawAll (h : OK z) : ∀ x ∈ z.raw, z.rawFrom ≤ x.time := by
  have := h.fit.2.1
  rw [head_all h.rawRises] at this
  exact fun x hx => of_decide_eq_true (List.all_eq_true.1 this x hx)
theorem times_iff {z : Shelf} : times z ↔ (0 ≤ z.rawFrom ∧ z.rawFrom ≤ z.fineTo ∧ z.fineFrom ≤ z.coarseTo ∧ z.coarseTo ≤ z.fineTo) ∧ (0 ≤ z.fineFrom ∧ z.fineFrom ≤ z.fineTo ∧ z.fineTo ≤ 1000000 ∧ z.fineFrom % 10 = 0 ∧ z.fineTo % 10 = 0) ∧ 0 ≤ z.coarseFrom ∧ z.coarseFrom ≤ z.coarseTo ∧ z.coarseTo ≤ 1000000 ∧ z.coarseFrom % 60 = 0 ∧ z.coarseTo % 60 = 0 := by
  unfold times badT; simp only; omega
/-- how a call ended well -/
theorem append_done (h : (append z x).2 = 0) : OK z ∧ (Codec.wrong [x]).err = 0 ∧ ¬ (x.time < z.fineTo ∨ late z.raw x = true) ∧ z.raw.length ≠ 500 ∧ append z x = (⟨z.series, z.raw ++ [x], z.fine, z.coarse, z.rawFrom, z.fineFrom, z.fineTo, z.coarseFrom, z.coarseTo⟩, 0) := by
  unfold append at h ⊢
  by_cases h1 : wrong z ≠ 0
  · rw [if_pos h1] at h; exact absurd h h1
  rw [if_neg h1] at h ⊢
  by_cases h2 : (Codec.wrong [x]).err ≠ 0
  · rw [if_pos h2] at h; exact absurd h h2
  rw [if_neg h2] at h ⊢
  by_cases h3 : x.time < z.fineTo ∨ late z.raw x = true
  · rw [if_pos h3] at h; exact absurd h (by decide)
  rw [if_neg h3] at h ⊢
  by_cases h4 : z.raw.length = 500
  · rw [if_pos h4] at h; exact absurd h (by decide)
  rw [if_neg h4]
  exact ⟨ok_of h1, Classical.not_not.1 h2, h3, h4, rfl⟩
def rolled (z : Shelf) (to : Int) : Shelf := ⟨z.series, z.raw, fineL z to, coarseL z to, z.rawFrom, z.fineFrom, fineTo z to, z.coarseFrom, coarseTo z to⟩
theorem roll_done (h : (roll z to).2 = 0) : OK z ∧ 0 ≤ to ∧ to ≤ 1000000 ∧ (fineL z to).length ≤ 500 ∧ (coarseL z to).length ≤ 500 ∧ roll z to = (rolled z to, 0) := by
  unfold roll at h ⊢
  by_cases h1 : wrong z ≠ 0
  · rw [if_pos h1] at h; exact absurd h h1
  rw [if_neg h1] at h ⊢
  by_cases h2 : to < 0 ∨ 1000000 < to
  · rw [if_pos h2] at h; exact absurd h (by decide)
  rw [if_neg h2] at h ⊢
  by_cases h3 : 500 < (fineL z to).length ∨ 500 < (coarseL z to).length
  · rw [if_pos h3] at h; exact absurd h (by decide)
  rw [if_neg h3]
  exact ⟨ok_of h1, by omega, by omega, by omega, by omega, rfl⟩
theorem roll_mk (h : OK z) (h1 : 0 ≤ to) (h2 : to ≤ 1000000) (h3 : (fineL z to).length ≤ 500) (h4 : (coarseL z to).length ≤ 500) : roll z to = (rolled z to, 0) := by
  rw [roll, if_neg (by simp [h.wrong]), if_neg (by omega), if_neg (by omega)]; rfl
def forgot (z : Shelf) (tier to : Int) : Shelf :=
  if tier = 0 then ⟨z.series, fromS z.raw (rawF z to), z.fine, z.coarse, rawF z to, z.fineFrom, z.fineTo, z.coarseFrom, z.coarseTo⟩
  else if tier = 1 then ⟨z.series, z.raw, fromB z.fine (fineF z to), z.coarse, z.rawFrom, fineF z to, z.fineTo, z.coarseFrom, z.coarseTo⟩
  else ⟨z.series, z.raw, z.fine, fromB z.coarse (coarseF z to), z.rawFrom, z.fineFrom, z.fineTo, coarseF z to, z.coarseTo⟩
theorem forget_done (h : (forget z tier to).2 = 0) : OK z ∧ 0 ≤ to ∧ to ≤ 1000000 ∧ (tier = 0 ∨ tier = 1 ∨ tier = 2) ∧ forget z tier to = (forgot z tier to, 0) := by
  unfold forget forgot at *
  by_cases h1 : wrong z ≠ 0
  · rw [if_pos h1] at h; exact absurd h h1
  rw [if_neg h1] at h ⊢
  by_cases h2 : to < 0 ∨ 1000000 < to
  · rw [if_pos h2] at h; exact absurd h (by decide)
  rw [if_neg h2] at h ⊢
  by_cases h3 : tier = 0
  · rw [if_pos h3, if_pos h3]; exact ⟨ok_of h1, by omega, by omega, .inl h3, rfl⟩
  rw [if_neg h3] at h ⊢
  by_cases h4 : tier = 1
  · rw [if_pos h4, if_neg h3, if_pos h4]; exact ⟨ok_of h1, by omega, by omega, .inr (.inl h4), rfl⟩
  rw [if_neg h4] at h ⊢
  by_cases h5 : tier = 2
  · rw [if_pos h5, if_neg h3, if_neg h4]; exact ⟨ok_of h1, by omega, by omega, .inr (.inr h5), rfl⟩
  rw [if_neg h5] at h; exact absurd h (by decide)
theorem forget_mk (h : OK z) (h1 : 0 ≤ to) (h2 : to ≤ 1000000) (h3 : tier = 0 ∨ tier = 1 ∨ tier = 2) : forget z tier to = (forgot z tier to, 0) := by
  rw [forget, if_neg (by simp [h.wrong]), if_neg (by omega), forgot]
  rcases h3 with rfl | rfl | rfl <;> rfl

/-- times do not go back -/
def Ahead (a b : Shelf) : Prop := a.rawFrom ≤ b.rawFrom ∧ a.fineFrom ≤ b.fineFrom ∧ a.fineTo ≤ b.fineTo ∧ a.coarseFrom ≤ b.coarseFrom ∧ a.coarseTo ≤ b.coarseTo
theorem append_right (h : (append z x).2 = 0) : OK (append z x).1 ∧ Ahead z (append z x).1 := by
  obtain ⟨ho, hx, hl, hn, e⟩ := append_done h
  rw [e]
  have hr := ho.rawR
  have hx' := Codec.one_right hx
  have hln := ho.lens
  obtain ⟨⟨g1, g2, g3, g4⟩, _⟩ := ho.rng
  have hall : ∀ y ∈ z.raw, y.time < x.time := fun y hy => by
    have h1 := late_any ho.rawRises x
    have h2 : ¬ (late z.raw x = true) := fun g => hl (.inr g)
    rw [h1, List.any_eq_true] at h2
    have : ¬ (x.time ≤ y.time) := fun g => h2 ⟨y, hy, decide_eq_true g⟩
    omega
  refine ⟨mk_ok ho.series ⟨by simp; omega, fun y hy => ?_, ?_⟩ ho.fineT ho.coarseT hln.2.2.1 hln.2.2.2 ho.fit.1 fun y hy => ?_, ⟨by simp, by simp, by simp, by simp, by simp⟩⟩
  · rcases List.mem_append.1 hy with h1 | h1
    · exact hr.rng y h1
    · obtain rfl : y = x := by simpa using h1
      exact hx'
  · exact List.pairwise_append.2 ⟨hr.inc, by simp, fun y hy w hw => by obtain rfl : w = x := by simpa using hw
                                                                       exact hall y hy⟩
  · rcases List.mem_append.1 hy with h1 | h1
    · exact ho.rawAll y h1
    · obtain rfl : y = x := by simpa using h1
      simp only; omega
theorem rolled_ok (h : OK z) (h1 : 0 ≤ to) (h2 : to ≤ 1000000) (h3 : (fineL z to).length ≤ 500) (h4 : (coarseL z to).length ≤ 500) : OK (rolled z to) := by
  obtain ⟨⟨g1, g2, g3, g4⟩, ⟨g5, g6, g7, g8, g9⟩, g10, g11, g12, g13, g14⟩ := h.rng
  obtain ⟨f1, f2, f3, f4⟩ := fineTo_rng h h1 h2
  obtain ⟨c1, c2, c3⟩ := coarseTo_rng h h1 h2
  exact mk_ok h.series h.rawR (fineL_tier h h1 h2) (coarseL_tier h h1 h2) h3 h4 (times_iff.2 (by simp only [rolled]; omega)) h.rawAll
theorem roll_right (h : (roll z to).2 = 0) : OK (roll z to).1 ∧ Ahead z (roll z to).1 := by
  obtain ⟨ho, h1, h2, h3, h4, e⟩ := roll_done h
  rw [e]
  obtain ⟨f1, f2, f3, f4⟩ := fineTo_rng ho h1 h2
  obtain ⟨c1, c2, c3⟩ := coarseTo_rng ho h1 h2
  exact ⟨rolled_ok ho h1 h2 h3 h4, by simp [rolled], by simp [rolled], by simpa [rolled] using f1, by simp [rolled], by simpa [rolled] using c1⟩
theorem fromB_tier {l : List Bucket} {st lo hi f : Int} (h : Roll.Tier l st lo hi) : Roll.Tier (fromB l f) st f hi :=
  ⟨fun x hx => by
    obtain ⟨h1, h2⟩ := List.mem_filter.1 hx
    have := h.ok x h1
    simp at h2
    omega, h.inc.sublist List.filter_sublist⟩
theorem rawF_rng (h : OK z) : z.rawFrom ≤ rawF z to ∧ rawF z to ≤ z.fineTo := by
  have := h.rng
  unfold rawF mx mn; split <;> split <;> omega
theorem fineF_rng (h : OK z) : z.fineFrom ≤ fineF z to ∧ fineF z to ≤ z.coarseTo ∧ fineF z to % 10 = 0 := by
  have := h.rng
  unfold fineF mx mn; split <;> split <;> omega
theorem coarseF_rng (h : OK z) : z.coarseFrom ≤ coarseF z to ∧ coarseF z to ≤ z.coarseTo ∧ coarseF z to % 60 = 0 := by
  have := h.rng
  unfold coarseF mx mn; split <;> split <;> omega
theorem forgot_ok (h : OK z) (ht : tier = 0 ∨ tier = 1 ∨ tier = 2) : OK (forgot z tier to) ∧ Ahead z (forgot z tier to) := by
  obtain ⟨⟨g1, g2, g3, g4⟩, ⟨g5, g6, g7, g8, g9⟩, g10, g11, g12, g13, g14⟩ := h.rng
  have hln := h.lens
  have a1 := rawF_rng (to := to) h; have a2 := fineF_rng (to := to) h; have a3 := coarseF_rng (to := to) h
  unfold forgot
  rcases ht with rfl | rfl | rfl
  · rw [if_pos rfl]
    refine ⟨mk_ok h.series (h.rawR.filter _) h.fineT h.coarseT hln.2.2.1 hln.2.2.2 (times_iff.2 (by simp only; omega)) fun x hx => ?_, by unfold Ahead; simp only; omega⟩
    have := (List.mem_filter.1 hx).2
    simpa using this
  · rw [if_neg (by decide), if_pos rfl]
    exact ⟨mk_ok h.series h.rawR (fromB_tier h.fineT) h.coarseT (Nat.le_trans (fromB_len _ _) hln.2.2.1) hln.2.2.2 (times_iff.2 (by simp only; omega)) h.rawAll, by unfold Ahead; simp only; omega⟩
  · rw [if_neg (by decide), if_neg (by decide)]
    exact ⟨mk_ok h.series h.rawR h.fineT (fromB_tier h.coarseT) hln.2.2.1 (Nat.le_trans (fromB_len _ _) hln.2.2.2) (times_iff.2 (by simp only; omega)) h.rawAll, by unfold Ahead; simp only; omega⟩
theorem forget_right (h : (forget z tier to).2 = 0) : OK (forget z tier to).1 ∧ Ahead z (forget z tier to).1 := by
  obtain ⟨ho, h1, h2, h3, e⟩ := forget_done h
  rw [e]
  exact forgot_ok ho h3

/-! ## Twice -/
theorem roll_twice (h : (roll z to).2 = 0) : roll (roll z to).1 to = ((roll z to).1, 0) := by
  obtain ⟨ho, h1, h2, h3, h4, e⟩ := roll_done h
  rw [e]
  have hk := rolled_ok ho h1 h2 h3 h4
  have e1 : fineTo (rolled z to) to = fineTo z to := by
    show mx (fineTo z to) (to - to % 10) = fineTo z to
    unfold fineTo mx; (repeat' split) <;> omega
  have e2 : coarseTo (rolled z to) to = coarseTo z to := by
    show mx (coarseTo z to) (fineTo (rolled z to) to - fineTo (rolled z to) to % 60) = coarseTo z to
    rw [e1]
    unfold coarseTo mx; (repeat' split) <;> omega
  have e3 : fineL (rolled z to) to = fineL z to := by
    show fineL z to ++ Roll.up (Roll.inT z.raw (fineTo z to) (fineTo (rolled z to) to)) 1 = fineL z to
    rw [e1]
    have : Roll.inT z.raw (fineTo z to) (fineTo z to) = [] := Roll.win_self (Int.le_refl _)
    rw [this]; simp [Roll.up_one, Roll.ups]
  have e4 : coarseL (rolled z to) to = coarseL z to := by
    show coarseL z to ++ Roll.greater (bIn (fineL (rolled z to) to) (coarseTo z to) (coarseTo (rolled z to) to)) = coarseL z to
    rw [e2]
    have : bIn (fineL (rolled z to) to) (coarseTo z to) (coarseTo z to) = [] := Roll.win_self (Int.le_refl _)
    rw [this]; simp [Roll.greater]
  rw [roll_mk hk h1 h2 (by rw [e3]; exact h3) (by rw [e4]; exact h4)]
  have : rolled (rolled z to) to = rolled z to := by
    show (⟨z.series, z.raw, fineL (rolled z to) to, coarseL (rolled z to) to, z.rawFrom, z.fineFrom, fineTo (rolled z to) to, z.coarseFrom, coarseTo (rolled z to) to⟩ : Shelf) = rolled z to
    rw [e1, e2, e3, e4]; rfl
  rw [this]
theorem fromS_twice (l : List Sample) (f : Int) : fromS (fromS l f) f = fromS l f := by simp [fromS, List.filter_filter]
theorem fromB_twice (l : List Bucket) (f : Int) : fromB (fromB l f) f = fromB l f := by simp [fromB, List.filter_filter]
theorem forget_twice (h : (forget z tier to).2 = 0) : forget (forget z tier to).1 tier to = ((forget z tier to).1, 0) := by
  obtain ⟨ho, h1, h2, h3, e⟩ := forget_done h
  rw [e]
  rw [forget_mk (forgot_ok ho h3).1 h1 h2 h3]
  congr 1
  rcases h3 with rfl | rfl | rfl
  · unfold forgot; rw [if_pos rfl, if_pos rfl]
    have : mx (rawF z to) (mn to z.fineTo) = rawF z to := by unfold rawF mx; (repeat' split) <;> omega
    show (⟨z.series, fromS (fromS z.raw (rawF z to)) (mx (rawF z to) (mn to z.fineTo)), z.fine, z.coarse, mx (rawF z to) (mn to z.fineTo), z.fineFrom, z.fineTo, z.coarseFrom, z.coarseTo⟩ : Shelf) = _
    rw [this, fromS_twice]
  · unfold forgot; rw [if_neg (by decide), if_pos rfl, if_neg (by decide), if_pos rfl]
    have : mx (fineF z to) (mn to z.coarseTo - mn to z.coarseTo % 10) = fineF z to := by unfold fineF mx; (repeat' split) <;> omega
    show (⟨z.series, z.raw, fromB (fromB z.fine (fineF z to)) (mx (fineF z to) (mn to z.coarseTo - mn to z.coarseTo % 10)), z.coarse, z.rawFrom, mx (fineF z to) (mn to z.coarseTo - mn to z.coarseTo % 10), z.fineTo, z.coarseFrom, z.coarseTo⟩ : Shelf) = _
    rw [this, fromB_twice]
  · unfold forgot; rw [if_neg (by decide), if_neg (by decide), if_neg (by decide), if_neg (by decide)]
    have : mx (coarseF z to) (mn to z.coarseTo - mn to z.coarseTo % 60) = coarseF z to := by unfold coarseF mx; (repeat' split) <;> omega
    show (⟨z.series, z.raw, z.fine, fromB (fromB z.coarse (coarseF z to)) (mx (coarseF z to) (mn to z.coarseTo - mn to z.coarseTo % 60)), z.rawFrom, z.fineFrom, z.fineTo, mx (coarseF z to) (mn to z.coarseTo - mn to z.coarseTo % 60), z.coarseTo⟩ : Shelf) = _
    rw [this, fromB_twice]
end
end Sh
end Go.Proofs.Ytnbkennlmnnbeaa
