/-
  How the document's answer reads and writes.
-/
import Derived.Test.YtldecdningjkoaaPCodec2
namespace Go.Proofs.Ytldecdningjkoaa
namespace Codec
theorem zig_int (n : Int) : (if n < 0 then (((-2) * n) - 1) else (2 * n)) = (zig n : Int) := by
  unfold zig; split <;> omega
theorem low_or (u : Nat) : UInt8.ofNat (128 + (u % 128)) = UInt8.ofNat u ||| 128 := by
  apply UInt8.toNat_inj.1
  rw [or128, UInt8.toNat_ofNat']; omega
def posOf (b : List UInt8) (a : Nat) : Nat := b.length - (numR (b.drop a)).length
theorem dec_rest : ∀ (b : List UInt8) (i u v : Nat) (r : List UInt8), dec i u b = some (v, r) → ∃ j, j ≤ b.length ∧ r = b.drop j
  | [], i, u, v, r, h => by simp [dec] at h
  | c :: b, i, u, v, r, h => by
    rw [dec] at h
    split at h
    · cases h
    · split at h
      · obtain ⟨j, h1, h2⟩ := dec_rest b _ _ v r h
        exact ⟨j + 1, by simp; omega, by rw [h2]; rfl⟩
      · split at h
        · cases h
        · cases h; exact ⟨1, by simp, rfl⟩
theorem numR_drop (b : List UInt8) : ∃ j, j ≤ b.length ∧ numR b = b.drop j := by
  unfold numR
  split
  · rename_i u r h; exact dec_rest b 0 0 u r h
  · exact ⟨0, Nat.zero_le _, rfl⟩
theorem posOf_spec {b : List UInt8} {a : Nat} (ha : a ≤ b.length) : posOf b a ≤ b.length ∧ a ≤ posOf b a ∧ b.drop (posOf b a) = numR (b.drop a) := by
  obtain ⟨j, h1, h2⟩ := numR_drop (b.drop a)
  unfold posOf
  rw [h2]
  simp only [List.drop_drop, List.length_drop] at *
  refine ⟨by omega, by omega, ?_⟩
  congr 1; omega
theorem get_none {b : List UInt8} {a : Nat} (ha : a ≤ b.length) (h : dec 0 0 (b.drop a) = none) : numV (b.drop a) = 0 ∧ posOf b a = a ∧ numOk (b.drop a) = false := by
  unfold numV posOf numR numOk
  rw [h]
  exact ⟨rfl, by simp; omega, rfl⟩
theorem get_some {b : List UInt8} {a j u : Nat} (hj : a + j < b.length) (h : dec 0 0 (b.drop a) = some (u, (b.drop a).drop (j + 1))) : numV (b.drop a) = unzig u ∧ posOf b a = a + j + 1 ∧ numOk (b.drop a) = true := by
  unfold numV posOf numR numOk
  rw [h]
  exact ⟨rfl, by simp only [List.length_drop]; omega, rfl⟩
theorem get_add (u j : Nat) (c : UInt8) : ((u : Nat) : Int) + ((c.toNat : Int) % 128) * ((2 ^ (7 * j) : Nat) : Int) = ((u + (c &&& 127).toNat * 2 ^ (7 * j) : Nat) : Int) := by
  rw [and127]; simp
theorem get_pow (j : Nat) : ((2 ^ (7 * j) : Nat) : Int) * 128 = ((2 ^ (7 * (j + 1)) : Nat) : Int) := by
  have e : 2 ^ (7 * (j + 1)) = 2 ^ (7 * j) * 128 := by rw [Nat.mul_add, Nat.pow_add]
  rw [e]; simp
theorem get_mul {c : UInt8} {j : Nat} (h : j ≤ 5) : 0 ≤ ((c.toNat : Int) % 128) * ((2 ^ (7 * j) : Nat) : Int) ∧ ((c.toNat : Int) % 128) * ((2 ^ (7 * j) : Nat) : Int) ≤ 4363686772736 := by
  have h1 := pow_small h
  have h2 := Nat.mul_le_mul (show c.toNat % 128 ≤ 127 by omega) h1
  have e : ((c.toNat : Int) % 128) * ((2 ^ (7 * j) : Nat) : Int) = ((c.toNat % 128 * 2 ^ (7 * j) : Nat) : Int) := by simp
  rw [e]; omega
theorem unzig_odd {u : Nat} (h : ((u : Nat) : Int) % 2 = 1) (hu : u < 4398046511104) : IntKind.wrap .i64 (Int.tdiv (-(((u : Nat) : Int) + 1)) 2) = unzig u := by
  have e : Int.tdiv (-(((u : Nat) : Int) + 1)) 2 = -(((u : Nat) : Int) + 1) / 2 := by
    have : (2 : Int) ∣ -(((u : Nat) : Int) + 1) := by omega
    exact Int.tdiv_eq_ediv_of_dvd this
  unfold unzig
  rw [if_pos (by omega), e]
  show wr _ = _
  rw [wr_id (by omega) (by omega)]; omega
theorem unzig_even {u : Nat} (h : ¬ ((u : Nat) : Int) % 2 = 1) : ((u : Nat) : Int) / 2 = unzig u := by
  unfold unzig
  rw [if_neg (by omega)]; omega
/-- where the document's answer stands behind samples -/
def back (l : List Sample) (i : Nat) : Sample := if h : i ≤ l.length ∧ 0 < i then l[l.length - i] else ⟨0, 0⟩
def t3Of (l : List Sample) : T3 := ⟨(back l 1).time, wr ((back l 1).time - (back l 2).time), (back l 1).value⟩
theorem back_get {l : List Sample} {i : Nat} {s : Sample} (hi : 0 < i) (h : l[l.length - i]? = some s) (hl : i ≤ l.length) : back l i = s := by
  unfold back
  rw [dif_pos ⟨hl, hi⟩]
  obtain ⟨_, e⟩ := List.getElem?_eq_some_iff.1 h
  exact e
theorem back_none {l : List Sample} {i : Nat} (hl : l.length < i) : back l i = ⟨0, 0⟩ := by
  unfold back; split
  · rename_i h; omega
  · rfl
theorem back_snoc (l : List Sample) (s : Sample) : back (l ++ [s]) 1 = s ∧ back (l ++ [s]) 2 = back l 1 := by
  constructor
  · unfold back; rw [dif_pos (by simp)]; simp
  · unfold back
    by_cases h : 1 ≤ l.length
    · rw [dif_pos (by simp; omega), dif_pos (by omega)]
      simp only [List.length_append, List.length_singleton]
      rw [List.getElem_append_left (by omega)]
      congr 1
    · rw [dif_neg (fun g => h (by have := g.1; simp at this; omega)), dif_neg (fun g => h g.1)]
theorem wr_twice (x y d : Int) : wr (wr (wr (2 * x) - y) + d) = wr (x + wr (wr (x - y) + d)) := by
  obtain ⟨q1, e1⟩ := wr_mod (2 * x)
  obtain ⟨q2, e2⟩ := wr_mod (wr (2 * x) - y)
  obtain ⟨q3, e3⟩ := wr_mod (x - y)
  obtain ⟨q4, e4⟩ := wr_mod (wr (x - y) + d)
  exact wr_congr (q := q1 + q2 - q3 - q4) (by omega)
theorem step_back (x y d : Int) : wr (wr (x + wr (wr (x - y) + d)) - x) = wr (wr (x - y) + d) := by
  obtain ⟨q1, e1⟩ := wr_mod (x + wr (wr (x - y) + d))
  have : wr (wr (x + wr (wr (x - y) + d)) - x) = wr (wr (wr (x - y) + d)) := wr_congr (q := q1) (by omega)
  rw [this]; exact wr_id (wr_range _).1 (wr_range _).2
theorem prs_ref {n k : Nat} {b : List UInt8} {acc : List Sample} (hk : k < n) (h1 : numOk b = true) (h2 : numOk (numR b) = true) {s : Sample} (ht : s.time = wr (wr (wr (2 * (back acc 1).time) - (back acc 2).time) + numV b)) (hv : s.value = wr ((back acc 1).value + numV (numR b))) :
    prs (n - k) b (t3Of acc) acc = prs (n - (k + 1)) (numR (numR b)) (t3Of (acc ++ [s])) (acc ++ [s]) := by
  rw [prs_step hk (by rw [h1, h2]; rfl)]
  obtain ⟨e1, e2⟩ := back_snoc acc s
  have et : wr ((t3Of acc).last + wr ((t3Of acc).step + numV b)) = s.time := by rw [ht]; exact (wr_twice _ _ _).symm
  have ev : wr ((t3Of acc).value + numV (numR b)) = s.value := hv.symm
  have es : (⟨wr ((t3Of acc).last + wr ((t3Of acc).step + numV b)), wr ((t3Of acc).value + numV (numR b))⟩ : Sample) = s := by rw [et, ev]
  have e3 : t3Of (acc ++ [s]) = ⟨wr ((t3Of acc).last + wr ((t3Of acc).step + numV b)), wr ((t3Of acc).step + numV b), wr ((t3Of acc).value + numV (numR b))⟩ := by
    unfold t3Of at et ev ⊢
    simp only [e1, e2, T3.mk.injEq] at *
    refine ⟨et.symm, ?_, ev.symm⟩
    rw [← et]; exact step_back _ _ _
  rw [e3, es]
section
variable {b bs : List UInt8} {t : T3} {acc : List Sample} {k : Nat}
theorem pbad_iff {b : List UInt8} {p : Nat} (hp : (numR b).length = b.length - p) (hpl : p ≤ b.length) : (((!numOk b) = true) ∨ ((numV b < 0) ∨ ((((b.length : Int) - (p : Int))) < (2 * numV b)))) ↔ (((!(true && numOk b)) = true) ∨ ((numV b < 0) ∨ (((numR b).length : Int) / 2 < numV b))) := by
  rw [hp, Bool.true_and]
  constructor
  · rintro (h | h | h)
    · exact .inl h
    · exact .inr (.inl h)
    · exact .inr (.inr (by omega))
  · rintro (h | h | h)
    · exact .inl h
    · exact .inr (.inl h)
    · exact .inr (.inr (by omega))
end
theorem pos_zero (b : List UInt8) : posOf b 0 = b.length - (numR b).length := rfl
/-- the bytes of samples, as the document's answer goes -/
theorem at3_back {l : List Sample} {k : Nat} (hk : k ≤ l.length) : at3 (l.take k) = ⟨(back (l.take k) 1).time, (back (l.take k) 1).time - (back (l.take k) 2).time, (back (l.take k) 1).value⟩ := by
  induction k with
  | zero => simp [at3, back]
  | succ k ih =>
    obtain ⟨s, hs⟩ : ∃ s, l[k]? = some s := ⟨_, List.getElem?_eq_getElem (by omega)⟩
    rw [at3_succ hs, ih (by omega)]
    have e : l.take (k + 1) = l.take k ++ [s] := by rw [List.take_add_one, hs]; rfl
    rw [e, (back_snoc _ _).1, (back_snoc _ _).2]; rfl
theorem back_take {l : List Sample} {k : Nat} {s : Sample} (h0 : 0 < k) (hs : l[k - 1]? = some s) : back (l.take k) 1 = s := by
  have hk : k - 1 < l.length := (List.getElem?_eq_some_iff.1 hs).1
  have e : (l.take k).length = k := by simp; omega
  exact back_get (by omega) (by rw [e, List.getElem?_take, if_pos (by omega)]; exact hs) (by omega)
theorem back_take2 {l : List Sample} {k : Nat} {s : Sample} (h0 : 1 < k) (hl : k ≤ l.length) (hs : l[k - 2]? = some s) : back (l.take k) 2 = s := by
  have e : (l.take k).length = k := by simp; omega
  exact back_get (by omega) (by rw [e, List.getElem?_take, if_pos (by omega)]; exact hs) (by omega)
theorem preB_ref {l : List Sample} {k : Nat} {s a b : Sample} (hs : l[k]? = some s) (ha : back (l.take k) 1 = a) (hb : back (l.take k) 2 = b) : preB l (k + 1) = preB l k ++ putB (s.time - a.time - (a.time - b.time)) ++ putB (s.value - a.value) := by
  rw [preB_succ hs, at3_back (by have := (List.getElem?_eq_some_iff.1 hs).1; omega), ha, hb]
theorem numV_bound (b : List UInt8) : -4398046511104 ≤ numV b ∧ numV b ≤ 4398046511104 := by
  by_cases h : numOk b = true
  · have := num_inv h; omega
  · unfold numOk at h
    unfold numV
    cases hd : dec 0 0 b with
    | none => simp
    | some x => rw [hd] at h; exact absurd rfl h
theorem stop_of {b : List UInt8} {p : Nat} (hp : p ≤ b.length) (h : ((!numOk (b.drop p)) = true) ∨ ((!numOk (b.drop (posOf b p))) = true)) : ((true && numOk (b.drop p)) && numOk (numR (b.drop p))) = false := by
  rw [← (posOf_spec hp).2.2]
  rcases h with h | h
  · rw [(Bool.not_eq_true' _).mp h]; rfl
  · rw [(Bool.not_eq_true' _).mp h]; simp
theorem go_of {b : List UInt8} {p : Nat} (hp : p ≤ b.length) (h : ¬ (((!numOk (b.drop p)) = true) ∨ ((!numOk (b.drop (posOf b p))) = true))) : numOk (b.drop p) = true ∧ numOk (numR (b.drop p)) = true := by
  rw [← (posOf_spec hp).2.2]
  have h1 := not_or.1 h
  simpa using h1
theorem ref_round {n k p : Nat} {b : List UInt8} {acc : List Sample} {x y s : Sample} (hp : p ≤ b.length) (hk : k < n) (h : numOk (b.drop p) = true ∧ numOk (numR (b.drop p)) = true) (hx : back acc 1 = x) (hy : back acc 2 = y) (ht : s.time = wr (wr (wr (2 * x.time) - y.time) + numV (b.drop p))) (hv : s.value = wr (x.value + numV (b.drop (posOf b p)))) :
    prs (n - k) (b.drop p) (t3Of acc) acc = prs (n - (k + 1)) (b.drop (posOf b (posOf b p))) (t3Of (acc ++ [s])) (acc ++ [s]) := by
  have h1 := posOf_spec hp
  have h2 := posOf_spec h1.1
  rw [h2.2.2, h1.2.2]
  exact prs_ref hk h.1 h.2 (by rw [hx, hy]; exact ht) (by rw [hx, ← h1.2.2]; exact hv)
theorem digs_le : ∀ {bs : List UInt8} {z u B : Nat}, digs z = bs ++ digs u → z < B → u < B
  | [], z, u, B, h, hz => by
    have : zig (unzig z) = zig (unzig u) := by
      have e : z = u := by
        have key : ∀ (n m : Nat), digs n = digs m → n = m := by
          intro n
          induction n using Nat.strongRecOn with
          | _ n ih =>
            intro m h
            by_cases hn : n < 128
            · rw [digs_small hn] at h
              by_cases hm : m < 128
              · rw [digs_small hm] at h
                have := congrArg (fun l => (l.map UInt8.toNat)) h
                simp at this; omega
              · rw [digs_more hm] at h
                have h2 := congrArg List.length h
                have := digs_pos (m / 2 ^ 7)
                simp only [List.length_cons, List.length_nil] at h2; omega
            · by_cases hm : m < 128
              · rw [digs_more hn, digs_small hm] at h
                have h2 := congrArg List.length h
                have := digs_pos (n / 2 ^ 7)
                simp only [List.length_cons, List.length_nil] at h2; omega
              · rw [digs_more hn, digs_more hm, List.cons.injEq] at h
                have h2 := ih (n / 2 ^ 7) (by omega) _ h.2
                have h3 := congrArg UInt8.toNat h.1
                rw [or128, or128] at h3
                omega
        exact key z u (by simpa using h)
      rw [e]
    rw [zig_unzig, zig_unzig] at this
    omega
  | c :: bs, z, u, B, h, hz => by
    by_cases hn : z < 128
    · rw [digs_small hn] at h
      have h2 := congrArg List.length h
      have := digs_pos u
      rw [List.cons_append, List.length_cons, List.length_cons, List.length_append] at h2
      simp only [List.length_nil] at h2; omega
    · rw [digs_more hn, List.cons_append, List.cons.injEq] at h
      have := digs_le (B := B) h.2 (by omega)
      exact this
theorem app_len {a : List UInt8} {n : Int} (h : a.length ≤ 140000000) (hn : -9223372036854775808 ≤ n ∧ n ≤ 9223372036854775807) : (a.length + (putB n).length) * 1 ≤ 140737488355328 := by
  have := putB_len hn; omega
theorem dec_six {u : Nat} (l : List UInt8) : dec 6 u l = none := by
  cases l with
  | nil => rfl
  | cons c r => rw [dec, if_pos rfl]
end Codec
end Go.Proofs.Ytldecdningjkoaa
