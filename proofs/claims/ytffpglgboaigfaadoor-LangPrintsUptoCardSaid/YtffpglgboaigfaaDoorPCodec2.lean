/-
  What is written is read, in one way alone; how long it is.
-/
import Derived.Test.YtffpglgboaigfaaDoorPCodec
namespace Go.Proofs.YtffpglgboaigfaaDoor
namespace Codec
theorem or128 (u : Nat) : (UInt8.ofNat u ||| 128).toNat = u % 128 + 128 := by
  have h : ∀ x : Fin 256, x.val ||| 128 = x.val % 128 + 128 := by decide +kernel
  have := h ⟨u % 256, by omega⟩
  rw [UInt8.toNat_or, UInt8.toNat_ofNat']
  simp only at this
  have e : (128 : UInt8).toNat = 128 := rfl
  rw [e]
  show u % 256 ||| 128 = _
  rw [this]; omega
theorem dec_digs : ∀ (j i u acc : Nat) (r : List UInt8), i + j = 5 → u < 128 ^ (j + 1) → (0 < i → 0 < u) → dec i acc (digs u ++ r) = some (acc + u * 2 ^ (7 * i), r)
  | j, i, u, acc, r, hij, hu, hp => by
    by_cases h : u < 128
    · rw [digs_small h, List.singleton_append, dec, if_neg (by omega)]
      have e : (UInt8.ofNat u).toNat = u := by rw [UInt8.toNat_ofNat']; omega
      rw [if_neg (by omega), if_neg (by omega), and127, e, Nat.mod_eq_of_lt h]
    · cases j with
      | zero => simp at hu; omega
      | succ j =>
        rw [digs_more h, List.cons_append, dec, if_neg (by omega), if_pos (by rw [or128]; omega), and127, or128]
        have h2 : u / 2 ^ 7 < 128 ^ (j + 1) := by
          rw [Nat.div_lt_iff_lt_mul (by decide)]
          rw [Nat.pow_succ] at hu; exact hu
        rw [dec_digs j (i + 1) (u / 2 ^ 7) _ r (by omega) h2 (fun _ => by omega)]
        congr 2
        have e : 2 ^ (7 * (i + 1)) = 128 * 2 ^ (7 * i) := by rw [Nat.mul_add, Nat.pow_add]; omega
        rw [e]
        have e2 : (u % 128 + 128) % 128 = u % 128 := by omega
        rw [e2, Nat.add_assoc]
        congr 1
        have e3 : u / 2 ^ 7 * (128 * 2 ^ (7 * i)) = (u / 128 * 128) * 2 ^ (7 * i) := by rw [← Nat.mul_assoc]
        rw [e3, ← Nat.add_mul]
        congr 1
        omega
theorem dec_inv : ∀ (b : List UInt8) (i acc v : Nat) (r : List UInt8), i ≤ 6 → dec i acc b = some (v, r) → ∃ u, v = acc + u * 2 ^ (7 * i) ∧ b = digs u ++ r ∧ u < 128 ^ (6 - i) ∧ (0 < i → 0 < u)
  | [], i, acc, v, r, _, h => by simp [dec] at h
  | c :: b, i, acc, v, r, hi, h => by
    rw [dec] at h
    have hc := c.toNat_lt
    split at h
    · cases h
    · rename_i h6
      have h1 : 1 ≤ 128 ^ (6 - (i + 1)) := Nat.pow_pos (by decide)
      have h2 : 128 ^ (6 - i) = 128 * 128 ^ (6 - (i + 1)) := by
        rw [show 6 - i = (6 - (i + 1)) + 1 by omega, Nat.pow_succ]; omega
      split at h
      · rename_i h128
        obtain ⟨u, e1, e2, e3, e4⟩ := dec_inv b (i + 1) _ v r (by omega) h
        have hu := e4 (by omega)
        refine ⟨c.toNat % 128 + 128 * u, ?_, ?_, ?_, fun _ => by omega⟩
        · rw [e1, and127]
          have e : 2 ^ (7 * (i + 1)) = 128 * 2 ^ (7 * i) := by rw [Nat.mul_add, Nat.pow_add]; omega
          rw [e, Nat.add_mul, Nat.add_assoc]
          congr 2
          rw [← Nat.mul_assoc, Nat.mul_comm u 128]
        · rw [digs_more (by omega), show (c.toNat % 128 + 128 * u) / 2 ^ 7 = u by omega, List.cons_append, ← e2]
          congr 1
          apply UInt8.toNat_inj.1
          rw [or128]; omega
        · rw [h2]; omega
      · rename_i h128
        split at h
        · cases h
        · rename_i h0
          cases h
          refine ⟨c.toNat, by rw [and127, Nat.mod_eq_of_lt (by omega)], ?_, by rw [h2]; omega, fun hi0 => by omega⟩
          rw [digs_small (by omega), List.singleton_append]
          congr 1
          apply UInt8.toNat_inj.1
          rw [UInt8.toNat_ofNat']; omega
/-- a number that is written is read -/
theorem num_put {n : Int} (r : List UInt8) (h : -1099511627776 ≤ n ∧ n < 1099511627776) : dec 0 0 (putB n ++ r) = some (zig n, r) := by
  have hz := zig_lt (B := 1099511627776) (n := n) (by omega)
  have := dec_digs 5 0 (zig n) 0 r (by omega) (by omega) (fun h => by omega)
  unfold putB
  rw [this]; simp
theorem num_put_all {n : Int} (r : List UInt8) (h : -1099511627776 ≤ n ∧ n < 1099511627776) : numOk (putB n ++ r) = true ∧ numV (putB n ++ r) = n ∧ numR (putB n ++ r) = r := by
  have := num_put r h
  unfold numOk numV numR
  rw [this]
  exact ⟨rfl, unzig_zig n, rfl⟩
/-- what is read was written so -/
theorem num_inv {b : List UInt8} (h : numOk b = true) : b = putB (numV b) ++ numR b ∧ -2199023255552 ≤ numV b ∧ numV b ≤ 2199023255552 := by
  unfold numOk at h
  obtain ⟨⟨u, r⟩, hd⟩ := Option.isSome_iff_exists.1 h
  obtain ⟨u', e1, e2, e3, _⟩ := dec_inv b 0 0 u r (by omega) hd
  have e : u = u' := by simpa using e1
  subst e
  unfold numV numR
  rw [hd]
  refine ⟨by show b = putB (unzig u) ++ r; rw [putB, zig_unzig]; exact e2, ?_⟩
  show -2199023255552 ≤ unzig u ∧ unzig u ≤ 2199023255552
  unfold unzig
  split <;> omega
abbrev RngS (s : Sample) : Prop := 0 ≤ s.time ∧ s.time ≤ 1000000 ∧ -1000000000 ≤ s.value ∧ s.value ≤ 1000000000
abbrev RngT (t : T3) : Prop := (0 ≤ t.last ∧ t.last ≤ 1000000) ∧ (-1000000 ≤ t.step ∧ t.step ≤ 1000000) ∧ (-1000000000 ≤ t.value ∧ t.value ≤ 1000000000)
theorem body_long : ∀ (l : List Sample) (t : T3), 2 * l.length ≤ (body t l).length
  | [], _ => by simp [body]
  | s :: l, t => by
    have h1 := digs_pos (zig (s.time - t.last - t.step))
    have h2 := digs_pos (zig (s.value - t.value))
    have h3 := body_long l (tr t s)
    rw [body, List.length_append, enc1, List.length_append, List.length_cons]
    unfold putB
    omega
theorem prs_body : ∀ (l : List Sample) (t : T3) (acc : List Sample), (∀ x ∈ l, RngS x) → RngT t → prs l.length (body t l) t acc = some ([], acc ++ l)
  | [], t, acc, _, _ => by simp [prs, body]
  | s :: l, t, acc, hl, ht => by
    have hs := hl s (List.mem_cons_self ..)
    have ht' : RngT (tr t s) := by unfold RngT tr; unfold RngS at hs; unfold RngT at ht; simp only; omega
    have ih := prs_body l (tr t s) (acc ++ [s]) (fun x hx => hl x (List.mem_cons_of_mem _ hx)) ht'
    obtain ⟨a1, a2, a3⟩ := num_put_all (n := s.time - t.last - t.step) (putB (s.value - t.value) ++ body (tr t s) l) (by unfold RngS at hs; unfold RngT at ht; omega)
    obtain ⟨b1, b2, b3⟩ := num_put_all (n := s.value - t.value) (body (tr t s) l) (by unfold RngS at hs; unfold RngT at ht; omega)
    have e1 : wr (t.step + (s.time - t.last - t.step)) = s.time - t.last := by rw [wr_id (by unfold RngS at hs; unfold RngT at ht; omega) (by unfold RngS at hs; unfold RngT at ht; omega)]; omega
    have e2 : wr (t.last + (s.time - t.last)) = s.time := by rw [wr_id (by unfold RngS at hs; unfold RngT at ht; omega) (by unfold RngS at hs; unfold RngT at ht; omega)]; omega
    have e3 : wr (t.value + (s.value - t.value)) = s.value := by rw [wr_id (by unfold RngS at hs; unfold RngT at ht; omega) (by unfold RngS at hs; unfold RngT at ht; omega)]; omega
    rw [List.length_cons, body, enc1, List.append_assoc, prs]
    rw [a3, a1, a2, b1, b2, b3, if_pos (show (true && true && true) = true from rfl), e1, e2, e3]
    rw [show (⟨s.time, s.time - t.last, s.value⟩ : T3) = tr t s from rfl, show (⟨s.time, s.value⟩ : Sample) = s from rfl, ih, List.append_assoc]; rfl
theorem prs_inv : ∀ (n : Nat) (b : List UInt8) (t : T3) (acc : List Sample) (r : List UInt8) (l : List Sample), prs n b t acc = some (r, l) → ∃ l', l = acc ++ l' ∧ l'.length = n ∧ (RngT t → (∀ x ∈ l', RngS x) → b = body t l' ++ r)
  | 0, b, t, acc, r, l, h => by
    simp only [prs, Option.some.injEq, Prod.mk.injEq] at h
    obtain ⟨rfl, rfl⟩ := h
    exact ⟨[], by simp, rfl, fun _ _ => by simp [body]⟩
  | n + 1, b, t, acc, r, l, h => by
    rw [prs] at h
    split at h
    · rename_i hok
      have h1 : numOk b = true ∧ numOk (numR b) = true := by simpa using hok
      obtain ⟨l', e1, e2, e3⟩ := prs_inv n _ _ _ r l h
      refine ⟨_ :: l', by rw [e1, List.append_assoc]; rfl, by simp [e2], fun ht hl => ?_⟩
      obtain ⟨f1, f2⟩ := num_inv h1.1
      obtain ⟨g1, g2⟩ := num_inv h1.2
      have hs := hl _ (List.mem_cons_self ..)
      unfold RngS at hs
      simp only at hs
      have w1 : wr (t.step + numV b) = t.step + numV b := wr_id (by unfold RngT at ht; omega) (by unfold RngT at ht; omega)
      have w2 : wr (t.last + (t.step + numV b)) = t.last + (t.step + numV b) := wr_id (by unfold RngT at ht; omega) (by unfold RngT at ht; omega)
      have w3 : wr (t.value + numV (numR b)) = t.value + numV (numR b) := wr_id (by unfold RngT at ht; omega) (by unfold RngT at ht; omega)
      rw [w1, w2, w3] at e3 hs
      rw [w1, w2, w3]
      have ht' : RngT ⟨t.last + (t.step + numV b), t.step + numV b, t.value + numV (numR b)⟩ := by unfold RngT at ht ⊢; simp only; omega
      have ih := e3 ht' (fun x hx => hl x (List.mem_cons_of_mem _ hx))
      rw [body]
      have et : tr t ⟨t.last + (t.step + numV b), t.value + numV (numR b)⟩ = ⟨t.last + (t.step + numV b), t.step + numV b, t.value + numV (numR b)⟩ := by
        unfold tr; simp only [T3.mk.injEq, and_true, true_and]; omega
      rw [et, enc1]
      simp only
      rw [show t.last + (t.step + numV b) - t.last - t.step = numV b by omega, show t.value + numV (numR b) - t.value = numV (numR b) by omega, List.append_assoc, List.append_assoc, ← ih, ← g1, ← f1]
    · cases h
theorem zeroT : RngT ⟨0, 0, 0⟩ := by unfold RngT; simp
/-- WHAT IS WRITTEN IS READ -/
theorem parse_bytes {l : List Sample} (h : (wrong l).err = 0) : parse (bytesF l) = (l, 0) := by
  have hr := right_of h
  have hlen := hr.len
  rw [bytesF, if_pos h, bytesOf]
  obtain ⟨a1, a2, a3⟩ := num_put_all (n := (l.length : Int)) (body ⟨0, 0, 0⟩ l) (by omega)
  have hb := body_long l ⟨0, 0, 0⟩
  unfold parse
  rw [a1, a2, a3, if_neg (by simp; omega), Int.toNat_natCast, prs_body l _ _ hr.rng zeroT]
  show (if ([] : List UInt8) ≠ [] then _ else _) = _
  rw [if_neg (by simp), List.nil_append, if_neg (by simp [h])]
/-- .. IN ONE WAY ALONE -/
theorem bytes_parse {b : List UInt8} (h : (parse b).2 = 0) : (wrong (parse b).1).err = 0 ∧ bytesF (parse b).1 = b := by
  unfold parse at h ⊢
  split at h
  · cases h
  · rename_i hc
    rw [if_neg hc]
    cases hp : prs (numV b).toNat (numR b) ⟨0, 0, 0⟩ [] with
    | none => rw [hp] at h; cases h
    | some x =>
      obtain ⟨r, l⟩ := x
      rw [hp] at h
      have h' : (if r ≠ [] then (([] : List Sample), (2 : Int)) else if (wrong l).err ≠ 0 then ([], (wrong l).err) else (l, 0)).2 = 0 := h
      show (wrong (if r ≠ [] then (([] : List Sample), (2 : Int)) else if (wrong l).err ≠ 0 then ([], (wrong l).err) else (l, 0)).1).err = 0 ∧ bytesF (if r ≠ [] then (([] : List Sample), (2 : Int)) else if (wrong l).err ≠ 0 then ([], (wrong l).err) else (l, 0)).1 = b
      by_cases hrn : r ≠ []
      · rw [if_pos hrn] at h'; cases h'
      · rw [if_neg hrn] at h' ⊢
        by_cases hw : (wrong l).err ≠ 0
        · rw [if_pos hw] at h'; exact absurd h' hw
        · rw [if_neg hw]
          have hw0 := Classical.not_not.1 hw
          have hrr := right_of hw0
          obtain ⟨l', e1, e2, e3⟩ := prs_inv _ _ _ _ _ _ hp
          have el : l = l' := by simpa using e1
          subst el
          have hok : numOk b = true := by have := ok_of hc; simpa using this
          obtain ⟨f1, _⟩ := num_inv hok
          have f2 := e3 zeroT hrr.rng
          have hr0 : r = [] := Classical.not_not.1 hrn
          refine ⟨hw0, ?_⟩
          rw [bytesF, if_pos hw0, bytesOf]
          have hn : ((l.length : Nat) : Int) = numV b := by
            have := (not_or.1 hc).2
            omega
          rw [hn]
          have f3 : body ⟨0, 0, 0⟩ l = numR b := by rw [f2, hr0, List.append_nil]
          show putB (numV b) ++ body ⟨0, 0, 0⟩ l = b
          rw [f3, ← f1]
theorem parse_err {b : List UInt8} (h : (parse b).2 ≠ 0) : (parse b).1 = [] := by
  unfold parse at h ⊢
  split
  · rfl
  · rename_i hc
    rw [if_neg hc] at h
    cases hp : prs (numV b).toNat (numR b) ⟨0, 0, 0⟩ [] with
    | none => rfl
    | some x =>
      obtain ⟨r, l⟩ := x
      rw [hp] at h
      show (if r ≠ [] then (([] : List Sample), (2 : Int)) else if (wrong l).err ≠ 0 then ([], (wrong l).err) else (l, 0)).1 = []
      have h' : (if r ≠ [] then (([] : List Sample), (2 : Int)) else if (wrong l).err ≠ 0 then ([], (wrong l).err) else (l, 0)).2 ≠ 0 := h
      split
      · rfl
      · rename_i h1
        rw [if_neg h1] at h'
        split
        · rfl
        · rename_i h2; rw [if_neg h2] at h'; exact absurd rfl h'
theorem bytesF_len (l : List Sample) : (bytesF l).length ≤ 1048576 := by
  unfold bytesF
  split
  · rename_i h
    have hr := right_of h
    have := preB_len (k := l.length) hr.rng hr.len
    rw [preB_end (Nat.le_refl _)] at this
    omega
  · simp
theorem alive_bytes : bytesF ([(⟨10, 5⟩ : Sample), (⟨20, (-3)⟩ : Sample)] : List Sample) = [4, 20, 10, 0, 15] := by
  have h : (wrong ([(⟨10, 5⟩ : Sample), (⟨20, (-3)⟩ : Sample)] : List Sample)).err = 0 := by decide
  rw [bytesF, if_pos h]
  simp [bytesOf, body, enc1, tr, putB, zig, digs_small]
theorem alive_parse : parse [4, 20, 10, 0, 15] = ([⟨10, 5⟩, ⟨20, -3⟩], 0) := by decide +kernel
end Codec
end Go.Proofs.YtffpglgboaigfaaDoor
