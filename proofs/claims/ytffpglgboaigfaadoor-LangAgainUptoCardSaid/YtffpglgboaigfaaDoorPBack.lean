/-
  What is written is read: a right expression's text comes back as what its kinds have.
-/
import Derived.Test.YtffpglgboaigfaaDoorPTurn
import Derived.Test.YtffpglgboaigfaaDoorPText
namespace Go.Proofs.YtffpglgboaigfaaDoor
namespace Pz
open Ex Mn
set_option linter.unusedVariables false
/-! ## Where one stands -/
structure At (s : ByteArray) (i : Nat) (L : List UInt8) : Prop where
  le : i ≤ s.size
  eq : rest s i = L
def sk (L : List UInt8) : List UInt8 := L.dropWhile spc
theorem rest_add (s : ByteArray) (i n : Nat) : rest s (i + n) = (rest s i).drop n := by unfold rest; rw [List.drop_drop]
theorem rest_len {s : ByteArray} {i : Nat} (h : i ≤ s.size) : i + (rest s i).length = s.size := by
  unfold rest; rw [List.length_drop, size_l]; omega
section
variable {s : ByteArray} {i j k : Nat} {c : Int} {L R A : List UInt8}
theorem At.fwd (h : At s i (A ++ R)) : At s (i + A.length) R := by
  have h1 := rest_len h.le
  rw [h.eq, List.length_append] at h1
  exact ⟨by omega, by rw [rest_add, h.eq, List.drop_left]⟩
theorem At.past (h : At s i L) : At s (blank s i) (sk L) := by
  have h1 : blank s i = i + (L.takeWhile spc).length := by show run spc s i = _; unfold run; rw [h.eq]
  rw [h1]
  refine At.fwd (A := L.takeWhile spc) ⟨h.le, ?_⟩
  rw [h.eq]; exact (List.takeWhile_append_dropWhile).symm
theorem sk_sk (L : List UInt8) : sk (sk L) = sk L := by
  unfold sk
  cases h : L.dropWhile spc with
  | nil => rfl
  | cons a r =>
    have := List.head_dropWhile_not spc (l := L) (by rw [h]; simp)
    simp only [h, List.head_cons] at this
    rw [List.dropWhile_cons_of_neg (by simpa using this)]
theorem sk_cons {b : UInt8} {r : List UInt8} (h : spc b = false) : sk (b :: r) = b :: r := by unfold sk; rw [List.dropWhile_cons_of_neg (by simp [h])]
theorem sk_blank (r : List UInt8) : sk (32 :: r) = sk r := by unfold sk; rw [List.dropWhile_cons_of_pos (by decide)]
theorem At.pfx {sg : ByteArray} (h : At s i L) : pfx s sg i = sg.data.toList.isPrefixOf L := by unfold Pz.pfx; rw [h.eq]
theorem eat_at {sg : ByteArray} (h : At s i L) (e : sk L = sg.data.toList ++ R) : ∃ j, eat s sg i = (true, j) ∧ At s j R := by
  have h1 := h.past
  refine ⟨_, eat_yes rfl ?_, ?_⟩
  · rw [h1.pfx, e, List.isPrefixOf_iff_prefix]; exact List.prefix_append _ _
  · rw [bl_size]; exact At.fwd (by rw [← e]; exact h1)
theorem eat_at_no {sg : ByteArray} (h : At s i L) (e : ¬ sg.data.toList <+: sk L) : ∃ j, eat s sg i = (false, j) ∧ At s j (sk L) := by
  have h1 := h.past
  exact ⟨_, eat_no rfl (by rw [h1.pfx, List.isPrefixOf_iff_prefix]; exact e), h1⟩
theorem eat_at_ne {a : UInt8} (h : At s i L) (e : ∀ b r, sk L = b :: r → b ≠ a) : ∃ j, eat s ⟨#[a]⟩ i = (false, j) ∧ At s j (sk L) :=
  eat_at_no h fun ⟨t, ht⟩ => e a t ht.symm rfl
theorem must_at {sg : ByteArray} (h : At s i L) (e : sk L = sg.data.toList ++ R) : ∃ j, must s sg ⟨i, c⟩ = .ok ⟨j, c⟩ ∧ At s j R := by
  obtain ⟨j, h1, h2⟩ := eat_at h e
  exact ⟨j, by unfold must; simp only [h1, if_true, St.go], h2⟩
/-! ## Words -/
theorem fineB_wch {k : Nat} {b : UInt8} (h : Names.fineB k b) : wch b = true := by unfold Names.fineB at h; unfold wch; exact decide_eq_true (by omega)
theorem fineB_low {b : UInt8} (h : Names.fineB 0 b) : low b = true := by unfold Names.fineB at h; unfold low; exact decide_eq_true (by omega)
theorem namedL_all : ∀ {l : List UInt8} {k : Nat}, Names.namedL k l = true → ∀ b ∈ l, wch b = true
  | [], _, _, b, hb => by cases hb
  | a :: l, k, h, b, hb => by
    rw [Names.namedL, Bool.and_eq_true, decide_eq_true_iff] at h
    rcases List.mem_cons.1 hb with rfl | hb
    · exact fineB_wch h.1
    · exact namedL_all h.2 b hb
theorem named_form {w : ByteArray} (h : Names.named w = true) : ∃ a r, w.data.toList = a :: r ∧ low a = true ∧ (∀ b ∈ a :: r, wch b = true) ∧ w.size ≤ 12 := by
  unfold Names.named at h
  simp only [Bool.and_eq_true, decide_eq_true_eq] at h
  obtain ⟨⟨h1, h2⟩, h3⟩ := h
  rw [bl_size] at h1
  cases hw : w.data.toList with
  | nil => rw [hw] at h1; simp at h1
  | cons a r =>
    rw [hw] at h3
    have h4 := h3
    rw [Names.namedL, Bool.and_eq_true, decide_eq_true_iff] at h4
    exact ⟨a, r, rfl, fineB_low h4.1, namedL_all h3, h2⟩
theorem tw_app {p : UInt8 → Bool} : ∀ {A R : List UInt8}, (∀ b ∈ A, p b = true) → (∀ b r, R = b :: r → p b = false) → (A ++ R).takeWhile p = A
  | [], [], _, _ => rfl
  | [], b :: r, _, h => by rw [List.nil_append, List.takeWhile_cons_of_neg (by simp [h b r rfl])]
  | a :: A, R, h1, h2 => by rw [List.cons_append, List.takeWhile_cons_of_pos (h1 a List.mem_cons_self), tw_app (fun b hb => h1 b (List.mem_cons_of_mem _ hb)) h2]
theorem low_spc {a : UInt8} (h : low a = true) : spc a = false := by unfold low at h; unfold spc; simp only [decide_eq_true_eq] at h; exact decide_eq_false (by omega)
theorem word_at {w : ByteArray} (h : At s i L) (e : sk L = w.data.toList ++ R) (hw : Names.named w = true) (hR : ∀ b r, R = b :: r → wch b = false) : ∃ j, word s ⟨i, c⟩ = .ok (w, ⟨j, c⟩) ∧ At s j R := by
  obtain ⟨a, r, h1, h2, h3, h4⟩ := named_form hw
  have hb : At s (blank s i) (w.data.toList ++ R) := by rw [← e]; exact h.past
  have h5 : wend s (blank s i) = blank s i + w.data.toList.length := by
    have h6 : rest s (blank s i) = a :: (r ++ R) := by rw [hb.eq, h1]; rfl
    have h7 : wend s (blank s i) = run wch s (blank s i) := by unfold wend; rw [h6]; exact if_pos h2
    rw [h7]; unfold run
    rw [hb.eq, tw_app (by rw [h1]; exact h3) hR]
  have h6 : s.extract (blank s i) (wend s (blank s i)) = w := by
    rw [toB (ext_rest s _ _), h5, hb.eq, Nat.add_sub_cancel_left, List.take_left]
  refine ⟨blank s i + w.data.toList.length, ?_, hb.fwd⟩
  unfold word
  show (if 12 < wend s (blank s i) - blank s i then _ else _) = _
  rw [bl_size] at h4
  rw [if_neg (by rw [h5]; omega)]
  show Res.ok (s.extract (blank s i) (wend s (blank s i)), (⟨wend s (blank s i), c⟩ : St)) = _
  rw [h6, h5]
theorem word_none (h : At s i L) (hL : ∀ b r, sk L = b :: r → low b = false) : ∃ j, word s ⟨i, c⟩ = .ok (⟨#[]⟩, ⟨j, c⟩) ∧ At s j (sk L) := by
  have hb := h.past
  have h1 : wend s (blank s i) = blank s i := by
    unfold wend; rw [hb.eq]
    cases hk : sk L with
    | nil => rfl
    | cons b r => exact if_neg (by simp [hL b r hk])
  refine ⟨_, ?_, hb⟩
  unfold word
  show (if 12 < wend s (blank s i) - blank s i then _ else _) = _
  rw [if_neg (by omega)]
  show Res.ok (s.extract (blank s i) (wend s (blank s i)), (⟨wend s (blank s i), c⟩ : St)) = _
  rw [h1, toB (ext_rest s _ _)]
  simp
theorem named_ne {w : ByteArray} (hw : Names.named w = true) : w ≠ ⟨#[]⟩ := by rintro rfl; cases hw
theorem name_at {w : ByteArray} (h : At s i L) (e : sk L = w.data.toList ++ R) (hw : Names.named w = true) (hR : ∀ b r, R = b :: r → wch b = false) : ∃ j, name s ⟨i, c⟩ = .ok (w, ⟨j, c⟩) ∧ At s j R := by
  obtain ⟨j, h1, h2⟩ := word_at (c := c) h e hw hR
  refine ⟨j, ?_, h2⟩
  unfold name; rw [h1, then_ok, if_neg (named_ne hw)]
/-! ## Numbers -/
theorem digit (u : Nat) (h : u < 10) : (UInt8.ofNat (48 + u)).toNat = 48 + u := by rw [UInt8.toNat_ofNat']; omega
theorem dd_dig (u : Nat) : ∀ b ∈ Go.Lib.decDigits u, dig b = true := by
  induction u using Nat.strongRecOn with
  | _ u ih =>
    intro b hb
    rw [Go.Lib.decDigits] at hb
    split at hb
    · rename_i h
      rw [List.mem_singleton.1 hb]; unfold dig; rw [digit u h]; exact decide_eq_true (by omega)
    · rename_i h
      rcases List.mem_append.1 hb with hb | hb
      · exact ih (u / 10) (by omega) b hb
      · rw [List.mem_singleton.1 hb]; unfold dig; rw [digit _ (Nat.mod_lt u (by omega))]; exact decide_eq_true (by omega)
theorem dd_val (u : Nat) : dval (Go.Lib.decDigits u) = u := by
  induction u using Nat.strongRecOn with
  | _ u ih =>
    rw [Go.Lib.decDigits]
    split
    · rename_i h
      show 10 * 0 + ((UInt8.ofNat (48 + u)).toNat - 48) = u
      rw [digit u h]; omega
    · rename_i h
      have h1 := ih (u / 10) (by omega)
      unfold dval at h1 ⊢
      rw [List.foldl_append, h1]
      show 10 * (u / 10) + ((UInt8.ofNat (48 + u % 10)).toNat - 48) = u
      rw [digit _ (Nat.mod_lt u (by omega))]; omega
theorem dd_head (u : Nat) : (∃ r, Go.Lib.decDigits u = 48 :: r ∧ r = []) ∨ ∃ b r, Go.Lib.decDigits u = b :: r ∧ b ≠ 48 := by
  induction u using Nat.strongRecOn with
  | _ u ih =>
    by_cases h0 : u = 0
    · subst h0; left; exact ⟨[], by rw [Go.Lib.decDigits, dif_pos (by decide)]; rfl, rfl⟩
    · right
      rw [Go.Lib.decDigits]
      split
      · rename_i h
        refine ⟨_, [], rfl, fun e => ?_⟩
        have := congrArg UInt8.toNat e
        rw [digit u h] at this
        have h48 : (48 : UInt8).toNat = 48 := rfl
        omega
      · rename_i h
        rcases ih (u / 10) (by omega) with ⟨r, h1, rfl⟩ | ⟨b, r, h1, h2⟩
        · exfalso
          have := dd_val (u / 10)
          rw [h1] at this
          have h3 : dval [48] = 0 := rfl
          omega
        · exact ⟨b, r ++ [UInt8.ofNat (48 + u % 10)], by rw [h1]; rfl, h2⟩
theorem nb_dd {n : Int} (h : 0 ≤ n) : Lg.nb n = Go.Lib.decDigits n.toNat := by unfold Lg.nb Go.Lib.itoa; rw [if_neg (by omega)]
theorem dig_spc {a : UInt8} (h : dig a = true) : spc a = false := by unfold dig at h; unfold spc; simp only [decide_eq_true_eq] at h; exact decide_eq_false (by omega)
theorem dig_low {a : UInt8} (h : dig a = true) : low a = false := by unfold dig at h; unfold low; simp only [decide_eq_true_eq] at h; exact decide_eq_false (by omega)
theorem nb_form {n : Int} (h : 0 ≤ n) : ∃ a r, Lg.nb n = a :: r ∧ ∀ b ∈ a :: r, dig b = true := by
  rw [nb_dd h]
  have h1 := dd_dig n.toNat
  rcases dd_head n.toNat with ⟨r, h2, _⟩ | ⟨b, r, h2, _⟩ <;> (rw [h2] at h1 ⊢; exact ⟨_, _, rfl, h1⟩)
theorem at_get (h : At s i (A ++ R)) {a : UInt8} {r : List UInt8} (e : A = a :: r) : s[i]? = some a := by
  have h1 := rest_len h.le
  rw [h.eq, e] at h1
  simp only [List.length_append, List.length_cons] at h1
  have hi : i < s.size := by omega
  have h2 := rest_cons (s := s) (i := i) (b := s[i]) (getElem?_pos s i hi)
  rw [h.eq, e, List.cons_append] at h2
  injection h2 with h3 _
  rw [getElem?_pos s i hi, h3]
theorem numb_at {n least most : Int} (h : At s i L) (e : sk L = Lg.nb n ++ R) (h0 : 0 ≤ n) (hl : least ≤ n) (hm : n ≤ most) (hR : ∀ b r, R = b :: r → dig b = false) : ∃ j, num s least most ⟨i, c⟩ = .ok (n, ⟨j, c⟩) ∧ At s j R := by
  have hb : At s (blank s i) (Lg.nb n ++ R) := by rw [← e]; exact h.past
  obtain ⟨a, r, h1, h2⟩ := nb_form h0
  have h3 : run dig s (blank s i) = blank s i + (Lg.nb n).length := by unfold run; rw [hb.eq, tw_app (by rw [h1]; exact h2) hR]
  have h4 : numAt s (blank s i) = n := by
    unfold numAt
    rw [h3, ext_rest, hb.eq, Nat.add_sub_cancel_left, List.take_left, nb_dd h0, dd_val]; omega
  refine ⟨_, num_ok rfl h3 (by rw [h1, List.length_cons]; omega) ?_ |>.trans ?_, hb.fwd⟩
  · unfold badNum
    rw [h4, h3]
    rintro (g | g | ⟨g1, g2⟩)
    · omega
    · omega
    · rw [at_get hb h1] at g1
      have ha : a = 48 := Option.some.inj g1
      rw [nb_dd h0] at h1 g2
      rcases dd_head n.toNat with ⟨r', h5, rfl⟩ | ⟨b, r', h5, h6⟩
      · rw [h5] at g2; simp at g2
      · rw [h5] at h1; injection h1 with h7 _; exact h6 (h7.trans ha)
  · rw [h4]
theorem node_at (h : c + 1 ≤ 100) : node ⟨i, c⟩ = .ok ⟨i, c + 1⟩ := by unfold node; rw [if_neg (by show ¬ 100 < c + 1; omega)]
/-! ## Matches -/
theorem matchW_of {m : Match} (h : Lg.matchW m = 0) : (1 ≤ m.kind ∧ m.kind ≤ 4) ∧ Names.named m.key = true ∧ ((m.kind = 1 ∨ m.kind = 2) → Names.named m.val = true) := by
  unfold Lg.matchW at h
  split at h
  · cases h
  split at h
  · cases h
  rename_i g1 g2
  simp only [not_or, not_and, Bool.not_eq_false] at g2
  exact ⟨by omega, g2.1, g2.2⟩
theorem sk_name {w : ByteArray} (hw : Names.named w = true) (R : List UInt8) : sk (w.data.toList ++ R) = w.data.toList ++ R := by
  obtain ⟨a, r, h1, h2, _, _⟩ := named_form hw
  rw [h1, List.cons_append]; exact sk_cons (low_spc h2)
theorem low_ne {a b : UInt8} (h : low a = true) (hb : low b = false) : a ≠ b := by rintro rfl; rw [h] at hb; cases hb
theorem name_ne {w : ByteArray} (hw : Names.named w = true) {R r : List UInt8} {a b : UInt8} (hb : low b = false) (e : w.data.toList ++ R = a :: r) : a ≠ b := by
  obtain ⟨x, y, h1, h2, _, _⟩ := named_form hw
  rw [h1, List.cons_append] at e
  injection e with e1 _
  exact low_ne (e1 ▸ h2) hb
def Sgn (R : List UInt8) : Prop := ∃ b r, R = b :: r ∧ (b = 44 ∨ b = 125)
theorem Sgn.wch (h : Sgn R) : ∀ b r, R = b :: r → wch b = false := by
  rintro b r e
  obtain ⟨b', r', e', hb⟩ := h
  rw [e] at e'; injection e' with e1 _
  rw [e1]; rcases hb with rfl | rfl <;> decide
theorem Sgn.sk (h : Sgn R) : sk R = R := by
  obtain ⟨b', r', rfl, hb⟩ := h
  exact sk_cons (by rcases hb with rfl | rfl <;> decide)
theorem match_at {m : Match} (h : At s i L) (e : Pz.sk L = Lg.mt m ++ R) (hm : Lg.matchW m = 0) (hR : Sgn R) : ∃ j, match_ s ⟨i, c⟩ = .ok (bareM m, ⟨j, c⟩) ∧ At s j R := by
  obtain ⟨hk, hkey, hval⟩ := matchW_of hm
  obtain ⟨kind, key, val⟩ := m
  simp only at hk hkey hval
  unfold Lg.mt at e; simp only at e
  have hcase : kind = 4 ∨ kind = 1 ∨ kind = 2 ∨ kind = 3 := by omega
  rcases hcase with rfl | hcase
  · rw [if_neg (by decide), if_neg (by decide), if_neg (by decide)] at e
    obtain ⟨j1, e1, a1⟩ := eat_at (sg := ⟨#[33]⟩) (R := key.data.toList ++ R) h (by rw [e]; rfl)
    obtain ⟨j2, e2, a2⟩ := name_at (c := c) a1 (sk_name hkey R) hkey hR.wch
    refine ⟨j2, ?_, a2⟩
    unfold match_; simp only [e1, if_true, St.go]
    rw [e2, then_ok]; unfold bareM; rw [if_pos (show (2 : Int) < 4 by decide)]
  · have e9 : ∃ T, Pz.sk L = key.data.toList ++ T ∧ T = (if kind = 1 then 61 :: val.data.toList else if kind = 2 then 33 :: 61 :: val.data.toList else []) ++ R := by
      refine ⟨_, ?_, rfl⟩
      rw [e]
      rcases hcase with rfl | rfl | rfl <;> simp
    obtain ⟨T, eT, hT⟩ := e9
    obtain ⟨j1, e1, a1⟩ := eat_at_ne (a := 33) h fun b r g => name_ne hkey (by decide) (eT.symm.trans g)
    rw [eT] at a1
    have hTw : ∀ b r, T = b :: r → wch b = false := by
      intro b r g
      rcases hcase with rfl | rfl | rfl
      · rw [if_pos rfl] at hT; rw [hT] at g; injection g with g1 _; rw [← g1]; decide
      · rw [if_neg (by decide), if_pos rfl] at hT; rw [hT] at g; injection g with g1 _; rw [← g1]; decide
      · rw [if_neg (by decide), if_neg (by decide)] at hT; rw [hT] at g; exact hR.wch b r g
    obtain ⟨j2, e2, a2⟩ := name_at (c := c) a1 (sk_name hkey T) hkey hTw
    have hcut : match_ s ⟨i, c⟩ = msR s key ⟨j2, c⟩ := by rw [match_no e1, e2, then_ok]
    rw [hcut]
    rcases hcase with rfl | rfl | rfl
    · rw [if_pos rfl] at hT
      have hs : Pz.sk T = T := by rw [hT]; exact sk_cons (by decide)
      obtain ⟨j3, e3, a3⟩ := eat_at_no (sg := ⟨#[33, 61]⟩) a2 (by rw [hs, hT]; rintro ⟨t, ht⟩; cases ht)
      rw [hs] at a3
      obtain ⟨j4, e4, a4⟩ := eat_at (sg := ⟨#[61]⟩) (R := val.data.toList ++ R) a3 (by rw [hs, hT]; rfl)
      obtain ⟨j5, e5, a5⟩ := name_at (c := c) a4 (sk_name (hval (.inl rfl)) R) (hval (.inl rfl)) hR.wch
      exact ⟨j5, by rw [msR_2 e3 e4, e5, then_ok]; rfl, a5⟩
    · rw [if_neg (by decide), if_pos rfl] at hT
      have hs : Pz.sk T = T := by rw [hT]; exact sk_cons (by decide)
      obtain ⟨j3, e3, a3⟩ := eat_at (sg := ⟨#[33, 61]⟩) (R := val.data.toList ++ R) a2 (by rw [hs, hT]; rfl)
      obtain ⟨j5, e5, a5⟩ := name_at (c := c) a3 (sk_name (hval (.inr rfl)) R) (hval (.inr rfl)) hR.wch
      exact ⟨j5, by rw [msR_1 e3, e5, then_ok]; rfl, a5⟩
    · rw [if_neg (by decide), if_neg (by decide)] at hT
      obtain rfl : T = R := hT
      obtain ⟨b', r', rfl, hb⟩ := hR
      have hs : Pz.sk (b' :: r') = b' :: r' := sk_cons (by rcases hb with rfl | rfl <;> decide)
      obtain ⟨j3, e3, a3⟩ := eat_at_no (sg := ⟨#[33, 61]⟩) a2 (by rw [hs]; rintro ⟨t, ht⟩; injection ht with h1 _; rcases hb with rfl | rfl <;> cases h1)
      rw [hs] at a3
      obtain ⟨j4, e4, a4⟩ := eat_at_ne (a := 61) a3 (by rw [hs]; intro b r g; injection g with g1 _; rw [← g1]; rcases hb with rfl | rfl <;> decide)
      rw [hs] at a4
      exact ⟨j4, by rw [msR_3 e3 e4]; rfl, a4⟩
theorem mt_head {m : Match} (hm : Lg.matchW m = 0) : ∃ a r, Lg.mt m = a :: r ∧ spc a = false ∧ a ≠ 125 ∧ a ≠ 44 := by
  obtain ⟨hk, hkey, _⟩ := matchW_of hm
  obtain ⟨a, r, h1, h2, _, _⟩ := named_form hkey
  unfold Lg.mt
  split
  · exact ⟨a, _, by rw [h1]; rfl, low_spc h2, low_ne h2 (by decide), low_ne h2 (by decide)⟩
  split
  · exact ⟨a, _, by rw [h1]; rfl, low_spc h2, low_ne h2 (by decide), low_ne h2 (by decide)⟩
  split
  · exact ⟨a, _, h1, low_spc h2, low_ne h2 (by decide), low_ne h2 (by decide)⟩
  · exact ⟨33, _, rfl, by decide, by decide, by decide⟩
theorem winL_at : ∀ (r : List Match) (q : Nat) (done : List Match) {i : Nat} {L R : List UInt8}, At s i L → Pz.sk L = Lg.mts (decide (done = [])) r ++ 125 :: R → (∀ m ∈ r, Lg.matchW m = 0) → r.length + 1 ≤ q → done.length + r.length ≤ 5 →
    ∃ j, winL s q done ⟨i, c⟩ = .ok (done ++ r.map bareM, ⟨j, c⟩) ∧ At s j R
  | [], q + 1, done, i, L, R, h, e, hm, hq, hd => by
    rw [Lg.mts, List.nil_append] at e
    obtain ⟨j, e1, a1⟩ := eat_at (sg := ⟨#[125]⟩) (R := R) h (by rw [e]; rfl)
    refine ⟨j, ?_, a1⟩
    rw [winL]; simp only [e1, if_true, St.go, List.map_nil, List.append_nil]
  | m :: r, q + 1, done, i, L, R, h, e, hm, hq, hd => by
    rw [List.length_cons] at hq hd
    have hm0 := hm m List.mem_cons_self
    obtain ⟨a, x, hx1, hx2, hx3, hx4⟩ := mt_head hm0
    have hS : Sgn (Lg.mts false r ++ 125 :: R) := by
      cases r with
      | nil => exact ⟨125, R, rfl, .inr rfl⟩
      | cons y ys => exact ⟨44, _, rfl, .inl rfl⟩
    rw [Lg.mts] at e
    by_cases hdn : done = []
    · subst hdn
      rw [decide_eq_true rfl, if_pos rfl, List.append_assoc] at e
      obtain ⟨j1, e1, a1⟩ := eat_at_ne (a := 125) h fun b y g => by
        rw [e, hx1, List.cons_append] at g; injection g with g1 _; rw [← g1]; exact hx3
      rw [e] at a1
      obtain ⟨j2, e2, a2⟩ := match_at (c := c) a1 (by rw [hx1, List.cons_append]; exact sk_cons hx2) hm0 hS
      obtain ⟨j3, e3, a3⟩ := winL_at r q [bareM m] a2 (by rw [decide_eq_false (by simp)]; exact hS.sk) (fun y hy => hm y (List.mem_cons_of_mem _ hy)) (by omega) (by rw [List.length_nil] at hd; rw [List.length_singleton]; omega)
      refine ⟨j3, ?_, a3⟩
      rw [winL]
      simp only [e1, if_false, Bool.false_eq_true, St.go, List.length_nil, Nat.lt_irrefl, then_ok]
      rw [if_neg (by decide), e2, then_ok]
      simp only [List.nil_append]
      rw [e3]; rfl
    · rw [decide_eq_false hdn, if_neg (by simp)] at e
      obtain ⟨j1, e1, a1⟩ := eat_at_ne (a := 125) h fun b y g => by
        rw [e, List.cons_append] at g; injection g with g1 _; rw [← g1]; decide
      rw [e] at a1
      have hs : Pz.sk ((44 :: Lg.mt m) ++ Lg.mts false r ++ 125 :: R) = (44 :: Lg.mt m) ++ Lg.mts false r ++ 125 :: R := sk_cons (by decide)
      obtain ⟨j4, e4, a4⟩ := must_at (sg := ⟨#[44]⟩) (R := Lg.mt m ++ (Lg.mts false r ++ 125 :: R)) (c := c) a1 (by rw [hs]; simp)
      obtain ⟨j2, e2, a2⟩ := match_at (c := c) a4 (by rw [hx1, List.cons_append]; exact sk_cons hx2) hm0 hS
      obtain ⟨j3, e3, a3⟩ := winL_at r q (done ++ [bareM m]) a2 (by rw [decide_eq_false (by simp)]; exact hS.sk) (fun y hy => hm y (List.mem_cons_of_mem _ hy)) (by omega) (by rw [List.length_append, List.length_singleton]; omega)
      refine ⟨j3, ?_, a3⟩
      have hp : 0 < done.length := List.length_pos_iff.2 hdn
      rw [winL]
      simp only [e1, if_false, Bool.false_eq_true, St.go]
      rw [if_pos hp, e4, then_ok, if_neg (by omega), e2, then_ok, e3]
      simp
theorem matchesW_all : ∀ {l : List Match}, Lg.matchesW l = 0 → ∀ m ∈ l, Lg.matchW m = 0
  | x :: l, h, m, hm => by
    rw [Lg.matchesW] at h
    split at h
    · rename_i g; exact absurd h g
    rename_i g
    rcases List.mem_cons.1 hm with rfl | hm
    · exact Classical.not_not.1 g
    · exact matchesW_all h m hm
/-! ## A window -/
theorem sk_of {a : UInt8} {r : List UInt8} (h : spc a = false) (e : L = a :: r) : sk L = L := by rw [e]; exact sk_cons h
theorem window_at {w : ByteArray} {ms : List Match} {r : Int} (h : At s i L) (e : sk L = [40, 123] ++ Lg.mts true ms ++ [125, 91] ++ Lg.nb r ++ [93, 41] ++ R) (hm : ∀ m ∈ ms, Lg.matchW m = 0) (hl : ms.length ≤ 5) (hr : 1 ≤ r ∧ r ≤ 100000) (hc : c + 1 ≤ 100) :
    ∃ j, window s w ⟨i, c⟩ = .ok (.mk 2 0 r w (ms.map bareM) [] [], ⟨j, c + 1⟩) ∧ At s j R := by
  obtain ⟨x, y, n1, n2⟩ := nb_form (n := r) (by omega)
  obtain ⟨j1, e1, a1⟩ := must_at (sg := ⟨#[40]⟩) (c := c) (R := 123 :: (Lg.mts true ms ++ 125 :: 91 :: (Lg.nb r ++ 93 :: 41 :: R))) h (by rw [e]; simp)
  obtain ⟨j2, e2, a2⟩ := must_at (sg := ⟨#[123]⟩) (c := c) (R := Lg.mts true ms ++ 125 :: 91 :: (Lg.nb r ++ 93 :: 41 :: R)) a1 (sk_cons (by decide))
  have hs2 : sk (Lg.mts true ms ++ 125 :: 91 :: (Lg.nb r ++ 93 :: 41 :: R)) = Lg.mts (decide (([] : List Match) = [])) ms ++ 125 :: 91 :: (Lg.nb r ++ 93 :: 41 :: R) := by
    rw [decide_eq_true rfl]
    cases ms with
    | nil => exact sk_cons (by decide)
    | cons m l =>
      obtain ⟨a, z, hx1, hx2, _, _⟩ := mt_head (hm m List.mem_cons_self)
      rw [Lg.mts, if_pos rfl, hx1]; exact sk_cons hx2
  obtain ⟨j3, e3, a3⟩ := winL_at (c := c) ms 6 [] a2 hs2 hm (by omega) (by simpa using hl)
  obtain ⟨j4, e4, a4⟩ := must_at (sg := ⟨#[91]⟩) (c := c) (R := Lg.nb r ++ 93 :: 41 :: R) a3 (sk_cons (by decide))
  obtain ⟨j5, e5, a5⟩ := numb_at (c := c) (least := 1) (most := 100000) a4 (by rw [n1, List.cons_append]; exact sk_cons (dig_spc (n2 x List.mem_cons_self))) (by omega) hr.1 hr.2 (fun b r' g => by injection g with g1 _; rw [← g1]; decide)
  obtain ⟨j6, e6, a6⟩ := must_at (sg := ⟨#[93]⟩) (c := c) (R := 41 :: R) a5 (sk_cons (by decide))
  obtain ⟨j7, e7, a7⟩ := must_at (sg := ⟨#[41]⟩) (c := c) (R := R) a6 (sk_cons (by decide))
  refine ⟨j7, ?_, a7⟩
  unfold window
  rw [e1, then_ok, e2, then_ok, e3, then_ok]
  simp only [List.nil_append]
  rw [e4, then_ok, e5, then_ok]
  simp only
  rw [e6, then_ok, e7, then_ok, node_at hc, then_ok]
/-! ## Labels behind by -/
theorem byL_at : ∀ (r : List ByteArray) (q : Nat) (done : List ByteArray) {i : Nat} {L R : List UInt8}, At s i L → sk L = sk (Lg.bys false r ++ 32 :: 40 :: R) → (∀ b ∈ r, Names.named b = true) → r.length + 1 ≤ q → done.length + r.length ≤ 4 →
    ∃ j, byL s q done ⟨i, c⟩ = .ok (done ++ r, ⟨j, c⟩) ∧ At s j (40 :: R)
  | [], q + 1, done, i, L, R, h, e, hb, hq, hd => by
    have e' : sk L = 40 :: R := e.trans (by rw [Lg.bys, List.nil_append, sk_blank]; exact sk_cons (by decide))
    obtain ⟨j, e1, a1⟩ := eat_at_ne (a := 44) h fun b y g => by rw [e'] at g; injection g with g1 _; rw [← g1]; decide
    rw [e'] at a1
    refine ⟨j, ?_, a1⟩
    rw [byL]; simp only [e1, if_false, Bool.false_eq_true, St.go, List.append_nil]
  | b :: r, q + 1, done, i, L, R, h, e, hb, hq, hd => by
    rw [List.length_cons] at hq hd
    have hb0 := hb b List.mem_cons_self
    have e' : sk L = 44 :: (b.data.toList ++ (Lg.bys false r ++ 32 :: 40 :: R)) := by
      rw [e, Lg.bys, if_neg (by simp)]
      have : [44] ++ b.data.toList ++ Lg.bys false r ++ 32 :: 40 :: R = 44 :: (b.data.toList ++ (Lg.bys false r ++ 32 :: 40 :: R)) := by simp
      rw [this]; exact sk_cons (by decide)
    obtain ⟨j1, e1, a1⟩ := eat_at (sg := ⟨#[44]⟩) (R := b.data.toList ++ (Lg.bys false r ++ 32 :: 40 :: R)) h (by rw [e']; rfl)
    have hw : ∀ x y, Lg.bys false r ++ 32 :: 40 :: R = x :: y → wch x = false := by
      intro x y g
      cases r with
      | nil => injection g with g1 _; rw [← g1]; decide
      | cons z zs => rw [Lg.bys, if_neg (by simp)] at g; injection g with g1 _; rw [← g1]; decide
    obtain ⟨j2, e2, a2⟩ := name_at (c := c) a1 (sk_name hb0 _) hb0 hw
    obtain ⟨j3, e3, a3⟩ := byL_at r q (done ++ [b]) a2 rfl (fun y hy => hb y (List.mem_cons_of_mem _ hy)) (by omega) (by rw [List.length_append, List.length_singleton]; omega)
    refine ⟨j3, ?_, a3⟩
    rw [byL]; simp only [e1, if_true, St.go]
    rw [if_neg (by omega), e2, then_ok, e3]; simp
theorem bys_at {r : List ByteArray} {w : ByteArray} {j0 : Nat} (h : At s i L) (e : sk L = sk (Lg.bys true r ++ 32 :: 40 :: R)) (hb : ∀ b ∈ r, Names.named b = true) (hl : r.length ≤ 4) :
    ∃ v j1 j2, word s ⟨i, c⟩ = .ok (v, ⟨j1, c⟩) ∧ ¬ (v ≠ ⟨#[]⟩ ∧ v ≠ ⟨#[98, 121]⟩) ∧ bys s v ⟨j1, c⟩ = .ok (r, ⟨j2, c⟩) ∧ At s j2 (if r = [] then 40 :: R else 40 :: R) := by
  cases r with
  | nil =>
    have e' : sk L = 40 :: R := e.trans (by rw [Lg.bys, List.nil_append, sk_blank]; exact sk_cons (by decide))
    obtain ⟨j1, e1, a1⟩ := word_none (c := c) h fun b y g => by rw [e'] at g; injection g with g1 _; rw [← g1]; decide
    refine ⟨⟨#[]⟩, j1, j1, e1, fun g => g.1 rfl, ?_, by rw [e'] at a1; simpa using a1⟩
    unfold bys; rw [if_neg (by decide)]
  | cons b r =>
    have hb0 := hb b List.mem_cons_self
    have hby : Names.named ⟨#[98, 121]⟩ = true := by decide
    have e' : sk L = (⟨#[98, 121]⟩ : ByteArray).data.toList ++ (32 :: (b.data.toList ++ (Lg.bys false r ++ 32 :: 40 :: R))) := by
      rw [e, Lg.bys, if_pos rfl]
      have : [32, 98, 121, 32] ++ b.data.toList ++ Lg.bys false r ++ 32 :: 40 :: R = 32 :: ((⟨#[98, 121]⟩ : ByteArray).data.toList ++ (32 :: (b.data.toList ++ (Lg.bys false r ++ 32 :: 40 :: R)))) := by simp
      rw [this, sk_blank]; exact sk_name hby _
    obtain ⟨j1, e1, a1⟩ := word_at (c := c) h e' hby fun x y g => by injection g with g1 _; rw [← g1]; decide
    have hw : ∀ x y, Lg.bys false r ++ 32 :: 40 :: R = x :: y → wch x = false := by
      intro x y g
      cases r with
      | nil => injection g with g1 _; rw [← g1]; decide
      | cons z zs => rw [Lg.bys, if_neg (by simp)] at g; injection g with g1 _; rw [← g1]; decide
    obtain ⟨j2, e2, a2⟩ := name_at (c := c) a1 (by rw [sk_blank]; exact sk_name hb0 _) hb0 hw
    rw [List.length_cons] at hl
    obtain ⟨j3, e3, a3⟩ := byL_at (c := c) r 5 [b] a2 rfl (fun y hy => hb y (List.mem_cons_of_mem _ hy)) (by omega) (by rw [List.length_singleton]; omega)
    refine ⟨⟨#[98, 121]⟩, j1, j3, e1, fun g => g.2 rfl, ?_, by simpa using a3⟩
    unfold bys; rw [if_pos rfl, e2, then_ok]; simp only; rw [e3]; rfl
/-! ## Expressions -/
def Sep (R : List UInt8) : Prop := ∀ b r, R = b :: r → b = 32 ∨ b = 41
def Nst (R : List UInt8) : Prop := ∀ b r, sk R = b :: r → b ≠ 42
def Npl (R : List UInt8) : Prop := ∀ b r, sk R = b :: r → b ≠ 43 ∧ b ≠ 45
def FacP (s : ByteArray) (e : Expr) : Prop := ∀ (N : Nat) (c d : Int) (i : Nat) (L R : List UInt8), fineE e → Mn.low d e → 21 ≤ d + N → (e.kind = 4 → 22 ≤ d + N) → 0 ≤ c → c + nodes e ≤ 100 → At s i L → sk L = Lg.txt e 2 ++ R → Sep R →
  ∃ j, fac s N ⟨i, c⟩ = .ok (bare e, ⟨j, c + nodes e⟩) ∧ At s j R
def TrmP (s : ByteArray) (e : Expr) : Prop := ∀ (N : Nat) (c d : Int) (i : Nat) (L R : List UInt8), fineE e → Mn.low d e → 21 ≤ d + N → (e.kind = 4 → 22 ≤ d + N) → 0 ≤ c → c + nodes e ≤ 100 → At s i L → sk L = Lg.txt e 1 ++ R → Sep R →
  ∃ j k : Nat, trm s N ⟨i, c⟩ = binL s (fac s N) star (101 - k) (bare e) ⟨j, c + nodes e⟩ ∧ At s j R ∧ (k : Int) + 1 ≤ nodes e
def XprP (s : ByteArray) (e : Expr) : Prop := ∀ (N : Nat) (c d : Int) (i : Nat) (L R : List UInt8), fineE e → Mn.low d e → 21 ≤ d + N → 0 ≤ c → c + nodes e ≤ 100 → At s i L → sk L = Lg.txt e 0 ++ R → Sep R → Nst R →
  ∃ j k : Nat, xpr s N ⟨i, c⟩ = binL s (trm s N) plus (101 - k) (bare e) ⟨j, c + nodes e⟩ ∧ At s j (sk R) ∧ (k : Int) + 1 ≤ nodes e
theorem Nst.star (h : Nst R) {j : Nat} (a : At s j R) : ∃ j', pick s star j = (⟨#[]⟩, j') ∧ At s j' (sk R) := by
  obtain ⟨j', e, a'⟩ := eat_at_ne (a := 42) a h
  exact ⟨j', star0 e, a'⟩
theorem Npl.plus (h : Npl R) {j : Nat} (a : At s j (sk R)) : ∃ j', pick s plus j = (⟨#[]⟩, j') ∧ At s j' (sk R) := by
  obtain ⟨j1, e1, a1⟩ := eat_at_ne (a := 43) a fun b r g => (h b r (by rw [sk_sk] at g; exact g)).1
  rw [sk_sk] at a1
  obtain ⟨j2, e2, a2⟩ := eat_at_ne (a := 45) a1 fun b r g => (h b r (by rw [sk_sk] at g; exact g)).2
  rw [sk_sk] at a2
  exact ⟨j2, plus0 e1 e2, a2⟩
theorem TrmP.ok {e : Expr} (h : TrmP s e) {N : Nat} {d : Int} (hf : fineE e) (hl : Mn.low d e) (hN : 21 ≤ d + N) (hk : e.kind = 4 → 22 ≤ d + N) (h0 : 0 ≤ c) (hc : c + nodes e ≤ 100) (a : At s i L) (ht : sk L = Lg.txt e 1 ++ R) (hs : Sep R) (hn : Nst R) :
    ∃ j, trm s N ⟨i, c⟩ = .ok (bare e, ⟨j, c + nodes e⟩) ∧ At s j (sk R) := by
  obtain ⟨j, k, e1, a1, hk1⟩ := h N c d i L R hf hl hN hk h0 hc a ht hs
  obtain ⟨j', e2, a2⟩ := hn.star a1
  refine ⟨j', ?_, a2⟩
  rw [e1]
  exact bin_done (q := 100 - k) (by rw [show 101 - k = 100 - k + 1 by omega]) e2
theorem XprP.ok {e : Expr} (h : XprP s e) {N : Nat} {d : Int} (hf : fineE e) (hl : Mn.low d e) (hN : 21 ≤ d + N) (h0 : 0 ≤ c) (hc : c + nodes e ≤ 100) (a : At s i L) (ht : sk L = Lg.txt e 0 ++ R) (hs : Sep R) (hn : Nst R) (hp : Npl R) :
    ∃ j, xpr s N ⟨i, c⟩ = .ok (bare e, ⟨j, c + nodes e⟩) ∧ At s j (sk R) := by
  obtain ⟨j, k, e1, a1, hk1⟩ := h N c d i L R hf hl hN h0 hc a ht hs hn
  obtain ⟨j', e2, a2⟩ := hp.plus a1
  refine ⟨j', ?_, a2⟩
  rw [e1]
  exact bin_done (q := 100 - k) (by rw [show 101 - k = 100 - k + 1 by omega]) e2
/-- a factor is a term, and a sum -/
theorem trm_of_fac {e : Expr} (h : FacP s e) (ht : Lg.txt e 1 = Lg.txt e 2) : TrmP s e := fun N c d i L R hf hl hN hk h0 hc a e1 hs => by
  obtain ⟨j, e2, a2⟩ := h N c d i L R hf hl hN hk h0 hc a (by rw [← ht]; exact e1) hs
  exact ⟨j, 0, by unfold trm sumOf; rw [e2, then_ok], a2, by have := nodes_pos e; omega⟩
theorem xpr_of_trm {e : Expr} (h : TrmP s e) (hk : e.kind = 4 → ∀ (N : Nat) (d : Int), Mn.low d e → 21 ≤ d + N → 22 ≤ d + N ∨ True) (ht : Lg.txt e 0 = Lg.txt e 1)
    (h' : ∀ (N : Nat) (c d : Int) (i : Nat) (L R : List UInt8), fineE e → Mn.low d e → 21 ≤ d + N → 0 ≤ c → c + nodes e ≤ 100 → At s i L → sk L = Lg.txt e 1 ++ R → Sep R → Nst R → ∃ j, trm s N ⟨i, c⟩ = .ok (bare e, ⟨j, c + nodes e⟩) ∧ At s j (sk R)) : XprP s e := fun N c d i L R hf hl hN h0 hc a e1 hs hn => by
  obtain ⟨j, e2, a2⟩ := h' N c d i L R hf hl hN h0 hc a (by rw [← ht]; exact e1) hs hn
  exact ⟨j, 0, by unfold xpr sumOf; rw [e2, then_ok], a2, by have := nodes_pos e; omega⟩
/-! ## Texts -/
theorem txt_1 {n r l : Int} {w : ByteArray} {ms : List Match} {bs : List ByteArray} {ks : List Expr} : Lg.txt (.mk 1 n r w ms bs ks) l = Lg.nb n := by rw [Lg.txt, if_pos rfl]
theorem txt_2 {n r l : Int} {w : ByteArray} {ms : List Match} {bs : List ByteArray} {ks : List Expr} : Lg.txt (.mk 2 n r w ms bs ks) l = Lg.wint w ms r := by rw [Lg.txt, if_neg (by decide), if_pos rfl]
theorem txt_3 {n r l : Int} {w : ByteArray} {ms : List Match} {bs : List ByteArray} {k : Expr} : Lg.txt (.mk 3 n r w ms bs [k]) l = [97, 108, 108, 32] ++ w.data.toList ++ Lg.bys true bs ++ [32, 40] ++ Lg.txt k 0 ++ [41] := by
  rw [Lg.txt, if_neg (by decide), if_neg (by decide), if_pos rfl, Lg.txts]; rfl
def tw (w : ByteArray) (a b : Expr) : List UInt8 := Lg.txt a (Lg.lv w) ++ [32] ++ w.data.toList ++ [32] ++ Lg.txt b (Lg.lv w + 1)
theorem txt_4 {n r l : Int} {w : ByteArray} {ms : List Match} {bs : List ByteArray} {a b : Expr} : Lg.txt (.mk 4 n r w ms bs [a, b]) l = if Lg.lv w < l then [40] ++ tw w a b ++ [41] else tw w a b := by
  rw [Lg.txt, if_neg (by decide), if_neg (by decide), if_neg (by decide), Lg.txts, Lg.txts, Lg.txts]; rfl
theorem word_named_of {w : ByteArray} (h : 0 ≤ Names.indexOf Agg.words w 0) : Names.named w = true ∧ w ≠ ⟨#[97, 108, 108]⟩ := by
  have h1 := (Names.index_mem _ _ _).1 h
  have h2 : ∀ x ∈ Agg.words, Names.named x = true ∧ x ≠ ⟨#[97, 108, 108]⟩ := by decide
  exact h2 w h1
theorem total_named {w : ByteArray} (h : 0 ≤ Names.indexOf Lg.totals w 0) : Names.named w = true := by
  have h1 := (Names.index_mem _ _ _).1 h
  have h2 : ∀ x ∈ Lg.totals, Names.named x = true := by decide
  exact h2 w h1
structure OkW (n r : Int) (w : ByteArray) (ms : List Match) (bs : List ByteArray) : Prop where
  word : 0 ≤ Names.indexOf Agg.words w 0
  len : ms.length ≤ 5
  each : ∀ m ∈ ms, Lg.matchW m = 0
  range : 1 ≤ r ∧ r ≤ 100000
theorem okW_of {n r : Int} {w : ByteArray} {ms : List Match} {bs : List ByteArray} (h : Lg.ownW 2 n r w ms bs = 0) : OkW n r w ms bs := by
  rw [Lg.ownW, if_neg (by decide), if_pos rfl, Lg.windowW] at h
  split at h
  · cases h
  rename_i g1
  split at h
  · cases h
  split at h
  · rename_i g; exact absurd h g
  rename_i g3
  split at h
  · cases h
  exact ⟨Classical.not_not.1 g1, by omega, matchesW_all (Classical.not_not.1 g3), by omega⟩
structure OkA (w : ByteArray) (bs : List ByteArray) : Prop where
  word : 0 ≤ Names.indexOf Lg.totals w 0
  len : bs.length ≤ 4
  each : ∀ b ∈ bs, Names.named b = true
theorem okA_of {n r : Int} {w : ByteArray} {ms : List Match} {bs : List ByteArray} (h : Lg.ownW 3 n r w ms bs = 0) : OkA w bs := by
  rw [Lg.ownW, if_neg (by decide), if_neg (by decide), if_pos rfl] at h
  split at h
  · cases h
  rename_i g1
  split at h
  · cases h
  split at h
  · cases h
  rename_i g3
  refine ⟨Classical.not_not.1 g1, by omega, fun b hb => ?_⟩
  rw [Bool.not_eq_true, List.any_eq_false] at g3
  simpa using g3 b hb
/-- a text never begins with a blank -/
theorem txt_head : ∀ (e : Expr) (l : Int), fineE e → ∃ a r, Lg.txt e l = a :: r ∧ spc a = false
  | .mk k n r w ms bs ks, l, hf => by
    rw [fineE] at hf
    obtain ⟨hk, ha, ho, hs⟩ := hf
    have : k = 1 ∨ k = 2 ∨ k = 3 ∨ k = 4 := by omega
    rcases this with rfl | rfl | rfl | rfl
    · rw [txt_1]
      obtain ⟨a, r, h1, h2⟩ := nb_form (Lg.numR_of ho).1
      exact ⟨a, r, h1, dig_spc (h2 a List.mem_cons_self)⟩
    · rw [txt_2]
      obtain ⟨a, r, h1, h2, _, _⟩ := named_form (word_named_of (okW_of ho).word).1
      exact ⟨a, _, by unfold Lg.wint; rw [h1]; rfl, low_spc h2⟩
    · match ks, ha with
      | [x], _ => rw [txt_3]; exact ⟨97, _, rfl, by decide⟩
    · match ks, ha, hs with
      | [x, y], _, hs =>
        rw [txt_4]
        split
        · exact ⟨40, _, rfl, by decide⟩
        · rw [fineEs] at hs
          obtain ⟨a, r, h1, h2⟩ := txt_head x (Lg.lv w) hs.1
          exact ⟨a, _, by unfold tw; rw [h1]; rfl, h2⟩
theorem sk_txt {e : Expr} (h : fineE e) (l : Int) (R : List UInt8) : sk (Lg.txt e l ++ R) = Lg.txt e l ++ R := by
  obtain ⟨a, r, h1, h2⟩ := txt_head e l h
  rw [h1, List.cons_append]; exact sk_cons h2
/-! ## Each kind -/
theorem fac_open {N : Nat} {d : Int} {e : Expr} (hl : Mn.low d e) (hN : 21 ≤ d + N) : ∃ M, N = M + 1 ∧ 20 ≤ d + M := by
  cases e with
  | mk k n r w ms bs ks => rw [Mn.low] at hl; exact ⟨N - 1, by omega, by omega⟩
theorem fac_num {n r : Int} {w : ByteArray} {ms : List Match} {bs : List ByteArray} {ks : List Expr} : FacP s (.mk 1 n r w ms bs ks) := fun N c d i L R hf hl hN hk h0 hc a e hs => by
  obtain ⟨M, rfl, _⟩ := fac_open hl hN
  rw [fineE] at hf
  obtain ⟨_, ha, ho, _⟩ := hf
  obtain ⟨h1, h2⟩ := Lg.numR_of ho
  obtain rfl : ks = [] := by
    simp [Lg.arity] at ha; exact ha
  rw [nodes, nodess] at hc ⊢
  rw [txt_1] at e
  obtain ⟨x, y, n1, n2⟩ := nb_form h1
  have hx := n2 x List.mem_cons_self
  have hsk : sk (Lg.nb n ++ R) = Lg.nb n ++ R := by rw [n1, List.cons_append]; exact sk_cons (dig_spc hx)
  obtain ⟨j1, e1, a1⟩ := eat_at_ne (a := 40) a fun b y' g => by
    rw [e, n1, List.cons_append] at g; injection g with g1 _; rw [← g1]; rintro rfl; simp [dig] at hx
  rw [e] at a1
  have a2 := a1.past; rw [hsk] at a2
  obtain ⟨j3, e3, a3⟩ := word_none (c := c) a2 fun b y' g => by
    rw [hsk, n1, List.cons_append] at g; injection g with g1 _; rw [← g1]; exact dig_low hx
  rw [hsk] at a3
  obtain ⟨j4, e4, a4⟩ := numb_at (c := c) (least := 0) (most := 1000000) a3 hsk h1 h1 h2 fun b r' g => by
    rcases hs b r' g with rfl | rfl <;> decide
  refine ⟨j4, ?_, a4⟩
  rw [fac_succ]
  unfold factor
  simp only [e1, if_false, Bool.false_eq_true, St.go]
  rw [e3, then_ok]
  simp only
  rw [if_neg (by decide), if_pos trivial, e4, then_ok]
  simp only
  rw [node_at (by omega), then_ok, bare_1, bares]; rfl
theorem fac_win {n r : Int} {w : ByteArray} {ms : List Match} {bs : List ByteArray} {ks : List Expr} : FacP s (.mk 2 n r w ms bs ks) := fun N c d i L R hf hl hN hk h0 hc a e hs => by
  obtain ⟨M, rfl, _⟩ := fac_open hl hN
  rw [fineE] at hf
  obtain ⟨_, ha, ho, _⟩ := hf
  have hw := okW_of ho
  obtain ⟨hn, hall⟩ := word_named_of hw.word
  obtain rfl : ks = [] := by
    simp [Lg.arity] at ha; exact ha
  rw [nodes, nodess] at hc ⊢
  rw [txt_2] at e
  have e' : sk L = w.data.toList ++ ([40, 123] ++ Lg.mts true ms ++ [125, 91] ++ Lg.nb r ++ [93, 41] ++ R) := by rw [e]; unfold Lg.wint; simp
  obtain ⟨j1, e1, a1⟩ := eat_at_ne (a := 40) a fun b y g => name_ne hn (by decide) (e'.symm.trans g)
  have a2 := a1.past; rw [sk_sk] at a2
  obtain ⟨j3, e3, a3⟩ := word_at (c := c) a2 (by rw [sk_sk]; exact e') hn fun b y g => by
    simp only [List.cons_append, List.nil_append] at g; injection g with g1 _; rw [← g1]; decide
  obtain ⟨j4, e4, a4⟩ := window_at (c := c) (w := w) a3 (sk_cons (by decide)) hw.each hw.len hw.range (by omega)
  refine ⟨j4, ?_, a4⟩
  rw [fac_succ]
  unfold factor
  simp only [e1, if_false, Bool.false_eq_true, St.go]
  rw [e3, then_ok]
  simp only
  rw [if_neg hall, if_neg (named_ne hn), if_neg (by simpa using hw.word), e4, bare_2, bares]; rfl
theorem fac_all_ {n r : Int} {w : ByteArray} {ms : List Match} {bs : List ByteArray} {k : Expr} (ih : XprP s k) : FacP s (.mk 3 n r w ms bs [k]) := fun N c d i L R hf hl hN hk h0 hc a e hs => by
  obtain ⟨M, rfl, hM⟩ := fac_open hl hN
  rw [fineE, fineEs, fineEs] at hf
  obtain ⟨_, ha, ho, hfk, _⟩ := hf
  rw [Mn.low, lows, lows] at hl
  have hA := okA_of ho
  have hn := total_named hA.word
  rw [nodes, nodess, nodess] at hc ⊢
  rw [txt_3] at e
  have hk0 := nodes_pos k
  have hal : Names.named ⟨#[97, 108, 108]⟩ = true := by decide
  have e' : sk L = (⟨#[97, 108, 108]⟩ : ByteArray).data.toList ++ (32 :: (w.data.toList ++ (Lg.bys true bs ++ 32 :: 40 :: (Lg.txt k 0 ++ 41 :: R)))) := by rw [e]; simp
  obtain ⟨j1, e1, a1⟩ := eat_at_ne (a := 40) a fun b y g => name_ne hal (by decide) (e'.symm.trans g)
  have a2 := a1.past; rw [sk_sk] at a2
  obtain ⟨j3, e3, a3⟩ := word_at (c := c) a2 (by rw [sk_sk]; exact e') hal fun b y g => by injection g with g1 _; rw [← g1]; decide
  have a4 := a3.past
  rw [sk_blank, sk_name hn] at a4
  have hwb : ∀ x y, Lg.bys true bs ++ 32 :: 40 :: (Lg.txt k 0 ++ 41 :: R) = x :: y → wch x = false := by
    intro x y g
    cases bs with
    | nil => injection g with g1 _; rw [← g1]; decide
    | cons z zs => rw [Lg.bys, if_pos rfl] at g; injection g with g1 _; rw [← g1]; decide
  obtain ⟨j5, e5, a5⟩ := name_at (c := c) a4 (sk_name hn _) hn hwb
  have a6 := a5.past
  obtain ⟨v, j7, j8, e7, hv, e8, a8⟩ := bys_at (c := c) (R := Lg.txt k 0 ++ 41 :: R) (w := w) (j0 := 0) a6 (sk_sk _) hA.each hA.len
  have a8' : At s j8 (40 :: (Lg.txt k 0 ++ 41 :: R)) := by
    by_cases hb : bs = []
    · rw [if_pos hb] at a8; exact a8
    · rw [if_neg hb] at a8; exact a8
  obtain ⟨j9, e9, a9⟩ := must_at (sg := ⟨#[40]⟩) (c := c) (R := Lg.txt k 0 ++ 41 :: R) a8' (sk_cons (by decide))
  obtain ⟨ja, ea, aa⟩ := ih.ok (N := M) (d := d + 1) (c := c) hfk hl.2.1 (by omega) h0 (by omega) a9 (sk_txt hfk 0 _) (fun b r' g => by injection g with g1 _; exact .inr g1.symm) (fun b r' g => by
    rw [sk_cons (by decide)] at g; injection g with g1 _; rw [← g1]; decide) (fun b r' g => by
    rw [sk_cons (by decide)] at g; injection g with g1 _; rw [← g1]; decide)
  rw [sk_cons (by decide)] at aa
  obtain ⟨jb, eb, ab⟩ := must_at (sg := ⟨#[41]⟩) (c := c + nodes k) (R := R) aa (sk_cons (by decide))
  refine ⟨jb, ?_, ab⟩
  rw [fac_succ]
  unfold factor
  simp only [e1, if_false, Bool.false_eq_true, St.go]
  rw [e3, then_ok]
  simp only
  rw [if_pos trivial]
  unfold all
  simp only [St.go]
  rw [e5, then_ok]
  simp only
  rw [if_neg (by simpa using hA.word), e7, then_ok, if_neg hv]
  simp only
  rw [e8, then_ok]
  unfold allTail
  rw [e9, then_ok, ea, then_ok]
  simp only
  rw [eb, then_ok, node_at (by omega), then_ok, bare_3, bares, bares]
  rw [show c + nodes k + 1 = c + (1 + (nodes k + 0)) by omega]
/-- a sum, or a term, in parentheses -/
theorem fac_par_ {n r : Int} {w : ByteArray} {ms : List Match} {bs : List ByteArray} {x y : Expr} (hx : XprP s (.mk 4 n r w ms bs [x, y])) : FacP s (.mk 4 n r w ms bs [x, y]) := fun N c d i L R hf hl hN hk h0 hc a e hs => by
  have hN' := hk rfl
  obtain ⟨M, rfl, hM⟩ := fac_open hl hN
  have hlv : Lg.lv w < 2 := by unfold Lg.lv; split <;> omega
  have h40 : Lg.txt (.mk 4 n r w ms bs [x, y]) 0 = tw w x y := by rw [txt_4, if_neg (by have := Lg.lv_pos w; omega)]
  rw [txt_4, if_pos hlv, ← h40] at e
  obtain ⟨j1, e1, a1⟩ := eat_at (sg := ⟨#[40]⟩) (R := Lg.txt (.mk 4 n r w ms bs [x, y]) 0 ++ 41 :: R) a (by rw [e]; simp)
  obtain ⟨ja, ea, aa⟩ := hx.ok (N := M) (d := d) (c := c) hf hl (by omega) h0 hc a1 (sk_txt hf 0 _) (fun b r' g => by injection g with g1 _; exact .inr g1.symm) (fun b r' g => by
    rw [sk_cons (by decide)] at g; injection g with g1 _; rw [← g1]; decide) (fun b r' g => by
    rw [sk_cons (by decide)] at g; injection g with g1 _; rw [← g1]; decide)
  rw [sk_cons (by decide)] at aa
  obtain ⟨jb, eb, ab⟩ := must_at (sg := ⟨#[41]⟩) (c := c + nodes (.mk 4 n r w ms bs [x, y])) (R := R) aa (sk_cons (by decide))
  refine ⟨jb, ?_, ab⟩
  rw [fac_succ]
  unfold factor
  simp only [e1, if_true, St.go]
  rw [ea, then_ok]
  simp only
  rw [eb, then_ok]
/-- a term of two -/
theorem trm_two {n r : Int} {ms : List Match} {bs : List ByteArray} {x y : Expr} (hx : TrmP s x) (hy : FacP s y) : ∀ (N : Nat) (c d : Int) (i : Nat) (L R : List UInt8), fineE (.mk 4 n r ⟨#[42]⟩ ms bs [x, y]) → Mn.low d (.mk 4 n r ⟨#[42]⟩ ms bs [x, y]) → 21 ≤ d + N → 0 ≤ c → c + nodes (.mk 4 n r ⟨#[42]⟩ ms bs [x, y]) ≤ 100 → At s i L → sk L = Lg.txt (.mk 4 n r ⟨#[42]⟩ ms bs [x, y]) 1 ++ R → Sep R →
    ∃ j k : Nat, trm s N ⟨i, c⟩ = binL s (fac s N) star (101 - k) (bare (.mk 4 n r ⟨#[42]⟩ ms bs [x, y])) ⟨j, c + nodes (.mk 4 n r ⟨#[42]⟩ ms bs [x, y])⟩ ∧ At s j R ∧ (k : Int) + 1 ≤ nodes (.mk 4 n r ⟨#[42]⟩ ms bs [x, y]) := fun N c d i L R hf hl hN h0 hc a e hs => by
  have hlv : Lg.lv ⟨#[42]⟩ = 1 := rfl
  rw [txt_4, if_neg (by rw [hlv]; omega), tw, hlv] at e
  rw [fineE, fineEs, fineEs, fineEs] at hf
  obtain ⟨_, _, _, hfx, hfy, _⟩ := hf
  rw [Mn.low, lows, lows, lows] at hl
  rw [nodes, nodess, nodess, nodess] at hc ⊢
  have p1 := nodes_pos x; have p2 := nodes_pos y
  obtain ⟨j1, k, e1, a1, hk1⟩ := hx N c (d + 1) i L (32 :: 42 :: 32 :: (Lg.txt y 2 ++ R)) hfx hl.2.1 (by omega) (fun _ => by omega) h0 (by omega) a (by rw [e]; simp) (fun b r' g => by injection g with g1 _; exact .inl g1.symm)
  obtain ⟨j2, e2, a2⟩ := eat_at (sg := ⟨#[42]⟩) (R := 32 :: (Lg.txt y 2 ++ R)) a1 (by rw [sk_blank]; exact sk_cons (by decide))
  obtain ⟨j3, e3, a3⟩ := hy N (c + nodes x) (d + 1) j2 _ R hfy hl.2.2.1 (by omega) (fun _ => by omega) (by omega) (by omega) a2 (by rw [sk_blank]; exact sk_txt hfy 2 R) hs
  refine ⟨j3, k + 1, ?_, a3, by omega⟩
  rw [e1]
  have hb := bin_next (X := binL s (fac s N) star (101 - k) (bare x) ⟨j1, c + nodes x⟩) (q := 100 - k) (by rw [show 101 - k = 100 - k + 1 by omega]) (star1 e2) (by decide) e3
  rw [hb, then_ok]
  simp only
  rw [node_at (by omega), then_ok, bare_4, bares, bares, bares, show 101 - (k + 1) = 100 - k by omega, show c + nodes x + nodes y + 1 = c + (1 + (nodes x + (nodes y + 0))) by omega]
/-- a sum of two -/
theorem xpr_two {n r : Int} {w : ByteArray} {ms : List Match} {bs : List ByteArray} {x y : Expr} (hw : w = ⟨#[43]⟩ ∨ w = ⟨#[45]⟩) (hx : XprP s x) (hy : TrmP s y) : XprP s (.mk 4 n r w ms bs [x, y]) := fun N c d i L R hf hl hN h0 hc a e hs hn => by
  have hlv : Lg.lv w = 0 := by rcases hw with rfl | rfl <;> rfl
  rw [txt_4, if_neg (by rw [hlv]; omega), tw, hlv] at e
  rw [fineE, fineEs, fineEs, fineEs] at hf
  obtain ⟨_, _, _, hfx, hfy, _⟩ := hf
  rw [Mn.low, lows, lows, lows] at hl
  rw [nodes, nodess, nodess, nodess] at hc ⊢
  have p1 := nodes_pos x; have p2 := nodes_pos y
  obtain ⟨b0, hb0, hbs, hb42⟩ : ∃ b0, w.data.toList = [b0] ∧ spc b0 = false ∧ b0 ≠ 42 := by rcases hw with rfl | rfl <;> exact ⟨_, rfl, by decide, by decide⟩
  have hR : sk (32 :: (w.data.toList ++ 32 :: (Lg.txt y 1 ++ R))) = w.data.toList ++ 32 :: (Lg.txt y 1 ++ R) := by rw [sk_blank, hb0]; exact sk_cons hbs
  obtain ⟨j1, k, e1, a1, hk1⟩ := hx N c (d + 1) i L (32 :: (w.data.toList ++ 32 :: (Lg.txt y 1 ++ R))) hfx hl.2.1 (by omega) h0 (by omega) a (by rw [e]; simp) (fun b r' g => by injection g with g1 _; exact .inl g1.symm)
    (fun b r' g => by rw [hR, hb0] at g; injection g with g1 _; rw [← g1]; exact hb42)
  rw [hR] at a1
  have hsk1 : sk (w.data.toList ++ 32 :: (Lg.txt y 1 ++ R)) = w.data.toList ++ 32 :: (Lg.txt y 1 ++ R) := by rw [hb0]; exact sk_cons hbs
  obtain ⟨j2, e2, a2⟩ : ∃ j2, pick s plus j1 = (w, j2) ∧ At s j2 (32 :: (Lg.txt y 1 ++ R)) := by
    rcases hw with rfl | rfl
    · obtain ⟨j2, e2, a2⟩ := eat_at (sg := ⟨#[43]⟩) (R := 32 :: (Lg.txt y 1 ++ R)) a1 hsk1
      exact ⟨j2, plus1 e2, a2⟩
    · obtain ⟨j3, e3, a3⟩ := eat_at_ne (a := 43) a1 fun b r' g => by rw [hsk1] at g; injection g with g1 _; rw [← g1]; decide
      rw [hsk1] at a3
      obtain ⟨j2, e2, a2⟩ := eat_at (sg := ⟨#[45]⟩) (R := 32 :: (Lg.txt y 1 ++ R)) a3 hsk1
      exact ⟨j2, minus1 e3 e2, a2⟩
  obtain ⟨j3, e3, a3⟩ := hy.ok (N := N) (d := d + 1) (c := c + nodes x) hfy hl.2.2.1 (by omega) (fun _ => by omega) (by omega) (by omega) a2 (by rw [sk_blank]; exact sk_txt hfy 1 R) hs hn
  refine ⟨j3, k + 1, ?_, a3, by omega⟩
  rw [e1]
  have hb := bin_next (X := binL s (trm s N) plus (101 - k) (bare x) ⟨j1, c + nodes x⟩) (q := 100 - k) (by rw [show 101 - k = 100 - k + 1 by omega]) e2 (by rcases hw with rfl | rfl <;> decide) e3
  rw [hb, then_ok]
  simp only
  rw [node_at (by omega), then_ok, bare_4, bares, bares, bares, show 101 - (k + 1) = 100 - k by omega, show c + nodes x + nodes y + 1 = c + (1 + (nodes x + (nodes y + 0))) by omega]
end
theorem all_of_fac {s : ByteArray} {e : Expr} (h : FacP s e) (hk : e.kind ≠ 4) (h1 : Lg.txt e 1 = Lg.txt e 2) (h0 : Lg.txt e 0 = Lg.txt e 1) : FacP s e ∧ TrmP s e ∧ XprP s e := by
  have ht := trm_of_fac h h1
  exact ⟨h, ht, xpr_of_trm ht (fun g => absurd g hk) h0 fun N c d i L R hf hl hN h0 hc a e1 hs hn => ht.ok hf hl hN (fun g => absurd g hk) h0 hc a e1 hs hn⟩
theorem back_all (s : ByteArray) : ∀ (e : Expr), fineE e → FacP s e ∧ TrmP s e ∧ XprP s e
  | .mk k n r w ms bs ks, hf => by
    have hf' := hf
    rw [fineE] at hf
    obtain ⟨hk, ha, ho, hs⟩ := hf
    have : k = 1 ∨ k = 2 ∨ k = 3 ∨ k = 4 := by omega
    rcases this with rfl | rfl | rfl | rfl
    · exact all_of_fac fac_num (by simp [Expr.kind]) (by rw [txt_1, txt_1]) (by rw [txt_1, txt_1])
    · exact all_of_fac fac_win (by simp [Expr.kind]) (by rw [txt_2, txt_2]) (by rw [txt_2, txt_2])
    · match ks, ha, hs with
      | [x], _, hs =>
        rw [fineEs] at hs
        exact all_of_fac (fac_all_ (back_all s x hs.1).2.2) (by simp [Expr.kind]) (by rw [txt_3, txt_3]) (by rw [txt_3, txt_3])
    · match ks, ha, hs with
      | [x, y], _, hs =>
        rw [fineEs, fineEs] at hs
        obtain ⟨fx, tx, xx⟩ := back_all s x hs.1
        obtain ⟨fy, ty, xy⟩ := back_all s y hs.2.1
        rcases (Lg.binR_of ho).2 with rfl | rfl | rfl
        · have hX : XprP s (.mk 4 n r ⟨#[43]⟩ ms bs [x, y]) := xpr_two (.inl rfl) xx ty
          have hF := fac_par_ hX
          exact ⟨hF, trm_of_fac hF (by rw [txt_4, txt_4]; rfl), hX⟩
        · have hX : XprP s (.mk 4 n r ⟨#[45]⟩ ms bs [x, y]) := xpr_two (.inr rfl) xx ty
          have hF := fac_par_ hX
          exact ⟨hF, trm_of_fac hF (by rw [txt_4, txt_4]; rfl), hX⟩
        · have hT2 := trm_two (s := s) (n := n) (r := r) (ms := ms) (bs := bs) tx fy
          have hT : TrmP s (.mk 4 n r ⟨#[42]⟩ ms bs [x, y]) := fun N c d i L R a1 a2 a3 _ a5 a6 a7 a8 a9 => hT2 N c d i L R a1 a2 a3 a5 a6 a7 a8 a9
          have hX : XprP s (.mk 4 n r ⟨#[42]⟩ ms bs [x, y]) := xpr_of_trm hT (fun _ _ _ _ _ => .inr trivial) (by rw [txt_4, txt_4]; rfl) fun N c d i L R hf hl hN h0 hc a e1 hs hn => by
            obtain ⟨j, k, e2, a2, hk2⟩ := hT2 N c d i L R hf hl hN h0 hc a e1 hs
            obtain ⟨j', e3, a3⟩ := hn.star a2
            exact ⟨j', by rw [e2]; exact bin_done (q := 100 - k) (by rw [show 101 - k = 100 - k + 1 by omega]) e3, a3⟩
          exact ⟨fac_par_ hX, hT, hX⟩
/-! ## What kinds have is as right -/
theorem bare_matchW (m : Match) (h : Lg.matchW m = 0) : Lg.matchW (bareM m) = 0 := by
  obtain ⟨h1, h2, h3⟩ := matchW_of h
  unfold bareM
  split
  · rename_i g
    unfold Lg.matchW
    rw [if_neg (by show ¬ (m.kind < 1 ∨ 4 < m.kind); omega), if_neg]
    rintro (g' | ⟨g', _⟩)
    · rw [show Names.named m.key = false from g'] at h2; cases h2
    · have g'' : m.kind = 1 ∨ m.kind = 2 := g'; omega
  · exact h
theorem matchesW_map : ∀ {l : List Match}, (∀ m ∈ l, Lg.matchW m = 0) → Lg.matchesW (l.map bareM) = 0
  | [], _ => rfl
  | m :: l, h => by
    rw [List.map_cons, Lg.matchesW, bare_matchW m (h m List.mem_cons_self), if_neg (by simp)]
    exact matchesW_map fun x hx => h x (List.mem_cons_of_mem _ hx)
mutual
theorem bare_nodes : ∀ (e : Expr), nodes (bare e) = nodes e
  | .mk k n r w ms bs ks => by
    have := bares_nodes ks
    rw [bare]
    repeat' split
    all_goals rw [nodes, nodes, this]
theorem bares_nodes : ∀ (l : List Expr), nodess (bares l) = nodess l
  | [] => rfl
  | x :: xs => by rw [bares, nodess, nodess, bare_nodes x, bares_nodes xs]
end
mutual
theorem bare_low : ∀ (e : Expr) (d : Int), Mn.low d e → Mn.low d (bare e)
  | .mk k n r w ms bs ks, d, h => by
    rw [Mn.low] at h
    have := bares_low ks (d + 1) h.2
    rw [bare]
    repeat' split
    all_goals (rw [Mn.low]; exact ⟨h.1, this⟩)
theorem bares_low : ∀ (l : List Expr) (d : Int), lows d l → lows d (bares l)
  | [], _, _ => by rw [bares, lows]; trivial
  | x :: xs, d, h => by rw [lows] at h; rw [bares, lows]; exact ⟨bare_low x d h.1, bares_low xs d h.2⟩
end
mutual
theorem bare_fine : ∀ (e : Expr), fineE e → fineE (bare e)
  | .mk k n r w ms bs ks, h => by
    rw [fineE] at h
    obtain ⟨hk, ha, ho, hs⟩ := h
    have hb := bares_fine ks hs
    have hl : ((bares ks).length : Int) = Lg.arity k := by rw [bares_map, List.length_map]; exact ha
    have : k = 1 ∨ k = 2 ∨ k = 3 ∨ k = 4 := by omega
    rcases this with rfl | rfl | rfl | rfl
    · rw [bare_1, fineE]
      refine ⟨hk, hl, ?_, hb⟩
      have := Lg.numR_of ho
      rw [Lg.ownW, if_pos rfl, if_neg (by omega)]
    · rw [bare_2, fineE]
      refine ⟨hk, hl, ?_, hb⟩
      have hw := okW_of ho
      rw [Lg.ownW, if_neg (by decide), if_pos rfl, Lg.windowW, if_neg (by simpa using hw.word), if_neg (by rw [List.length_map]; have := hw.len; omega), matchesW_map hw.each, if_neg (by simp), if_neg (by have := hw.range; omega)]
    · rw [bare_3, fineE]
      refine ⟨hk, hl, ?_, hb⟩
      rw [Lg.ownW, if_neg (by decide), if_neg (by decide), if_pos rfl] at ho ⊢
      exact ho
    · rw [bare_4, fineE]
      refine ⟨hk, hl, ?_, hb⟩
      rw [Lg.ownW, if_neg (by decide), if_neg (by decide), if_neg (by decide)] at ho ⊢
      exact ho
theorem bares_fine : ∀ (l : List Expr), fineEs l → fineEs (bares l)
  | [], _ => by rw [bares, fineEs]; trivial
  | x :: xs, h => by rw [fineEs] at h; rw [bares, fineEs]; exact ⟨bare_fine x h.1, bares_fine xs h.2⟩
end
theorem shape_le_of {e : Expr} (h : Lg.wrong e = 0) : nodes e ≤ 100 := (Lg.right_of_wrong h).2
/-- WHAT IS PRINTED IS PARSED -/
theorem back {e : Expr} (h : Lg.wrong e = 0) (hl : (Lg.txt e 0).length ≤ 2000) : parse ⟨(Lg.txt e 0).toArray⟩ = (bare e, (0, 0)) := by
  obtain ⟨hf, hn, _, hlow⟩ := shape_of e 1 0 h
  have hn9 := shape_le_of h
  have h0 : At ⟨(Lg.txt e 0).toArray⟩ 0 (Lg.txt e 0) := ⟨Nat.zero_le _, by unfold rest; rw [bl_mk]; rfl⟩
  obtain ⟨j, e1, a1⟩ := (back_all ⟨(Lg.txt e 0).toArray⟩ e hf).2.2.ok (N := 20) (c := 0) (d := 1) hf hlow (by decide) (by decide) (by omega) h0 (R := []) (by rw [List.append_nil]; have := sk_txt hf 0 []; rwa [List.append_nil] at this) (fun b r g => by cases g) (fun b r g => by cases g) (fun b r g => by cases g)
  have h2 := rest_len a1.past.le
  rw [a1.past.eq] at h2
  have h3 : blank ⟨(Lg.txt e 0).toArray⟩ j = (⟨(Lg.txt e 0).toArray⟩ : ByteArray).size := h2
  have h4 := shape_ok (bare e) 1 0 (bare_fine e hf) (by rw [bare_nodes]; omega) (bare_low e 1 hlow)
  exact parse_ok (by rw [bl_msz]; omega) e1 h3 (by omega) (by rw [h4]; simp)
/-- WHAT IS PARSED is as kinds have it, and right -/
theorem parsed {s : ByteArray} {e : Expr} {f : F} (h : parse s = (e, f)) (hf : f.1 = 0) : Lg.wrong e = 0 ∧ bare e = e := by
  unfold parse at h
  split at h
  · injection h with h1 h2; rw [← h2] at hf; cases hf
  · split at h
    · rename_i g hx
      injection h with h1 h2
      have := Kid.no (xpr_fine s 20) (t := ⟨0, 0⟩) (Nat.zero_le _) hx
      rw [h2] at this; exact absurd hf this
    · rename_i x hx
      split at h
      · injection h with h1 h2; rw [← h2] at hf; cases hf
      · split at h
        · injection h with h1 h2; rw [← h2] at hf; cases hf
        · rename_i hw
          injection h with h1 h2
          rw [← h1]
          exact ⟨Classical.not_not.1 hw, (xpr_post s 20 ⟨0, 0⟩ x hx).bare⟩
end Pz
end Go.Proofs.YtffpglgboaigfaaDoor
