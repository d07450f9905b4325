/-
  Walks: what each function hands back.
-/
import Derived.Test.YtekamocheffppaaWcodec2
import Derived.Test.YtekamocheffppaaWref3c
import Derived.Test.YtekamocheffppaaPCodec4
namespace Go.Proofs.Ytekamocheffppaa
open Ex
set_option linter.unusedVariables false
set_option linter.unusedSimpArgs false
theorem c_refNum (n : Int) (w : World)  (hn : -1099511627776 ≤ n ∧ n ≤ 1099511627776) :
    Calls Try.prog 32 #[.int .i64 n] w (RetL w 5 1 byteE (Codec.putB n)) := by
  refine fstart (N := 28) (vals := [.int .i64 n]) (S := Mem w no []) Try.func32 rfl rfl rfl (Mem.ofDats dn) ?_
  refine c_seq fun K1 hK1 => ?_
  refine c_region ?_
  refine l_nilRow (byteE : UInt8 → List Value) 5 1 ?_
  refine l_val wn (r_assign rfl) rfl ?_
  refine l_nil (e_go hK1 ?_)
  refine c_seq fun K2 hK2 => ?_
  refine c_region ?_
  refine l_val wn (r_move rfl) rfl ?_
  refine l_val wn (r_muln rfl rfl (by omega)) rfl ?_
  refine l_val wn (r_assign rfl) rfl ?_
  refine l_nil (e_go hK2 ?_)
  refine c_cut [(3, .int .i64 (if n < 0 then (((-2) * n) - 1) else (2 * n)))] (Mem w no [Row (.slice none 0 0) 5 1 byteE ([] : List UInt8)]) (fun K3 hK3 => ?_) ?_
  ·
    refine c_seq fun K4 hK4 => ?_
    refine c_region ?_
    refine l_val wn (r_move rfl) rfl ?_
    refine l_val wn (r_lss rfl rfl) rfl ?_
    refine l_nil (e_go hK4 ?_)
    refine c_cond rfl (fun h1 => ?_) (fun h1 => ?_)
    ·
      refine c_region ?_
      refine l_val wn (r_move rfl) rfl ?_
      refine l_val wn (r_muln rfl rfl (by omega)) rfl ?_
      refine l_val wn (r_subn rfl rfl (by omega)) rfl ?_
      refine l_val wn (r_assign rfl) rfl ?_
      refine l_nil (e_cut hK3 (sc (by first | (simp only [if_pos h1]; done) | (simp only [if_pos h1]; rfl)) sn) (fun _ h => h))
    ·
      refine c_skip (e_cut hK3 (sc (by first | (simp only [if_neg h1]; done) | (simp only [if_neg h1]; rfl)) sn) (fun _ h => h))
  ·
    refine c_seq fun K5 hK5 => ?_
    refine c_region ?_
    refine l_nilRow (byteE : UInt8 → List Value) 5 1 ?_
    refine l_val wn (r_assign rfl) rfl ?_
    refine l_nil (e_go hK5 ?_)
    refine c_seq fun K6 hK6 => ?_
    refine c_block ?_
    refine c_loop3 (fun (bs : List UInt8) (u : Nat) (vr : Value) => [(3, .int .i64 ((u : Nat) : Int)), (4, vr)]) (fun (bs : List UInt8) (u : Nat) (vr : Value) => [Row vr 5 1 byteE bs, Row (.slice none 0 0) 5 1 byteE ([] : List UInt8)]) (fun (bs : List UInt8) (u : Nat) (vr : Value) => Codec.digs (Codec.zig n) = bs ++ Codec.digs u) (fun (bs : List UInt8) (u : Nat) (vr : Value) => u) ([] : List UInt8) (Codec.zig n) (.slice none 0 0) (sc (ji (by first | exact Codec.zig_int n | omega)) (sc rfl sn)) (fun _ h => h) ?_ (fun bs u vr hI1 => ?_)
    · rfl
    ·
      have hln := congrArg List.length hI1
      simp only [List.length_append] at hln
      have hz := Codec.putB_len (n := n) (by omega)
      unfold Codec.putB at hz
      have hub : u < 1099511627776 * 4 := by have := Codec.zig_lt (B := 1099511627777) (n := n) (by omega); exact Codec.digs_le hI1 (by omega)
      refine c_open 0 (l := bs) rfl fun A1 cp1 hv1 hc1 hm1 hA1 => ?_
      subst hv1
      refine c_seq fun K7 hK7 => ?_
      refine c_seq fun K8 hK8 => ?_
      refine c_region ?_
      refine l_val wn (r_move rfl) rfl ?_
      refine l_val wn (r_geq rfl rfl) rfl ?_
      refine l_nil (e_go hK8 ?_)
      refine c_cond rfl (fun h2 => ?_) (fun h2 => ?_)
      ·
        refine c_skip (e_go hK7 ?_)
        refine c_block ?_
        refine c_seq fun K9 hK9 => ?_
        refine c_region ?_
        refine l_val wn (r_move rfl) rfl ?_
        refine l_val wn (r_move rfl) rfl ?_
        refine l_val wn (r_remn rfl rfl (by omega) (by omega)) rfl ?_
        refine l_val wn (r_addn rfl rfl (by omega)) rfl ?_
        refine l_val wn (r_low8i (a := (128 + (u % 128))) rfl (by omega) (by rw [Try.underlying3]; rfl) Try.underlying5) rfl ?_
        refine l_bsL byteE ([(UInt8.ofNat (128 + (u % 128)))] : List UInt8) wn Try.underlying23 inf5 rfl rfl rfl rfl (by decide) (by decide) rfl fun b19 => ?_
        refine l_app 1 bs ([(UInt8.ofNat (128 + (u % 128)))] : List UInt8) encByte wn rfl rfl rfl (fun _ hM => (RowSl encByte hM 0 rfl)) Try.underlying23 inf5 rfl rfl (by simp only [List.length_append, List.length_cons, List.length_nil]; omega) rfl fun A2 cp2 hc2 hm2 hA2 => ?_
        refine l_val wn (r_assign rfl) rfl ?_
        refine l_nil (e_go hK9 ?_)
        refine c_region ?_
        refine l_val wn (r_move rfl) rfl ?_
        refine l_val wn (r_quon rfl rfl (by omega) (by omega)) rfl ?_
        refine l_val wn (r_assign rfl) rfl ?_
        refine l_nil (e_in_n (e_round3 (bs ++ ([(UInt8.ofNat (128 + (u % 128)))] : List UInt8)) (u / 128) (.slice A2 ((bs ++ ([(UInt8.ofNat (128 + (u % 128)))] : List UInt8)).length) cp2) (sc (ji (by first | exact Codec.zig_int n | omega)) (sc rfl sn)) (fun _ h => (h.sel [1, 2] (by decide) rfl)) ?_ ?_))
        · rw [hI1, Codec.digs_more (by omega), Codec.low_or, List.append_assoc]; rfl
        · omega
      ·
        refine c_exit (e_then_x (e_loop3_x (e_in_hit (e_go hK6 ?_))))
        refine c_seq fun K10 hK10 => ?_
        refine c_region ?_
        refine l_val wn (r_move rfl) rfl ?_
        refine l_val wn (r_move rfl) rfl ?_
        refine l_val wn (r_low8i (a := u) rfl (by omega) (by rw [Try.underlying3]; rfl) Try.underlying5) rfl ?_
        refine l_bsL byteE ([(UInt8.ofNat u)] : List UInt8) wn Try.underlying23 inf5 rfl rfl rfl rfl (by decide) (by decide) rfl fun b26 => ?_
        refine l_app 1 bs ([(UInt8.ofNat u)] : List UInt8) encByte wn rfl rfl rfl (fun _ hM => (RowSl encByte hM 0 rfl)) Try.underlying23 inf5 rfl rfl (by simp only [List.length_append, List.length_cons, List.length_nil]; omega) rfl fun A3 cp3 hc3 hm3 hA3 => ?_
        refine l_val wn (r_assign rfl) rfl ?_
        refine l_nil (e_go hK10 ?_)
        refine c_ret (e_ret1 (.inl rfl) Try.results32 (rv_tmp rfl) fun w1 hM => ?_)
        exact hM.retL' 1 rfl (by rw [Codec.putB, hI1, Codec.digs_small (by omega)])

theorem c_refGet (bv : Value) (b : List UInt8) (a : Nat) (w : World) (hb : FlatSl (In w) 1 byteE bv b w) (ha : a ≤ b.length) (hbl : b.length ≤ 1048576) :
    Calls Try.prog 34 #[bv, .int .i64 (a : Int)] w (Ret w (.tuple #[.int .i64 (Codec.numV (b.drop a)), .int .i64 (Codec.posOf b a : Int), .bool (Codec.numOk (b.drop a))])) := by
  obtain ⟨bA, bc, rfl, hbc, hbm, hbA⟩ := hb.form
  refine fstart (N := 65) (vals := [.slice bA b.length bc, .int .i64 (a : Int)]) (S := Mem w no [slO (In w) 1 byteE (.slice bA b.length bc) b]) Try.func34 rfl rfl rfl (Mem.ofDats (dc (dl hb) dn)) ?_
  refine c_seq fun K1 hK1 => ?_
  refine c_region ?_
  refine l_val wn (r_assign rfl) rfl ?_
  refine l_val wn (r_assign rfl) rfl ?_
  refine l_val wn (r_assign rfl) rfl ?_
  refine l_nil (e_go hK1 ?_)
  refine c_seq fun K2 hK2 => ?_
  refine c_region ?_
  refine l_val wn (r_assign rfl) rfl ?_
  refine l_val wn (r_assign rfl) rfl ?_
  refine l_nil (e_go hK2 ?_)
  refine c_seq fun K3 hK3 => ?_
  refine c_seq fun K4 hK4 => ?_
  refine c_region ?_
  refine l_val wn (r_move rfl) rfl ?_
  refine l_val wn (r_assign rfl) rfl ?_
  refine l_nil (e_go hK4 ?_)
  refine c_block ?_
  refine c_loop2 (fun (j : Nat) (u : Nat) => [(0, .slice bA b.length bc), (1, .int .i64 (a : Int)), (7, .int .i64 ((u : Nat) : Int)), (8, .int .i64 ((2 ^ (7 * j) : Nat) : Int)), (9, .int .i64 ((a : Int) + (j : Int)))]) (fun (j : Nat) (u : Nat) => [slO (In w) 1 byteE (.slice bA b.length bc) b]) (fun (j : Nat) (u : Nat) => a + j ≤ b.length ∧ j ≤ 6 ∧ u < 2 ^ (7 * j) ∧ Codec.dec 0 0 (b.drop a) = Codec.dec j u ((b.drop a).drop j)) (fun (j : Nat) (u : Nat) => b.length - j) 0 0 (sc rfl (sc rfl (sc (ji (by omega)) (sc (ji (by omega)) (sc (ji (by omega)) sn))))) (fun _ h => h) ?_ (fun j u hI1 => ?_)
  · exact ⟨by omega, by omega, by decide, rfl⟩
  ·
    refine c_seq fun K5 hK5 => ?_
    refine c_seq fun K6 hK6 => ?_
    refine c_region ?_
    refine l_val wn (r_move rfl) rfl ?_
    refine l_val wn (r_move rfl) rfl ?_
    refine l_val wn (r_len rfl Try.underlying23) rfl ?_
    refine l_val wn (r_lss rfl rfl) rfl ?_
    refine l_val wn (r_move rfl) rfl ?_
    refine l_case (t := 15) rfl (fun h1 => ?_) (fun h1 => ?_)
    ·
      refine l_val (wg rfl rfl rfl) (r_move rfl) rfl ?_
      refine l_val (wg rfl rfl rfl) (r_move rfl) rfl ?_
      refine l_val (wg rfl rfl rfl) (r_addn rfl rfl (by omega)) rfl ?_
      refine l_val (wg rfl rfl rfl) (r_lss rfl rfl) rfl ?_
      refine l_val wn (r_pick rfl rfl) rfl ?_
      refine l_nil (e_go hK6 ?_)
      refine c_cond rfl (fun h2 => ?_) (fun h2 => ?_)
      ·
        have hp5 := Codec.pow_small (k := j) (by omega)
        have hp6 : 2 ^ (7 * (j + 1)) ≤ 4398046511104 := Nat.le_trans (Nat.pow_le_pow_right (by decide) (by omega : 7 * (j + 1) ≤ 42)) (by decide)
        have hgm : ∀ c : UInt8, _ := fun c => Codec.get_mul (c := c) (j := j) (by omega)
        refine c_skip (e_go hK5 ?_)
        refine c_seq fun K7 hK7 => ?_
        refine c_block ?_
        refine c_seq fun K8 hK8 => ?_
        refine c_region ?_
        refine l_val wn (r_move rfl) rfl ?_
        refine l_val wn (r_move rfl) rfl ?_
        refine l_val wn (r_move rfl) rfl ?_
        obtain ⟨ad1, hd1⟩ := hbA (ne_nil (i := (a + j)) (by omega))
        refine l_val wn (r_ia (i := (a + j)) rfl hd1 rfl (by omega) (by omega) Try.underlying23 inf5) rfl ?_
        obtain ⟨s1, hs1⟩ : ∃ x, b[(a + j)]? = some x := ⟨_, List.getElem?_eq_getElem (by omega)⟩
        have hc127 : (s1 &&& 127).toNat < 128 := by rw [Codec.and127]; omega
        refine l_val wn (r_el 0 rfl rfl hd1 hs1 rfl flat5) rfl ?_
        refine l_val wn (r_remk rfl rfl (by omega) (by omega)) rfl ?_
        refine l_val wn (r_convu8 rfl (by rw [Try.underlying5]; rfl) Try.underlying3 (by omega)) rfl ?_
        refine l_val wn (r_move rfl) rfl ?_
        have hg0 := hgm s1
        refine l_val wn (r_muln rfl rfl (by omega)) rfl ?_
        have hu5 := Codec.dec_lt hI1.2.2.1 hc127
        have hgc := hgm s1
        refine l_val wn (rv_i (Codec.get_add u j s1) (r_addn rfl rfl (by omega))) rfl ?_
        refine l_val wn (r_assign rfl) rfl ?_
        refine l_nil (e_go hK8 ?_)
        refine c_seq fun K9 hK9 => ?_
        refine c_region ?_
        refine l_val wn (r_move rfl) rfl ?_
        refine l_val wn (rv_i (Codec.get_pow j) (r_muln rfl rfl (by omega))) rfl ?_
        refine l_val wn (r_assign rfl) rfl ?_
        refine l_nil (e_go hK9 ?_)
        refine c_seq fun K10 hK10 => ?_
        refine c_region ?_
        refine l_val wn (r_move rfl) rfl ?_
        refine l_val wn (r_move rfl) rfl ?_
        refine l_val wn (r_ia (i := (a + j)) rfl hd1 rfl (by omega) (by omega) Try.underlying23 inf5) rfl ?_
        refine l_val wn (r_el 0 rfl rfl hd1 hs1 rfl flat5) rfl ?_
        refine l_val wn (r_lss rfl rfl) rfl ?_
        refine l_nil (e_go hK10 ?_)
        refine c_cond rfl (fun h3 => ?_) (fun h3 => ?_)
        ·
          refine c_seq fun K11 hK11 => ?_
          refine c_seq fun K12 hK12 => ?_
          refine c_region ?_
          refine l_val wn (r_move rfl) rfl ?_
          refine l_val wn (r_move rfl) rfl ?_
          refine l_val wn (r_gtr rfl rfl) rfl ?_
          refine l_val wn (r_move rfl) rfl ?_
          refine l_case (t := 43) rfl (fun h4 => ?_) (fun h4 => ?_)
          ·
            refine l_val (wg rfl rfl rfl) (r_move rfl) rfl ?_
            refine l_val (wg rfl rfl rfl) (r_move rfl) rfl ?_
            refine l_val (wg rfl rfl rfl) (r_ia (i := (a + j)) rfl hd1 rfl (by omega) (by omega) Try.underlying23 inf5) rfl ?_
            refine l_val (wg rfl rfl rfl) (r_el 0 rfl rfl hd1 hs1 rfl flat5) rfl ?_
            refine l_val (wg rfl rfl rfl) (r_eql rfl rfl) rfl ?_
            refine l_val wn (r_pick rfl rfl) rfl ?_
            refine l_nil (e_go hK12 ?_)
            refine c_cond rfl (fun h5 => ?_) (fun h5 => ?_)
            ·
              refine c_seq fun K13 hK13 => ?_
              refine c_region ?_
              refine l_val wn (r_move rfl) rfl ?_
              refine l_val wn (r_assign rfl) rfl ?_
              refine l_val wn (r_assign rfl) rfl ?_
              refine l_val wn (r_assign rfl) rfl ?_
              refine l_nil (e_go hK13 ?_)
              refine c_ret (e_then_r (e_in_r (e_then_r (e_loop2_r (e_in_r (e_then_r (e_ret3 (.inl rfl) Try.results34 (rv_tmp rfl) (rv_tmp rfl) (rv_tmp rfl) fun w1 hM => ?_)))))))
              have hd1 : (b.drop a)[j]? = some s1 := by rw [List.getElem?_drop]; exact hs1
              have hd : Codec.dec 0 0 (b.drop a) = none := by rw [hI1.2.2.2, Codec.dec_step hd1, if_neg (by omega), if_neg (by omega), if_pos (by omega)]
              obtain ⟨g1, g2, g3⟩ := Codec.get_none ha hd
              exact ret_ok (by rw [g1, g2, g3]) hM
            ·
              refine c_skip (e_go hK11 ?_)
              refine c_seq fun K14 hK14 => ?_
              refine c_seq fun K15 hK15 => ?_
              refine c_region ?_
              refine l_val wn (r_move rfl) rfl ?_
              refine l_val wn (r_remn rfl rfl (by omega) (by omega)) rfl ?_
              refine l_val wn (r_eql rfl rfl) rfl ?_
              refine l_nil (e_go hK15 ?_)
              refine c_cond rfl (fun h6 => ?_) (fun h6 => ?_)
              ·
                refine c_seq fun K16 hK16 => ?_
                refine c_region ?_
                refine l_val wn (r_move rfl) rfl ?_
                refine l_val wn (r_addn rfl rfl (by omega)) rfl ?_
                refine l_val wn (r_neg rfl (by omega)) rfl ?_
                refine l_val wn (r_quo rfl rfl (by omega)) rfl ?_
                refine l_val wn (r_move rfl) rfl ?_
                refine l_val wn (r_addn rfl rfl (by omega)) rfl ?_
                refine l_val wn (r_assign rfl) rfl ?_
                refine l_val wn (r_assign rfl) rfl ?_
                refine l_val wn (r_assign rfl) rfl ?_
                refine l_nil (e_go hK16 ?_)
                refine c_ret (e_then_r (e_in_r (e_then_r (e_loop2_r (e_in_r (e_then_r (e_ret3 (.inl rfl) Try.results34 (rv_tmp rfl) (rv_tmp rfl) (rv_tmp rfl) fun w1 hM => ?_)))))))
                have hd1 : (b.drop a)[j]? = some s1 := by rw [List.getElem?_drop]; exact hs1
                have hd : Codec.dec 0 0 (b.drop a) = some ((u + (s1 &&& 127).toNat * 2 ^ (7 * j)), (b.drop a).drop (j + 1)) := by rw [hI1.2.2.2, Codec.dec_step hd1, if_neg (by omega), if_neg (by omega), if_neg (by omega)]
                obtain ⟨g1, g2, g3⟩ := Codec.get_some (by omega) hd
                exact ret_ok (by rw [g1, g2, g3, ← Codec.unzig_odd h6 (by omega)]; rfl) hM
              ·
                refine c_skip (e_go hK14 ?_)
                refine c_seq fun K17 hK17 => ?_
                refine c_region ?_
                refine l_val wn (r_move rfl) rfl ?_
                refine l_val wn (r_quon rfl rfl (by omega) (by omega)) rfl ?_
                refine l_val wn (r_move rfl) rfl ?_
                refine l_val wn (r_addn rfl rfl (by omega)) rfl ?_
                refine l_val wn (r_assign rfl) rfl ?_
                refine l_val wn (r_assign rfl) rfl ?_
                refine l_val wn (r_assign rfl) rfl ?_
                refine l_nil (e_go hK17 ?_)
                refine c_ret (e_in_r (e_then_r (e_loop2_r (e_in_r (e_then_r (e_ret3 (.inl rfl) Try.results34 (rv_tmp rfl) (rv_tmp rfl) (rv_tmp rfl) fun w1 hM => ?_))))))
                have hd1 : (b.drop a)[j]? = some s1 := by rw [List.getElem?_drop]; exact hs1
                have hd : Codec.dec 0 0 (b.drop a) = some ((u + (s1 &&& 127).toNat * 2 ^ (7 * j)), (b.drop a).drop (j + 1)) := by rw [hI1.2.2.2, Codec.dec_step hd1, if_neg (by omega), if_neg (by omega), if_neg (by omega)]
                obtain ⟨g1, g2, g3⟩ := Codec.get_some (by omega) hd
                exact ret_ok (by rw [g1, g2, g3, ← Codec.unzig_even h6]; rfl) hM
          ·
            refine l_skip (wg rfl rfl rfl) rfl ?_
            refine l_skip (wg rfl rfl rfl) rfl ?_
            refine l_skip (wg rfl rfl rfl) rfl ?_
            refine l_skip (wg rfl rfl rfl) rfl ?_
            refine l_skip (wg rfl rfl rfl) rfl ?_
            refine l_val wn (r_pick rfl rfl) rfl ?_
            refine l_nil (e_go hK12 ?_)
            refine c_false rfl rfl ?_
            refine c_skip (e_go hK11 ?_)
            refine c_seq fun K18 hK18 => ?_
            refine c_seq fun K19 hK19 => ?_
            refine c_region ?_
            refine l_val wn (r_move rfl) rfl ?_
            refine l_val wn (r_remn rfl rfl (by omega) (by omega)) rfl ?_
            refine l_val wn (r_eql rfl rfl) rfl ?_
            refine l_nil (e_go hK19 ?_)
            refine c_cond rfl (fun h7 => ?_) (fun h7 => ?_)
            ·
              refine c_seq fun K20 hK20 => ?_
              refine c_region ?_
              refine l_val wn (r_move rfl) rfl ?_
              refine l_val wn (r_addn rfl rfl (by omega)) rfl ?_
              refine l_val wn (r_neg rfl (by omega)) rfl ?_
              refine l_val wn (r_quo rfl rfl (by omega)) rfl ?_
              refine l_val wn (r_move rfl) rfl ?_
              refine l_val wn (r_addn rfl rfl (by omega)) rfl ?_
              refine l_val wn (r_assign rfl) rfl ?_
              refine l_val wn (r_assign rfl) rfl ?_
              refine l_val wn (r_assign rfl) rfl ?_
              refine l_nil (e_go hK20 ?_)
              refine c_ret (e_then_r (e_in_r (e_then_r (e_loop2_r (e_in_r (e_then_r (e_ret3 (.inl rfl) Try.results34 (rv_tmp rfl) (rv_tmp rfl) (rv_tmp rfl) fun w1 hM => ?_)))))))
              have hd1 : (b.drop a)[j]? = some s1 := by rw [List.getElem?_drop]; exact hs1
              have hd : Codec.dec 0 0 (b.drop a) = some ((u + (s1 &&& 127).toNat * 2 ^ (7 * j)), (b.drop a).drop (j + 1)) := by rw [hI1.2.2.2, Codec.dec_step hd1, if_neg (by omega), if_neg (by omega), if_neg (by omega)]
              obtain ⟨g1, g2, g3⟩ := Codec.get_some (by omega) hd
              exact ret_ok (by rw [g1, g2, g3, ← Codec.unzig_odd h7 (by omega)]; rfl) hM
            ·
              refine c_skip (e_go hK18 ?_)
              refine c_seq fun K21 hK21 => ?_
              refine c_region ?_
              refine l_val wn (r_move rfl) rfl ?_
              refine l_val wn (r_quon rfl rfl (by omega) (by omega)) rfl ?_
              refine l_val wn (r_move rfl) rfl ?_
              refine l_val wn (r_addn rfl rfl (by omega)) rfl ?_
              refine l_val wn (r_assign rfl) rfl ?_
              refine l_val wn (r_assign rfl) rfl ?_
              refine l_val wn (r_assign rfl) rfl ?_
              refine l_nil (e_go hK21 ?_)
              refine c_ret (e_in_r (e_then_r (e_loop2_r (e_in_r (e_then_r (e_ret3 (.inl rfl) Try.results34 (rv_tmp rfl) (rv_tmp rfl) (rv_tmp rfl) fun w1 hM => ?_))))))
              have hd1 : (b.drop a)[j]? = some s1 := by rw [List.getElem?_drop]; exact hs1
              have hd : Codec.dec 0 0 (b.drop a) = some ((u + (s1 &&& 127).toNat * 2 ^ (7 * j)), (b.drop a).drop (j + 1)) := by rw [hI1.2.2.2, Codec.dec_step hd1, if_neg (by omega), if_neg (by omega), if_neg (by omega)]
              obtain ⟨g1, g2, g3⟩ := Codec.get_some (by omega) hd
              exact ret_ok (by rw [g1, g2, g3, ← Codec.unzig_even h7]; rfl) hM
        ·
          refine c_skip (e_in_n (e_go hK7 ?_))
          refine c_region ?_
          refine l_val wn (r_move rfl) rfl ?_
          refine l_val wn (r_addn rfl rfl (by omega)) rfl ?_
          refine l_val wn (r_assign rfl) rfl ?_
          have hd1 : (b.drop a)[j]? = some s1 := by rw [List.getElem?_drop]; exact hs1
          refine l_nil (e_round2 (j + 1) (u + (s1 &&& 127).toNat * 2 ^ (7 * j)) (sc rfl (sc rfl (sc rfl (sc rfl (sc (ji (by omega)) sn))))) (fun _ h => h) ?_ ?_)
          · exact ⟨by omega, by omega, hu5, by rw [hI1.2.2.2, Codec.dec_step hd1, if_neg (by omega), if_pos (by omega)]⟩
          · omega
      ·
        refine c_exit (e_then_x (e_loop2_x (e_in_hit (e_go hK3 ?_))))
        refine c_seq fun K22 hK22 => ?_
        refine c_region ?_
        refine l_val wn (r_move rfl) rfl ?_
        refine l_val wn (r_assign rfl) rfl ?_
        refine l_val wn (r_assign rfl) rfl ?_
        refine l_val wn (r_assign rfl) rfl ?_
        refine l_nil (e_go hK22 ?_)
        refine c_ret (e_ret3 (.inl rfl) Try.results34 (rv_tmp rfl) (rv_tmp rfl) (rv_tmp rfl) fun w1 hM => ?_)
        have hd : Codec.dec 0 0 (b.drop a) = none := by rw [hI1.2.2.2]; first | exact Codec.dec_end (by rw [List.length_drop]; omega) | (obtain rfl : j = 6 := (by omega); exact Codec.dec_six _)
        obtain ⟨g1, g2, g3⟩ := Codec.get_none ha hd
        exact ret_ok (by rw [g1, g2, g3]) hM
    ·
      refine l_skip (wg rfl rfl rfl) rfl ?_
      refine l_skip (wg rfl rfl rfl) rfl ?_
      refine l_skip (wg rfl rfl rfl) rfl ?_
      refine l_skip (wg rfl rfl rfl) rfl ?_
      refine l_val wn (r_pick rfl rfl) rfl ?_
      refine l_nil (e_go hK6 ?_)
      refine c_false rfl rfl ?_
      refine c_exit (e_then_x (e_loop2_x (e_in_hit (e_go hK3 ?_))))
      refine c_seq fun K23 hK23 => ?_
      refine c_region ?_
      refine l_val wn (r_move rfl) rfl ?_
      refine l_val wn (r_assign rfl) rfl ?_
      refine l_val wn (r_assign rfl) rfl ?_
      refine l_val wn (r_assign rfl) rfl ?_
      refine l_nil (e_go hK23 ?_)
      refine c_ret (e_ret3 (.inl rfl) Try.results34 (rv_tmp rfl) (rv_tmp rfl) (rv_tmp rfl) fun w1 hM => ?_)
      have hd : Codec.dec 0 0 (b.drop a) = none := by rw [hI1.2.2.2]; first | exact Codec.dec_end (by rw [List.length_drop]; omega) | (obtain rfl : j = 6 := (by omega); exact Codec.dec_six _)
      obtain ⟨g1, g2, g3⟩ := Codec.get_none ha hd
      exact ret_ok (by rw [g1, g2, g3]) hM

theorem c_refGet0 (bv : Value) (b : List UInt8) (w : World) (hb : FlatSl (In w) 1 byteE bv b w) (hbl : b.length ≤ 1048576) :
    Calls Try.prog 34 #[bv, .int .i64 0] w (Ret w (.tuple #[.int .i64 (Codec.numV b), .int .i64 ((Codec.posOf b 0 : Nat) : Int), .bool (Codec.numOk b)])) := c_refGet bv b 0 w hb (Nat.zero_le _) hbl

set_option maxHeartbeats 4000000 in
theorem c_refBytes (lv : Value) (l : List Sample) (w : World) (hl : FlatSl (In w) 2 sampleE lv l w)  :
    Calls Try.prog 11 #[lv] w (RetLT w 5 1 byteE (Codec.bytesF l) (fun r => .tuple [r, .agg (faultE (Codec.wrong l)).toArray].toArray)) := by
  obtain ⟨lA, lc, rfl, hlc, hlm, hlA⟩ := hl.form
  refine fstart (N := 64) (vals := [.slice lA l.length lc]) (S := Mem w no [slO (In w) 2 sampleE (.slice lA l.length lc) l]) Try.func11 rfl rfl rfl (Mem.ofDats (dc (dl hl) dn)) ?_
  refine c_seq fun K1 hK1 => ?_
  refine c_region ?_
  refine l_val wn (r_assign rfl) rfl ?_
  refine l_alloc wn inf26 rfl fun b3 => ?_
  refine l_nil (e_go hK1 ?_)
  refine c_seq fun K2 hK2 => ?_
  refine c_seq fun K3 hK3 => ?_
  refine c_region ?_
  refine l_val wn (r_move rfl) rfl ?_
  refine l_callF wn rfl Try.call13 rfl (fun w1 hM => c_refWrong _ l w1 (hM.sl 1 rfl)) ?_
  refine l_alloc wn inf26 rfl fun b4 => ?_
  refine l_stn 0 wn rfl rfl rfl inf26 rfl rfl rfl ?_
  refine l_nil (e_go hK3 ?_)
  refine c_seq fun K4 hK4 => ?_
  refine c_region ?_
  refine l_val wn (r_fa rfl fld26_0) rfl ?_
  refine l_val wn (r_lb 0 rfl rfl rfl flat24) rfl ?_
  refine l_val wn (r_neq rfl rfl) rfl ?_
  refine l_nil (e_go hK4 ?_)
  refine c_cond rfl (fun h1 => ?_) (fun h1 => ?_)
  ·
    refine c_seq fun K5 hK5 => ?_
    refine c_quietT 2 mix (by kernel_rfl) (fun _ h => h.drew) fun _ hT1 => ?_
    refine q_val wn (r_lbn 0 [.int .i64 ((Codec.wrong l).err), .int .i64 ((Codec.wrong l).at_)] rfl rfl rfl rfl agg26 inf26) rfl ?_
    refine q_val wn (r_assign rfl) rfl ?_
    refine q_tail hT1 ?_
    refine l_stn 1 wn rfl rfl rfl inf26 rfl rfl rfl ?_
    refine l_nil (e_go hK5 ?_)
    refine c_ret (e_then_r (e_ret2 (.inl rfl) Try.results11 (rv_tmp rfl) (rv_cell 1 rfl rfl agg26 inf26 rfl) fun w1 hM => ?_))
    have hM := hM.nilRow UInt8 5 1 byteE
    exact hM.retLT 0 rfl (by rw [Codec.bytesF, if_neg h1]) rfl
  ·
    have hrt := Codec.right_of (Classical.not_not.1 h1)
    have hrg := hrt.rng
    have hln := hrt.len
    have hpl := fun k => Codec.preB_len (k := k) hrg hln
    refine c_skip (e_go hK2 ?_)
    refine c_seq fun K6 hK6 => ?_
    refine c_region ?_
    refine l_val wn (r_move rfl) rfl ?_
    refine l_val wn (r_len rfl Try.underlying22) rfl ?_
    refine l_callL (Codec.putB (l.length : Int)) wn rfl Try.call32 rfl (fun w1 hM => c_refNum (l.length : Int) w1 (by omega)) fun A1 cp1 hc1 hm1 hA1 => ?_
    refine l_val wn (r_assign rfl) rfl ?_
    refine l_nil (e_go hK6 ?_)
    refine c_seq fun K7 hK7 => ?_
    refine c_seq fun K8 hK8 => ?_
    refine c_region ?_
    refine l_val wn (r_move rfl) rfl ?_
    refine l_val wn (r_len rfl Try.underlying22) rfl ?_
    refine l_val wn (r_move rfl) rfl ?_
    refine l_nil (e_go hK8 ?_)
    refine c_block ?_
    refine c_loop2 (fun (k : Nat) (vr : Value) => [(0, .slice lA l.length lc), (3, .pointer (some ⟨b3, 0, none⟩)), (5, vr), (19, .slice lA l.length lc), (20, .int .i64 (l.length : Int)), (21, .int .i64 (k : Int))]) (fun (k : Nat) (vr : Value) => [Row vr 5 1 byteE (Codec.preB l k), .blk b4 [.int .i64 ((Codec.wrong l).err), .int .i64 ((Codec.wrong l).at_)] 26, .blk b3 [.int .i64 0, .int .i64 0] 26, slO (In w) 2 sampleE (.slice lA l.length lc) l]) (fun (k : Nat) (vr : Value) => k ≤ l.length) (fun (k : Nat) (vr : Value) => l.length - k) 0 (.slice A1 ((Codec.putB (l.length : Int)).length) cp1) (sc rfl (sc rfl (sc rfl (sc rfl (sc rfl (sc (ji (by omega)) sn)))))) (fun _ h => by rw [Codec.preB_zero]; exact h) ?_ (fun k vr hI1 => ?_)
    · omega
    ·
      have hpk := hpl k
      refine c_open 0 (l := (Codec.preB l k)) rfl fun A2 cp2 hv1 hc2 hm2 hA2 => ?_
      subst hv1
      refine c_seq fun K9 hK9 => ?_
      refine c_region ?_
      refine l_val wn (r_lss rfl rfl) rfl ?_
      refine l_nil (e_go hK9 ?_)
      refine c_seq fun K10 hK10 => ?_
      refine c_cond rfl (fun h2 => ?_) (fun h2 => ?_)
      ·
        refine c_skip (e_go hK10 ?_)
        refine c_seq fun K11 hK11 => ?_
        refine c_block ?_
        refine c_seq fun K12 hK12 => ?_
        refine c_region ?_
        refine l_val wn (r_move rfl) rfl ?_
        obtain ⟨ad1, hd1⟩ := hlA (ne_nil (i := k) (by first | omega | decide | (simp only [List.length_cons, List.length_nil, List.length_append, List.length_take, List.length_set]; omega)))
        refine l_val wn (r_ia (i := k) rfl hd1 rfl (by omega) (by first | omega | decide | (simp only [List.length_cons, List.length_nil, List.length_append, List.length_take, List.length_set]; omega)) Try.underlying22 inf36) rfl ?_
        obtain ⟨s1, hs1⟩ : ∃ x, l[k]? = some x := ⟨_, List.getElem?_eq_getElem (by first | omega | decide | (simp only [List.length_cons, List.length_nil, List.length_append, List.length_take, List.length_set]; omega))⟩
        have hrs1 := hrg s1 (List.mem_of_getElem? hs1)
        refine l_val wn (r_eln 3 [.int .i64 s1.time, .int .i64 s1.value] rfl rfl hd1 hs1 rfl rfl agg36 inf36) rfl ?_
        refine l_alloc wn inf36 rfl fun b7 => ?_
        refine l_val wn (r_assign rfl) rfl ?_
        refine l_stn 0 wn rfl rfl rfl inf36 rfl rfl rfl ?_
        refine l_nil (e_go hK12 ?_)
        refine c_seq fun K13 hK13 => ?_
        refine c_region ?_
        refine l_alloc wn inf36 rfl fun b8 => ?_
        refine l_alloc wn inf36 rfl fun b9 => ?_
        refine l_nil (e_go hK13 ?_)
        refine c_seq fun K14 hK14 => ?_
        refine c_seq fun K15 hK15 => ?_
        refine c_region ?_
        refine l_val wn (r_move rfl) rfl ?_
        refine l_val wn (r_gtr rfl rfl) rfl ?_
        refine l_nil (e_go hK15 ?_)
        refine c_cond rfl (fun h3 => ?_) (fun h3 => ?_)
        ·
          refine c_region ?_
          refine l_val wn (r_move rfl) rfl ?_
          refine l_val wn (r_move rfl) rfl ?_
          refine l_val wn (r_subn rfl rfl (by omega)) rfl ?_
          refine l_val wn (r_ia (i := (k - 1)) rfl hd1 rfl (by omega) (by first | omega | decide | (simp only [List.length_cons, List.length_nil, List.length_append, List.length_take, List.length_set]; omega)) Try.underlying22 inf36) rfl ?_
          obtain ⟨s2, hs2⟩ : ∃ x, l[(k - 1)]? = some x := ⟨_, List.getElem?_eq_getElem (by first | omega | decide | (simp only [List.length_cons, List.length_nil, List.length_append, List.length_take, List.length_set]; omega))⟩
          have hrs2 := hrg s2 (List.mem_of_getElem? hs2)
          refine l_val wn (r_eln 6 [.int .i64 s2.time, .int .i64 s2.value] rfl rfl hd1 hs2 rfl rfl agg36 inf36) rfl ?_
          refine l_stn 1 wn rfl rfl rfl inf36 rfl rfl rfl ?_
          refine l_nil (e_go hK14 ?_)
          refine c_seq fun K16 hK16 => ?_
          refine c_seq fun K17 hK17 => ?_
          refine c_region ?_
          refine l_val wn (r_move rfl) rfl ?_
          refine l_val wn (r_gtr rfl rfl) rfl ?_
          refine l_nil (e_go hK17 ?_)
          refine c_cond rfl (fun h4 => ?_) (fun h4 => ?_)
          ·
            refine c_region ?_
            refine l_val wn (r_move rfl) rfl ?_
            refine l_val wn (r_move rfl) rfl ?_
            refine l_val wn (r_subn rfl rfl (by omega)) rfl ?_
            refine l_val wn (r_ia (i := (k - 2)) rfl hd1 rfl (by omega) (by first | omega | decide | (simp only [List.length_cons, List.length_nil, List.length_append, List.length_take, List.length_set]; omega)) Try.underlying22 inf36) rfl ?_
            obtain ⟨s3, hs3⟩ : ∃ x, l[(k - 2)]? = some x := ⟨_, List.getElem?_eq_getElem (by first | omega | decide | (simp only [List.length_cons, List.length_nil, List.length_append, List.length_take, List.length_set]; omega))⟩
            have hrs3 := hrg s3 (List.mem_of_getElem? hs3)
            refine l_val wn (r_eln 6 [.int .i64 s3.time, .int .i64 s3.value] rfl rfl hd1 hs3 rfl rfl agg36 inf36) rfl ?_
            refine l_stn 0 wn rfl rfl rfl inf36 rfl rfl rfl ?_
            refine l_nil (e_go hK16 ?_)
            refine c_nodes (Mem w no [.blk b9 [.int .i64 s3.time, .int .i64 s3.value] 36, .blk b8 [.int .i64 s2.time, .int .i64 s2.value] 36, .blk b7 [.int .i64 s1.time, .int .i64 s1.value] 36, .blk b4 [.int .i64 ((Codec.wrong l).err), .int .i64 ((Codec.wrong l).at_)] 26, .blk b3 [.int .i64 0, .int .i64 0] 26, slO (In w) 2 sampleE (.slice lA l.length lc) l]) mix (fun _ h => h.drew) rfl ?_
            refine n_run (f := 5) [0, 1, 2, 3, 4, 5, 6, 7, 8, 9, 10, 11, 14, 15, 16, 17, 18] rfl rfl (by kernel_rfl) (by kernel_rfl) (fun _ h => (h.sel [0, 1, 2, 4, 5, 6] (by decide) rfl)) fun KS hKS => ?_
            refine s_val wn (r_move rfl) rfl ?_
            refine s_val wn (r_fa rfl fld36_0) rfl ?_
            refine s_val wn (r_lb 2 rfl rfl rfl flat3) rfl ?_
            refine s_val wn (r_fa rfl fld36_0) rfl ?_
            refine s_val wn (r_lb 1 rfl rfl rfl flat3) rfl ?_
            refine s_val wn (r_subn rfl rfl (by omega)) rfl ?_
            refine s_val wn (r_fa rfl fld36_0) rfl ?_
            refine s_val wn (r_lb 1 rfl rfl rfl flat3) rfl ?_
            refine s_val wn (r_fa rfl fld36_0) rfl ?_
            refine s_val wn (r_lb 0 rfl rfl rfl flat3) rfl ?_
            refine s_val wn (r_subn rfl rfl (by omega)) rfl ?_
            refine s_val wn (r_subn rfl rfl (by omega)) rfl ?_
            refine s_val wn (r_fa rfl fld36_1) rfl ?_
            refine s_val wn (r_lb 2 rfl rfl rfl flat3) rfl ?_
            refine s_val wn (r_fa rfl fld36_1) rfl ?_
            refine s_val wn (r_lb 1 rfl rfl rfl flat3) rfl ?_
            refine s_val wn (r_subn rfl rfl (by omega)) rfl ?_
            refine s_end hKS ?_
            refine n_step1 (f := 4) (i := 12) rfl (by kernel_rfl) ?_
            refine n_one (i := 12) rfl fun KN hKN => ?_
            refine l_callL (Codec.putB ((s1.time - s2.time) - (s2.time - s3.time))) wn rfl Try.call32 rfl (fun w1 hM => c_refNum ((s1.time - s2.time) - (s2.time - s3.time)) w1 (by omega)) fun A3 cp3 hc3 hm3 hA3 => ?_
            refine l_nil (hKN _ _ (fun _ h => (h.sel [1, 2, 3, 5, 6, 7] (by decide) rfl)) ?_)
            refine n_step1 (f := 3) (i := 13) rfl (by kernel_rfl) ?_
            refine n_one (i := 13) rfl fun KN hKN => ?_
            refine l_app 4 (Codec.preB l k) (Codec.putB ((s1.time - s2.time) - (s2.time - s3.time))) encByte wn rfl rfl rfl (fun _ hM => (RowSl encByte hM 0 rfl)) Try.underlying23 inf5 rfl rfl (by exact Codec.app_len (by first | omega | exact Codec.len_app (by omega) (by omega)) (by omega)) rfl fun A4 cp4 hc4 hm4 hA4 => ?_
            refine l_nil (hKN _ _ (fun _ h => (h.sel [1, 2, 3, 5, 6, 7] (by decide) rfl)) ?_)
            refine n_step1 (f := 2) (i := 19) rfl (by kernel_rfl) ?_
            refine n_one (i := 19) rfl fun KN hKN => ?_
            refine l_callL (Codec.putB (s1.value - s2.value)) wn rfl Try.call32 rfl (fun w1 hM => c_refNum (s1.value - s2.value) w1 (by omega)) fun A5 cp5 hc5 hm5 hA5 => ?_
            refine l_nil (hKN _ _ (fun _ h => (h.sel [2, 3, 4, 6, 7, 8] (by decide) rfl)) ?_)
            refine n_step1 (f := 1) (i := 20) rfl (by kernel_rfl) ?_
            refine n_one (i := 20) rfl fun KN hKN => ?_
            refine l_app 5 ((Codec.preB l k) ++ (Codec.putB ((s1.time - s2.time) - (s2.time - s3.time)))) (Codec.putB (s1.value - s2.value)) encByte wn rfl rfl rfl (fun _ hM => (RowSl encByte hM 0 rfl)) Try.underlying23 inf5 rfl rfl (by exact Codec.app_len (by first | omega | exact Codec.len_app (by omega) (by omega)) (by omega)) rfl fun A6 cp6 hc6 hm6 hA6 => ?_
            refine l_nil (hKN _ _ (fun _ h => (h.sel [2, 3, 4, 6, 7, 8] (by decide) rfl)) ?_)
            refine n_run (f := 0) [21] rfl rfl (by kernel_rfl) (by kernel_rfl) (fun _ h => (h.sel [2, 3, 4, 6, 7, 8] (by decide) rfl)) fun KS hKS => ?_
            refine s_val wn (r_assign rfl) rfl ?_
            refine s_end hKS ?_
            refine n_done (by kernel_rfl) (e_in_n (e_go hK11 ?_))
            refine c_region ?_
            refine l_val wn (r_addn rfl rfl (by omega)) rfl ?_
            refine l_val wn (r_move rfl) rfl ?_
            have hst : Codec.preB l (k + 1) = (((Codec.preB l k) ++ (Codec.putB ((s1.time - s2.time) - (s2.time - s3.time)))) ++ (Codec.putB (s1.value - s2.value))) := Codec.preB_ref (a := s2) (b := s3) hs1 (Codec.back_take (by omega) hs2) (Codec.back_take2 (by omega) (by omega) hs3)
            refine l_nil (e_round2 (k + 1) (.slice A6 ((((Codec.preB l k) ++ (Codec.putB ((s1.time - s2.time) - (s2.time - s3.time)))) ++ (Codec.putB (s1.value - s2.value))).length) cp6) (sc rfl (sc rfl (sc rfl (sc rfl (sc rfl (sc (ji (by omega)) sn)))))) (fun _ h => by rw [hst]; exact (h.sel [5, 6, 7, 8] (by decide) rfl)) ?_ ?_)
            · omega
            · omega
          ·
            refine c_skip (e_go hK16 ?_)
            refine c_nodes (Mem w no [.blk b9 [.int .i64 0, .int .i64 0] 36, .blk b8 [.int .i64 s2.time, .int .i64 s2.value] 36, .blk b7 [.int .i64 s1.time, .int .i64 s1.value] 36, .blk b4 [.int .i64 ((Codec.wrong l).err), .int .i64 ((Codec.wrong l).at_)] 26, .blk b3 [.int .i64 0, .int .i64 0] 26, slO (In w) 2 sampleE (.slice lA l.length lc) l]) mix (fun _ h => h.drew) rfl ?_
            refine n_run (f := 5) [0, 1, 2, 3, 4, 5, 6, 7, 8, 9, 10, 11, 14, 15, 16, 17, 18] rfl rfl (by kernel_rfl) (by kernel_rfl) (fun _ h => (h.sel [0, 1, 2, 4, 5, 6] (by decide) rfl)) fun KS hKS => ?_
            refine s_val wn (r_move rfl) rfl ?_
            refine s_val wn (r_fa rfl fld36_0) rfl ?_
            refine s_val wn (r_lb 2 rfl rfl rfl flat3) rfl ?_
            refine s_val wn (r_fa rfl fld36_0) rfl ?_
            refine s_val wn (r_lb 1 rfl rfl rfl flat3) rfl ?_
            refine s_val wn (r_subn rfl rfl (by omega)) rfl ?_
            refine s_val wn (r_fa rfl fld36_0) rfl ?_
            refine s_val wn (r_lb 1 rfl rfl rfl flat3) rfl ?_
            refine s_val wn (r_fa rfl fld36_0) rfl ?_
            refine s_val wn (r_lb 0 rfl rfl rfl flat3) rfl ?_
            refine s_val wn (r_subn rfl rfl (by omega)) rfl ?_
            refine s_val wn (r_subn rfl rfl (by omega)) rfl ?_
            refine s_val wn (r_fa rfl fld36_1) rfl ?_
            refine s_val wn (r_lb 2 rfl rfl rfl flat3) rfl ?_
            refine s_val wn (r_fa rfl fld36_1) rfl ?_
            refine s_val wn (r_lb 1 rfl rfl rfl flat3) rfl ?_
            refine s_val wn (r_subn rfl rfl (by omega)) rfl ?_
            refine s_end hKS ?_
            refine n_step1 (f := 4) (i := 12) rfl (by kernel_rfl) ?_
            refine n_one (i := 12) rfl fun KN hKN => ?_
            refine l_callL (Codec.putB ((s1.time - s2.time) - (s2.time - 0))) wn rfl Try.call32 rfl (fun w1 hM => c_refNum ((s1.time - s2.time) - (s2.time - 0)) w1 (by omega)) fun A7 cp7 hc7 hm7 hA7 => ?_
            refine l_nil (hKN _ _ (fun _ h => (h.sel [1, 2, 3, 5, 6, 7] (by decide) rfl)) ?_)
            refine n_step1 (f := 3) (i := 13) rfl (by kernel_rfl) ?_
            refine n_one (i := 13) rfl fun KN hKN => ?_
            refine l_app 4 (Codec.preB l k) (Codec.putB ((s1.time - s2.time) - (s2.time - 0))) encByte wn rfl rfl rfl (fun _ hM => (RowSl encByte hM 0 rfl)) Try.underlying23 inf5 rfl rfl (by exact Codec.app_len (by first | omega | exact Codec.len_app (by omega) (by omega)) (by omega)) rfl fun A8 cp8 hc8 hm8 hA8 => ?_
            refine l_nil (hKN _ _ (fun _ h => (h.sel [1, 2, 3, 5, 6, 7] (by decide) rfl)) ?_)
            refine n_step1 (f := 2) (i := 19) rfl (by kernel_rfl) ?_
            refine n_one (i := 19) rfl fun KN hKN => ?_
            refine l_callL (Codec.putB (s1.value - s2.value)) wn rfl Try.call32 rfl (fun w1 hM => c_refNum (s1.value - s2.value) w1 (by omega)) fun A9 cp9 hc9 hm9 hA9 => ?_
            refine l_nil (hKN _ _ (fun _ h => (h.sel [2, 3, 4, 6, 7, 8] (by decide) rfl)) ?_)
            refine n_step1 (f := 1) (i := 20) rfl (by kernel_rfl) ?_
            refine n_one (i := 20) rfl fun KN hKN => ?_
            refine l_app 5 ((Codec.preB l k) ++ (Codec.putB ((s1.time - s2.time) - (s2.time - 0)))) (Codec.putB (s1.value - s2.value)) encByte wn rfl rfl rfl (fun _ hM => (RowSl encByte hM 0 rfl)) Try.underlying23 inf5 rfl rfl (by exact Codec.app_len (by first | omega | exact Codec.len_app (by omega) (by omega)) (by omega)) rfl fun A10 cp10 hc10 hm10 hA10 => ?_
            refine l_nil (hKN _ _ (fun _ h => (h.sel [2, 3, 4, 6, 7, 8] (by decide) rfl)) ?_)
            refine n_run (f := 0) [21] rfl rfl (by kernel_rfl) (by kernel_rfl) (fun _ h => (h.sel [2, 3, 4, 6, 7, 8] (by decide) rfl)) fun KS hKS => ?_
            refine s_val wn (r_assign rfl) rfl ?_
            refine s_end hKS ?_
            refine n_done (by kernel_rfl) (e_in_n (e_go hK11 ?_))
            refine c_region ?_
            refine l_val wn (r_addn rfl rfl (by omega)) rfl ?_
            refine l_val wn (r_move rfl) rfl ?_
            have hst : Codec.preB l (k + 1) = (((Codec.preB l k) ++ (Codec.putB ((s1.time - s2.time) - (s2.time - 0)))) ++ (Codec.putB (s1.value - s2.value))) := Codec.preB_ref (a := s2) (b := ⟨0, 0⟩) hs1 (Codec.back_take (by omega) hs2) ((show Codec.back (l.take k) 2 = ⟨0, 0⟩ from Codec.back_none (by rw [List.length_take]; omega)))
            refine l_nil (e_round2 (k + 1) (.slice A10 ((((Codec.preB l k) ++ (Codec.putB ((s1.time - s2.time) - (s2.time - 0)))) ++ (Codec.putB (s1.value - s2.value))).length) cp10) (sc rfl (sc rfl (sc rfl (sc rfl (sc rfl (sc (ji (by omega)) sn)))))) (fun _ h => by rw [hst]; exact (h.sel [5, 6, 7, 8] (by decide) rfl)) ?_ ?_)
            · omega
            · omega
        ·
          refine c_skip (e_go hK14 ?_)
          refine c_seq fun K18 hK18 => ?_
          refine c_seq fun K19 hK19 => ?_
          refine c_region ?_
          refine l_val wn (r_move rfl) rfl ?_
          refine l_val wn (r_gtr rfl rfl) rfl ?_
          refine l_nil (e_go hK19 ?_)
          refine c_cond rfl (fun h5 => ?_) (fun h5 => ?_)
          ·
            refine c_region ?_
            refine l_val wn (r_move rfl) rfl ?_
            refine l_val wn (r_move rfl) rfl ?_
            refine l_val wn (r_subn rfl rfl (by omega)) rfl ?_
            refine l_val wn (r_ia (i := (k - 2)) rfl hd1 rfl (by omega) (by first | omega | decide | (simp only [List.length_cons, List.length_nil, List.length_append, List.length_take, List.length_set]; omega)) Try.underlying22 inf36) rfl ?_
            obtain ⟨s4, hs4⟩ : ∃ x, l[(k - 2)]? = some x := ⟨_, List.getElem?_eq_getElem (by first | omega | decide | (simp only [List.length_cons, List.length_nil, List.length_append, List.length_take, List.length_set]; omega))⟩
            have hrs4 := hrg s4 (List.mem_of_getElem? hs4)
            refine l_val wn (r_eln 6 [.int .i64 s4.time, .int .i64 s4.value] rfl rfl hd1 hs4 rfl rfl agg36 inf36) rfl ?_
            refine l_stn 0 wn rfl rfl rfl inf36 rfl rfl rfl ?_
            refine l_nil (e_go hK18 ?_)
            refine c_nodes (Mem w no [.blk b9 [.int .i64 s4.time, .int .i64 s4.value] 36, .blk b8 [.int .i64 0, .int .i64 0] 36, .blk b7 [.int .i64 s1.time, .int .i64 s1.value] 36, .blk b4 [.int .i64 ((Codec.wrong l).err), .int .i64 ((Codec.wrong l).at_)] 26, .blk b3 [.int .i64 0, .int .i64 0] 26, slO (In w) 2 sampleE (.slice lA l.length lc) l]) mix (fun _ h => h.drew) rfl ?_
            refine n_run (f := 5) [0, 1, 2, 3, 4, 5, 6, 7, 8, 9, 10, 11, 14, 15, 16, 17, 18] rfl rfl (by kernel_rfl) (by kernel_rfl) (fun _ h => (h.sel [0, 1, 2, 4, 5, 6] (by decide) rfl)) fun KS hKS => ?_
            refine s_val wn (r_move rfl) rfl ?_
            refine s_val wn (r_fa rfl fld36_0) rfl ?_
            refine s_val wn (r_lb 2 rfl rfl rfl flat3) rfl ?_
            refine s_val wn (r_fa rfl fld36_0) rfl ?_
            refine s_val wn (r_lb 1 rfl rfl rfl flat3) rfl ?_
            refine s_val wn (r_subn rfl rfl (by omega)) rfl ?_
            refine s_val wn (r_fa rfl fld36_0) rfl ?_
            refine s_val wn (r_lb 1 rfl rfl rfl flat3) rfl ?_
            refine s_val wn (r_fa rfl fld36_0) rfl ?_
            refine s_val wn (r_lb 0 rfl rfl rfl flat3) rfl ?_
            refine s_val wn (r_subn rfl rfl (by omega)) rfl ?_
            refine s_val wn (r_subn rfl rfl (by omega)) rfl ?_
            refine s_val wn (r_fa rfl fld36_1) rfl ?_
            refine s_val wn (r_lb 2 rfl rfl rfl flat3) rfl ?_
            refine s_val wn (r_fa rfl fld36_1) rfl ?_
            refine s_val wn (r_lb 1 rfl rfl rfl flat3) rfl ?_
            refine s_val wn (r_subn rfl rfl (by omega)) rfl ?_
            refine s_end hKS ?_
            refine n_step1 (f := 4) (i := 12) rfl (by kernel_rfl) ?_
            refine n_one (i := 12) rfl fun KN hKN => ?_
            refine l_callL (Codec.putB ((s1.time - 0) - (0 - s4.time))) wn rfl Try.call32 rfl (fun w1 hM => c_refNum ((s1.time - 0) - (0 - s4.time)) w1 (by omega)) fun A11 cp11 hc11 hm11 hA11 => ?_
            refine l_nil (hKN _ _ (fun _ h => (h.sel [1, 2, 3, 5, 6, 7] (by decide) rfl)) ?_)
            refine n_step1 (f := 3) (i := 13) rfl (by kernel_rfl) ?_
            refine n_one (i := 13) rfl fun KN hKN => ?_
            refine l_app 4 (Codec.preB l k) (Codec.putB ((s1.time - 0) - (0 - s4.time))) encByte wn rfl rfl rfl (fun _ hM => (RowSl encByte hM 0 rfl)) Try.underlying23 inf5 rfl rfl (by exact Codec.app_len (by first | omega | exact Codec.len_app (by omega) (by omega)) (by omega)) rfl fun A12 cp12 hc12 hm12 hA12 => ?_
            refine l_nil (hKN _ _ (fun _ h => (h.sel [1, 2, 3, 5, 6, 7] (by decide) rfl)) ?_)
            refine n_step1 (f := 2) (i := 19) rfl (by kernel_rfl) ?_
            refine n_one (i := 19) rfl fun KN hKN => ?_
            refine l_callL (Codec.putB (s1.value - 0)) wn rfl Try.call32 rfl (fun w1 hM => c_refNum (s1.value - 0) w1 (by omega)) fun A13 cp13 hc13 hm13 hA13 => ?_
            refine l_nil (hKN _ _ (fun _ h => (h.sel [2, 3, 4, 6, 7, 8] (by decide) rfl)) ?_)
            refine n_step1 (f := 1) (i := 20) rfl (by kernel_rfl) ?_
            refine n_one (i := 20) rfl fun KN hKN => ?_
            refine l_app 5 ((Codec.preB l k) ++ (Codec.putB ((s1.time - 0) - (0 - s4.time)))) (Codec.putB (s1.value - 0)) encByte wn rfl rfl rfl (fun _ hM => (RowSl encByte hM 0 rfl)) Try.underlying23 inf5 rfl rfl (by exact Codec.app_len (by first | omega | exact Codec.len_app (by omega) (by omega)) (by omega)) rfl fun A14 cp14 hc14 hm14 hA14 => ?_
            refine l_nil (hKN _ _ (fun _ h => (h.sel [2, 3, 4, 6, 7, 8] (by decide) rfl)) ?_)
            refine n_run (f := 0) [21] rfl rfl (by kernel_rfl) (by kernel_rfl) (fun _ h => (h.sel [2, 3, 4, 6, 7, 8] (by decide) rfl)) fun KS hKS => ?_
            refine s_val wn (r_assign rfl) rfl ?_
            refine s_end hKS ?_
            refine n_done (by kernel_rfl) (e_in_n (e_go hK11 ?_))
            refine c_region ?_
            refine l_val wn (r_addn rfl rfl (by omega)) rfl ?_
            refine l_val wn (r_move rfl) rfl ?_
            have hst : Codec.preB l (k + 1) = (((Codec.preB l k) ++ (Codec.putB ((s1.time - 0) - (0 - s4.time)))) ++ (Codec.putB (s1.value - 0))) := by exfalso; omega
            refine l_nil (e_round2 (k + 1) (.slice A14 ((((Codec.preB l k) ++ (Codec.putB ((s1.time - 0) - (0 - s4.time)))) ++ (Codec.putB (s1.value - 0))).length) cp14) (sc rfl (sc rfl (sc rfl (sc rfl (sc rfl (sc (ji (by omega)) sn)))))) (fun _ h => by rw [hst]; exact (h.sel [5, 6, 7, 8] (by decide) rfl)) ?_ ?_)
            · omega
            · omega
          ·
            refine c_skip (e_go hK18 ?_)
            refine c_nodes (Mem w no [.blk b9 [.int .i64 0, .int .i64 0] 36, .blk b8 [.int .i64 0, .int .i64 0] 36, .blk b7 [.int .i64 s1.time, .int .i64 s1.value] 36, .blk b4 [.int .i64 ((Codec.wrong l).err), .int .i64 ((Codec.wrong l).at_)] 26, .blk b3 [.int .i64 0, .int .i64 0] 26, slO (In w) 2 sampleE (.slice lA l.length lc) l]) mix (fun _ h => h.drew) rfl ?_
            refine n_run (f := 5) [0, 1, 2, 3, 4, 5, 6, 7, 8, 9, 10, 11, 14, 15, 16, 17, 18] rfl rfl (by kernel_rfl) (by kernel_rfl) (fun _ h => (h.sel [0, 1, 2, 4, 5, 6] (by decide) rfl)) fun KS hKS => ?_
            refine s_val wn (r_move rfl) rfl ?_
            refine s_val wn (r_fa rfl fld36_0) rfl ?_
            refine s_val wn (r_lb 2 rfl rfl rfl flat3) rfl ?_
            refine s_val wn (r_fa rfl fld36_0) rfl ?_
            refine s_val wn (r_lb 1 rfl rfl rfl flat3) rfl ?_
            refine s_val wn (r_subn rfl rfl (by omega)) rfl ?_
            refine s_val wn (r_fa rfl fld36_0) rfl ?_
            refine s_val wn (r_lb 1 rfl rfl rfl flat3) rfl ?_
            refine s_val wn (r_fa rfl fld36_0) rfl ?_
            refine s_val wn (r_lb 0 rfl rfl rfl flat3) rfl ?_
            refine s_val wn (r_subn rfl rfl (by omega)) rfl ?_
            refine s_val wn (r_subn rfl rfl (by omega)) rfl ?_
            refine s_val wn (r_fa rfl fld36_1) rfl ?_
            refine s_val wn (r_lb 2 rfl rfl rfl flat3) rfl ?_
            refine s_val wn (r_fa rfl fld36_1) rfl ?_
            refine s_val wn (r_lb 1 rfl rfl rfl flat3) rfl ?_
            refine s_val wn (r_subn rfl rfl (by omega)) rfl ?_
            refine s_end hKS ?_
            refine n_step1 (f := 4) (i := 12) rfl (by kernel_rfl) ?_
            refine n_one (i := 12) rfl fun KN hKN => ?_
            refine l_callL (Codec.putB ((s1.time - 0) - (0 - 0))) wn rfl Try.call32 rfl (fun w1 hM => c_refNum ((s1.time - 0) - (0 - 0)) w1 (by omega)) fun A15 cp15 hc15 hm15 hA15 => ?_
            refine l_nil (hKN _ _ (fun _ h => (h.sel [1, 2, 3, 5, 6, 7] (by decide) rfl)) ?_)
            refine n_step1 (f := 3) (i := 13) rfl (by kernel_rfl) ?_
            refine n_one (i := 13) rfl fun KN hKN => ?_
            refine l_app 4 (Codec.preB l k) (Codec.putB ((s1.time - 0) - (0 - 0))) encByte wn rfl rfl rfl (fun _ hM => (RowSl encByte hM 0 rfl)) Try.underlying23 inf5 rfl rfl (by exact Codec.app_len (by first | omega | exact Codec.len_app (by omega) (by omega)) (by omega)) rfl fun A16 cp16 hc16 hm16 hA16 => ?_
            refine l_nil (hKN _ _ (fun _ h => (h.sel [1, 2, 3, 5, 6, 7] (by decide) rfl)) ?_)
            refine n_step1 (f := 2) (i := 19) rfl (by kernel_rfl) ?_
            refine n_one (i := 19) rfl fun KN hKN => ?_
            refine l_callL (Codec.putB (s1.value - 0)) wn rfl Try.call32 rfl (fun w1 hM => c_refNum (s1.value - 0) w1 (by omega)) fun A17 cp17 hc17 hm17 hA17 => ?_
            refine l_nil (hKN _ _ (fun _ h => (h.sel [2, 3, 4, 6, 7, 8] (by decide) rfl)) ?_)
            refine n_step1 (f := 1) (i := 20) rfl (by kernel_rfl) ?_
            refine n_one (i := 20) rfl fun KN hKN => ?_
            refine l_app 5 ((Codec.preB l k) ++ (Codec.putB ((s1.time - 0) - (0 - 0)))) (Codec.putB (s1.value - 0)) encByte wn rfl rfl rfl (fun _ hM => (RowSl encByte hM 0 rfl)) Try.underlying23 inf5 rfl rfl (by exact Codec.app_len (by first | omega | exact Codec.len_app (by omega) (by omega)) (by omega)) rfl fun A18 cp18 hc18 hm18 hA18 => ?_
            refine l_nil (hKN _ _ (fun _ h => (h.sel [2, 3, 4, 6, 7, 8] (by decide) rfl)) ?_)
            refine n_run (f := 0) [21] rfl rfl (by kernel_rfl) (by kernel_rfl) (fun _ h => (h.sel [2, 3, 4, 6, 7, 8] (by decide) rfl)) fun KS hKS => ?_
            refine s_val wn (r_assign rfl) rfl ?_
            refine s_end hKS ?_
            refine n_done (by kernel_rfl) (e_in_n (e_go hK11 ?_))
            refine c_region ?_
            refine l_val wn (r_addn rfl rfl (by omega)) rfl ?_
            refine l_val wn (r_move rfl) rfl ?_
            have hst : Codec.preB l (k + 1) = (((Codec.preB l k) ++ (Codec.putB ((s1.time - 0) - (0 - 0)))) ++ (Codec.putB (s1.value - 0))) := Codec.preB_ref (a := ⟨0, 0⟩) (b := ⟨0, 0⟩) hs1 ((show Codec.back (l.take k) 1 = ⟨0, 0⟩ from Codec.back_none (by rw [List.length_take]; omega))) ((show Codec.back (l.take k) 2 = ⟨0, 0⟩ from Codec.back_none (by rw [List.length_take]; omega)))
            refine l_nil (e_round2 (k + 1) (.slice A18 ((((Codec.preB l k) ++ (Codec.putB ((s1.time - 0) - (0 - 0)))) ++ (Codec.putB (s1.value - 0))).length) cp18) (sc rfl (sc rfl (sc rfl (sc rfl (sc rfl (sc (ji (by omega)) sn)))))) (fun _ h => by rw [hst]; exact (h.sel [5, 6, 7, 8] (by decide) rfl)) ?_ ?_)
            · omega
            · omega
      ·
        refine c_exit (e_then_x (e_loop2_x (e_in_hit (e_go hK7 ?_))))
        refine c_seq fun K20 hK20 => ?_
        refine c_region ?_
        refine l_val wn (r_move rfl) rfl ?_
        refine l_val wn (r_build [.int .i64 0, .int .i64 0] pl26 inf26 rfl rfl) rfl ?_
        refine l_val wn (r_assign rfl) rfl ?_
        refine l_stn 2 wn rfl rfl rfl inf26 rfl rfl rfl ?_
        refine l_nil (e_go hK20 ?_)
        refine c_ret (e_ret2 (.inl rfl) Try.results11 (rv_tmp rfl) (rv_cell 2 rfl rfl agg26 inf26 rfl) fun w1 hM => ?_)
        exact hM.retLT 0 rfl (by rw [Codec.bytesF, if_pos (Classical.not_not.1 h1), Codec.preB_end (by omega)]) (by rw [Codec.wrong_zero (Classical.not_not.1 h1)]; rfl)

theorem c_refParse (bv : Value) (b : List UInt8) (w : World) (hb : FlatSl (In w) 1 byteE bv b w) (hl1 : b.length ≤ 1048576) :
    Calls Try.prog 15 #[bv] w (RetLT w 36 2 sampleE (Codec.parse b).1 (fun r => .tuple [r, .int .i64 (Codec.parse b).2].toArray)) := by
  obtain ⟨bA, bc, rfl, hbc, hbm, hbA⟩ := hb.form
  have hnb := Codec.numV_bound b
  have hps := Codec.posOf_spec (b := b) (a := 0) (Nat.zero_le _)
  have hp0 : (Codec.numR b).length = b.length - Codec.posOf b 0 := by have := Codec.numR_len b; rw [Codec.pos_zero]; omega
  refine fstart (N := 107) (vals := [.slice bA b.length bc]) (S := Mem w no [slO (In w) 1 byteE (.slice bA b.length bc) b]) Try.func15 rfl rfl rfl (Mem.ofDats (dc (dl hb) dn)) ?_
  refine c_seq fun K1 hK1 => ?_
  refine c_region ?_
  refine l_nilRow (sampleE : Sample → List Value) 36 2 ?_
  refine l_val wn (r_assign rfl) rfl ?_
  refine l_val wn (r_assign rfl) rfl ?_
  refine l_nil (e_go hK1 ?_)
  refine c_seq fun K2 hK2 => ?_
  refine c_region ?_
  refine l_val wn (r_move rfl) rfl ?_
  refine l_callF wn rfl Try.call34 rfl (fun w1 hM => c_refGet0 _ b w1 (hM.sl 1 rfl) (by assumption)) ?_
  refine l_val wn (r_move rfl) rfl ?_
  refine l_val wn (r_extract rfl rfl) rfl ?_
  refine l_val wn (r_extract rfl rfl) rfl ?_
  refine l_val wn (r_extract rfl rfl) rfl ?_
  refine l_val wn (r_assign rfl) rfl ?_
  refine l_val wn (r_assign rfl) rfl ?_
  refine l_val wn (r_assign rfl) rfl ?_
  refine l_nil (e_go hK2 ?_)
  refine c_seq fun K3 hK3 => ?_
  refine c_cut [(0, .slice bA b.length bc), (4, .int .i64 (Codec.numV b)), (5, .int .i64 ((Codec.posOf b 0 : Nat) : Int)), (38, .bool (decide (((!(Codec.numOk b)) = true) ∨ (((Codec.numV b) < 0) ∨ (((b.length : Int) - ((Codec.posOf b 0 : Nat) : Int)) < (2 * (Codec.numV b)))))))] (Mem w no [Row (.slice none 0 0) 36 2 sampleE ([] : List Sample), slO (In w) 1 byteE (.slice bA b.length bc) b]) (fun K4 hK4 => ?_) ?_
  ·
    refine c_region ?_
    refine l_val wn (r_move rfl) rfl ?_
    refine l_val wn (r_notb rfl) rfl ?_
    refine l_val wn (r_move rfl) rfl ?_
    refine l_caseb (t := 26) rfl (fun h1 => ?_) (fun h1 => ?_)
    ·
      refine l_skip (wg rfl rfl rfl) rfl ?_
      refine l_skip (wg rfl rfl rfl) rfl ?_
      refine l_val wn (r_pick rfl rfl) rfl ?_
      refine l_val wn (r_move rfl) rfl ?_
      refine l_skip (wg rfl rfl rfl) rfl ?_
      refine l_skip (wg rfl rfl rfl) rfl ?_
      refine l_skip (wg rfl rfl rfl) rfl ?_
      refine l_skip (wg rfl rfl rfl) rfl ?_
      refine l_skip (wg rfl rfl rfl) rfl ?_
      refine l_skip (wg rfl rfl rfl) rfl ?_
      refine l_skip (wg rfl rfl rfl) rfl ?_
      refine l_val wn (r_pick rfl rfl) rfl ?_
      refine l_nil (e_cut hK4 (sc rfl (sc rfl (sc rfl (sc (jt (Or.inl h1)) sn)))) (fun _ h => h))
    ·
      refine l_val (wg rfl rfl rfl) (r_move rfl) rfl ?_
      refine l_val (wg rfl rfl rfl) (r_lss rfl rfl) rfl ?_
      refine l_val wn (r_pick rfl rfl) rfl ?_
      refine l_val wn (r_move rfl) rfl ?_
      refine l_case (t := 30) rfl (fun h2 => ?_) (fun h2 => ?_)
      ·
        refine l_skip (wg rfl rfl rfl) rfl ?_
        refine l_skip (wg rfl rfl rfl) rfl ?_
        refine l_skip (wg rfl rfl rfl) rfl ?_
        refine l_skip (wg rfl rfl rfl) rfl ?_
        refine l_skip (wg rfl rfl rfl) rfl ?_
        refine l_skip (wg rfl rfl rfl) rfl ?_
        refine l_skip (wg rfl rfl rfl) rfl ?_
        refine l_val wn (r_pick rfl rfl) rfl ?_
        refine l_nil (e_cut hK4 (sc rfl (sc rfl (sc rfl (sc (jt (Or.inr (Or.inl h2))) sn)))) (fun _ h => h))
      ·
        refine l_val (wg rfl rfl rfl) (r_move rfl) rfl ?_
        refine l_val (wg rfl rfl rfl) (r_muln rfl rfl (by omega)) rfl ?_
        refine l_val (wg rfl rfl rfl) (r_move rfl) rfl ?_
        refine l_val (wg rfl rfl rfl) (r_len rfl Try.underlying23) rfl ?_
        refine l_val (wg rfl rfl rfl) (r_move rfl) rfl ?_
        refine l_val (wg rfl rfl rfl) (r_subn rfl rfl (by omega)) rfl ?_
        refine l_val (wg rfl rfl rfl) (r_gtr rfl rfl) rfl ?_
        refine l_val wn (r_pick rfl rfl) rfl ?_
        refine l_nil (e_cut hK4 (sc rfl (sc rfl (sc rfl (sc (jp (iff_or_right h1 (iff_or_right h2 Iff.rfl))) sn)))) (fun _ h => h))
  ·
    refine c_cond rfl (fun h3 => ?_) (fun h3 => ?_)
    ·
      refine c_seq fun K5 hK5 => ?_
      refine c_region ?_
      refine l_nilRow (sampleE : Sample → List Value) 36 2 ?_
      refine l_val wn (r_assign rfl) rfl ?_
      refine l_val wn (r_assign rfl) rfl ?_
      refine l_nil (e_go hK5 ?_)
      refine c_ret (e_then_r (e_ret2 (.inl rfl) Try.results15 (rv_tmp rfl) (rv_tmp rfl) fun w1 hM => ?_))
      have hp := Codec.parse_bad ((Codec.pbad_iff hp0 hps.1).1 h3)
      exact hM.retLT 0 rfl (by rw [hp]) (by first | (rw [hp]; done) | (rw [hp]; rfl))
    ·
      have h0 := (not_congr (Codec.pbad_iff hp0 hps.1)).1 h3
      have hnn := (not_or.1 h0).2
      refine c_skip (e_go hK3 ?_)
      refine c_seq fun K6 hK6 => ?_
      refine c_region ?_
      refine l_nilRow (sampleE : Sample → List Value) 36 2 ?_
      refine l_val wn (r_assign rfl) rfl ?_
      refine l_nil (e_go hK6 ?_)
      refine c_seq fun K7 hK7 => ?_
      refine c_seq fun K8 hK8 => ?_
      refine c_region ?_
      refine l_val wn (r_assign rfl) rfl ?_
      refine l_nil (e_go hK8 ?_)
      refine c_block ?_
      refine c_loop4 (fun (k : Nat) (p : Nat) (acc : List Sample) (va : Value) => [(0, .slice bA b.length bc), (4, .int .i64 (Codec.numV b)), (5, .int .i64 ((p : Nat) : Int)), (7, va), (8, .int .i64 (k : Int))]) (fun (k : Nat) (p : Nat) (acc : List Sample) (va : Value) => [Row va 36 2 sampleE acc, Row (.slice none 0 0) 36 2 sampleE ([] : List Sample), slO (In w) 1 byteE (.slice bA b.length bc) b]) (fun (k : Nat) (p : Nat) (acc : List Sample) (va : Value) => Codec.prs (Codec.numV b).toNat (Codec.numR b) ⟨0, 0, 0⟩ [] = Codec.prs ((Codec.numV b).toNat - k) (b.drop p) (Codec.t3Of acc) acc ∧ acc.length = k ∧ (k : Int) ≤ Codec.numV b ∧ p ≤ b.length) (fun (k : Nat) (p : Nat) (acc : List Sample) (va : Value) => (Codec.numV b).toNat - k) 0 (Codec.posOf b 0) ([] : List Sample) (.slice none 0 0) (sc rfl (sc rfl (sc (ji (by first | omega | rfl)) (sc rfl (sc (ji (by first | omega | rfl)) sn))))) (fun _ h => h) ?_ (fun k p acc va hI1 => ?_)
      · exact ⟨by rw [hps.2.2]; rfl, rfl, by omega, hps.1⟩
      ·
        have hq1 := Codec.posOf_spec hI1.2.2.2
        have hq2 := Codec.posOf_spec hq1.1
        have hac := hI1.2.1
        refine c_open 0 (l := acc) rfl fun A1 cp1 hv1 hc1 hm1 hA1 => ?_
        subst hv1
        refine c_seq fun K9 hK9 => ?_
        refine c_seq fun K10 hK10 => ?_
        refine c_region ?_
        refine l_val wn (r_move rfl) rfl ?_
        refine l_val wn (r_move rfl) rfl ?_
        refine l_val wn (r_lss rfl rfl) rfl ?_
        refine l_nil (e_go hK10 ?_)
        refine c_cond rfl (fun h4 => ?_) (fun h4 => ?_)
        ·
          refine c_skip (e_go hK9 ?_)
          refine c_seq fun K11 hK11 => ?_
          refine c_block ?_
          refine c_seq fun K12 hK12 => ?_
          refine c_region ?_
          refine l_val wn (r_move rfl) rfl ?_
          refine l_val wn (r_move rfl) rfl ?_
          refine l_callF wn rfl Try.call34 rfl (fun w1 hM => c_refGet _ b p w1 (hM.sl 2 rfl) (by omega) (by assumption)) ?_
          refine l_val wn (r_move rfl) rfl ?_
          refine l_val wn (r_extract rfl rfl) rfl ?_
          refine l_val wn (r_extract rfl rfl) rfl ?_
          refine l_val wn (r_extract rfl rfl) rfl ?_
          refine l_val wn (r_assign rfl) rfl ?_
          refine l_val wn (r_assign rfl) rfl ?_
          refine l_val wn (r_assign rfl) rfl ?_
          refine l_nil (e_go hK12 ?_)
          refine c_seq fun K13 hK13 => ?_
          refine c_region ?_
          refine l_val wn (r_move rfl) rfl ?_
          refine l_val wn (r_move rfl) rfl ?_
          refine l_callF wn rfl Try.call34 rfl (fun w1 hM => c_refGet _ b (Codec.posOf b p) w1 (hM.sl 2 rfl) (by omega) (by assumption)) ?_
          refine l_val wn (r_move rfl) rfl ?_
          refine l_val wn (r_extract rfl rfl) rfl ?_
          refine l_val wn (r_extract rfl rfl) rfl ?_
          refine l_val wn (r_extract rfl rfl) rfl ?_
          refine l_val wn (r_assign rfl) rfl ?_
          refine l_val wn (r_assign rfl) rfl ?_
          refine l_val wn (r_assign rfl) rfl ?_
          refine l_nil (e_go hK13 ?_)
          refine c_seq fun K14 hK14 => ?_
          refine c_cut [(0, .slice bA b.length bc), (4, .int .i64 (Codec.numV b)), (7, .slice A1 acc.length cp1), (8, .int .i64 (k : Int)), (9, .int .i64 (Codec.numV (b.drop p))), (12, .int .i64 (Codec.numV (b.drop (Codec.posOf b p)))), (13, .int .i64 ((Codec.posOf b (Codec.posOf b p) : Nat) : Int)), (63, .bool (decide (((!(Codec.numOk (b.drop p))) = true) ∨ ((!(Codec.numOk (b.drop (Codec.posOf b p)))) = true))))] (Mem w no [Row (.slice A1 acc.length cp1) 36 2 sampleE acc, Row (.slice none 0 0) 36 2 sampleE ([] : List Sample), slO (In w) 1 byteE (.slice bA b.length bc) b]) (fun K15 hK15 => ?_) ?_
          ·
            refine c_region ?_
            refine l_val wn (r_move rfl) rfl ?_
            refine l_val wn (r_notb rfl) rfl ?_
            refine l_val wn (r_move rfl) rfl ?_
            refine l_caseb (t := 60) rfl (fun h5 => ?_) (fun h5 => ?_)
            ·
              refine l_skip (wg rfl rfl rfl) rfl ?_
              refine l_skip (wg rfl rfl rfl) rfl ?_
              refine l_val wn (r_pick rfl rfl) rfl ?_
              refine l_nil (e_cut hK15 (sc rfl (sc rfl (sc rfl (sc rfl (sc rfl (sc rfl (sc rfl (sc (jt (Or.inl h5)) sn)))))))) (fun _ h => h))
            ·
              refine l_val (wg rfl rfl rfl) (r_move rfl) rfl ?_
              refine l_val (wg rfl rfl rfl) (r_notb rfl) rfl ?_
              refine l_val wn (r_pick rfl rfl) rfl ?_
              refine l_nil (e_cut hK15 (sc rfl (sc rfl (sc rfl (sc rfl (sc rfl (sc rfl (sc rfl (sc (jpb (iff_or_right h5 Iff.rfl)) sn)))))))) (fun _ h => h))
          ·
            refine c_cond rfl (fun h6 => ?_) (fun h6 => ?_)
            ·
              refine c_seq fun K16 hK16 => ?_
              refine c_region ?_
              refine l_nilRow (sampleE : Sample → List Value) 36 2 ?_
              refine l_val wn (r_assign rfl) rfl ?_
              refine l_val wn (r_assign rfl) rfl ?_
              refine l_nil (e_go hK16 ?_)
              refine c_ret (e_then_r (e_in_r (e_then_r (e_loop4_r (e_in_r (e_then_r (e_ret2 (.inl rfl) Try.results15 (rv_tmp rfl) (rv_tmp rfl) fun w1 hM => ?_)))))))
              have hp := Codec.parse_stop h0 hI1.1 (by omega) (Codec.stop_of hI1.2.2.2 h6)
              exact hM.retLT 0 rfl (by rw [hp]) (by first | (rw [hp]; done) | (rw [hp]; rfl))
            ·
              have hgo := Codec.go_of hI1.2.2.2 h6
              refine c_skip (e_go hK14 ?_)
              refine c_seq fun K17 hK17 => ?_
              refine c_region ?_
              refine l_val wn (r_move rfl) rfl ?_
              refine l_val wn (r_assign rfl) rfl ?_
              refine l_nil (e_go hK17 ?_)
              refine c_seq fun K18 hK18 => ?_
              refine c_region ?_
              refine l_alloc wn inf36 rfl fun b15 => ?_
              refine l_alloc wn inf36 rfl fun b16 => ?_
              refine l_nil (e_go hK18 ?_)
              refine c_seq fun K19 hK19 => ?_
              refine c_seq fun K20 hK20 => ?_
              refine c_region ?_
              refine l_val wn (r_move rfl) rfl ?_
              refine l_val wn (r_gtr rfl rfl) rfl ?_
              refine l_nil (e_go hK20 ?_)
              refine c_cond rfl (fun h7 => ?_) (fun h7 => ?_)
              ·
                refine c_region ?_
                refine l_val wn (r_move rfl) rfl ?_
                refine l_val wn (r_move rfl) rfl ?_
                refine l_val wn (r_subn rfl rfl (by omega)) rfl ?_
                obtain ⟨ad1, hd1⟩ := hA1 (ne_nil (i := (k - 1)) (by omega))
                refine l_val wn (r_ia (i := (k - 1)) rfl hd1 rfl (by omega) (by omega) Try.underlying22 inf36) rfl ?_
                obtain ⟨s1, hs1⟩ : ∃ x, acc[(k - 1)]? = some x := ⟨_, List.getElem?_eq_getElem (by omega)⟩
                refine l_val wn (r_rln 2 [.int .i64 s1.time, .int .i64 s1.value] encSample rfl rfl hd1 hs1 rfl rfl agg36 inf36) rfl ?_
                refine l_stn 1 wn rfl rfl rfl inf36 rfl rfl rfl ?_
                refine l_nil (e_go hK19 ?_)
                refine c_seq fun K21 hK21 => ?_
                refine c_seq fun K22 hK22 => ?_
                refine c_region ?_
                refine l_val wn (r_move rfl) rfl ?_
                refine l_val wn (r_gtr rfl rfl) rfl ?_
                refine l_nil (e_go hK22 ?_)
                refine c_cond rfl (fun h8 => ?_) (fun h8 => ?_)
                ·
                  refine c_region ?_
                  refine l_val wn (r_move rfl) rfl ?_
                  refine l_val wn (r_move rfl) rfl ?_
                  refine l_val wn (r_subn rfl rfl (by omega)) rfl ?_
                  refine l_val wn (r_ia (i := (k - 2)) rfl hd1 rfl (by omega) (by omega) Try.underlying22 inf36) rfl ?_
                  obtain ⟨s2, hs2⟩ : ∃ x, acc[(k - 2)]? = some x := ⟨_, List.getElem?_eq_getElem (by omega)⟩
                  refine l_val wn (r_rln 2 [.int .i64 s2.time, .int .i64 s2.value] encSample rfl rfl hd1 hs2 rfl rfl agg36 inf36) rfl ?_
                  refine l_stn 0 wn rfl rfl rfl inf36 rfl rfl rfl ?_
                  refine l_nil (e_go hK21 ?_)
                  refine c_region ?_
                  refine l_val wn (r_move rfl) rfl ?_
                  refine l_val wn (r_fa rfl fld36_0) rfl ?_
                  refine l_val wn (r_lb 1 rfl rfl rfl flat3) rfl ?_
                  refine l_val wn (r_mul rfl rfl) rfl ?_
                  refine l_val wn (r_fa rfl fld36_0) rfl ?_
                  refine l_val wn (r_lb 0 rfl rfl rfl flat3) rfl ?_
                  refine l_val wn (r_sub rfl rfl) rfl ?_
                  refine l_val wn (r_move rfl) rfl ?_
                  refine l_val wn (r_add rfl rfl) rfl ?_
                  refine l_val wn (r_fa rfl fld36_1) rfl ?_
                  refine l_val wn (r_lb 1 rfl rfl rfl flat3) rfl ?_
                  refine l_val wn (r_move rfl) rfl ?_
                  refine l_val wn (r_add rfl rfl) rfl ?_
                  refine l_val wn (r_build [.int .i64 (IntKind.wrap .i64 ((IntKind.wrap .i64 ((IntKind.wrap .i64 (2 * s1.time)) - s2.time)) + (Codec.numV (b.drop p)))), .int .i64 (IntKind.wrap .i64 (s1.value + (Codec.numV (b.drop (Codec.posOf b p)))))] pl36 inf36 rfl rfl) rfl ?_
                  refine l_bsL sampleE ([(⟨(IntKind.wrap .i64 ((IntKind.wrap .i64 ((IntKind.wrap .i64 (2 * s1.time)) - s2.time)) + (Codec.numV (b.drop p)))), (IntKind.wrap .i64 (s1.value + (Codec.numV (b.drop (Codec.posOf b p)))))⟩ : Sample)] : List Sample) wn Try.underlying22 inf36 rfl rfl rfl rfl (by decide) (by decide) rfl fun b93 => ?_
                  refine l_app 3 acc ([(⟨(IntKind.wrap .i64 ((IntKind.wrap .i64 ((IntKind.wrap .i64 (2 * s1.time)) - s2.time)) + (Codec.numV (b.drop p)))), (IntKind.wrap .i64 (s1.value + (Codec.numV (b.drop (Codec.posOf b p)))))⟩ : Sample)] : List Sample) encSample wn rfl rfl rfl (fun _ hM => (RowSl encSample hM 0 rfl)) Try.underlying22 inf36 rfl rfl (by simp only [List.length_append, List.length_cons, List.length_nil]; omega) rfl fun A2 cp2 hc2 hm2 hA2 => ?_
                  refine l_val wn (r_assign rfl) rfl ?_
                  refine l_nil (e_in_n (e_go hK11 ?_))
                  refine c_region ?_
                  refine l_val wn (r_move rfl) rfl ?_
                  refine l_val wn (r_addn rfl rfl (by omega)) rfl ?_
                  refine l_val wn (r_assign rfl) rfl ?_
                  refine l_nil (e_round4 (k + 1) (Codec.posOf b (Codec.posOf b p)) (acc ++ ([(⟨(IntKind.wrap .i64 ((IntKind.wrap .i64 ((IntKind.wrap .i64 (2 * s1.time)) - s2.time)) + (Codec.numV (b.drop p)))), (IntKind.wrap .i64 (s1.value + (Codec.numV (b.drop (Codec.posOf b p)))))⟩ : Sample)] : List Sample)) (.slice A2 ((acc ++ ([(⟨(IntKind.wrap .i64 ((IntKind.wrap .i64 ((IntKind.wrap .i64 (2 * s1.time)) - s2.time)) + (Codec.numV (b.drop p)))), (IntKind.wrap .i64 (s1.value + (Codec.numV (b.drop (Codec.posOf b p)))))⟩ : Sample)] : List Sample)).length) cp2) (sc rfl (sc rfl (sc (ji (by first | omega | rfl)) (sc rfl (sc (ji (by first | omega | rfl)) sn))))) (fun _ h => (h.sel [3, 4, 5] (by decide) rfl)) ?_ ?_)
                  · exact ⟨by rw [hI1.1]; exact Codec.ref_round (x := s1) (y := s2) (s := (⟨(IntKind.wrap .i64 ((IntKind.wrap .i64 ((IntKind.wrap .i64 (2 * s1.time)) - s2.time)) + (Codec.numV (b.drop p)))), (IntKind.wrap .i64 (s1.value + (Codec.numV (b.drop (Codec.posOf b p)))))⟩ : Sample)) hI1.2.2.2 (by omega) hgo (Codec.back_get (by omega) (by rw [hI1.2.1]; exact hs1) (by omega)) (Codec.back_get (by omega) (by rw [hI1.2.1]; exact hs2) (by omega)) rfl rfl, by rw [List.length_append, hI1.2.1]; rfl, by omega, hq2.1⟩
                  · omega
                ·
                  refine c_skip (e_go hK21 ?_)
                  refine c_region ?_
                  refine l_val wn (r_move rfl) rfl ?_
                  refine l_val wn (r_fa rfl fld36_0) rfl ?_
                  refine l_val wn (r_lb 1 rfl rfl rfl flat3) rfl ?_
                  refine l_val wn (r_mul rfl rfl) rfl ?_
                  refine l_val wn (r_fa rfl fld36_0) rfl ?_
                  refine l_val wn (r_lb 0 rfl rfl rfl flat3) rfl ?_
                  refine l_val wn (r_sub rfl rfl) rfl ?_
                  refine l_val wn (r_move rfl) rfl ?_
                  refine l_val wn (r_add rfl rfl) rfl ?_
                  refine l_val wn (r_fa rfl fld36_1) rfl ?_
                  refine l_val wn (r_lb 1 rfl rfl rfl flat3) rfl ?_
                  refine l_val wn (r_move rfl) rfl ?_
                  refine l_val wn (r_add rfl rfl) rfl ?_
                  refine l_val wn (r_build [.int .i64 (IntKind.wrap .i64 ((IntKind.wrap .i64 ((IntKind.wrap .i64 (2 * s1.time)) - 0)) + (Codec.numV (b.drop p)))), .int .i64 (IntKind.wrap .i64 (s1.value + (Codec.numV (b.drop (Codec.posOf b p)))))] pl36 inf36 rfl rfl) rfl ?_
                  refine l_bsL sampleE ([(⟨(IntKind.wrap .i64 ((IntKind.wrap .i64 ((IntKind.wrap .i64 (2 * s1.time)) - 0)) + (Codec.numV (b.drop p)))), (IntKind.wrap .i64 (s1.value + (Codec.numV (b.drop (Codec.posOf b p)))))⟩ : Sample)] : List Sample) wn Try.underlying22 inf36 rfl rfl rfl rfl (by decide) (by decide) rfl fun b93 => ?_
                  refine l_app 3 acc ([(⟨(IntKind.wrap .i64 ((IntKind.wrap .i64 ((IntKind.wrap .i64 (2 * s1.time)) - 0)) + (Codec.numV (b.drop p)))), (IntKind.wrap .i64 (s1.value + (Codec.numV (b.drop (Codec.posOf b p)))))⟩ : Sample)] : List Sample) encSample wn rfl rfl rfl (fun _ hM => (RowSl encSample hM 0 rfl)) Try.underlying22 inf36 rfl rfl (by simp only [List.length_append, List.length_cons, List.length_nil]; omega) rfl fun A3 cp3 hc3 hm3 hA3 => ?_
                  refine l_val wn (r_assign rfl) rfl ?_
                  refine l_nil (e_in_n (e_go hK11 ?_))
                  refine c_region ?_
                  refine l_val wn (r_move rfl) rfl ?_
                  refine l_val wn (r_addn rfl rfl (by omega)) rfl ?_
                  refine l_val wn (r_assign rfl) rfl ?_
                  refine l_nil (e_round4 (k + 1) (Codec.posOf b (Codec.posOf b p)) (acc ++ ([(⟨(IntKind.wrap .i64 ((IntKind.wrap .i64 ((IntKind.wrap .i64 (2 * s1.time)) - 0)) + (Codec.numV (b.drop p)))), (IntKind.wrap .i64 (s1.value + (Codec.numV (b.drop (Codec.posOf b p)))))⟩ : Sample)] : List Sample)) (.slice A3 ((acc ++ ([(⟨(IntKind.wrap .i64 ((IntKind.wrap .i64 ((IntKind.wrap .i64 (2 * s1.time)) - 0)) + (Codec.numV (b.drop p)))), (IntKind.wrap .i64 (s1.value + (Codec.numV (b.drop (Codec.posOf b p)))))⟩ : Sample)] : List Sample)).length) cp3) (sc rfl (sc rfl (sc (ji (by first | omega | rfl)) (sc rfl (sc (ji (by first | omega | rfl)) sn))))) (fun _ h => (h.sel [3, 4, 5] (by decide) rfl)) ?_ ?_)
                  · exact ⟨by rw [hI1.1]; exact Codec.ref_round (x := s1) (y := ⟨0, 0⟩) (s := (⟨(IntKind.wrap .i64 ((IntKind.wrap .i64 ((IntKind.wrap .i64 (2 * s1.time)) - 0)) + (Codec.numV (b.drop p)))), (IntKind.wrap .i64 (s1.value + (Codec.numV (b.drop (Codec.posOf b p)))))⟩ : Sample)) hI1.2.2.2 (by omega) hgo (Codec.back_get (by omega) (by rw [hI1.2.1]; exact hs1) (by omega)) ((show Codec.back acc 2 = ⟨0, 0⟩ from Codec.back_none (by omega))) rfl rfl, by rw [List.length_append, hI1.2.1]; rfl, by omega, hq2.1⟩
                  · omega
              ·
                refine c_skip (e_go hK19 ?_)
                refine c_seq fun K23 hK23 => ?_
                refine c_seq fun K24 hK24 => ?_
                refine c_region ?_
                refine l_val wn (r_move rfl) rfl ?_
                refine l_val wn (r_gtr rfl rfl) rfl ?_
                refine l_nil (e_go hK24 ?_)
                refine c_cond rfl (fun h9 => ?_) (fun h9 => ?_)
                ·
                  refine c_region ?_
                  refine l_val wn (r_move rfl) rfl ?_
                  refine l_val wn (r_move rfl) rfl ?_
                  refine l_val wn (r_subn rfl rfl (by omega)) rfl ?_
                  obtain ⟨ad2, hd2⟩ := hA1 (ne_nil (i := (k - 2)) (by omega))
                  refine l_val wn (r_ia (i := (k - 2)) rfl hd2 rfl (by omega) (by omega) Try.underlying22 inf36) rfl ?_
                  obtain ⟨s3, hs3⟩ : ∃ x, acc[(k - 2)]? = some x := ⟨_, List.getElem?_eq_getElem (by omega)⟩
                  refine l_val wn (r_rln 2 [.int .i64 s3.time, .int .i64 s3.value] encSample rfl rfl hd2 hs3 rfl rfl agg36 inf36) rfl ?_
                  refine l_stn 0 wn rfl rfl rfl inf36 rfl rfl rfl ?_
                  refine l_nil (e_go hK23 ?_)
                  refine c_region ?_
                  refine l_val wn (r_move rfl) rfl ?_
                  refine l_val wn (r_fa rfl fld36_0) rfl ?_
                  refine l_val wn (r_lb 1 rfl rfl rfl flat3) rfl ?_
                  refine l_val wn (r_mul rfl rfl) rfl ?_
                  refine l_val wn (r_fa rfl fld36_0) rfl ?_
                  refine l_val wn (r_lb 0 rfl rfl rfl flat3) rfl ?_
                  refine l_val wn (r_sub rfl rfl) rfl ?_
                  refine l_val wn (r_move rfl) rfl ?_
                  refine l_val wn (r_add rfl rfl) rfl ?_
                  refine l_val wn (r_fa rfl fld36_1) rfl ?_
                  refine l_val wn (r_lb 1 rfl rfl rfl flat3) rfl ?_
                  refine l_val wn (r_move rfl) rfl ?_
                  refine l_val wn (r_add rfl rfl) rfl ?_
                  refine l_val wn (r_build [.int .i64 (IntKind.wrap .i64 ((IntKind.wrap .i64 ((IntKind.wrap .i64 (2 * 0)) - s3.time)) + (Codec.numV (b.drop p)))), .int .i64 (IntKind.wrap .i64 (0 + (Codec.numV (b.drop (Codec.posOf b p)))))] pl36 inf36 rfl rfl) rfl ?_
                  refine l_bsL sampleE ([(⟨(IntKind.wrap .i64 ((IntKind.wrap .i64 ((IntKind.wrap .i64 (2 * 0)) - s3.time)) + (Codec.numV (b.drop p)))), (IntKind.wrap .i64 (0 + (Codec.numV (b.drop (Codec.posOf b p)))))⟩ : Sample)] : List Sample) wn Try.underlying22 inf36 rfl rfl rfl rfl (by decide) (by decide) rfl fun b93 => ?_
                  refine l_app 3 acc ([(⟨(IntKind.wrap .i64 ((IntKind.wrap .i64 ((IntKind.wrap .i64 (2 * 0)) - s3.time)) + (Codec.numV (b.drop p)))), (IntKind.wrap .i64 (0 + (Codec.numV (b.drop (Codec.posOf b p)))))⟩ : Sample)] : List Sample) encSample wn rfl rfl rfl (fun _ hM => (RowSl encSample hM 0 rfl)) Try.underlying22 inf36 rfl rfl (by simp only [List.length_append, List.length_cons, List.length_nil]; omega) rfl fun A4 cp4 hc4 hm4 hA4 => ?_
                  refine l_val wn (r_assign rfl) rfl ?_
                  refine l_nil (e_in_n (e_go hK11 ?_))
                  refine c_region ?_
                  refine l_val wn (r_move rfl) rfl ?_
                  refine l_val wn (r_addn rfl rfl (by omega)) rfl ?_
                  refine l_val wn (r_assign rfl) rfl ?_
                  refine l_nil (e_round4 (k + 1) (Codec.posOf b (Codec.posOf b p)) (acc ++ ([(⟨(IntKind.wrap .i64 ((IntKind.wrap .i64 ((IntKind.wrap .i64 (2 * 0)) - s3.time)) + (Codec.numV (b.drop p)))), (IntKind.wrap .i64 (0 + (Codec.numV (b.drop (Codec.posOf b p)))))⟩ : Sample)] : List Sample)) (.slice A4 ((acc ++ ([(⟨(IntKind.wrap .i64 ((IntKind.wrap .i64 ((IntKind.wrap .i64 (2 * 0)) - s3.time)) + (Codec.numV (b.drop p)))), (IntKind.wrap .i64 (0 + (Codec.numV (b.drop (Codec.posOf b p)))))⟩ : Sample)] : List Sample)).length) cp4) (sc rfl (sc rfl (sc (ji (by first | omega | rfl)) (sc rfl (sc (ji (by first | omega | rfl)) sn))))) (fun _ h => (h.sel [3, 4, 5] (by decide) rfl)) ?_ ?_)
                  · exfalso; omega
                  · omega
                ·
                  refine c_skip (e_go hK23 ?_)
                  refine c_region ?_
                  refine l_val wn (r_move rfl) rfl ?_
                  refine l_val wn (r_fa rfl fld36_0) rfl ?_
                  refine l_val wn (r_lb 1 rfl rfl rfl flat3) rfl ?_
                  refine l_val wn (r_mul rfl rfl) rfl ?_
                  refine l_val wn (r_fa rfl fld36_0) rfl ?_
                  refine l_val wn (r_lb 0 rfl rfl rfl flat3) rfl ?_
                  refine l_val wn (r_sub rfl rfl) rfl ?_
                  refine l_val wn (r_move rfl) rfl ?_
                  refine l_val wn (r_add rfl rfl) rfl ?_
                  refine l_val wn (r_fa rfl fld36_1) rfl ?_
                  refine l_val wn (r_lb 1 rfl rfl rfl flat3) rfl ?_
                  refine l_val wn (r_move rfl) rfl ?_
                  refine l_val wn (r_add rfl rfl) rfl ?_
                  refine l_val wn (r_build [.int .i64 (IntKind.wrap .i64 ((IntKind.wrap .i64 ((IntKind.wrap .i64 (2 * 0)) - 0)) + (Codec.numV (b.drop p)))), .int .i64 (IntKind.wrap .i64 (0 + (Codec.numV (b.drop (Codec.posOf b p)))))] pl36 inf36 rfl rfl) rfl ?_
                  refine l_bsL sampleE ([(⟨(IntKind.wrap .i64 ((IntKind.wrap .i64 ((IntKind.wrap .i64 (2 * 0)) - 0)) + (Codec.numV (b.drop p)))), (IntKind.wrap .i64 (0 + (Codec.numV (b.drop (Codec.posOf b p)))))⟩ : Sample)] : List Sample) wn Try.underlying22 inf36 rfl rfl rfl rfl (by decide) (by decide) rfl fun b93 => ?_
                  refine l_app 3 acc ([(⟨(IntKind.wrap .i64 ((IntKind.wrap .i64 ((IntKind.wrap .i64 (2 * 0)) - 0)) + (Codec.numV (b.drop p)))), (IntKind.wrap .i64 (0 + (Codec.numV (b.drop (Codec.posOf b p)))))⟩ : Sample)] : List Sample) encSample wn rfl rfl rfl (fun _ hM => (RowSl encSample hM 0 rfl)) Try.underlying22 inf36 rfl rfl (by simp only [List.length_append, List.length_cons, List.length_nil]; omega) rfl fun A5 cp5 hc5 hm5 hA5 => ?_
                  refine l_val wn (r_assign rfl) rfl ?_
                  refine l_nil (e_in_n (e_go hK11 ?_))
                  refine c_region ?_
                  refine l_val wn (r_move rfl) rfl ?_
                  refine l_val wn (r_addn rfl rfl (by omega)) rfl ?_
                  refine l_val wn (r_assign rfl) rfl ?_
                  refine l_nil (e_round4 (k + 1) (Codec.posOf b (Codec.posOf b p)) (acc ++ ([(⟨(IntKind.wrap .i64 ((IntKind.wrap .i64 ((IntKind.wrap .i64 (2 * 0)) - 0)) + (Codec.numV (b.drop p)))), (IntKind.wrap .i64 (0 + (Codec.numV (b.drop (Codec.posOf b p)))))⟩ : Sample)] : List Sample)) (.slice A5 ((acc ++ ([(⟨(IntKind.wrap .i64 ((IntKind.wrap .i64 ((IntKind.wrap .i64 (2 * 0)) - 0)) + (Codec.numV (b.drop p)))), (IntKind.wrap .i64 (0 + (Codec.numV (b.drop (Codec.posOf b p)))))⟩ : Sample)] : List Sample)).length) cp5) (sc rfl (sc rfl (sc (ji (by first | omega | rfl)) (sc rfl (sc (ji (by first | omega | rfl)) sn))))) (fun _ h => (h.sel [3, 4, 5] (by decide) rfl)) ?_ ?_)
                  · exact ⟨by rw [hI1.1]; exact Codec.ref_round (x := ⟨0, 0⟩) (y := ⟨0, 0⟩) (s := (⟨(IntKind.wrap .i64 ((IntKind.wrap .i64 ((IntKind.wrap .i64 (2 * 0)) - 0)) + (Codec.numV (b.drop p)))), (IntKind.wrap .i64 (0 + (Codec.numV (b.drop (Codec.posOf b p)))))⟩ : Sample)) hI1.2.2.2 (by omega) hgo ((show Codec.back acc 1 = ⟨0, 0⟩ from Codec.back_none (by omega))) ((show Codec.back acc 2 = ⟨0, 0⟩ from Codec.back_none (by omega))) rfl rfl, by rw [List.length_append, hI1.2.1]; rfl, by omega, hq2.1⟩
                  · omega
        ·
          refine c_exit (e_then_x (e_loop4_x (e_in_hit (e_go hK7 ?_))))
          refine c_seq fun K25 hK25 => ?_
          refine c_seq fun K26 hK26 => ?_
          refine c_region ?_
          refine l_val wn (r_move rfl) rfl ?_
          refine l_val wn (r_move rfl) rfl ?_
          refine l_val wn (r_len rfl Try.underlying23) rfl ?_
          refine l_val wn (r_neq rfl rfl) rfl ?_
          refine l_nil (e_go hK26 ?_)
          refine c_cond rfl (fun h10 => ?_) (fun h10 => ?_)
          ·
            refine c_seq fun K27 hK27 => ?_
            refine c_region ?_
            refine l_nilRow (sampleE : Sample → List Value) 36 2 ?_
            refine l_val wn (r_assign rfl) rfl ?_
            refine l_val wn (r_assign rfl) rfl ?_
            refine l_nil (e_go hK27 ?_)
            refine c_ret (e_then_r (e_ret2 (.inl rfl) Try.results15 (rv_tmp rfl) (rv_tmp rfl) fun w1 hM => ?_))
            have hp := Codec.parse_over h0 hI1.1 (by omega) (by rw [List.length_drop]; omega)
            exact hM.retLT 0 rfl (by rw [hp]) (by first | (rw [hp]; done) | (rw [hp]; rfl))
          ·
            refine c_skip (e_go hK25 ?_)
            refine c_seq fun K28 hK28 => ?_
            refine c_seq fun K29 hK29 => ?_
            refine c_region ?_
            refine l_val wn (r_move rfl) rfl ?_
            refine l_callF wn rfl Try.call13 rfl (fun w1 hM => c_refWrong _ acc w1 (RowSl encSample hM 0 rfl)) ?_
            refine l_alloc wn inf26 rfl fun b17 => ?_
            refine l_stn 0 wn rfl rfl rfl inf26 rfl rfl rfl ?_
            refine l_nil (e_go hK29 ?_)
            refine c_seq fun K30 hK30 => ?_
            refine c_region ?_
            refine l_val wn (r_fa rfl fld26_0) rfl ?_
            refine l_val wn (r_lb 0 rfl rfl rfl flat24) rfl ?_
            refine l_val wn (r_neq rfl rfl) rfl ?_
            refine l_nil (e_go hK30 ?_)
            refine c_cond rfl (fun h11 => ?_) (fun h11 => ?_)
            ·
              refine c_seq fun K31 hK31 => ?_
              refine c_quiet mix (by kernel_rfl) (fun _ h => h.drew) ?_
              refine q_val wn (r_fa rfl fld26_0) rfl ?_
              refine q_val wn (r_lb 0 rfl rfl rfl flat24) rfl ?_
              refine q_val wn (r_assign rfl) rfl ?_
              refine q_val wn (r_assign rfl) rfl ?_
              refine q_end (e_go hK31 ?_)
              refine c_ret (e_then_r (e_ret2 (.inl rfl) Try.results15 (rv_tmp rfl) (rv_tmp rfl) fun w1 hM => ?_))
              have hz := Codec.parse_done h0 hI1.1 (by omega) (by rw [List.length_drop]; omega)
              have hM := hM.nilRow Sample 36 2 sampleE
              have hp := hz.trans (by rw [if_pos h11])
              exact hM.retLT 0 rfl (by rw [hp]) (by first | (rw [hp]; done) | (rw [hp]; rfl))
            ·
              refine c_skip (e_go hK28 ?_)
              refine c_seq fun K32 hK32 => ?_
              refine c_region ?_
              refine l_val wn (r_move rfl) rfl ?_
              refine l_val wn (r_assign rfl) rfl ?_
              refine l_val wn (r_assign rfl) rfl ?_
              refine l_nil (e_go hK32 ?_)
              refine c_ret (e_ret2 (.inl rfl) Try.results15 (rv_tmp rfl) (rv_tmp rfl) fun w1 hM => ?_)
              have hz := Codec.parse_done h0 hI1.1 (by omega) (by rw [List.length_drop]; omega)
              have hp := hz.trans (by rw [if_neg h11])
              exact hM.retLT 1 rfl (by rw [hp]) (by first | (rw [hp]; done) | (rw [hp]; rfl))

end Go.Proofs.Ytekamocheffppaa
