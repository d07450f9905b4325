/-
  Walks: what each function hands back.
-/
import Derived.Test.YtekamocheffppaaWcodec2
import Derived.Test.YtekamocheffppaaPCodec3
namespace Go.Proofs.Ytekamocheffppaa
open Ex
set_option linter.unusedVariables false
set_option linter.unusedSimpArgs false
theorem c_alive1  (w : World)   :
    Calls Try.prog 17 #[] w (Ret w (.bool true)) := by
  refine fstart (N := 41) (vals := []) (S := Mem w no []) Try.func17 rfl rfl rfl (Mem.ofDats dn) ?_
  refine c_seq fun K1 hK1 => ?_
  refine c_region ?_
  refine l_val wn (r_assign rfl) rfl ?_
  refine l_nil (e_go hK1 ?_)
  refine c_seq fun K2 hK2 => ?_
  refine c_region ?_
  refine l_val wn (r_build [.int .i64 10, .int .i64 5] pl36 inf36 rfl rfl) rfl ?_
  refine l_val wn (r_build [.int .i64 20, .int .i64 (-3)] pl36 inf36 rfl rfl) rfl ?_
  refine l_bsL sampleE ([(⟨10, 5⟩ : Sample), (⟨20, (-3)⟩ : Sample)] : List Sample) wn Try.underlying22 inf36 rfl rfl rfl rfl (by decide) (by decide) rfl fun b8 => ?_
  refine l_callLT (Codec.bytesF ([(⟨10, 5⟩ : Sample), (⟨20, (-3)⟩ : Sample)] : List Sample)) (fun r => .tuple [r, .agg [.int .i64 ((Codec.wrong ([(⟨10, 5⟩ : Sample), (⟨20, (-3)⟩ : Sample)] : List Sample)).err), .int .i64 ((Codec.wrong ([(⟨10, 5⟩ : Sample), (⟨20, (-3)⟩ : Sample)] : List Sample)).at_)].toArray].toArray) wn rfl rfl Try.call10 rfl (fun w1 hM => c_bytes _ ([(⟨10, 5⟩ : Sample), (⟨20, (-3)⟩ : Sample)] : List Sample) w1 (RowSl encSample hM 0 rfl)) fun A1 cp1 hc1 hm1 hA1 => ?_
  refine l_val wn (r_move rfl) rfl ?_
  refine l_val wn (r_extract rfl rfl) rfl ?_
  refine l_val wn (r_extract rfl rfl) rfl ?_
  refine l_alloc wn inf26 rfl fun b2 => ?_
  refine l_val wn (r_assign rfl) rfl ?_
  refine l_stn 0 wn rfl rfl rfl inf26 rfl rfl rfl ?_
  refine l_nil (e_go hK2 ?_)
  refine c_seq fun K3 hK3 => ?_
  refine c_region ?_
  refine l_val wn (r_move rfl) rfl ?_
  refine l_callLT ((Codec.parse (Codec.bytesF ([(⟨10, 5⟩ : Sample), (⟨20, (-3)⟩ : Sample)] : List Sample))).1) (fun r => .tuple [r, .int .i64 ((Codec.parse (Codec.bytesF ([(⟨10, 5⟩ : Sample), (⟨20, (-3)⟩ : Sample)] : List Sample))).2)].toArray) wn rfl rfl Try.call14 rfl (fun w1 hM => c_parse _ (Codec.bytesF ([(⟨10, 5⟩ : Sample), (⟨20, (-3)⟩ : Sample)] : List Sample)) w1 (RowSl encByte hM 1 rfl) (by first | assumption | omega | exact Codec.bytesF_len _ | (rw [Codec.alive_bytes]; decide))) fun A2 cp2 hc2 hm2 hA2 => ?_
  refine l_val wn (r_move rfl) rfl ?_
  refine l_val wn (r_extract rfl rfl) rfl ?_
  refine l_val wn (r_extract rfl rfl) rfl ?_
  refine l_val wn (r_assign rfl) rfl ?_
  refine l_val wn (r_assign rfl) rfl ?_
  refine l_nil (e_go hK3 ?_)
  refine c_seq fun K4 hK4 => ?_
  refine c_region ?_
  refine l_val wn (r_fa rfl fld26_0) rfl ?_
  refine l_val wn (r_lb 1 rfl rfl rfl flat24) rfl ?_
  refine l_val wn (r_eql rfl rfl) rfl ?_
  refine l_val wn (r_move rfl) rfl ?_
  refine l_litt (t := 20) rfl (by first | decide | (simp only [Codec.alive_bytes, Codec.alive_parse]; done) | (simp only [Codec.alive_bytes, Codec.alive_parse]; decide) | (simp only [Codec.alive_bytes, Codec.alive_parse]; rfl)) ?_
  refine l_val (wg rfl rfl rfl) (r_move rfl) rfl ?_
  refine l_val (wg rfl rfl rfl) (r_eql rfl rfl) rfl ?_
  refine l_val wn (r_pick rfl rfl) rfl ?_
  refine l_val wn (r_move rfl) rfl ?_
  refine l_litt (t := 24) rfl (by first | decide | (simp only [Codec.alive_bytes, Codec.alive_parse]; done) | (simp only [Codec.alive_bytes, Codec.alive_parse]; decide) | (simp only [Codec.alive_bytes, Codec.alive_parse]; rfl)) ?_
  refine l_val (wg rfl rfl rfl) (r_move rfl) rfl ?_
  refine l_val (wg rfl rfl rfl) (r_len rfl Try.underlying23) rfl ?_
  refine l_val (wg rfl rfl rfl) (r_eql rfl rfl) rfl ?_
  refine l_val wn (r_pick rfl rfl) rfl ?_
  refine l_val wn (r_move rfl) rfl ?_
  refine l_litt (t := 29) rfl (by first | decide | (simp only [Codec.alive_bytes, Codec.alive_parse]; done) | (simp only [Codec.alive_bytes, Codec.alive_parse]; decide) | (simp only [Codec.alive_bytes, Codec.alive_parse]; rfl)) ?_
  refine l_val (wg rfl rfl rfl) (r_move rfl) rfl ?_
  refine l_val (wg rfl rfl rfl) (r_len rfl Try.underlying22) rfl ?_
  refine l_val (wg rfl rfl rfl) (r_eql rfl rfl) rfl ?_
  refine l_val wn (r_pick rfl rfl) rfl ?_
  refine l_val wn (r_move rfl) rfl ?_
  refine l_litt (t := 34) rfl (by first | decide | (simp only [Codec.alive_bytes, Codec.alive_parse]; done) | (simp only [Codec.alive_bytes, Codec.alive_parse]; decide) | (simp only [Codec.alive_bytes, Codec.alive_parse]; rfl)) ?_
  refine l_val (wg rfl rfl rfl) (r_move rfl) rfl ?_
  obtain ⟨ad1, hd1⟩ := hA2 (ne_nil (i := 1) (by first | omega | (simp only [Codec.alive_bytes, Codec.alive_parse]; decide)))
  refine l_val (wg rfl rfl rfl) (r_ia (i := 1) rfl hd1 rfl (by omega) (by first | omega | (simp only [Codec.alive_bytes, Codec.alive_parse]; decide)) Try.underlying22 inf36) rfl ?_
  refine l_val (wg rfl rfl rfl) (r_fe rfl fld36_1) rfl ?_
  obtain ⟨s1, hs1⟩ : ∃ x, ((Codec.parse (Codec.bytesF ([(⟨10, 5⟩ : Sample), (⟨20, (-3)⟩ : Sample)] : List Sample))).1)[1]? = some x := ⟨_, List.getElem?_eq_getElem (by first | omega | (simp only [Codec.alive_bytes, Codec.alive_parse]; decide))⟩
  have es1 : s1 = ⟨20, -3⟩ := Option.some.inj (hs1.symm.trans (by first | (simp only [Codec.alive_bytes, Codec.alive_parse]; done) | (simp only [Codec.alive_bytes, Codec.alive_parse]; rfl)))
  refine l_val (wg rfl rfl rfl) (r_rl 0 encSample rfl rfl hd1 hs1 rfl flat3) rfl ?_
  refine l_val (wg rfl rfl rfl) (r_eql rfl rfl) rfl ?_
  refine l_val wn (r_pick rfl rfl) rfl ?_
  refine l_val wn (r_assign rfl) rfl ?_
  refine l_nil (e_go hK4 ?_)
  refine c_ret (e_ret1 (.inl rfl) Try.results17 (rv_tmp rfl) fun w1 hM => ?_)
  exact ret_ok (by first | rfl | (rw [es1]; rfl)) hM

theorem law_CodecTurns (lv : Value) (l : List Sample) (bv : Value) (b : List UInt8) (w : World) (hl : FlatSl (In w) 2 sampleE lv l w) (hb : FlatSl (In w) 1 byteE bv b w) (_b0 : l.length ≤ 1048576) (b1 : b.length ≤ 1048576) :
    Calls Try.prog 4 #[lv, bv] w (Ret w (.bool true)) := by
  obtain ⟨lA, lc, rfl, hlc, hlm, hlA⟩ := hl.form
  obtain ⟨bA, bc, rfl, hbc, hbm, hbA⟩ := hb.form
  refine fstart (N := 61) (vals := [.slice lA l.length lc, .slice bA b.length bc]) (S := Mem w no [slO (In w) 2 sampleE (.slice lA l.length lc) l, slO (In w) 1 byteE (.slice bA b.length bc) b]) Try.func4 rfl rfl rfl (Mem.ofDats (dc (dl hl) (dc (dl hb) dn))) ?_
  refine c_seq fun K1 hK1 => ?_
  refine c_region ?_
  refine l_val wn (r_assign rfl) rfl ?_
  refine l_nil (e_go hK1 ?_)
  refine c_seq fun K2 hK2 => ?_
  refine c_seq fun K3 hK3 => ?_
  refine c_region ?_
  refine l_callF wn rfl Try.call17 rfl (fun w1 hM => c_alive1  w1) ?_
  refine l_val wn (r_notb rfl) rfl ?_
  refine l_nil (e_go hK3 ?_)
  refine c_false rfl rfl ?_
  refine c_skip (e_go hK2 ?_)
  refine c_cut [(1, .slice bA b.length bc)] (Mem w no [slO (In w) 2 sampleE (.slice lA l.length lc) l, slO (In w) 1 byteE (.slice bA b.length bc) b]) (fun K4 hK4 => ?_) ?_
  ·
    refine c_seq fun K5 hK5 => ?_
    refine c_region ?_
    refine l_val wn (r_move rfl) rfl ?_
    refine l_callLT (Codec.bytesF l) (fun r => .tuple [r, .agg [.int .i64 ((Codec.wrong l).err), .int .i64 ((Codec.wrong l).at_)].toArray].toArray) wn rfl rfl Try.call10 rfl (fun w1 hM => c_bytes _ l w1 (hM.sl 0 rfl)) fun A1 cp1 hc1 hm1 hA1 => ?_
    refine l_val wn (r_move rfl) rfl ?_
    refine l_val wn (r_extract rfl rfl) rfl ?_
    refine l_val wn (r_extract rfl rfl) rfl ?_
    refine l_alloc wn inf26 rfl fun b6 => ?_
    refine l_val wn (r_assign rfl) rfl ?_
    refine l_stn 0 wn rfl rfl rfl inf26 rfl rfl rfl ?_
    refine l_nil (e_go hK5 ?_)
    refine c_seq fun K6 hK6 => ?_
    refine c_region ?_
    refine l_val wn (r_fa rfl fld26_0) rfl ?_
    refine l_val wn (r_lb 0 rfl rfl rfl flat24) rfl ?_
    refine l_val wn (r_eql rfl rfl) rfl ?_
    refine l_nil (e_go hK6 ?_)
    refine c_cond rfl (fun h1 => ?_) (fun h1 => ?_)
    ·
      refine c_seq fun K7 hK7 => ?_
      refine c_region ?_
      refine l_val wn (r_move rfl) rfl ?_
      refine l_callLT ((Codec.parse (Codec.bytesF l)).1) (fun r => .tuple [r, .int .i64 ((Codec.parse (Codec.bytesF l)).2)].toArray) wn rfl rfl Try.call14 rfl (fun w1 hM => c_parse _ (Codec.bytesF l) w1 (RowSl encByte hM 1 rfl) (by first | assumption | omega | exact Codec.bytesF_len _ | (rw [Codec.alive_bytes]; decide))) fun A2 cp2 hc2 hm2 hA2 => ?_
      refine l_val wn (r_move rfl) rfl ?_
      refine l_val wn (r_extract rfl rfl) rfl ?_
      refine l_val wn (r_extract rfl rfl) rfl ?_
      refine l_val wn (r_assign rfl) rfl ?_
      refine l_val wn (r_assign rfl) rfl ?_
      refine l_nil (e_go hK7 ?_)
      refine c_cut [(1, .slice bA b.length bc), (35, .bool (decide (((Codec.parse (Codec.bytesF l)).2 ≠ 0) ∨ (¬ (((Codec.parse (Codec.bytesF l)).1) = l)))))] (Mem w no [Row (.slice A2 (((Codec.parse (Codec.bytesF l)).1).length) cp2) 36 2 sampleE ((Codec.parse (Codec.bytesF l)).1), .blk b6 [.int .i64 ((Codec.wrong l).err), .int .i64 ((Codec.wrong l).at_)] 26, Row (.slice A1 ((Codec.bytesF l).length) cp1) 5 1 byteE (Codec.bytesF l), slO (In w) 2 sampleE (.slice lA l.length lc) l, slO (In w) 1 byteE (.slice bA b.length bc) b]) (fun K8 hK8 => ?_) ?_
      ·
        refine c_region ?_
        refine l_val wn (r_move rfl) rfl ?_
        refine l_val wn (r_neq rfl rfl) rfl ?_
        refine l_val wn (r_move rfl) rfl ?_
        refine l_case (t := 30) rfl (fun h2 => ?_) (fun h2 => ?_)
        ·
          refine l_skip (wg rfl rfl rfl) rfl ?_
          refine l_skip (wg rfl rfl rfl) rfl ?_
          refine l_skip (wg rfl rfl rfl) rfl ?_
          refine l_skip (wg rfl rfl rfl) rfl ?_
          refine l_val wn (r_pick rfl rfl) rfl ?_
          refine l_nil (e_cut hK8 (sc rfl (sc (jt (Or.inl h2)) sn)) (fun _ h => h))
        ·
          refine l_val (wg rfl rfl rfl) (r_move rfl) rfl ?_
          refine l_val (wg rfl rfl rfl) (r_move rfl) rfl ?_
          refine l_callF (wg rfl rfl rfl) rfl Try.call16 rfl (fun w1 hM => c_SameSamples _ ((Codec.parse (Codec.bytesF l)).1) _ l w1 (RowSl encSample hM 0 rfl) (hM.sl 3 rfl)) ?_
          refine l_val (wg rfl rfl rfl) (r_not rfl) rfl ?_
          refine l_val wn (r_pick rfl rfl) rfl ?_
          refine l_nil (e_cut hK8 (sc rfl (sc (jp (iff_or_right h2 Iff.rfl)) sn)) (fun _ h => h))
      ·
        refine c_cond rfl (fun h3 => ?_) (fun h3 => ?_)
        ·
          refine c_seq fun K9 hK9 => ?_
          refine c_region ?_
          refine l_val wn (r_assign rfl) rfl ?_
          refine l_nil (e_go hK9 ?_)
          refine c_ret (e_then_r (e_ret1 (.inl rfl) Try.results4 (rv_tmp rfl) fun w1 hM => ?_))
          exact absurd h3 (by rw [Codec.parse_bytes h1]; simp)
        ·
          refine c_skip (e_cut hK4 (sc rfl sn) (fun _ h => (h.sel [3, 4] (by decide) rfl)))
    ·
      refine c_skip (e_cut hK4 (sc rfl sn) (fun _ h => (h.sel [2, 3] (by decide) rfl)))
  ·
    refine c_seq fun K10 hK10 => ?_
    refine c_region ?_
    refine l_val wn (r_move rfl) rfl ?_
    refine l_callLT ((Codec.parse b).1) (fun r => .tuple [r, .int .i64 ((Codec.parse b).2)].toArray) wn rfl rfl Try.call14 rfl (fun w1 hM => c_parse _ b w1 (hM.sl 1 rfl) (by first | assumption | omega | exact Codec.bytesF_len _ | (rw [Codec.alive_bytes]; decide))) fun A3 cp3 hc3 hm3 hA3 => ?_
    refine l_val wn (r_move rfl) rfl ?_
    refine l_val wn (r_extract rfl rfl) rfl ?_
    refine l_val wn (r_extract rfl rfl) rfl ?_
    refine l_val wn (r_assign rfl) rfl ?_
    refine l_val wn (r_assign rfl) rfl ?_
    refine l_nil (e_go hK10 ?_)
    refine c_seq fun K11 hK11 => ?_
    refine c_seq fun K12 hK12 => ?_
    refine c_region ?_
    refine l_val wn (r_move rfl) rfl ?_
    refine l_val wn (r_neq rfl rfl) rfl ?_
    refine l_nil (e_go hK12 ?_)
    refine c_cond rfl (fun h4 => ?_) (fun h4 => ?_)
    ·
      refine c_seq fun K13 hK13 => ?_
      refine c_region ?_
      refine l_val wn (r_move rfl) rfl ?_
      refine l_val wn (r_len rfl Try.underlying22) rfl ?_
      refine l_val wn (r_eql rfl rfl) rfl ?_
      refine l_val wn (r_assign rfl) rfl ?_
      refine l_nil (e_go hK13 ?_)
      refine c_ret (e_then_r (e_ret1 (.inl rfl) Try.results4 (rv_tmp rfl) fun w1 hM => ?_))
      exact ret_ok (by rw [decide_eq_true (by rw [Codec.parse_err h4]; rfl)]) hM
    ·
      refine c_skip (e_go hK11 ?_)
      refine c_seq fun K14 hK14 => ?_
      refine c_region ?_
      refine l_val wn (r_move rfl) rfl ?_
      refine l_callLT (Codec.bytesF ((Codec.parse b).1)) (fun r => .tuple [r, .agg [.int .i64 ((Codec.wrong ((Codec.parse b).1)).err), .int .i64 ((Codec.wrong ((Codec.parse b).1)).at_)].toArray].toArray) wn rfl rfl Try.call10 rfl (fun w1 hM => c_bytes _ ((Codec.parse b).1) w1 (RowSl encSample hM 0 rfl)) fun A4 cp4 hc4 hm4 hA4 => ?_
      refine l_val wn (r_move rfl) rfl ?_
      refine l_val wn (r_extract rfl rfl) rfl ?_
      refine l_val wn (r_extract rfl rfl) rfl ?_
      refine l_alloc wn inf26 rfl fun b12 => ?_
      refine l_val wn (r_assign rfl) rfl ?_
      refine l_stn 0 wn rfl rfl rfl inf26 rfl rfl rfl ?_
      refine l_nil (e_go hK14 ?_)
      refine c_seq fun K15 hK15 => ?_
      refine c_region ?_
      refine l_val wn (r_fa rfl fld26_0) rfl ?_
      refine l_val wn (r_lb 0 rfl rfl rfl flat24) rfl ?_
      refine l_val wn (r_eql rfl rfl) rfl ?_
      refine l_val wn (r_move rfl) rfl ?_
      refine l_case (t := 54) rfl (fun h5 => ?_) (fun h5 => ?_)
      ·
        refine l_val (wg rfl rfl rfl) (r_move rfl) rfl ?_
        refine l_val (wg rfl rfl rfl) (r_bytesStr rfl Try.underlying23 Try.underlying5 Try.underlying9 (fun _ hM => RowSl encByte hM 1 rfl)) rfl ?_
        refine l_val (wg rfl rfl rfl) (r_move rfl) rfl ?_
        refine l_val (wg rfl rfl rfl) (r_bytesStr rfl Try.underlying23 Try.underlying5 Try.underlying9 (fun _ hM => hM.sl 4 rfl)) rfl ?_
        refine l_val (wg rfl rfl rfl) (r_seql rfl rfl) rfl ?_
        refine l_val wn (r_pick rfl rfl) rfl ?_
        refine l_val wn (r_assign rfl) rfl ?_
        refine l_nil (e_go hK15 ?_)
        refine c_ret (e_ret1 (.inl rfl) Try.results4 (rv_tmp rfl) fun w1 hM => ?_)
        exact ret_ok (by rw [decide_eq_true (by rw [(Codec.bytes_parse (Classical.not_not.1 h4)).2])]) hM
      ·
        refine l_skip (wg rfl rfl rfl) rfl ?_
        refine l_skip (wg rfl rfl rfl) rfl ?_
        refine l_skip (wg rfl rfl rfl) rfl ?_
        refine l_skip (wg rfl rfl rfl) rfl ?_
        refine l_skip (wg rfl rfl rfl) rfl ?_
        refine l_val wn (r_pick rfl rfl) rfl ?_
        refine l_val wn (r_assign rfl) rfl ?_
        refine l_nil (e_go hK15 ?_)
        refine c_ret (e_ret1 (.inl rfl) Try.results4 (rv_tmp rfl) fun w1 hM => ?_)
        exact absurd (Codec.bytes_parse (Classical.not_not.1 h4)).1 h5

theorem law_CodecEven (frm : Int) (stp : Int) (n : Int) (value : Int) (w : World)   :
    Calls Try.prog 5 #[.int .i64 frm, .int .i64 stp, .int .i64 n, .int .i64 value] w (Ret w (.bool true)) := by
  refine fstart (N := 104) (vals := [.int .i64 frm, .int .i64 stp, .int .i64 n, .int .i64 value]) (S := Mem w no []) Try.func5 rfl rfl rfl (Mem.ofDats dn) ?_
  refine c_seq fun K1 hK1 => ?_
  refine c_region ?_
  refine l_val wn (r_assign rfl) rfl ?_
  refine l_nil (e_go hK1 ?_)
  refine c_seq fun K2 hK2 => ?_
  refine c_seq fun K3 hK3 => ?_
  refine c_region ?_
  refine l_callF wn rfl Try.call17 rfl (fun w1 hM => c_alive1  w1) ?_
  refine l_val wn (r_notb rfl) rfl ?_
  refine l_nil (e_go hK3 ?_)
  refine c_false rfl rfl ?_
  refine c_skip (e_go hK2 ?_)
  refine c_seq fun K4 hK4 => ?_
  refine c_cut [(0, .int .i64 frm), (1, .int .i64 stp), (2, .int .i64 n), (3, .int .i64 value), (46, .bool (decide ((n < 3) ∨ ((100 < n) ∨ ((stp < 1) ∨ ((1000 < stp) ∨ ((frm < 0) ∨ ((100000 < frm) ∨ ((value < (-1000)) ∨ (1000 < value))))))))))] (Mem w no []) (fun K5 hK5 => ?_) ?_
  ·
    refine c_region ?_
    refine l_val wn (r_move rfl) rfl ?_
    refine l_val wn (r_lss rfl rfl) rfl ?_
    refine l_val wn (r_move rfl) rfl ?_
    refine l_case (t := 19) rfl (fun h1 => ?_) (fun h1 => ?_)
    ·
      refine l_skip (wg rfl rfl rfl) rfl ?_
      refine l_skip (wg rfl rfl rfl) rfl ?_
      refine l_val wn (r_pick rfl rfl) rfl ?_
      refine l_val wn (r_move rfl) rfl ?_
      refine l_skip (wg rfl rfl rfl) rfl ?_
      refine l_skip (wg rfl rfl rfl) rfl ?_
      refine l_val wn (r_pick rfl rfl) rfl ?_
      refine l_val wn (r_move rfl) rfl ?_
      refine l_skip (wg rfl rfl rfl) rfl ?_
      refine l_skip (wg rfl rfl rfl) rfl ?_
      refine l_val wn (r_pick rfl rfl) rfl ?_
      refine l_val wn (r_move rfl) rfl ?_
      refine l_skip (wg rfl rfl rfl) rfl ?_
      refine l_skip (wg rfl rfl rfl) rfl ?_
      refine l_val wn (r_pick rfl rfl) rfl ?_
      refine l_val wn (r_move rfl) rfl ?_
      refine l_skip (wg rfl rfl rfl) rfl ?_
      refine l_skip (wg rfl rfl rfl) rfl ?_
      refine l_val wn (r_pick rfl rfl) rfl ?_
      refine l_val wn (r_move rfl) rfl ?_
      refine l_skip (wg rfl rfl rfl) rfl ?_
      refine l_skip (wg rfl rfl rfl) rfl ?_
      refine l_val wn (r_pick rfl rfl) rfl ?_
      refine l_val wn (r_move rfl) rfl ?_
      refine l_skip (wg rfl rfl rfl) rfl ?_
      refine l_skip (wg rfl rfl rfl) rfl ?_
      refine l_val wn (r_pick rfl rfl) rfl ?_
      refine l_nil (e_cut hK5 (sc rfl (sc rfl (sc rfl (sc rfl (sc (jt (Or.inl h1)) sn))))) (fun _ h => h))
    ·
      refine l_val (wg rfl rfl rfl) (r_move rfl) rfl ?_
      refine l_val (wg rfl rfl rfl) (r_gtr rfl rfl) rfl ?_
      refine l_val wn (r_pick rfl rfl) rfl ?_
      refine l_val wn (r_move rfl) rfl ?_
      refine l_case (t := 23) rfl (fun h2 => ?_) (fun h2 => ?_)
      ·
        refine l_skip (wg rfl rfl rfl) rfl ?_
        refine l_skip (wg rfl rfl rfl) rfl ?_
        refine l_val wn (r_pick rfl rfl) rfl ?_
        refine l_val wn (r_move rfl) rfl ?_
        refine l_skip (wg rfl rfl rfl) rfl ?_
        refine l_skip (wg rfl rfl rfl) rfl ?_
        refine l_val wn (r_pick rfl rfl) rfl ?_
        refine l_val wn (r_move rfl) rfl ?_
        refine l_skip (wg rfl rfl rfl) rfl ?_
        refine l_skip (wg rfl rfl rfl) rfl ?_
        refine l_val wn (r_pick rfl rfl) rfl ?_
        refine l_val wn (r_move rfl) rfl ?_
        refine l_skip (wg rfl rfl rfl) rfl ?_
        refine l_skip (wg rfl rfl rfl) rfl ?_
        refine l_val wn (r_pick rfl rfl) rfl ?_
        refine l_val wn (r_move rfl) rfl ?_
        refine l_skip (wg rfl rfl rfl) rfl ?_
        refine l_skip (wg rfl rfl rfl) rfl ?_
        refine l_val wn (r_pick rfl rfl) rfl ?_
        refine l_val wn (r_move rfl) rfl ?_
        refine l_skip (wg rfl rfl rfl) rfl ?_
        refine l_skip (wg rfl rfl rfl) rfl ?_
        refine l_val wn (r_pick rfl rfl) rfl ?_
        refine l_nil (e_cut hK5 (sc rfl (sc rfl (sc rfl (sc rfl (sc (jt (Or.inr (Or.inl h2))) sn))))) (fun _ h => h))
      ·
        refine l_val (wg rfl rfl rfl) (r_move rfl) rfl ?_
        refine l_val (wg rfl rfl rfl) (r_lss rfl rfl) rfl ?_
        refine l_val wn (r_pick rfl rfl) rfl ?_
        refine l_val wn (r_move rfl) rfl ?_
        refine l_case (t := 27) rfl (fun h3 => ?_) (fun h3 => ?_)
        ·
          refine l_skip (wg rfl rfl rfl) rfl ?_
          refine l_skip (wg rfl rfl rfl) rfl ?_
          refine l_val wn (r_pick rfl rfl) rfl ?_
          refine l_val wn (r_move rfl) rfl ?_
          refine l_skip (wg rfl rfl rfl) rfl ?_
          refine l_skip (wg rfl rfl rfl) rfl ?_
          refine l_val wn (r_pick rfl rfl) rfl ?_
          refine l_val wn (r_move rfl) rfl ?_
          refine l_skip (wg rfl rfl rfl) rfl ?_
          refine l_skip (wg rfl rfl rfl) rfl ?_
          refine l_val wn (r_pick rfl rfl) rfl ?_
          refine l_val wn (r_move rfl) rfl ?_
          refine l_skip (wg rfl rfl rfl) rfl ?_
          refine l_skip (wg rfl rfl rfl) rfl ?_
          refine l_val wn (r_pick rfl rfl) rfl ?_
          refine l_val wn (r_move rfl) rfl ?_
          refine l_skip (wg rfl rfl rfl) rfl ?_
          refine l_skip (wg rfl rfl rfl) rfl ?_
          refine l_val wn (r_pick rfl rfl) rfl ?_
          refine l_nil (e_cut hK5 (sc rfl (sc rfl (sc rfl (sc rfl (sc (jt (Or.inr (Or.inr (Or.inl h3)))) sn))))) (fun _ h => h))
        ·
          refine l_val (wg rfl rfl rfl) (r_move rfl) rfl ?_
          refine l_val (wg rfl rfl rfl) (r_gtr rfl rfl) rfl ?_
          refine l_val wn (r_pick rfl rfl) rfl ?_
          refine l_val wn (r_move rfl) rfl ?_
          refine l_case (t := 31) rfl (fun h4 => ?_) (fun h4 => ?_)
          ·
            refine l_skip (wg rfl rfl rfl) rfl ?_
            refine l_skip (wg rfl rfl rfl) rfl ?_
            refine l_val wn (r_pick rfl rfl) rfl ?_
            refine l_val wn (r_move rfl) rfl ?_
            refine l_skip (wg rfl rfl rfl) rfl ?_
            refine l_skip (wg rfl rfl rfl) rfl ?_
            refine l_val wn (r_pick rfl rfl) rfl ?_
            refine l_val wn (r_move rfl) rfl ?_
            refine l_skip (wg rfl rfl rfl) rfl ?_
            refine l_skip (wg rfl rfl rfl) rfl ?_
            refine l_val wn (r_pick rfl rfl) rfl ?_
            refine l_val wn (r_move rfl) rfl ?_
            refine l_skip (wg rfl rfl rfl) rfl ?_
            refine l_skip (wg rfl rfl rfl) rfl ?_
            refine l_val wn (r_pick rfl rfl) rfl ?_
            refine l_nil (e_cut hK5 (sc rfl (sc rfl (sc rfl (sc rfl (sc (jt (Or.inr (Or.inr (Or.inr (Or.inl h4))))) sn))))) (fun _ h => h))
          ·
            refine l_val (wg rfl rfl rfl) (r_move rfl) rfl ?_
            refine l_val (wg rfl rfl rfl) (r_lss rfl rfl) rfl ?_
            refine l_val wn (r_pick rfl rfl) rfl ?_
            refine l_val wn (r_move rfl) rfl ?_
            refine l_case (t := 35) rfl (fun h5 => ?_) (fun h5 => ?_)
            ·
              refine l_skip (wg rfl rfl rfl) rfl ?_
              refine l_skip (wg rfl rfl rfl) rfl ?_
              refine l_val wn (r_pick rfl rfl) rfl ?_
              refine l_val wn (r_move rfl) rfl ?_
              refine l_skip (wg rfl rfl rfl) rfl ?_
              refine l_skip (wg rfl rfl rfl) rfl ?_
              refine l_val wn (r_pick rfl rfl) rfl ?_
              refine l_val wn (r_move rfl) rfl ?_
              refine l_skip (wg rfl rfl rfl) rfl ?_
              refine l_skip (wg rfl rfl rfl) rfl ?_
              refine l_val wn (r_pick rfl rfl) rfl ?_
              refine l_nil (e_cut hK5 (sc rfl (sc rfl (sc rfl (sc rfl (sc (jt (Or.inr (Or.inr (Or.inr (Or.inr (Or.inl h5)))))) sn))))) (fun _ h => h))
            ·
              refine l_val (wg rfl rfl rfl) (r_move rfl) rfl ?_
              refine l_val (wg rfl rfl rfl) (r_gtr rfl rfl) rfl ?_
              refine l_val wn (r_pick rfl rfl) rfl ?_
              refine l_val wn (r_move rfl) rfl ?_
              refine l_case (t := 39) rfl (fun h6 => ?_) (fun h6 => ?_)
              ·
                refine l_skip (wg rfl rfl rfl) rfl ?_
                refine l_skip (wg rfl rfl rfl) rfl ?_
                refine l_val wn (r_pick rfl rfl) rfl ?_
                refine l_val wn (r_move rfl) rfl ?_
                refine l_skip (wg rfl rfl rfl) rfl ?_
                refine l_skip (wg rfl rfl rfl) rfl ?_
                refine l_val wn (r_pick rfl rfl) rfl ?_
                refine l_nil (e_cut hK5 (sc rfl (sc rfl (sc rfl (sc rfl (sc (jt (Or.inr (Or.inr (Or.inr (Or.inr (Or.inr (Or.inl h6))))))) sn))))) (fun _ h => h))
              ·
                refine l_val (wg rfl rfl rfl) (r_move rfl) rfl ?_
                refine l_val (wg rfl rfl rfl) (r_lss rfl rfl) rfl ?_
                refine l_val wn (r_pick rfl rfl) rfl ?_
                refine l_val wn (r_move rfl) rfl ?_
                refine l_case (t := 43) rfl (fun h7 => ?_) (fun h7 => ?_)
                ·
                  refine l_skip (wg rfl rfl rfl) rfl ?_
                  refine l_skip (wg rfl rfl rfl) rfl ?_
                  refine l_val wn (r_pick rfl rfl) rfl ?_
                  refine l_nil (e_cut hK5 (sc rfl (sc rfl (sc rfl (sc rfl (sc (jt (Or.inr (Or.inr (Or.inr (Or.inr (Or.inr (Or.inr (Or.inl h7)))))))) sn))))) (fun _ h => h))
                ·
                  refine l_val (wg rfl rfl rfl) (r_move rfl) rfl ?_
                  refine l_val (wg rfl rfl rfl) (r_gtr rfl rfl) rfl ?_
                  refine l_val wn (r_pick rfl rfl) rfl ?_
                  refine l_nil (e_cut hK5 (sc rfl (sc rfl (sc rfl (sc rfl (sc (jp (iff_or_right h1 (iff_or_right h2 (iff_or_right h3 (iff_or_right h4 (iff_or_right h5 (iff_or_right h6 (iff_or_right h7 Iff.rfl)))))))) sn))))) (fun _ h => h))
  ·
    refine c_cond rfl (fun h8 => ?_) (fun h8 => ?_)
    ·
      refine c_seq fun K6 hK6 => ?_
      refine c_region ?_
      refine l_val wn (r_assign rfl) rfl ?_
      refine l_nil (e_go hK6 ?_)
      refine c_ret (e_then_r (e_ret1 (.inl rfl) Try.results5 (rv_tmp rfl) fun w1 hM => ?_))
      exact ret_ok (by first | rfl | (rw [decide_eq_true (by omega)])) hM
    ·
      have hrr : 3 ≤ n ∧ n ≤ 100 ∧ (1 ≤ stp ∧ stp ≤ 1000) ∧ (0 ≤ frm ∧ frm ≤ 100000) ∧ (-1000 ≤ value ∧ value ≤ 1000) := by omega
      refine c_skip (e_go hK4 ?_)
      refine c_seq fun K7 hK7 => ?_
      refine c_region ?_
      refine l_nilRow (sampleE : Sample → List Value) 36 2 ?_
      refine l_val wn (r_assign rfl) rfl ?_
      refine l_nil (e_go hK7 ?_)
      refine c_seq fun K8 hK8 => ?_
      refine c_seq fun K9 hK9 => ?_
      refine c_region ?_
      refine l_val wn (r_move rfl) rfl ?_
      refine l_val wn (r_move rfl) rfl ?_
      refine l_nil (e_go hK9 ?_)
      refine c_block ?_
      refine c_loop2 (fun (k : Nat) (vr : Value) => [(0, .int .i64 frm), (1, .int .i64 stp), (2, .int .i64 n), (3, .int .i64 value), (9, vr), (47, .int .i64 n), (48, .int .i64 (k : Int))]) (fun (k : Nat) (vr : Value) => [Row vr 36 2 sampleE (Codec.evens frm stp value k)]) (fun (k : Nat) (vr : Value) => (k : Int) ≤ n) (fun (k : Nat) (vr : Value) => n.toNat - k) 0 (.slice none 0 0) (sc rfl (sc rfl (sc rfl (sc rfl (sc rfl (sc rfl (sc (ji (by omega)) sn))))))) (fun _ h => h) ?_ (fun k vr hI1 => ?_)
      · show (0 : Int) ≤ n; omega
      ·
        have hel := Codec.evens_len frm stp value k
        refine c_open 0 (l := (Codec.evens frm stp value k)) rfl fun A1 cp1 hv1 hc1 hm1 hA1 => ?_
        subst hv1
        refine c_seq fun K10 hK10 => ?_
        refine c_region ?_
        refine l_val wn (r_lss rfl rfl) rfl ?_
        refine l_nil (e_go hK10 ?_)
        refine c_seq fun K11 hK11 => ?_
        refine c_cond rfl (fun h9 => ?_) (fun h9 => ?_)
        ·
          have hks : 0 ≤ (k : Int) * stp ∧ (k : Int) * stp ≤ 100000 := ⟨Int.mul_nonneg (by omega) (by omega), by have := Int.mul_le_mul (show (k : Int) ≤ 100 by omega) (show stp ≤ 1000 by omega) (by omega) (by omega); omega⟩
          refine c_skip (e_go hK11 ?_)
          refine c_seq fun K12 hK12 => ?_
          refine c_block ?_
          refine c_seq fun K13 hK13 => ?_
          refine c_region ?_
          refine l_val wn (r_move rfl) rfl ?_
          refine l_val wn (r_assign rfl) rfl ?_
          refine l_nil (e_go hK13 ?_)
          refine c_region ?_
          refine l_val wn (r_move rfl) rfl ?_
          refine l_val wn (r_move rfl) rfl ?_
          refine l_val wn (r_move rfl) rfl ?_
          refine l_val wn (r_move rfl) rfl ?_
          refine l_val wn (r_muln rfl rfl (by omega)) rfl ?_
          refine l_val wn (r_addn rfl rfl (by omega)) rfl ?_
          refine l_val wn (r_move rfl) rfl ?_
          refine l_val wn (r_build [.int .i64 (frm + ((k : Int) * stp)), .int .i64 value] pl36 inf36 rfl rfl) rfl ?_
          refine l_bsL sampleE ([(⟨(frm + ((k : Int) * stp)), value⟩ : Sample)] : List Sample) wn Try.underlying22 inf36 rfl rfl rfl rfl (by decide) (by decide) rfl fun b59 => ?_
          refine l_app 1 (Codec.evens frm stp value k) ([(⟨(frm + ((k : Int) * stp)), value⟩ : Sample)] : List Sample) encSample wn rfl rfl rfl (fun _ hM => (RowSl encSample hM 0 rfl)) Try.underlying22 inf36 rfl rfl (by simp only [List.length_append, List.length_cons, List.length_nil]; omega) rfl fun A2 cp2 hc2 hm2 hA2 => ?_
          refine l_val wn (r_assign rfl) rfl ?_
          refine l_nil (e_in_n (e_go hK12 ?_))
          refine c_region ?_
          refine l_val wn (r_addn rfl rfl (by omega)) rfl ?_
          refine l_val wn (r_move rfl) rfl ?_
          refine l_nil (e_round2 (k + 1) (.slice A2 (((Codec.evens frm stp value k) ++ ([(⟨(frm + ((k : Int) * stp)), value⟩ : Sample)] : List Sample)).length) cp2) (sc rfl (sc rfl (sc rfl (sc rfl (sc rfl (sc rfl (sc (ji (by omega)) sn))))))) (fun _ h => by rw [Codec.evens_succ]; exact (h.sel [1] (by decide) rfl)) ?_ ?_)
          · omega
          · omega
        ·
          have hkn : k ≤ 100 := by omega
          have her := Codec.wrong_ok (Codec.evens_right hrr.2.2.2.1 hrr.2.2.1 hrr.2.2.2.2 hkn)
          have her2 : (Codec.wrong ((Codec.evens frm stp value k).take 2)).err = 0 := by rw [Codec.evens_two _ _ _ _ (by omega)]; exact Codec.wrong_ok (Codec.evens_right hrr.2.2.2.1 hrr.2.2.1 hrr.2.2.2.2 (by omega))
          have hdf := Codec.evens_diff hrr.2.2.2.1 hrr.2.2.1 hrr.2.2.2.2 hkn (by omega)
          have hl1 := Codec.bytesF_len (Codec.evens frm stp value k)
          have hl2 := Codec.bytesF_len ((Codec.evens frm stp value k).take 2)
          have hel := Codec.evens_len frm stp value k
          refine c_exit (e_then_x (e_loop2_x (e_in_hit (e_go hK8 ?_))))
          refine c_seq fun K14 hK14 => ?_
          refine c_region ?_
          refine l_val wn (r_move rfl) rfl ?_
          refine l_callLT (Codec.bytesF (Codec.evens frm stp value k)) (fun r => .tuple [r, .agg [.int .i64 ((Codec.wrong (Codec.evens frm stp value k)).err), .int .i64 ((Codec.wrong (Codec.evens frm stp value k)).at_)].toArray].toArray) wn rfl rfl Try.call10 rfl (fun w1 hM => c_bytes _ (Codec.evens frm stp value k) w1 (RowSl encSample hM 0 rfl)) fun A3 cp3 hc3 hm3 hA3 => ?_
          refine l_val wn (r_move rfl) rfl ?_
          refine l_val wn (r_extract rfl rfl) rfl ?_
          refine l_val wn (r_extract rfl rfl) rfl ?_
          refine l_alloc wn inf26 rfl fun b12 => ?_
          refine l_val wn (r_assign rfl) rfl ?_
          refine l_stn 0 wn rfl rfl rfl inf26 rfl rfl rfl ?_
          refine l_nil (e_go hK14 ?_)
          refine c_seq fun K15 hK15 => ?_
          refine c_region ?_
          refine l_val wn (r_move rfl) rfl ?_
          refine l_val wn (r_dsl (lo := 0) (hi := 2) rfl lo0 (hi1 rfl (by omega)) (by first | omega | decide | (simp only [List.length_cons, List.length_nil, List.length_append, List.length_take, List.length_set]; omega)) (by first | omega | decide | (simp only [List.length_cons, List.length_nil, List.length_append, List.length_take, List.length_set]; omega)) (by first | omega | decide | (simp only [List.length_cons, List.length_nil, List.length_append, List.length_take, List.length_set]; omega)) Try.underlying22 inf36) rfl ?_
          refine l_callLT (Codec.bytesF ((Codec.evens frm stp value k).take 2)) (fun r => .tuple [r, .agg [.int .i64 ((Codec.wrong ((Codec.evens frm stp value k).take 2)).err), .int .i64 ((Codec.wrong ((Codec.evens frm stp value k).take 2)).at_)].toArray].toArray) wn rfl rfl Try.call10 rfl (fun w1 hM => c_bytes _ ((Codec.evens frm stp value k).take 2) w1 (FlatSl.subOf (RowSl encSample hM 2 rfl) (lo := 0) (hi := 2) (by first | omega | decide | (simp only [List.length_cons, List.length_nil, List.length_append, List.length_take, List.length_set]; omega)) (by first | omega | decide | (simp only [List.length_cons, List.length_nil, List.length_append, List.length_take, List.length_set]; omega)) (by first | rfl | simp | (rw [List.take_length]; done)) rfl)) fun A4 cp4 hc4 hm4 hA4 => ?_
          refine l_val wn (r_move rfl) rfl ?_
          refine l_val wn (r_extract rfl rfl) rfl ?_
          refine l_val wn (r_extract rfl rfl) rfl ?_
          refine l_alloc wn inf26 rfl fun b14 => ?_
          refine l_val wn (r_assign rfl) rfl ?_
          refine l_stn 0 wn rfl rfl rfl inf26 rfl rfl rfl ?_
          refine l_nil (e_go hK15 ?_)
          refine c_seq fun K16 hK16 => ?_
          refine c_region ?_
          refine l_val wn (r_fa rfl fld26_0) rfl ?_
          refine l_val wn (r_lb 2 rfl rfl rfl flat24) rfl ?_
          refine l_val wn (r_eql rfl rfl) rfl ?_
          refine l_val wn (r_move rfl) rfl ?_
          refine l_litt (t := 76) rfl her ?_
          refine l_val (wg rfl rfl rfl) (r_fa rfl fld26_0) rfl ?_
          refine l_val (wg rfl rfl rfl) (r_lb 0 rfl rfl rfl flat24) rfl ?_
          refine l_val (wg rfl rfl rfl) (r_eql rfl rfl) rfl ?_
          refine l_val wn (r_pick rfl rfl) rfl ?_
          refine l_val wn (r_move rfl) rfl ?_
          refine l_litt (t := 81) rfl her2 ?_
          refine l_val (wg rfl rfl rfl) (r_move rfl) rfl ?_
          refine l_val (wg rfl rfl rfl) (r_len rfl Try.underlying23) rfl ?_
          refine l_val (wg rfl rfl rfl) (r_move rfl) rfl ?_
          refine l_val (wg rfl rfl rfl) (r_len rfl Try.underlying23) rfl ?_
          refine l_val (wg rfl rfl rfl) (r_subn rfl rfl (by omega)) rfl ?_
          refine l_val (wg rfl rfl rfl) (r_move rfl) rfl ?_
          refine l_val (wg rfl rfl rfl) (r_subn rfl rfl (by omega)) rfl ?_
          refine l_val (wg rfl rfl rfl) (r_muln rfl rfl (by omega)) rfl ?_
          refine l_val (wg rfl rfl rfl) (r_geq rfl rfl) rfl ?_
          refine l_val wn (r_pick rfl rfl) rfl ?_
          refine l_val wn (r_move rfl) rfl ?_
          refine l_litt (t := 92) rfl (by omega) ?_
          refine l_val (wg rfl rfl rfl) (r_move rfl) rfl ?_
          refine l_val (wg rfl rfl rfl) (r_len rfl Try.underlying23) rfl ?_
          refine l_val (wg rfl rfl rfl) (r_move rfl) rfl ?_
          refine l_val (wg rfl rfl rfl) (r_len rfl Try.underlying23) rfl ?_
          refine l_val (wg rfl rfl rfl) (r_subn rfl rfl (by omega)) rfl ?_
          refine l_val (wg rfl rfl rfl) (r_move rfl) rfl ?_
          refine l_val (wg rfl rfl rfl) (r_subn rfl rfl (by omega)) rfl ?_
          refine l_val (wg rfl rfl rfl) (r_muln rfl rfl (by omega)) rfl ?_
          refine l_val (wg rfl rfl rfl) (r_addn rfl rfl (by omega)) rfl ?_
          refine l_val (wg rfl rfl rfl) (r_leq rfl rfl) rfl ?_
          refine l_val wn (r_pick rfl rfl) rfl ?_
          refine l_val wn (r_assign rfl) rfl ?_
          refine l_nil (e_go hK16 ?_)
          refine c_ret (e_ret1 (.inl rfl) Try.results5 (rv_tmp rfl) fun w1 hM => ?_)
          exact ret_ok (by first | rfl | (rw [decide_eq_true (by omega)])) hM

theorem law_CodecMoved (lv : Value) (l : List Sample) (by_ : Int) (w : World) (hl : FlatSl (In w) 2 sampleE lv l w) (b0 : l.length ≤ 1048576) :
    Calls Try.prog 6 #[lv, .int .i64 by_] w (Ret w (.bool true)) := by
  obtain ⟨lA, lc, rfl, hlc, hlm, hlA⟩ := hl.form
  refine fstart (N := 82) (vals := [.slice lA l.length lc, .int .i64 by_]) (S := Mem w no [slO (In w) 2 sampleE (.slice lA l.length lc) l]) Try.func6 rfl rfl rfl (Mem.ofDats (dc (dl hl) dn)) ?_
  refine c_seq fun K1 hK1 => ?_
  refine c_region ?_
  refine l_val wn (r_assign rfl) rfl ?_
  refine l_nil (e_go hK1 ?_)
  refine c_seq fun K2 hK2 => ?_
  refine c_seq fun K3 hK3 => ?_
  refine c_region ?_
  refine l_callF wn rfl Try.call17 rfl (fun w1 hM => c_alive1  w1) ?_
  refine l_val wn (r_notb rfl) rfl ?_
  refine l_nil (e_go hK3 ?_)
  refine c_false rfl rfl ?_
  refine c_skip (e_go hK2 ?_)
  refine c_seq fun K4 hK4 => ?_
  refine c_cut [(0, .slice lA l.length lc), (1, .int .i64 by_), (24, .bool (decide ((by_ < 0) ∨ ((1000000 < by_) ∨ ((l.length : Int) < 1)))))] (Mem w no [slO (In w) 2 sampleE (.slice lA l.length lc) l]) (fun K5 hK5 => ?_) ?_
  ·
    refine c_region ?_
    refine l_val wn (r_move rfl) rfl ?_
    refine l_val wn (r_lss rfl rfl) rfl ?_
    refine l_val wn (r_move rfl) rfl ?_
    refine l_case (t := 16) rfl (fun h1 => ?_) (fun h1 => ?_)
    ·
      refine l_skip (wg rfl rfl rfl) rfl ?_
      refine l_skip (wg rfl rfl rfl) rfl ?_
      refine l_val wn (r_pick rfl rfl) rfl ?_
      refine l_val wn (r_move rfl) rfl ?_
      refine l_skip (wg rfl rfl rfl) rfl ?_
      refine l_skip (wg rfl rfl rfl) rfl ?_
      refine l_skip (wg rfl rfl rfl) rfl ?_
      refine l_val wn (r_pick rfl rfl) rfl ?_
      refine l_nil (e_cut hK5 (sc rfl (sc rfl (sc (jt (Or.inl h1)) sn))) (fun _ h => h))
    ·
      refine l_val (wg rfl rfl rfl) (r_move rfl) rfl ?_
      refine l_val (wg rfl rfl rfl) (r_gtr rfl rfl) rfl ?_
      refine l_val wn (r_pick rfl rfl) rfl ?_
      refine l_val wn (r_move rfl) rfl ?_
      refine l_case (t := 20) rfl (fun h2 => ?_) (fun h2 => ?_)
      ·
        refine l_skip (wg rfl rfl rfl) rfl ?_
        refine l_skip (wg rfl rfl rfl) rfl ?_
        refine l_skip (wg rfl rfl rfl) rfl ?_
        refine l_val wn (r_pick rfl rfl) rfl ?_
        refine l_nil (e_cut hK5 (sc rfl (sc rfl (sc (jt (Or.inr (Or.inl h2))) sn))) (fun _ h => h))
      ·
        refine l_val (wg rfl rfl rfl) (r_move rfl) rfl ?_
        refine l_val (wg rfl rfl rfl) (r_len rfl Try.underlying22) rfl ?_
        refine l_val (wg rfl rfl rfl) (r_lss rfl rfl) rfl ?_
        refine l_val wn (r_pick rfl rfl) rfl ?_
        refine l_nil (e_cut hK5 (sc rfl (sc rfl (sc (jp (iff_or_right h1 (iff_or_right h2 Iff.rfl))) sn))) (fun _ h => h))
  ·
    refine c_cond rfl (fun h3 => ?_) (fun h3 => ?_)
    ·
      refine c_seq fun K6 hK6 => ?_
      refine c_region ?_
      refine l_val wn (r_assign rfl) rfl ?_
      refine l_nil (e_go hK6 ?_)
      refine c_ret (e_then_r (e_ret1 (.inl rfl) Try.results6 (rv_tmp rfl) fun w1 hM => ?_))
      exact ret_ok (by first | rfl | (rw [decide_eq_true (by omega)])) hM
    ·
      refine c_skip (e_go hK4 ?_)
      refine c_seq fun K7 hK7 => ?_
      refine c_region ?_
      refine l_nilRow (sampleE : Sample → List Value) 36 2 ?_
      refine l_val wn (r_assign rfl) rfl ?_
      refine l_nil (e_go hK7 ?_)
      refine c_seq fun K8 hK8 => ?_
      refine c_seq fun K9 hK9 => ?_
      refine c_region ?_
      refine l_val wn (r_move rfl) rfl ?_
      refine l_val wn (r_len rfl Try.underlying22) rfl ?_
      refine l_val wn (r_move rfl) rfl ?_
      refine l_nil (e_go hK9 ?_)
      refine c_block ?_
      refine c_loop2 (fun (k : Nat) (vr : Value) => [(0, .slice lA l.length lc), (1, .int .i64 by_), (5, vr), (25, .slice lA l.length lc), (26, .int .i64 (l.length : Int)), (27, .int .i64 (k : Int))]) (fun (k : Nat) (vr : Value) => [Row vr 36 2 sampleE (Codec.moved (l.take k) by_), slO (In w) 2 sampleE (.slice lA l.length lc) l]) (fun (k : Nat) (vr : Value) => k ≤ l.length) (fun (k : Nat) (vr : Value) => l.length - k) 0 (.slice none 0 0) (sc rfl (sc rfl (sc rfl (sc rfl (sc rfl (sc (ji (by omega)) sn)))))) (fun _ h => h) ?_ (fun k vr hI1 => ?_)
      · omega
      ·
        have hml := Codec.moved_len (l.take k) by_
        rw [List.length_take] at hml
        refine c_open 0 (l := (Codec.moved (l.take k) by_)) rfl fun A1 cp1 hv1 hc1 hm1 hA1 => ?_
        subst hv1
        refine c_seq fun K10 hK10 => ?_
        refine c_region ?_
        refine l_val wn (r_lss rfl rfl) rfl ?_
        refine l_nil (e_go hK10 ?_)
        refine c_seq fun K11 hK11 => ?_
        refine c_cond rfl (fun h4 => ?_) (fun h4 => ?_)
        ·
          refine c_skip (e_go hK11 ?_)
          refine c_seq fun K12 hK12 => ?_
          refine c_block ?_
          refine c_seq fun K13 hK13 => ?_
          refine c_region ?_
          obtain ⟨ad1, hd1⟩ := hlA (ne_nil (i := k) (by first | omega | decide | (simp only [List.length_cons, List.length_nil, List.length_append, List.length_take, List.length_set]; omega)))
          refine l_val wn (r_ia (i := k) rfl hd1 rfl (by omega) (by first | omega | decide | (simp only [List.length_cons, List.length_nil, List.length_append, List.length_take, List.length_set]; omega)) Try.underlying22 inf36) rfl ?_
          obtain ⟨s1, hs1⟩ : ∃ x, l[k]? = some x := ⟨_, List.getElem?_eq_getElem (by first | omega | decide | (simp only [List.length_cons, List.length_nil, List.length_append, List.length_take, List.length_set]; omega))⟩
          refine l_val wn (r_eln 1 [.int .i64 s1.time, .int .i64 s1.value] rfl rfl hd1 hs1 rfl rfl agg36 inf36) rfl ?_
          refine l_alloc wn inf36 rfl fun b7 => ?_
          refine l_stn 0 wn rfl rfl rfl inf36 rfl rfl rfl ?_
          refine l_nil (e_go hK13 ?_)
          refine c_seq fun K14 hK14 => ?_
          refine c_cut [(0, .slice lA l.length lc), (1, .int .i64 by_), (5, .slice A1 ((Codec.moved (l.take k) by_).length) cp1), (7, .pointer (some ⟨b7, 0, none⟩)), (25, .slice lA l.length lc), (26, .int .i64 (l.length : Int)), (27, .int .i64 (k : Int)), (38, .bool (decide ((1000000 < s1.time) ∨ (s1.time < 0))))] (Mem w no [.blk b7 [.int .i64 s1.time, .int .i64 s1.value] 36, Row (.slice A1 ((Codec.moved (l.take k) by_).length) cp1) 36 2 sampleE (Codec.moved (l.take k) by_), slO (In w) 2 sampleE (.slice lA l.length lc) l]) (fun K15 hK15 => ?_) ?_
          ·
            refine c_region ?_
            refine l_val wn (r_fa rfl fld36_0) rfl ?_
            refine l_val wn (r_lb 0 rfl rfl rfl flat3) rfl ?_
            refine l_val wn (r_gtr rfl rfl) rfl ?_
            refine l_val wn (r_move rfl) rfl ?_
            refine l_case (t := 34) rfl (fun h5 => ?_) (fun h5 => ?_)
            ·
              refine l_skip (wg rfl rfl rfl) rfl ?_
              refine l_skip (wg rfl rfl rfl) rfl ?_
              refine l_skip (wg rfl rfl rfl) rfl ?_
              refine l_val wn (r_pick rfl rfl) rfl ?_
              refine l_nil (e_cut hK15 (sc rfl (sc rfl (sc rfl (sc rfl (sc rfl (sc rfl (sc rfl (sc (jt (Or.inl h5)) sn)))))))) (fun _ h => h))
            ·
              refine l_val (wg rfl rfl rfl) (r_fa rfl fld36_0) rfl ?_
              refine l_val (wg rfl rfl rfl) (r_lb 0 rfl rfl rfl flat3) rfl ?_
              refine l_val (wg rfl rfl rfl) (r_lss rfl rfl) rfl ?_
              refine l_val wn (r_pick rfl rfl) rfl ?_
              refine l_nil (e_cut hK15 (sc rfl (sc rfl (sc rfl (sc rfl (sc rfl (sc rfl (sc rfl (sc (jp (iff_or_right h5 Iff.rfl)) sn)))))))) (fun _ h => h))
          ·
            refine c_cond rfl (fun h6 => ?_) (fun h6 => ?_)
            ·
              refine c_seq fun K16 hK16 => ?_
              refine c_region ?_
              refine l_val wn (r_assign rfl) rfl ?_
              refine l_nil (e_go hK16 ?_)
              refine c_ret (e_then_r (e_in_r (e_then_r (e_loop2_r (e_in_r (e_then_r (e_ret1 (.inl rfl) Try.results6 (rv_tmp rfl) fun w1 hM => ?_)))))))
              exact ret_ok (by first | rfl | (rw [decide_eq_true (by omega)])) hM
            ·
              refine c_skip (e_go hK14 ?_)
              refine c_region ?_
              refine l_val wn (r_move rfl) rfl ?_
              refine l_val wn (r_fa rfl fld36_0) rfl ?_
              refine l_val wn (r_lb 0 rfl rfl rfl flat3) rfl ?_
              refine l_val wn (r_move rfl) rfl ?_
              refine l_val wn (r_addn rfl rfl (by omega)) rfl ?_
              refine l_val wn (r_fa rfl fld36_1) rfl ?_
              refine l_val wn (r_lb 0 rfl rfl rfl flat3) rfl ?_
              refine l_val wn (r_build [.int .i64 (s1.time + by_), .int .i64 s1.value] pl36 inf36 rfl rfl) rfl ?_
              refine l_bsL sampleE ([(⟨(s1.time + by_), s1.value⟩ : Sample)] : List Sample) wn Try.underlying22 inf36 rfl rfl rfl rfl (by decide) (by decide) rfl fun b47 => ?_
              refine l_app 2 (Codec.moved (l.take k) by_) ([(⟨(s1.time + by_), s1.value⟩ : Sample)] : List Sample) encSample wn rfl rfl rfl (fun _ hM => (RowSl encSample hM 0 rfl)) Try.underlying22 inf36 rfl rfl (by simp only [List.length_append, List.length_cons, List.length_nil]; omega) rfl fun A2 cp2 hc2 hm2 hA2 => ?_
              refine l_val wn (r_assign rfl) rfl ?_
              refine l_nil (e_in_n (e_go hK12 ?_))
              refine c_region ?_
              refine l_val wn (r_addn rfl rfl (by omega)) rfl ?_
              refine l_val wn (r_move rfl) rfl ?_
              refine l_nil (e_round2 (k + 1) (.slice A2 (((Codec.moved (l.take k) by_) ++ ([(⟨(s1.time + by_), s1.value⟩ : Sample)] : List Sample)).length) cp2) (sc rfl (sc rfl (sc rfl (sc rfl (sc rfl (sc (ji (by omega)) sn)))))) (fun _ h => by rw [Codec.moved_succ hs1]; exact (h.sel [2, 3] (by decide) rfl)) ?_ ?_)
              · omega
              · omega
        ·
          have hel : l.take k = l := List.take_of_length_le (by omega)
          have hl1 := Codec.bytesF_len l
          have hl2 := Codec.bytesF_len (Codec.moved (l.take k) by_)
          refine c_exit (e_then_x (e_loop2_x (e_in_hit (e_go hK8 ?_))))
          refine c_seq fun K17 hK17 => ?_
          refine c_region ?_
          refine l_val wn (r_move rfl) rfl ?_
          refine l_callLT (Codec.bytesF l) (fun r => .tuple [r, .agg [.int .i64 ((Codec.wrong l).err), .int .i64 ((Codec.wrong l).at_)].toArray].toArray) wn rfl rfl Try.call10 rfl (fun w1 hM => c_bytes _ l w1 (hM.sl 1 rfl)) fun A3 cp3 hc3 hm3 hA3 => ?_
          refine l_val wn (r_move rfl) rfl ?_
          refine l_val wn (r_extract rfl rfl) rfl ?_
          refine l_val wn (r_extract rfl rfl) rfl ?_
          refine l_alloc wn inf26 rfl fun b9 => ?_
          refine l_val wn (r_assign rfl) rfl ?_
          refine l_stn 0 wn rfl rfl rfl inf26 rfl rfl rfl ?_
          refine l_nil (e_go hK17 ?_)
          refine c_seq fun K18 hK18 => ?_
          refine c_region ?_
          refine l_val wn (r_move rfl) rfl ?_
          refine l_callLT (Codec.bytesF (Codec.moved (l.take k) by_)) (fun r => .tuple [r, .agg [.int .i64 ((Codec.wrong (Codec.moved (l.take k) by_)).err), .int .i64 ((Codec.wrong (Codec.moved (l.take k) by_)).at_)].toArray].toArray) wn rfl rfl Try.call10 rfl (fun w1 hM => c_bytes _ (Codec.moved (l.take k) by_) w1 (RowSl encSample hM 2 rfl)) fun A4 cp4 hc4 hm4 hA4 => ?_
          refine l_val wn (r_move rfl) rfl ?_
          refine l_val wn (r_extract rfl rfl) rfl ?_
          refine l_val wn (r_extract rfl rfl) rfl ?_
          refine l_alloc wn inf26 rfl fun b11 => ?_
          refine l_val wn (r_assign rfl) rfl ?_
          refine l_stn 0 wn rfl rfl rfl inf26 rfl rfl rfl ?_
          refine l_nil (e_go hK18 ?_)
          refine c_seq fun K19 hK19 => ?_
          refine c_cut [(8, .slice A3 ((Codec.bytesF l).length) cp3), (10, .slice A4 ((Codec.bytesF (Codec.moved (l.take k) by_)).length) cp4), (67, .bool (decide (((Codec.wrong l).err ≠ 0) ∨ ((Codec.wrong (Codec.moved (l.take k) by_)).err ≠ 0))))] (Mem w no [.blk b11 [.int .i64 ((Codec.wrong (Codec.moved (l.take k) by_)).err), .int .i64 ((Codec.wrong (Codec.moved (l.take k) by_)).at_)] 26, Row (.slice A4 ((Codec.bytesF (Codec.moved (l.take k) by_)).length) cp4) 5 1 byteE (Codec.bytesF (Codec.moved (l.take k) by_)), .blk b9 [.int .i64 ((Codec.wrong l).err), .int .i64 ((Codec.wrong l).at_)] 26, Row (.slice A3 ((Codec.bytesF l).length) cp3) 5 1 byteE (Codec.bytesF l), Row (.slice A1 ((Codec.moved (l.take k) by_).length) cp1) 36 2 sampleE (Codec.moved (l.take k) by_), slO (In w) 2 sampleE (.slice lA l.length lc) l]) (fun K20 hK20 => ?_) ?_
          ·
            refine c_region ?_
            refine l_val wn (r_fa rfl fld26_0) rfl ?_
            refine l_val wn (r_lb 2 rfl rfl rfl flat24) rfl ?_
            refine l_val wn (r_neq rfl rfl) rfl ?_
            refine l_val wn (r_move rfl) rfl ?_
            refine l_case (t := 63) rfl (fun h7 => ?_) (fun h7 => ?_)
            ·
              refine l_skip (wg rfl rfl rfl) rfl ?_
              refine l_skip (wg rfl rfl rfl) rfl ?_
              refine l_skip (wg rfl rfl rfl) rfl ?_
              refine l_val wn (r_pick rfl rfl) rfl ?_
              refine l_nil (e_cut hK20 (sc rfl (sc rfl (sc (jt (Or.inl h7)) sn))) (fun _ h => h))
            ·
              refine l_val (wg rfl rfl rfl) (r_fa rfl fld26_0) rfl ?_
              refine l_val (wg rfl rfl rfl) (r_lb 0 rfl rfl rfl flat24) rfl ?_
              refine l_val (wg rfl rfl rfl) (r_neq rfl rfl) rfl ?_
              refine l_val wn (r_pick rfl rfl) rfl ?_
              refine l_nil (e_cut hK20 (sc rfl (sc rfl (sc (jp (iff_or_right h7 Iff.rfl)) sn))) (fun _ h => h))
          ·
            refine c_cond rfl (fun h8 => ?_) (fun h8 => ?_)
            ·
              refine c_seq fun K21 hK21 => ?_
              refine c_region ?_
              refine l_val wn (r_assign rfl) rfl ?_
              refine l_nil (e_go hK21 ?_)
              refine c_ret (e_then_r (e_ret1 (.inl rfl) Try.results6 (rv_tmp rfl) fun w1 hM => ?_))
              exact ret_ok (by first | rfl | (rw [decide_eq_true (by omega)])) hM
            ·
              have hdf := Codec.moved_diff (l := l) (by_ := by_) (by omega) (Classical.not_not.1 (not_or.1 h8).1) (by have := Classical.not_not.1 (not_or.1 h8).2; rwa [hel] at this)
              have hdf2 : (Codec.bytesF (Codec.moved (l.take k) by_)).length ≤ (Codec.bytesF l).length + 8 ∧ (Codec.bytesF l).length ≤ (Codec.bytesF (Codec.moved (l.take k) by_)).length + 8 := by rw [hel]; exact hdf
              refine c_skip (e_go hK19 ?_)
              refine c_seq fun K22 hK22 => ?_
              refine c_region ?_
              refine l_val wn (r_move rfl) rfl ?_
              refine l_val wn (r_len rfl Try.underlying23) rfl ?_
              refine l_val wn (r_move rfl) rfl ?_
              refine l_val wn (r_len rfl Try.underlying23) rfl ?_
              refine l_val wn (r_addn rfl rfl (by omega)) rfl ?_
              refine l_val wn (r_leq rfl rfl) rfl ?_
              refine l_val wn (r_move rfl) rfl ?_
              refine l_litt (t := 74) rfl (by omega) ?_
              refine l_val (wg rfl rfl rfl) (r_move rfl) rfl ?_
              refine l_val (wg rfl rfl rfl) (r_len rfl Try.underlying23) rfl ?_
              refine l_val (wg rfl rfl rfl) (r_move rfl) rfl ?_
              refine l_val (wg rfl rfl rfl) (r_len rfl Try.underlying23) rfl ?_
              refine l_val (wg rfl rfl rfl) (r_addn rfl rfl (by omega)) rfl ?_
              refine l_val (wg rfl rfl rfl) (r_leq rfl rfl) rfl ?_
              refine l_val wn (r_pick rfl rfl) rfl ?_
              refine l_val wn (r_assign rfl) rfl ?_
              refine l_nil (e_go hK22 ?_)
              refine c_ret (e_ret1 (.inl rfl) Try.results6 (rv_tmp rfl) fun w1 hM => ?_)
              exact ret_ok (by first | rfl | (rw [decide_eq_true (by omega)])) hM

end Go.Proofs.Ytekamocheffppaa
