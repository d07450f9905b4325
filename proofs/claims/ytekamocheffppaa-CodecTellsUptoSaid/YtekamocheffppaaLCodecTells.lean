/-
  Walks: what each function hands back.
-/
import Derived.Test.YtekamocheffppaaWcodec3
namespace Go.Proofs.Ytekamocheffppaa
open Ex
set_option linter.unusedVariables false
set_option linter.unusedSimpArgs false
theorem law_CodecTells (lv : Value) (l : List Sample) (bv : Value) (b : List UInt8) (w : World) (hl : FlatSl (In w) 2 sampleE lv l w) (hb : FlatSl (In w) 1 byteE bv b w) (_b0 : l.length ≤ 1048576) (b1 : b.length ≤ 1048576) :
    Calls Try.prog 3 #[lv, bv] w (Ret w (.bool true)) := by
  obtain ⟨lA, lc, rfl, hlc, hlm, hlA⟩ := hl.form
  obtain ⟨bA, bc, rfl, hbc, hbm, hbA⟩ := hb.form
  refine fstart (N := 58) (vals := [.slice lA l.length lc, .slice bA b.length bc]) (S := Mem w no [slO (In w) 2 sampleE (.slice lA l.length lc) l, slO (In w) 1 byteE (.slice bA b.length bc) b]) Try.func3 rfl rfl rfl (Mem.ofDats (dc (dl hl) (dc (dl hb) dn))) ?_
  refine c_seq fun K1 hK1 => ?_
  refine c_region ?_
  refine l_val wn (r_assign rfl) rfl ?_
  refine l_nil (e_go hK1 ?_)
  refine c_seq fun K2 hK2 => ?_
  refine c_region ?_
  refine l_val wn (r_move rfl) rfl ?_
  refine l_callLT (Codec.bytesF l) (fun r => .tuple [r, .agg [.int .i64 ((Codec.wrong l).err), .int .i64 ((Codec.wrong l).at_)].toArray].toArray) wn rfl rfl Try.call10 rfl (fun w1 hM => c_bytes _ l w1 (hM.sl 0 rfl)) fun A1 cp1 hc1 hm1 hA1 => ?_
  refine l_val wn (r_move rfl) rfl ?_
  refine l_val wn (r_extract rfl rfl) rfl ?_
  refine l_val wn (r_extract rfl rfl) rfl ?_
  refine l_alloc wn inf26 rfl fun b6 => ?_
  refine l_val wn (r_assign rfl) rfl ?_
  refine l_stn 0 wn rfl rfl rfl inf26 rfl rfl rfl ?_
  refine l_nil (e_go hK2 ?_)
  refine c_seq fun K3 hK3 => ?_
  refine c_region ?_
  refine l_val wn (r_move rfl) rfl ?_
  refine l_callLT (Codec.bytesF l) (fun r => .tuple [r, .agg [.int .i64 ((Codec.wrong l).err), .int .i64 ((Codec.wrong l).at_)].toArray].toArray) wn rfl rfl Try.call11 rfl (fun w1 hM => c_refBytes _ l w1 (hM.sl 2 rfl)) fun A2 cp2 hc2 hm2 hA2 => ?_
  refine l_val wn (r_move rfl) rfl ?_
  refine l_val wn (r_extract rfl rfl) rfl ?_
  refine l_val wn (r_extract rfl rfl) rfl ?_
  refine l_alloc wn inf26 rfl fun b8 => ?_
  refine l_val wn (r_assign rfl) rfl ?_
  refine l_stn 0 wn rfl rfl rfl inf26 rfl rfl rfl ?_
  refine l_nil (e_go hK3 ?_)
  refine c_seq fun K4 hK4 => ?_
  refine c_seq fun K5 hK5 => ?_
  refine c_region ?_
  refine l_val wn (r_lbn 2 [.int .i64 ((Codec.wrong l).err), .int .i64 ((Codec.wrong l).at_)] rfl rfl rfl rfl agg26 inf26) rfl ?_
  refine l_val wn (r_lbn 0 [.int .i64 ((Codec.wrong l).err), .int .i64 ((Codec.wrong l).at_)] rfl rfl rfl rfl agg26 inf26) rfl ?_
  refine l_val wn (r_neqS (a := (Codec.wrong l)) (b := (Codec.wrong l)) rfl rfl eqv26) rfl ?_
  refine l_val wn (r_move rfl) rfl ?_
  refine l_litf (t := 26) rfl (fun h => h rfl) ?_
  refine l_val (wg rfl rfl rfl) (r_move rfl) rfl ?_
  refine l_val (wg rfl rfl rfl) (r_bytesStr rfl Try.underlying23 Try.underlying5 Try.underlying9 (fun _ hM => RowSl encByte hM 3 rfl)) rfl ?_
  refine l_val (wg rfl rfl rfl) (r_move rfl) rfl ?_
  refine l_val (wg rfl rfl rfl) (r_bytesStr rfl Try.underlying23 Try.underlying5 Try.underlying9 (fun _ hM => RowSl encByte hM 1 rfl)) rfl ?_
  refine l_val (wg rfl rfl rfl) (r_sneq rfl rfl) rfl ?_
  refine l_val wn (r_pick rfl rfl) rfl ?_
  refine l_val wn (r_move rfl) rfl ?_
  refine l_litf (t := 33) rfl (fun h => h rfl) ?_
  refine l_val (wg rfl rfl rfl) (r_move rfl) rfl ?_
  refine l_callF (wg rfl rfl rfl) rfl Try.call12 rfl (fun w1 hM => c_codecWrong _ l w1 (hM.sl 4 rfl)) ?_
  refine l_val (wg rfl rfl rfl) (r_move rfl) rfl ?_
  refine l_callF (wg rfl rfl rfl) rfl Try.call13 rfl (fun w1 hM => c_refWrong _ l w1 (hM.sl 4 rfl)) ?_
  refine l_val (wg rfl rfl rfl) (r_neqS (a := (Codec.wrong l)) (b := (Codec.wrong l)) rfl rfl eqv26) rfl ?_
  refine l_val wn (r_pick rfl rfl) rfl ?_
  refine l_nil (e_go hK5 ?_)
  refine c_false rfl (decide_eq_false (fun h => h rfl)) ?_
  refine c_skip (e_go hK4 ?_)
  refine c_seq fun K6 hK6 => ?_
  refine c_region ?_
  refine l_val wn (r_move rfl) rfl ?_
  refine l_callLT ((Codec.parse b).1) (fun r => .tuple [r, .int .i64 ((Codec.parse b).2)].toArray) wn rfl rfl Try.call14 rfl (fun w1 hM => c_parse _ b w1 (hM.sl 5 rfl) (by first | assumption | omega | exact Codec.bytesF_len _ | (rw [Codec.alive_bytes]; decide))) fun A3 cp3 hc3 hm3 hA3 => ?_
  refine l_val wn (r_move rfl) rfl ?_
  refine l_val wn (r_extract rfl rfl) rfl ?_
  refine l_val wn (r_extract rfl rfl) rfl ?_
  refine l_val wn (r_assign rfl) rfl ?_
  refine l_val wn (r_assign rfl) rfl ?_
  refine l_nil (e_go hK6 ?_)
  refine c_seq fun K7 hK7 => ?_
  refine c_region ?_
  refine l_val wn (r_move rfl) rfl ?_
  refine l_callLT ((Codec.parse b).1) (fun r => .tuple [r, .int .i64 ((Codec.parse b).2)].toArray) wn rfl rfl Try.call15 rfl (fun w1 hM => c_refParse _ b w1 (hM.sl 6 rfl) (by first | assumption | omega)) fun A4 cp4 hc4 hm4 hA4 => ?_
  refine l_val wn (r_move rfl) rfl ?_
  refine l_val wn (r_extract rfl rfl) rfl ?_
  refine l_val wn (r_extract rfl rfl) rfl ?_
  refine l_val wn (r_assign rfl) rfl ?_
  refine l_val wn (r_assign rfl) rfl ?_
  refine l_nil (e_go hK7 ?_)
  refine c_seq fun K8 hK8 => ?_
  refine c_region ?_
  refine l_val wn (r_move rfl) rfl ?_
  refine l_val wn (r_move rfl) rfl ?_
  refine l_val wn (r_eql rfl rfl) rfl ?_
  refine l_val wn (r_move rfl) rfl ?_
  refine l_litt (t := 53) rfl rfl ?_
  refine l_val (wg rfl rfl rfl) (r_move rfl) rfl ?_
  refine l_val (wg rfl rfl rfl) (r_move rfl) rfl ?_
  refine l_callF (wg rfl rfl rfl) rfl Try.call16 rfl (fun w1 hM => c_SameSamples _ ((Codec.parse b).1) _ ((Codec.parse b).1) w1 (RowSl encSample hM 1 rfl) (RowSl encSample hM 0 rfl)) ?_
  refine l_val wn (r_pick rfl rfl) rfl ?_
  refine l_val wn (r_assign rfl) rfl ?_
  refine l_nil (e_go hK8 ?_)
  refine c_ret (e_ret1 (.inl rfl) Try.results3 (rv_tmp rfl) fun w1 hM => ?_)
  exact ret_ok (by first | rfl | (rw [decide_eq_true rfl])) hM

end Go.Proofs.Ytekamocheffppaa
