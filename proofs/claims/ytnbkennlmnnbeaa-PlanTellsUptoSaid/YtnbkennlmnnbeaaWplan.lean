/-
  Walks: what each function hands back.
-/
import Derived.Test.YtnbkennlmnnbeaaWshref2
import Derived.Test.YtnbkennlmnnbeaaPPlan
namespace Go.Proofs.Ytnbkennlmnnbeaa
open Ex
set_option linter.unusedVariables false
set_option linter.unusedSimpArgs false
theorem c_span (zp : Nat) (z0 : Value) (z1 : Value) (z2 : Value) (z3 : Value) (z : Shelf) (tier : Int) (w : World) (hzp : w.heap[zp]? = some (.cells [z0, z1, z2, z3, .int .i64 z.rawFrom, .int .i64 z.fineFrom, .int .i64 z.fineTo, .int .i64 z.coarseFrom, .int .i64 z.coarseTo].toArray 27 (0, 0)))  :
    Calls Try.prog 69 #[.pointer (some ⟨zp, 0, none⟩), .int .i64 tier] w (Ret w (.tuple #[.int .i64 (Sh.spanFrom z tier), .int .i64 (Sh.spanTo z tier)])) := by
 refine fstart (N := 31) (vals := [.pointer (some ⟨zp, 0, none⟩), .int .i64 tier]) (S := Mem w no [datB zp [z0, z1, z2, z3, .int .i64 z.rawFrom, .int .i64 z.fineFrom, .int .i64 z.fineTo, .int .i64 z.coarseFrom, .int .i64 z.coarseTo] 27]) Try.func69 rfl rfl rfl (Mem.ofDats (dc (ddb hzp) dn)) ?_
 refine c_seq fun _ hK1 => ?_
 refine c_region ?_
 refine l_val wn (r_assign rfl) rfl ?_
 refine l_val wn (r_assign rfl) rfl ?_
 refine l_nil (e_go hK1 ?_)
 refine c_seq fun _ hK2 => ?_
 refine c_seq fun _ hK3 => ?_
 refine c_region ?_
 refine l_val wn (r_move rfl) rfl ?_
 refine l_nil (e_go hK3 ?_)
 refine c_block ?_
 refine c_seq fun _ hK4 => ?_
 refine c_region ?_
 refine l_val wn (r_eql rfl rfl) rfl ?_
 refine l_val wn (r_assign rfl) rfl ?_
 refine l_nil (e_go hK4 ?_)
 refine c_cond rfl (fun h1 => ?_) (fun h1 => ?_)
 · refine c_seq fun _ hK5 => ?_
   refine c_quiet mix (by kernel_rfl) (fun _ h => h.drew) ?_
   refine q_val wn (r_move rfl) rfl ?_
   refine q_val wn (r_nilCheck rfl) rfl ?_
   refine q_val wn (r_fa rfl fld27_5) rfl ?_
   refine q_val wn (r_ldb 0 rfl rfl rfl flat3) rfl ?_
   refine q_val wn (r_move rfl) rfl ?_
   refine q_val wn (r_nilCheck rfl) rfl ?_
   refine q_val wn (r_fa rfl fld27_6) rfl ?_
   refine q_val wn (r_ldb 0 rfl rfl rfl flat3) rfl ?_
   refine q_val wn (r_assign rfl) rfl ?_
   refine q_val wn (r_assign rfl) rfl ?_
   refine q_end (e_go hK5 ?_)
   refine c_ret (e_in_r (e_then_r (e_ret2 (.inl rfl) Try.results69 (rv_tmp rfl) (rv_tmp rfl) fun w1 hM => ?_)))
   exact ret_ok (by simp [Sh.spanFrom, Sh.spanTo, h1]) hM
 refine c_seq fun _ hK6 => ?_
 refine c_region ?_
 refine l_val wn (r_eql rfl rfl) rfl ?_
 refine l_val wn (r_assign rfl) rfl ?_
 refine l_nil (e_go hK6 ?_)
 refine c_cond rfl (fun h2 => ?_) (fun h2 => ?_)
 · refine c_seq fun _ hK7 => ?_
   refine c_quiet mix (by kernel_rfl) (fun _ h => h.drew) ?_
   refine q_val wn (r_move rfl) rfl ?_
   refine q_val wn (r_nilCheck rfl) rfl ?_
   refine q_val wn (r_fa rfl fld27_7) rfl ?_
   refine q_val wn (r_ldb 0 rfl rfl rfl flat3) rfl ?_
   refine q_val wn (r_move rfl) rfl ?_
   refine q_val wn (r_nilCheck rfl) rfl ?_
   refine q_val wn (r_fa rfl fld27_8) rfl ?_
   refine q_val wn (r_ldb 0 rfl rfl rfl flat3) rfl ?_
   refine q_val wn (r_assign rfl) rfl ?_
   refine q_val wn (r_assign rfl) rfl ?_
   refine q_end (e_go hK7 ?_)
   refine c_ret (e_in_r (e_then_r (e_ret2 (.inl rfl) Try.results69 (rv_tmp rfl) (rv_tmp rfl) fun w1 hM => ?_)))
   exact ret_ok (by simp [Sh.spanFrom, Sh.spanTo, h1, h2]) hM
 refine c_skip (e_in_n (e_go hK2 ?_))
 refine c_seq fun _ hK8 => ?_
 refine c_region ?_
 refine l_val wn (r_move rfl) rfl ?_
 refine l_val wn (r_nilCheck rfl) rfl ?_
 refine l_val wn (r_fa rfl fld27_4) rfl ?_
 refine l_val wn (r_ldb 0 rfl rfl rfl flat3) rfl ?_
 refine l_val wn (r_assign rfl) rfl ?_
 refine l_val wn (r_assign rfl) rfl ?_
 refine l_nil (e_go hK8 ?_)
 refine c_ret (e_ret2 (.inl rfl) Try.results69 (rv_tmp rfl) (rv_tmp rfl) fun w1 hM => ?_)
 exact ret_ok (by simp [Sh.spanFrom, Sh.spanTo, h1, h2]) hM

theorem c_may (zp : Nat) (z0 : Value) (z1 : Value) (z2 : Value) (z3 : Value) (z : Shelf) (p : Part) (w : World) (hzp : w.heap[zp]? = some (.cells [z0, z1, z2, z3, .int .i64 z.rawFrom, .int .i64 z.fineFrom, .int .i64 z.fineTo, .int .i64 z.coarseFrom, .int .i64 z.coarseTo].toArray 27 (0, 0)))  :
    Calls Try.prog 37 #[.pointer (some ⟨zp, 0, none⟩), .agg (partE p).toArray] w (Ret w (.bool (decide (Sh.may z p)))) := by
 refine fstart (N := 58) (vals := [.pointer (some ⟨zp, 0, none⟩), .agg (partE p).toArray]) (S := Mem w no [datB zp [z0, z1, z2, z3, .int .i64 z.rawFrom, .int .i64 z.fineFrom, .int .i64 z.fineTo, .int .i64 z.coarseFrom, .int .i64 z.coarseTo] 27]) Try.func37 rfl rfl rfl (Mem.ofDats (dc (ddb hzp) dn)) ?_
 refine c_seq fun _ hK1 => ?_
 refine c_region ?_
 refine l_box wn rfl rfl fun b3 => ?_
 refine l_val wn (r_assign rfl) rfl ?_
 refine l_nil (e_go hK1 ?_)
 refine c_seq fun _ hK2 => ?_
 refine c_cut [(0, .pointer (some ⟨zp, 0, none⟩)), (3, .pointer (some ⟨b3, 0, none⟩)), (22, .bool (decide ((p.tier < 0) ∨ ((2 < p.tier) ∨ (p.to ≤ p.frm)))))] (Mem w no [.blk b3 [.int .i64 p.tier, .int .i64 p.frm, .int .i64 p.to] 61, datB zp [z0, z1, z2, z3, .int .i64 z.rawFrom, .int .i64 z.fineFrom, .int .i64 z.fineTo, .int .i64 z.coarseFrom, .int .i64 z.coarseTo] 27]) (fun _ hK3 => ?_) ?_
 · refine c_region ?_
   refine l_val wn (r_fa rfl fld61_0) rfl ?_
   refine l_val wn (r_lb 0 rfl rfl rfl flat3) rfl ?_
   refine l_val wn (r_lss rfl rfl) rfl ?_
   refine l_val wn (r_move rfl) rfl ?_
   refine l_case (t := 11) rfl (fun h1 => ?_) (fun h1 => ?_)
   · refine l_skip (wg rfl rfl rfl) rfl ?_
     refine l_skip (wg rfl rfl rfl) rfl ?_
     refine l_skip (wg rfl rfl rfl) rfl ?_
     refine l_val wn (r_pick rfl rfl) rfl ?_
     refine l_val wn (r_move rfl) rfl ?_
     refine l_skip (wg rfl rfl rfl) rfl ?_
     refine l_skip (wg rfl rfl rfl) rfl ?_
     refine l_skip (wg rfl rfl rfl) rfl ?_
     refine l_skip (wg rfl rfl rfl) rfl ?_
     refine l_skip (wg rfl rfl rfl) rfl ?_
     refine l_val wn (r_pick rfl rfl) rfl ?_
     refine l_nil (e_cut hK3 (sc rfl (sc rfl (sc (jt (Or.inl h1)) sn))) (fun _ h => h))
   have hst := Sh.stepOf_pos p.tier
   refine l_val (wg rfl rfl rfl) (r_fa rfl fld61_0) rfl ?_
   refine l_val (wg rfl rfl rfl) (r_lb 0 rfl rfl rfl flat3) rfl ?_
   refine l_val (wg rfl rfl rfl) (r_gtr rfl rfl) rfl ?_
   refine l_val wn (r_pick rfl rfl) rfl ?_
   refine l_val wn (r_move rfl) rfl ?_
   refine l_case (t := 16) rfl (fun h2 => ?_) (fun h2 => ?_)
   · refine l_skip (wg rfl rfl rfl) rfl ?_
     refine l_skip (wg rfl rfl rfl) rfl ?_
     refine l_skip (wg rfl rfl rfl) rfl ?_
     refine l_skip (wg rfl rfl rfl) rfl ?_
     refine l_skip (wg rfl rfl rfl) rfl ?_
     refine l_val wn (r_pick rfl rfl) rfl ?_
     refine l_nil (e_cut hK3 (sc rfl (sc rfl (sc (jt (Or.inr (Or.inl h2))) sn))) (fun _ h => h))
   refine l_val (wg rfl rfl rfl) (r_fa rfl fld61_1) rfl ?_
   refine l_val (wg rfl rfl rfl) (r_lb 0 rfl rfl rfl flat3) rfl ?_
   refine l_val (wg rfl rfl rfl) (r_fa rfl fld61_2) rfl ?_
   refine l_val (wg rfl rfl rfl) (r_lb 0 rfl rfl rfl flat3) rfl ?_
   refine l_val (wg rfl rfl rfl) (r_geq rfl rfl) rfl ?_
   refine l_val wn (r_pick rfl rfl) rfl ?_
   refine l_nil (e_cut hK3 (sc rfl (sc rfl (sc (jp (iff_or_right h1 (iff_or_right h2 Iff.rfl))) sn))) (fun _ h => h))
 refine c_cond rfl (fun h3 => ?_) (fun h3 => ?_)
 · refine c_seq fun _ hK4 => ?_
   refine c_region ?_
   refine l_val wn (r_assign rfl) rfl ?_
   refine l_nil (e_go hK4 ?_)
   refine c_ret (e_then_r (e_ret1 (.inl rfl) Try.results37 (rv_tmp rfl) fun w1 hM => ?_))
   exact ret_ok (congrArg Value.bool (decide_eq_false (fun g => g.1 h3)).symm) hM
 have hst := Sh.stepOf_pos p.tier
 refine c_skip (e_go hK2 ?_)
 refine c_seq fun _ hK5 => ?_
 refine c_region ?_
 refine l_val wn (r_move rfl) rfl ?_
 refine l_val wn (r_fa rfl fld61_0) rfl ?_
 refine l_val wn (r_lb 0 rfl rfl rfl flat3) rfl ?_
 refine l_callF wn rfl Try.call69 rfl (fun w1 hM => c_span zp _ _ _ _ z p.tier w1 (hM.datb (i := 1) rfl)) ?_
 refine l_val wn (r_move rfl) rfl ?_
 refine l_val wn (r_extract rfl rfl) rfl ?_
 refine l_val wn (r_extract rfl rfl) rfl ?_
 refine l_val wn (r_assign rfl) rfl ?_
 refine l_val wn (r_assign rfl) rfl ?_
 refine l_nil (e_go hK5 ?_)
 refine c_seq fun _ hK6 => ?_
 refine c_region ?_
 refine l_val wn (r_fa rfl fld61_0) rfl ?_
 refine l_val wn (r_lb 0 rfl rfl rfl flat3) rfl ?_
 refine l_callF wn rfl Try.call39 rfl (fun w1 hM => c_Step p.tier w1) ?_
 refine l_val wn (rv_i (show _ = Sh.stepOf p.tier from rfl) (r_max rfl rfl)) rfl ?_
 refine l_val wn (r_assign rfl) rfl ?_
 refine l_nil (e_go hK6 ?_)
 refine c_seq fun _ hK7 => ?_
 refine c_region ?_
 refine l_val wn (r_fa rfl fld61_1) rfl ?_
 refine l_val wn (r_lb 0 rfl rfl rfl flat3) rfl ?_
 refine l_val wn (r_move rfl) rfl ?_
 refine l_val wn (r_geq rfl rfl) rfl ?_
 refine l_val wn (r_move rfl) rfl ?_
 refine l_case (t := 38) rfl (fun h4 => ?_) (fun h4 => ?_)
 · refine l_val (wg rfl rfl rfl) (r_fa rfl fld61_2) rfl ?_
   refine l_val (wg rfl rfl rfl) (r_lb 0 rfl rfl rfl flat3) rfl ?_
   refine l_val (wg rfl rfl rfl) (r_move rfl) rfl ?_
   refine l_val (wg rfl rfl rfl) (r_leq rfl rfl) rfl ?_
   refine l_val wn (r_pick rfl rfl) rfl ?_
   refine l_val wn (r_move rfl) rfl ?_
   refine l_case (t := 44) rfl (fun h5 => ?_) (fun h5 => ?_)
   · refine l_val (wg rfl rfl rfl) (r_fa rfl fld61_1) rfl ?_
     refine l_val (wg rfl rfl rfl) (r_lb 0 rfl rfl rfl flat3) rfl ?_
     refine l_val (wg rfl rfl rfl) (r_move rfl) rfl ?_
     refine l_val (wg rfl rfl rfl) (r_rem rfl rfl (by omega)) rfl ?_
     refine l_val (wg rfl rfl rfl) (r_eql rfl rfl) rfl ?_
     refine l_val wn (r_pick rfl rfl) rfl ?_
     refine l_val wn (r_move rfl) rfl ?_
     refine l_case (t := 51) rfl (fun h6 => ?_) (fun h6 => ?_)
     · refine l_val (wg rfl rfl rfl) (r_fa rfl fld61_2) rfl ?_
       refine l_val (wg rfl rfl rfl) (r_lb 0 rfl rfl rfl flat3) rfl ?_
       refine l_val (wg rfl rfl rfl) (r_move rfl) rfl ?_
       refine l_val (wg rfl rfl rfl) (r_rem rfl rfl (by omega)) rfl ?_
       refine l_val (wg rfl rfl rfl) (r_eql rfl rfl) rfl ?_
       refine l_val wn (r_pick rfl rfl) rfl ?_
       refine l_val wn (r_assign rfl) rfl ?_
       refine l_nil (e_go hK7 ?_)
       refine c_ret (e_ret1 (.inl rfl) Try.results37 (rv_tmp rfl) fun w1 hM => ?_)
       exact ret_ok (congrArg Value.bool (decide_eq_decide.2 ⟨fun g => ⟨h3, h4, h5, h6, g⟩, fun g => g.2.2.2.2⟩)) hM
     refine l_skip (wg rfl rfl rfl) rfl ?_
     refine l_skip (wg rfl rfl rfl) rfl ?_
     refine l_skip (wg rfl rfl rfl) rfl ?_
     refine l_skip (wg rfl rfl rfl) rfl ?_
     refine l_skip (wg rfl rfl rfl) rfl ?_
     refine l_val wn (r_pick rfl rfl) rfl ?_
     refine l_val wn (r_assign rfl) rfl ?_
     refine l_nil (e_go hK7 ?_)
     refine c_ret (e_ret1 (.inl rfl) Try.results37 (rv_tmp rfl) fun w1 hM => ?_)
     exact ret_ok (congrArg Value.bool (decide_eq_false (fun g => h6 g.2.2.2.1)).symm) hM
   refine l_skip (wg rfl rfl rfl) rfl ?_
   refine l_skip (wg rfl rfl rfl) rfl ?_
   refine l_skip (wg rfl rfl rfl) rfl ?_
   refine l_skip (wg rfl rfl rfl) rfl ?_
   refine l_skip (wg rfl rfl rfl) rfl ?_
   refine l_val wn (r_pick rfl rfl) rfl ?_
   refine l_val wn (r_move rfl) rfl ?_
   refine l_skip (wg rfl rfl rfl) rfl ?_
   refine l_skip (wg rfl rfl rfl) rfl ?_
   refine l_skip (wg rfl rfl rfl) rfl ?_
   refine l_skip (wg rfl rfl rfl) rfl ?_
   refine l_skip (wg rfl rfl rfl) rfl ?_
   refine l_val wn (r_pick rfl rfl) rfl ?_
   refine l_val wn (r_assign rfl) rfl ?_
   refine l_nil (e_go hK7 ?_)
   refine c_ret (e_ret1 (.inl rfl) Try.results37 (rv_tmp rfl) fun w1 hM => ?_)
   exact ret_ok (congrArg Value.bool (decide_eq_false (fun g => h5 g.2.2.1)).symm) hM
 refine l_skip (wg rfl rfl rfl) rfl ?_
 refine l_skip (wg rfl rfl rfl) rfl ?_
 refine l_skip (wg rfl rfl rfl) rfl ?_
 refine l_skip (wg rfl rfl rfl) rfl ?_
 refine l_val wn (r_pick rfl rfl) rfl ?_
 refine l_val wn (r_move rfl) rfl ?_
 refine l_skip (wg rfl rfl rfl) rfl ?_
 refine l_skip (wg rfl rfl rfl) rfl ?_
 refine l_skip (wg rfl rfl rfl) rfl ?_
 refine l_skip (wg rfl rfl rfl) rfl ?_
 refine l_skip (wg rfl rfl rfl) rfl ?_
 refine l_val wn (r_pick rfl rfl) rfl ?_
 refine l_val wn (r_move rfl) rfl ?_
 refine l_skip (wg rfl rfl rfl) rfl ?_
 refine l_skip (wg rfl rfl rfl) rfl ?_
 refine l_skip (wg rfl rfl rfl) rfl ?_
 refine l_skip (wg rfl rfl rfl) rfl ?_
 refine l_skip (wg rfl rfl rfl) rfl ?_
 refine l_val wn (r_pick rfl rfl) rfl ?_
 refine l_val wn (r_assign rfl) rfl ?_
 refine l_nil (e_go hK7 ?_)
 refine c_ret (e_ret1 (.inl rfl) Try.results37 (rv_tmp rfl) fun w1 hM => ?_)
 exact ret_ok (congrArg Value.bool (decide_eq_false (fun g => h4 g.2.1)).symm) hM

theorem c_refMay (z0 : Value) (z1 : Value) (z2 : Value) (z3 : Value) (z : Shelf) (p : Part) (P0 : Nat → Prop) (w : World) (hP0 : ∀ b, P0 b → b < w.heap.size) (hz0 : FlatSl P0 2 labelE z0 z.series w) (hz1 : FlatSl P0 2 sampleE z1 z.raw w) (hz2 : FlatSl P0 8 bucketE z2 z.fine w) (hz3 : FlatSl P0 8 bucketE z3 z.coarse w)  :
    Calls Try.prog 38 #[.agg (List.toArray [z0, z1, z2, z3, .int .i64 z.rawFrom, .int .i64 z.fineFrom, .int .i64 z.fineTo, .int .i64 z.coarseFrom, .int .i64 z.coarseTo]), .agg (partE p).toArray] w (Ret w (.bool (decide (Sh.may z p)))) := by
 obtain ⟨z0A, z0c, rfl, hz0c, hz0m, hz0A⟩ := hz0.form
 obtain ⟨z1A, z1c, rfl, hz1c, hz1m, hz1A⟩ := hz1.form
 obtain ⟨z2A, z2c, rfl, hz2c, hz2m, hz2A⟩ := hz2.form
 obtain ⟨z3A, z3c, rfl, hz3c, hz3m, hz3A⟩ := hz3.form
 refine fstart (N := 76) (vals := [.agg (List.toArray [.slice z0A z.series.length z0c, .slice z1A z.raw.length z1c, .slice z2A z.fine.length z2c, .slice z3A z.coarse.length z3c, .int .i64 z.rawFrom, .int .i64 z.fineFrom, .int .i64 z.fineTo, .int .i64 z.coarseFrom, .int .i64 z.coarseTo]), .agg (partE p).toArray]) (S := Mem w ⟨no, P0⟩ [slP 2 labelE (.slice z0A z.series.length z0c) z.series, slP 2 sampleE (.slice z1A z.raw.length z1c) z.raw, slP 8 bucketE (.slice z2A z.fine.length z2c) z.fine, slP 8 bucketE (.slice z3A z.coarse.length z3c) z.coarse]) Try.func38 rfl rfl rfl (Mem.ofDatsP hP0 (dc (dlp hz0) (dc (dlp hz1) (dc (dlp hz2) (dc (dlp hz3) dn))))) ?_
 refine c_seq fun _ hK1 => ?_
 refine c_region ?_
 refine l_box wn rfl rfl fun b2 => ?_
 refine l_box wn rfl rfl fun b3 => ?_
 refine l_val wn (r_assign rfl) rfl ?_
 refine l_nil (e_go hK1 ?_)
 refine c_seq fun _ hK2 => ?_
 refine c_seq fun _ hK3 => ?_
 refine c_region ?_
 refine l_val wn (r_fa rfl fld61_1) rfl ?_
 refine l_val wn (r_lb 0 rfl rfl rfl flat3) rfl ?_
 refine l_val wn (r_fa rfl fld61_2) rfl ?_
 refine l_val wn (r_lb 0 rfl rfl rfl flat3) rfl ?_
 refine l_val wn (r_geq rfl rfl) rfl ?_
 refine l_nil (e_go hK3 ?_)
 refine c_cond rfl (fun h1 => ?_) (fun h1 => ?_)
 · refine c_seq fun _ hK4 => ?_
   refine c_region ?_
   refine l_val wn (r_assign rfl) rfl ?_
   refine l_nil (e_go hK4 ?_)
   refine c_ret (e_then_r (e_ret1 (.inl rfl) Try.results38 (rv_tmp rfl) fun w1 hM => ?_))
   exact ret_ok (congrArg Value.bool (decide_eq_false (fun g => absurd (Sh.may_lt g) (by omega))).symm) hM
 refine c_skip (e_go hK2 ?_)
 refine c_seq fun _ hK5 => ?_
 refine c_seq fun _ hK6 => ?_
 refine c_region ?_
 refine l_val wn (r_fa rfl fld61_0) rfl ?_
 refine l_val wn (r_lb 0 rfl rfl rfl flat3) rfl ?_
 refine l_nil (e_go hK6 ?_)
 refine c_block ?_
 refine c_seq fun _ hK7 => ?_
 refine c_region ?_
 refine l_val wn (r_eql rfl rfl) rfl ?_
 refine l_val wn (r_assign rfl) rfl ?_
 refine l_nil (e_go hK7 ?_)
 refine c_cond rfl (fun h2 => ?_) (fun h2 => ?_)
 · refine c_seq fun _ hK8 => ?_
   refine c_region ?_
   refine l_val wn (r_fa rfl fld61_1) rfl ?_
   refine l_val wn (r_lb 0 rfl rfl rfl flat3) rfl ?_
   refine l_val wn (r_fa rfl fld27_4) rfl ?_
   refine l_val wn (r_lb 1 rfl rfl rfl flat3) rfl ?_
   refine l_val wn (r_geq rfl rfl) rfl ?_
   refine l_val wn (r_move rfl) rfl ?_
   refine l_case (t := 19) rfl (fun h3 => ?_) (fun h3 => ?_)
   · refine l_val (wg rfl rfl rfl) (r_fa rfl fld61_2) rfl ?_
     refine l_val (wg rfl rfl rfl) (r_lb 0 rfl rfl rfl flat3) rfl ?_
     refine l_val (wg rfl rfl rfl) (r_leq rfl rfl) rfl ?_
     refine l_val wn (r_pick rfl rfl) rfl ?_
     refine l_val wn (r_assign rfl) rfl ?_
     refine l_nil (e_go hK8 ?_)
     refine c_ret (e_in_r (e_then_r (e_ret1 (.inl rfl) Try.results38 (rv_tmp rfl) fun w1 hM => ?_)))
     exact ret_ok (congrArg Value.bool (decide_eq_decide.2 ⟨fun g => (Sh.may0 h1 h2).2 ⟨h3, g⟩, fun g => ((Sh.may0 h1 h2).1 g).2⟩)) hM
   refine l_skip (wg rfl rfl rfl) rfl ?_
   refine l_skip (wg rfl rfl rfl) rfl ?_
   refine l_skip (wg rfl rfl rfl) rfl ?_
   refine l_val wn (r_pick rfl rfl) rfl ?_
   refine l_val wn (r_assign rfl) rfl ?_
   refine l_nil (e_go hK8 ?_)
   refine c_ret (e_in_r (e_then_r (e_ret1 (.inl rfl) Try.results38 (rv_tmp rfl) fun w1 hM => ?_)))
   exact ret_ok (congrArg Value.bool (decide_eq_false (fun g => h3 (((Sh.may0 h1 h2).1 g).1))).symm) hM
 refine c_seq fun _ hK9 => ?_
 refine c_region ?_
 refine l_val wn (r_eql rfl rfl) rfl ?_
 refine l_val wn (r_assign rfl) rfl ?_
 refine l_nil (e_go hK9 ?_)
 refine c_cond rfl (fun h4 => ?_) (fun h4 => ?_)
 · refine c_seq fun _ hK10 => ?_
   refine c_region ?_
   refine l_val wn (r_fa rfl fld61_1) rfl ?_
   refine l_val wn (r_lb 0 rfl rfl rfl flat3) rfl ?_
   refine l_val wn (r_fa rfl fld27_5) rfl ?_
   refine l_val wn (r_lb 1 rfl rfl rfl flat3) rfl ?_
   refine l_val wn (r_geq rfl rfl) rfl ?_
   refine l_val wn (r_move rfl) rfl ?_
   refine l_case (t := 31) rfl (fun h5 => ?_) (fun h5 => ?_)
   · refine l_val (wg rfl rfl rfl) (r_fa rfl fld61_2) rfl ?_
     refine l_val (wg rfl rfl rfl) (r_lb 0 rfl rfl rfl flat3) rfl ?_
     refine l_val (wg rfl rfl rfl) (r_fa rfl fld27_6) rfl ?_
     refine l_val (wg rfl rfl rfl) (r_lb 1 rfl rfl rfl flat3) rfl ?_
     refine l_val (wg rfl rfl rfl) (r_leq rfl rfl) rfl ?_
     refine l_val wn (r_pick rfl rfl) rfl ?_
     refine l_val wn (r_move rfl) rfl ?_
     refine l_case (t := 38) rfl (fun h6 => ?_) (fun h6 => ?_)
     · refine l_val (wg rfl rfl rfl) (r_fa rfl fld61_1) rfl ?_
       refine l_val (wg rfl rfl rfl) (r_lb 0 rfl rfl rfl flat3) rfl ?_
       refine l_val (wg rfl rfl rfl) (r_rem rfl rfl (by omega)) rfl ?_
       refine l_val (wg rfl rfl rfl) (r_eql rfl rfl) rfl ?_
       refine l_val wn (r_pick rfl rfl) rfl ?_
       refine l_val wn (r_move rfl) rfl ?_
       refine l_case (t := 44) rfl (fun h7 => ?_) (fun h7 => ?_)
       · refine l_val (wg rfl rfl rfl) (r_fa rfl fld61_2) rfl ?_
         refine l_val (wg rfl rfl rfl) (r_lb 0 rfl rfl rfl flat3) rfl ?_
         refine l_val (wg rfl rfl rfl) (r_rem rfl rfl (by omega)) rfl ?_
         refine l_val (wg rfl rfl rfl) (r_eql rfl rfl) rfl ?_
         refine l_val wn (r_pick rfl rfl) rfl ?_
         refine l_val wn (r_assign rfl) rfl ?_
         refine l_nil (e_go hK10 ?_)
         refine c_ret (e_in_r (e_then_r (e_ret1 (.inl rfl) Try.results38 (rv_tmp rfl) fun w1 hM => ?_)))
         exact ret_ok (congrArg Value.bool (decide_eq_decide.2 ⟨fun g => (Sh.may1 h1 h4).2 ⟨h5, h6, h7, g⟩, fun g => ((Sh.may1 h1 h4).1 g).2.2.2⟩)) hM
       refine l_skip (wg rfl rfl rfl) rfl ?_
       refine l_skip (wg rfl rfl rfl) rfl ?_
       refine l_skip (wg rfl rfl rfl) rfl ?_
       refine l_skip (wg rfl rfl rfl) rfl ?_
       refine l_val wn (r_pick rfl rfl) rfl ?_
       refine l_val wn (r_assign rfl) rfl ?_
       refine l_nil (e_go hK10 ?_)
       refine c_ret (e_in_r (e_then_r (e_ret1 (.inl rfl) Try.results38 (rv_tmp rfl) fun w1 hM => ?_)))
       exact ret_ok (congrArg Value.bool (decide_eq_false (fun g => h7 (((Sh.may1 h1 h4).1 g).2.2.1))).symm) hM
     refine l_skip (wg rfl rfl rfl) rfl ?_
     refine l_skip (wg rfl rfl rfl) rfl ?_
     refine l_skip (wg rfl rfl rfl) rfl ?_
     refine l_skip (wg rfl rfl rfl) rfl ?_
     refine l_val wn (r_pick rfl rfl) rfl ?_
     refine l_val wn (r_move rfl) rfl ?_
     refine l_skip (wg rfl rfl rfl) rfl ?_
     refine l_skip (wg rfl rfl rfl) rfl ?_
     refine l_skip (wg rfl rfl rfl) rfl ?_
     refine l_skip (wg rfl rfl rfl) rfl ?_
     refine l_val wn (r_pick rfl rfl) rfl ?_
     refine l_val wn (r_assign rfl) rfl ?_
     refine l_nil (e_go hK10 ?_)
     refine c_ret (e_in_r (e_then_r (e_ret1 (.inl rfl) Try.results38 (rv_tmp rfl) fun w1 hM => ?_)))
     exact ret_ok (congrArg Value.bool (decide_eq_false (fun g => h6 (((Sh.may1 h1 h4).1 g).2.1))).symm) hM
   refine l_skip (wg rfl rfl rfl) rfl ?_
   refine l_skip (wg rfl rfl rfl) rfl ?_
   refine l_skip (wg rfl rfl rfl) rfl ?_
   refine l_skip (wg rfl rfl rfl) rfl ?_
   refine l_skip (wg rfl rfl rfl) rfl ?_
   refine l_val wn (r_pick rfl rfl) rfl ?_
   refine l_val wn (r_move rfl) rfl ?_
   refine l_skip (wg rfl rfl rfl) rfl ?_
   refine l_skip (wg rfl rfl rfl) rfl ?_
   refine l_skip (wg rfl rfl rfl) rfl ?_
   refine l_skip (wg rfl rfl rfl) rfl ?_
   refine l_val wn (r_pick rfl rfl) rfl ?_
   refine l_val wn (r_move rfl) rfl ?_
   refine l_skip (wg rfl rfl rfl) rfl ?_
   refine l_skip (wg rfl rfl rfl) rfl ?_
   refine l_skip (wg rfl rfl rfl) rfl ?_
   refine l_skip (wg rfl rfl rfl) rfl ?_
   refine l_val wn (r_pick rfl rfl) rfl ?_
   refine l_val wn (r_assign rfl) rfl ?_
   refine l_nil (e_go hK10 ?_)
   refine c_ret (e_in_r (e_then_r (e_ret1 (.inl rfl) Try.results38 (rv_tmp rfl) fun w1 hM => ?_)))
   exact ret_ok (congrArg Value.bool (decide_eq_false (fun g => h5 (((Sh.may1 h1 h4).1 g).1))).symm) hM
 refine c_seq fun _ hK11 => ?_
 refine c_region ?_
 refine l_val wn (r_eql rfl rfl) rfl ?_
 refine l_val wn (r_assign rfl) rfl ?_
 refine l_nil (e_go hK11 ?_)
 refine c_cond rfl (fun h8 => ?_) (fun h8 => ?_)
 · refine c_seq fun _ hK12 => ?_
   refine c_region ?_
   refine l_val wn (r_fa rfl fld61_1) rfl ?_
   refine l_val wn (r_lb 0 rfl rfl rfl flat3) rfl ?_
   refine l_val wn (r_fa rfl fld27_7) rfl ?_
   refine l_val wn (r_lb 1 rfl rfl rfl flat3) rfl ?_
   refine l_val wn (r_geq rfl rfl) rfl ?_
   refine l_val wn (r_move rfl) rfl ?_
   refine l_case (t := 57) rfl (fun h9 => ?_) (fun h9 => ?_)
   · refine l_val (wg rfl rfl rfl) (r_fa rfl fld61_2) rfl ?_
     refine l_val (wg rfl rfl rfl) (r_lb 0 rfl rfl rfl flat3) rfl ?_
     refine l_val (wg rfl rfl rfl) (r_fa rfl fld27_8) rfl ?_
     refine l_val (wg rfl rfl rfl) (r_lb 1 rfl rfl rfl flat3) rfl ?_
     refine l_val (wg rfl rfl rfl) (r_leq rfl rfl) rfl ?_
     refine l_val wn (r_pick rfl rfl) rfl ?_
     refine l_val wn (r_move rfl) rfl ?_
     refine l_case (t := 64) rfl (fun h10 => ?_) (fun h10 => ?_)
     · refine l_val (wg rfl rfl rfl) (r_fa rfl fld61_1) rfl ?_
       refine l_val (wg rfl rfl rfl) (r_lb 0 rfl rfl rfl flat3) rfl ?_
       refine l_val (wg rfl rfl rfl) (r_rem rfl rfl (by omega)) rfl ?_
       refine l_val (wg rfl rfl rfl) (r_eql rfl rfl) rfl ?_
       refine l_val wn (r_pick rfl rfl) rfl ?_
       refine l_val wn (r_move rfl) rfl ?_
       refine l_case (t := 70) rfl (fun h11 => ?_) (fun h11 => ?_)
       · refine l_val (wg rfl rfl rfl) (r_fa rfl fld61_2) rfl ?_
         refine l_val (wg rfl rfl rfl) (r_lb 0 rfl rfl rfl flat3) rfl ?_
         refine l_val (wg rfl rfl rfl) (r_rem rfl rfl (by omega)) rfl ?_
         refine l_val (wg rfl rfl rfl) (r_eql rfl rfl) rfl ?_
         refine l_val wn (r_pick rfl rfl) rfl ?_
         refine l_val wn (r_assign rfl) rfl ?_
         refine l_nil (e_go hK12 ?_)
         refine c_ret (e_in_r (e_then_r (e_ret1 (.inl rfl) Try.results38 (rv_tmp rfl) fun w1 hM => ?_)))
         exact ret_ok (congrArg Value.bool (decide_eq_decide.2 ⟨fun g => (Sh.may2 h1 h8).2 ⟨h9, h10, h11, g⟩, fun g => ((Sh.may2 h1 h8).1 g).2.2.2⟩)) hM
       refine l_skip (wg rfl rfl rfl) rfl ?_
       refine l_skip (wg rfl rfl rfl) rfl ?_
       refine l_skip (wg rfl rfl rfl) rfl ?_
       refine l_skip (wg rfl rfl rfl) rfl ?_
       refine l_val wn (r_pick rfl rfl) rfl ?_
       refine l_val wn (r_assign rfl) rfl ?_
       refine l_nil (e_go hK12 ?_)
       refine c_ret (e_in_r (e_then_r (e_ret1 (.inl rfl) Try.results38 (rv_tmp rfl) fun w1 hM => ?_)))
       exact ret_ok (congrArg Value.bool (decide_eq_false (fun g => h11 (((Sh.may2 h1 h8).1 g).2.2.1))).symm) hM
     refine l_skip (wg rfl rfl rfl) rfl ?_
     refine l_skip (wg rfl rfl rfl) rfl ?_
     refine l_skip (wg rfl rfl rfl) rfl ?_
     refine l_skip (wg rfl rfl rfl) rfl ?_
     refine l_val wn (r_pick rfl rfl) rfl ?_
     refine l_val wn (r_move rfl) rfl ?_
     refine l_skip (wg rfl rfl rfl) rfl ?_
     refine l_skip (wg rfl rfl rfl) rfl ?_
     refine l_skip (wg rfl rfl rfl) rfl ?_
     refine l_skip (wg rfl rfl rfl) rfl ?_
     refine l_val wn (r_pick rfl rfl) rfl ?_
     refine l_val wn (r_assign rfl) rfl ?_
     refine l_nil (e_go hK12 ?_)
     refine c_ret (e_in_r (e_then_r (e_ret1 (.inl rfl) Try.results38 (rv_tmp rfl) fun w1 hM => ?_)))
     exact ret_ok (congrArg Value.bool (decide_eq_false (fun g => h10 (((Sh.may2 h1 h8).1 g).2.1))).symm) hM
   refine l_skip (wg rfl rfl rfl) rfl ?_
   refine l_skip (wg rfl rfl rfl) rfl ?_
   refine l_skip (wg rfl rfl rfl) rfl ?_
   refine l_skip (wg rfl rfl rfl) rfl ?_
   refine l_skip (wg rfl rfl rfl) rfl ?_
   refine l_val wn (r_pick rfl rfl) rfl ?_
   refine l_val wn (r_move rfl) rfl ?_
   refine l_skip (wg rfl rfl rfl) rfl ?_
   refine l_skip (wg rfl rfl rfl) rfl ?_
   refine l_skip (wg rfl rfl rfl) rfl ?_
   refine l_skip (wg rfl rfl rfl) rfl ?_
   refine l_val wn (r_pick rfl rfl) rfl ?_
   refine l_val wn (r_move rfl) rfl ?_
   refine l_skip (wg rfl rfl rfl) rfl ?_
   refine l_skip (wg rfl rfl rfl) rfl ?_
   refine l_skip (wg rfl rfl rfl) rfl ?_
   refine l_skip (wg rfl rfl rfl) rfl ?_
   refine l_val wn (r_pick rfl rfl) rfl ?_
   refine l_val wn (r_assign rfl) rfl ?_
   refine l_nil (e_go hK12 ?_)
   refine c_ret (e_in_r (e_then_r (e_ret1 (.inl rfl) Try.results38 (rv_tmp rfl) fun w1 hM => ?_)))
   exact ret_ok (congrArg Value.bool (decide_eq_false (fun g => h9 (((Sh.may2 h1 h8).1 g).1))).symm) hM
 refine c_skip (e_in_n (e_go hK5 ?_))
 refine c_seq fun _ hK13 => ?_
 refine c_region ?_
 refine l_val wn (r_assign rfl) rfl ?_
 refine l_nil (e_go hK13 ?_)
 refine c_ret (e_ret1 (.inl rfl) Try.results38 (rv_tmp rfl) fun w1 hM => ?_)
 exact ret_ok (congrArg Value.bool (decide_eq_false (Sh.may_none h2 h4 h8)).symm) hM

theorem c_covers (z0 : Value) (z1 : Value) (z2 : Value) (z3 : Value) (z : Shelf) (lv : Value) (l : List Part) (f : Int) (t : Int) (P0 : Nat → Prop) (w : World) (hP0 : ∀ b, P0 b → b < w.heap.size) (hz0 : FlatSl P0 2 labelE z0 z.series w) (hz1 : FlatSl P0 2 sampleE z1 z.raw w) (hz2 : FlatSl P0 8 bucketE z2 z.fine w) (hz3 : FlatSl P0 8 bucketE z3 z.coarse w) (hl : FlatSl P0 3 partE lv l w)  :
    Calls Try.prog 12 #[.agg (List.toArray [z0, z1, z2, z3, .int .i64 z.rawFrom, .int .i64 z.fineFrom, .int .i64 z.fineTo, .int .i64 z.coarseFrom, .int .i64 z.coarseTo]), lv, .int .i64 f, .int .i64 t] w (Ret w (.bool (Sh.covers z l f t))) := by
 obtain ⟨z0A, z0c, rfl, hz0c, hz0m, hz0A⟩ := hz0.form
 obtain ⟨z1A, z1c, rfl, hz1c, hz1m, hz1A⟩ := hz1.form
 obtain ⟨z2A, z2c, rfl, hz2c, hz2m, hz2A⟩ := hz2.form
 obtain ⟨z3A, z3c, rfl, hz3c, hz3m, hz3A⟩ := hz3.form
 obtain ⟨lA, lc, rfl, hlc, hlm, hlA⟩ := hl.form
 refine fstart (N := 32) (vals := [.agg (List.toArray [.slice z0A z.series.length z0c, .slice z1A z.raw.length z1c, .slice z2A z.fine.length z2c, .slice z3A z.coarse.length z3c, .int .i64 z.rawFrom, .int .i64 z.fineFrom, .int .i64 z.fineTo, .int .i64 z.coarseFrom, .int .i64 z.coarseTo]), .slice lA l.length lc, .int .i64 f, .int .i64 t]) (S := Mem w ⟨no, P0⟩ [slP 2 labelE (.slice z0A z.series.length z0c) z.series, slP 2 sampleE (.slice z1A z.raw.length z1c) z.raw, slP 8 bucketE (.slice z2A z.fine.length z2c) z.fine, slP 8 bucketE (.slice z3A z.coarse.length z3c) z.coarse, slP 3 partE (.slice lA l.length lc) l]) Try.func12 rfl rfl rfl (Mem.ofDatsP hP0 (dc (dlp hz0) (dc (dlp hz1) (dc (dlp hz2) (dc (dlp hz3) (dc (dlp hl) dn)))))) ?_
 refine c_seq fun _ hK1 => ?_
 refine c_region ?_
 refine l_box wn rfl rfl fun b4 => ?_
 refine l_val wn (r_assign rfl) rfl ?_
 refine l_nil (e_go hK1 ?_)
 refine c_seq fun _ hK2 => ?_
 refine c_seq fun _ hK3 => ?_
 refine c_region ?_
 refine l_val wn (r_move rfl) rfl ?_
 refine l_val wn (r_len rfl Try.underlying28) rfl ?_
 refine l_val wn (r_move rfl) rfl ?_
 refine l_nil (e_go hK3 ?_)
 refine c_block ?_
 refine c_loop2 (fun (k : Nat) (g : Int) => [(2, .int .i64 g), (3, .int .i64 t), (4, .pointer (some ⟨b4, 0, none⟩)), (11, .slice lA l.length lc), (12, .int .i64 (l.length : Int)), (13, .int .i64 (k : Int))]) (fun (k : Nat) (g : Int) => [.blk b4 [.slice z0A z.series.length z0c, .slice z1A z.raw.length z1c, .slice z2A z.fine.length z2c, .slice z3A z.coarse.length z3c, .int .i64 z.rawFrom, .int .i64 z.fineFrom, .int .i64 z.fineTo, .int .i64 z.coarseFrom, .int .i64 z.coarseTo] 27, slP 2 labelE (.slice z0A z.series.length z0c) z.series, slP 2 sampleE (.slice z1A z.raw.length z1c) z.raw, slP 8 bucketE (.slice z2A z.fine.length z2c) z.fine, slP 8 bucketE (.slice z3A z.coarse.length z3c) z.coarse, slP 3 partE (.slice lA l.length lc) l]) (fun (k : Nat) (g : Int) => k ≤ l.length ∧ Sh.covers z l f t = Sh.covers z (l.drop k) g t) (fun (k : Nat) (g : Int) => l.length - k) 0 f (sc rfl (sc rfl (sc rfl (sc rfl (sc rfl (sc (ji (by omega)) sn)))))) (fun _ h => h) ?_ (fun k g hI1 => ?_)
 · exact ⟨by omega, rfl⟩
 refine c_seq fun _ hK4 => ?_
 refine c_region ?_
 refine l_val wn (r_lss rfl rfl) rfl ?_
 refine l_nil (e_go hK4 ?_)
 refine c_seq fun _ hK5 => ?_
 refine c_cond rfl (fun h1 => ?_) (fun h1 => ?_)
 · refine c_skip (e_go hK5 ?_)
   refine c_seq fun _ hK6 => ?_
   refine c_block ?_
   refine c_seq fun _ hK7 => ?_
   refine c_region ?_
   obtain ⟨ad1, hd1⟩ := hlA (ne_nil (i := k) (by first | omega | decide | (simp only [List.length_cons, List.length_nil, List.length_append, List.length_take, List.length_set]; omega)))
   refine l_val wn (r_ia (i := k) rfl hd1 rfl (by omega) (by first | omega | decide | (simp only [List.length_cons, List.length_nil, List.length_append, List.length_take, List.length_set]; omega)) Try.underlying28 inf61) rfl ?_
   obtain ⟨s1, hs1⟩ : ∃ x, l[k]? = some x := ⟨_, List.getElem?_eq_getElem (by first | omega | decide | (simp only [List.length_cons, List.length_nil, List.length_append, List.length_take, List.length_set]; omega))⟩
   refine l_val wn (r_pln 5 [.int .i64 s1.tier, .int .i64 s1.frm, .int .i64 s1.to] rfl rfl hd1 hs1 rfl rfl agg61 inf61) rfl ?_
   refine l_alloc wn inf61 rfl fun b10 => ?_
   refine l_stn 0 wn rfl rfl rfl inf61 rfl rfl rfl ?_
   refine l_nil (e_go hK7 ?_)
   refine c_seq fun _ hK8 => ?_
   refine c_cut [(3, .int .i64 t), (4, .pointer (some ⟨b4, 0, none⟩)), (10, .pointer (some ⟨b10, 0, none⟩)), (11, .slice lA l.length lc), (12, .int .i64 (l.length : Int)), (13, .int .i64 (k : Int)), (25, .bool (decide ((s1.frm ≠ g) ∨ (¬ (Sh.may z s1)))))] (Mem w ⟨no, P0⟩ [.blk b10 [.int .i64 s1.tier, .int .i64 s1.frm, .int .i64 s1.to] 61, .blk b4 [.slice z0A z.series.length z0c, .slice z1A z.raw.length z1c, .slice z2A z.fine.length z2c, .slice z3A z.coarse.length z3c, .int .i64 z.rawFrom, .int .i64 z.fineFrom, .int .i64 z.fineTo, .int .i64 z.coarseFrom, .int .i64 z.coarseTo] 27, slP 2 labelE (.slice z0A z.series.length z0c) z.series, slP 2 sampleE (.slice z1A z.raw.length z1c) z.raw, slP 8 bucketE (.slice z2A z.fine.length z2c) z.fine, slP 8 bucketE (.slice z3A z.coarse.length z3c) z.coarse, slP 3 partE (.slice lA l.length lc) l]) (fun _ hK9 => ?_) ?_
   · refine c_region ?_
     refine l_val wn (r_fa rfl fld61_1) rfl ?_
     refine l_val wn (r_lb 0 rfl rfl rfl flat3) rfl ?_
     refine l_val wn (r_move rfl) rfl ?_
     refine l_val wn (r_neq rfl rfl) rfl ?_
     refine l_val wn (r_move rfl) rfl ?_
     refine l_case (t := 21) rfl (fun h2 => ?_) (fun h2 => ?_)
     · refine l_skip (wg rfl rfl rfl) rfl ?_
       refine l_skip (wg rfl rfl rfl) rfl ?_
       refine l_skip (wg rfl rfl rfl) rfl ?_
       refine l_val wn (r_pick rfl rfl) rfl ?_
       refine l_nil (e_cut hK9 (sc rfl (sc rfl (sc rfl (sc rfl (sc rfl (sc rfl (sc (jt (Or.inl h2)) sn))))))) (fun _ h => h))
     refine l_val (wg rfl rfl rfl) (r_lbn 0 [.int .i64 s1.tier, .int .i64 s1.frm, .int .i64 s1.to] rfl rfl rfl rfl agg61 inf61) rfl ?_
     refine l_callF (wg rfl rfl rfl) rfl Try.call37 rfl (fun w1 hM => c_may b4 _ _ _ _ z s1 w1 (hM.blk (i := 1) rfl)) ?_
     refine l_val (wg rfl rfl rfl) (r_not rfl) rfl ?_
     refine l_val wn (r_pick rfl rfl) rfl ?_
     refine l_nil (e_cut hK9 (sc rfl (sc rfl (sc rfl (sc rfl (sc rfl (sc rfl (sc (jp (iff_or_right h2 Iff.rfl)) sn))))))) (fun _ h => h))
   refine c_cond rfl (fun h3 => ?_) (fun h3 => ?_)
   · refine c_seq fun _ hK10 => ?_
     refine c_region ?_
     refine l_val wn (r_assign rfl) rfl ?_
     refine l_nil (e_go hK10 ?_)
     refine c_ret (e_then_r (e_in_r (e_then_r (e_loop2_r (e_in_r (e_then_r (e_ret1 (.inl rfl) Try.results12 (rv_tmp rfl) fun w1 hM => ?_)))))))
     exact ret_ok (congrArg Value.bool (by rw [hI1.2, Sh.covers_step hs1, Sh.cov_no h3])) hM
   refine c_skip (e_go hK8 ?_)
   refine c_region ?_
   refine l_val wn (r_fa rfl fld61_2) rfl ?_
   refine l_val wn (r_lb 0 rfl rfl rfl flat3) rfl ?_
   refine l_val wn (r_assign rfl) rfl ?_
   refine l_nil (e_in_n (e_go hK6 ?_))
   refine c_region ?_
   refine l_val wn (r_addn rfl rfl (by omega)) rfl ?_
   refine l_val wn (r_move rfl) rfl ?_
   refine l_nil (e_round2 (k + 1) s1.to (sc rfl (sc rfl (sc rfl (sc rfl (sc rfl (sc (ji (by omega)) sn)))))) (fun _ h => (h.sel [1, 2, 3, 4, 5, 6] (by decide) rfl)) ?_ ?_)
   · exact ⟨by omega, by rw [hI1.2, Sh.covers_step hs1, Sh.cov_yes h3]⟩
   omega
 refine c_exit (e_then_x (e_loop2_x (e_in_hit (e_go hK2 ?_))))
 refine c_seq fun _ hK11 => ?_
 refine c_region ?_
 refine l_val wn (r_move rfl) rfl ?_
 refine l_val wn (r_move rfl) rfl ?_
 refine l_val wn (r_eql rfl rfl) rfl ?_
 refine l_val wn (r_assign rfl) rfl ?_
 refine l_nil (e_go hK11 ?_)
 refine c_ret (e_ret1 (.inl rfl) Try.results12 (rv_tmp rfl) fun w1 hM => ?_)
 exact ret_ok (congrArg Value.bool (by rw [hI1.2, Sh.covers_end (by omega)])) hM

theorem c_refCovers (z0 : Value) (z1 : Value) (z2 : Value) (z3 : Value) (z : Shelf) (lv : Value) (l : List Part) (f : Int) (t : Int) (P0 : Nat → Prop) (w : World) (hP0 : ∀ b, P0 b → b < w.heap.size) (hz0 : FlatSl P0 2 labelE z0 z.series w) (hz1 : FlatSl P0 2 sampleE z1 z.raw w) (hz2 : FlatSl P0 8 bucketE z2 z.fine w) (hz3 : FlatSl P0 8 bucketE z3 z.coarse w) (hl : FlatSl P0 3 partE lv l w)  :
    Calls Try.prog 13 #[.agg (List.toArray [z0, z1, z2, z3, .int .i64 z.rawFrom, .int .i64 z.fineFrom, .int .i64 z.fineTo, .int .i64 z.coarseFrom, .int .i64 z.coarseTo]), lv, .int .i64 f, .int .i64 t] w (Ret w (.bool (Sh.covers z l f t))) := by
 obtain ⟨z0A, z0c, rfl, hz0c, hz0m, hz0A⟩ := hz0.form
 obtain ⟨z1A, z1c, rfl, hz1c, hz1m, hz1A⟩ := hz1.form
 obtain ⟨z2A, z2c, rfl, hz2c, hz2m, hz2A⟩ := hz2.form
 obtain ⟨z3A, z3c, rfl, hz3c, hz3m, hz3A⟩ := hz3.form
 obtain ⟨lA, lc, rfl, hlc, hlm, hlA⟩ := hl.form
 refine fstart (N := 35) (vals := [.agg (List.toArray [.slice z0A z.series.length z0c, .slice z1A z.raw.length z1c, .slice z2A z.fine.length z2c, .slice z3A z.coarse.length z3c, .int .i64 z.rawFrom, .int .i64 z.fineFrom, .int .i64 z.fineTo, .int .i64 z.coarseFrom, .int .i64 z.coarseTo]), .slice lA l.length lc, .int .i64 f, .int .i64 t]) (S := Mem w ⟨no, P0⟩ [slP 2 labelE (.slice z0A z.series.length z0c) z.series, slP 2 sampleE (.slice z1A z.raw.length z1c) z.raw, slP 8 bucketE (.slice z2A z.fine.length z2c) z.fine, slP 8 bucketE (.slice z3A z.coarse.length z3c) z.coarse, slP 3 partE (.slice lA l.length lc) l]) Try.func13 rfl rfl rfl (Mem.ofDatsP hP0 (dc (dlp hz0) (dc (dlp hz1) (dc (dlp hz2) (dc (dlp hz3) (dc (dlp hl) dn)))))) ?_
 refine c_seq fun _ hK1 => ?_
 refine c_region ?_
 refine l_box wn rfl rfl fun b4 => ?_
 refine l_val wn (r_assign rfl) rfl ?_
 refine l_nil (e_go hK1 ?_)
 refine c_seq fun _ hK2 => ?_
 refine c_region ?_
 refine l_val wn (r_move rfl) rfl ?_
 refine l_val wn (r_assign rfl) rfl ?_
 refine l_nil (e_go hK2 ?_)
 refine c_seq fun _ hK3 => ?_
 refine c_seq fun _ hK4 => ?_
 refine c_region ?_
 refine l_val wn (r_move rfl) rfl ?_
 refine l_val wn (r_len rfl Try.underlying28) rfl ?_
 refine l_val wn (r_move rfl) rfl ?_
 refine l_nil (e_go hK4 ?_)
 refine c_block ?_
 refine c_loop2 (fun (k : Nat) (g : Int) => [(3, .int .i64 t), (4, .pointer (some ⟨b4, 0, none⟩)), (9, .int .i64 g), (13, .slice lA l.length lc), (14, .int .i64 (l.length : Int)), (15, .int .i64 (k : Int))]) (fun (k : Nat) (g : Int) => [.blk b4 [.slice z0A z.series.length z0c, .slice z1A z.raw.length z1c, .slice z2A z.fine.length z2c, .slice z3A z.coarse.length z3c, .int .i64 z.rawFrom, .int .i64 z.fineFrom, .int .i64 z.fineTo, .int .i64 z.coarseFrom, .int .i64 z.coarseTo] 27, slP 2 labelE (.slice z0A z.series.length z0c) z.series, slP 2 sampleE (.slice z1A z.raw.length z1c) z.raw, slP 8 bucketE (.slice z2A z.fine.length z2c) z.fine, slP 8 bucketE (.slice z3A z.coarse.length z3c) z.coarse, slP 3 partE (.slice lA l.length lc) l]) (fun (k : Nat) (g : Int) => k ≤ l.length ∧ Sh.covers z l f t = Sh.covers z (l.drop k) g t) (fun (k : Nat) (g : Int) => l.length - k) 0 f (sc rfl (sc rfl (sc rfl (sc rfl (sc rfl (sc (ji (by omega)) sn)))))) (fun _ h => h) ?_ (fun k g hI1 => ?_)
 · exact ⟨by omega, rfl⟩
 refine c_seq fun _ hK5 => ?_
 refine c_region ?_
 refine l_val wn (r_lss rfl rfl) rfl ?_
 refine l_nil (e_go hK5 ?_)
 refine c_seq fun _ hK6 => ?_
 refine c_cond rfl (fun h1 => ?_) (fun h1 => ?_)
 · refine c_skip (e_go hK6 ?_)
   refine c_seq fun _ hK7 => ?_
   refine c_block ?_
   refine c_seq fun _ hK8 => ?_
   refine c_region ?_
   obtain ⟨ad1, hd1⟩ := hlA (ne_nil (i := k) (by first | omega | decide | (simp only [List.length_cons, List.length_nil, List.length_append, List.length_take, List.length_set]; omega)))
   refine l_val wn (r_ia (i := k) rfl hd1 rfl (by omega) (by first | omega | decide | (simp only [List.length_cons, List.length_nil, List.length_append, List.length_take, List.length_set]; omega)) Try.underlying28 inf61) rfl ?_
   obtain ⟨s1, hs1⟩ : ∃ x, l[k]? = some x := ⟨_, List.getElem?_eq_getElem (by first | omega | decide | (simp only [List.length_cons, List.length_nil, List.length_append, List.length_take, List.length_set]; omega))⟩
   refine l_val wn (r_pln 5 [.int .i64 s1.tier, .int .i64 s1.frm, .int .i64 s1.to] rfl rfl hd1 hs1 rfl rfl agg61 inf61) rfl ?_
   refine l_alloc wn inf61 rfl fun b11 => ?_
   refine l_stn 0 wn rfl rfl rfl inf61 rfl rfl rfl ?_
   refine l_nil (e_go hK8 ?_)
   refine c_seq fun _ hK9 => ?_
   refine c_cut [(3, .int .i64 t), (4, .pointer (some ⟨b4, 0, none⟩)), (11, .pointer (some ⟨b11, 0, none⟩)), (13, .slice lA l.length lc), (14, .int .i64 (l.length : Int)), (15, .int .i64 (k : Int)), (28, .bool (decide ((¬ (Sh.may z s1)) ∨ (s1.frm ≠ g))))] (Mem w ⟨no, P0⟩ [.blk b11 [.int .i64 s1.tier, .int .i64 s1.frm, .int .i64 s1.to] 61, .blk b4 [.slice z0A z.series.length z0c, .slice z1A z.raw.length z1c, .slice z2A z.fine.length z2c, .slice z3A z.coarse.length z3c, .int .i64 z.rawFrom, .int .i64 z.fineFrom, .int .i64 z.fineTo, .int .i64 z.coarseFrom, .int .i64 z.coarseTo] 27, slP 2 labelE (.slice z0A z.series.length z0c) z.series, slP 2 sampleE (.slice z1A z.raw.length z1c) z.raw, slP 8 bucketE (.slice z2A z.fine.length z2c) z.fine, slP 8 bucketE (.slice z3A z.coarse.length z3c) z.coarse, slP 3 partE (.slice lA l.length lc) l]) (fun _ hK10 => ?_) ?_
   · refine c_region ?_
     refine l_val wn (r_lbn 1 [.slice z0A z.series.length z0c, .slice z1A z.raw.length z1c, .slice z2A z.fine.length z2c, .slice z3A z.coarse.length z3c, .int .i64 z.rawFrom, .int .i64 z.fineFrom, .int .i64 z.fineTo, .int .i64 z.coarseFrom, .int .i64 z.coarseTo] rfl rfl rfl rfl agg27 inf27) rfl ?_
     refine l_val wn (r_lbn 0 [.int .i64 s1.tier, .int .i64 s1.frm, .int .i64 s1.to] rfl rfl rfl rfl agg61 inf61) rfl ?_
     refine l_callF wn rfl Try.call38 rfl (fun w1 hM => c_refMay _ _ _ _ z s1 (In w1) w1 (fun _ h => h) (hM.slp 2 rfl) (hM.slp 3 rfl) (hM.slp 4 rfl) (hM.slp 5 rfl)) ?_
     refine l_val wn (r_not rfl) rfl ?_
     refine l_val wn (r_move rfl) rfl ?_
     refine l_case (t := 23) rfl (fun h2 => ?_) (fun h2 => ?_)
     · refine l_skip (wg rfl rfl rfl) rfl ?_
       refine l_skip (wg rfl rfl rfl) rfl ?_
       refine l_skip (wg rfl rfl rfl) rfl ?_
       refine l_skip (wg rfl rfl rfl) rfl ?_
       refine l_val wn (r_pick rfl rfl) rfl ?_
       refine l_nil (e_cut hK10 (sc rfl (sc rfl (sc rfl (sc rfl (sc rfl (sc rfl (sc (jt (Or.inl h2)) sn))))))) (fun _ h => h))
     refine l_val (wg rfl rfl rfl) (r_fa rfl fld61_1) rfl ?_
     refine l_val (wg rfl rfl rfl) (r_lb 0 rfl rfl rfl flat3) rfl ?_
     refine l_val (wg rfl rfl rfl) (r_move rfl) rfl ?_
     refine l_val (wg rfl rfl rfl) (r_neq rfl rfl) rfl ?_
     refine l_val wn (r_pick rfl rfl) rfl ?_
     refine l_nil (e_cut hK10 (sc rfl (sc rfl (sc rfl (sc rfl (sc rfl (sc rfl (sc (jp (iff_or_right h2 Iff.rfl)) sn))))))) (fun _ h => h))
   refine c_cond rfl (fun h3 => ?_) (fun h3 => ?_)
   · refine c_seq fun _ hK11 => ?_
     refine c_region ?_
     refine l_val wn (r_assign rfl) rfl ?_
     refine l_nil (e_go hK11 ?_)
     refine c_ret (e_then_r (e_in_r (e_then_r (e_loop2_r (e_in_r (e_then_r (e_ret1 (.inl rfl) Try.results13 (rv_tmp rfl) fun w1 hM => ?_)))))))
     exact ret_ok (congrArg Value.bool (by rw [hI1.2, Sh.covers_step hs1, Sh.cov_no' h3])) hM
   refine c_skip (e_go hK9 ?_)
   refine c_region ?_
   refine l_val wn (r_fa rfl fld61_2) rfl ?_
   refine l_val wn (r_lb 0 rfl rfl rfl flat3) rfl ?_
   refine l_val wn (r_assign rfl) rfl ?_
   refine l_nil (e_in_n (e_go hK7 ?_))
   refine c_region ?_
   refine l_val wn (r_addn rfl rfl (by omega)) rfl ?_
   refine l_val wn (r_move rfl) rfl ?_
   refine l_nil (e_round2 (k + 1) s1.to (sc rfl (sc rfl (sc rfl (sc rfl (sc rfl (sc (ji (by omega)) sn)))))) (fun _ h => (h.sel [1, 2, 3, 4, 5, 6] (by decide) rfl)) ?_ ?_)
   · exact ⟨by omega, by rw [hI1.2, Sh.covers_step hs1, Sh.cov_yes' h3]⟩
   omega
 refine c_exit (e_then_x (e_loop2_x (e_in_hit (e_go hK3 ?_))))
 refine c_seq fun _ hK12 => ?_
 refine c_region ?_
 refine l_val wn (r_move rfl) rfl ?_
 refine l_val wn (r_move rfl) rfl ?_
 refine l_val wn (r_eql rfl rfl) rfl ?_
 refine l_val wn (r_assign rfl) rfl ?_
 refine l_nil (e_go hK12 ?_)
 refine c_ret (e_ret1 (.inl rfl) Try.results13 (rv_tmp rfl) fun w1 hM => ?_)
 exact ret_ok (congrArg Value.bool (by rw [hI1.2, Sh.covers_end (by omega)])) hM

theorem c_count (lv : Value) (l : List Bucket) (p : Part) (w : World) (hl : FlatSl (In w) 8 bucketE lv l w) (hl1 : l.length ≤ 1048576) :
    Calls Try.prog 42 #[lv, .agg (partE p).toArray] w (Ret w (.int .i64 ((Sh.bIn l p.frm p.to).length : Int))) := by
 obtain ⟨lA, lc, rfl, hlc, hlm, hlA⟩ := hl.form
 refine fstart (N := 30) (vals := [.slice lA l.length lc, .agg (partE p).toArray]) (S := Mem w no [slO (In w) 8 bucketE (.slice lA l.length lc) l]) Try.func42 rfl rfl rfl (Mem.ofDats (dc (dl hl) dn)) ?_
 refine c_seq fun _ hK1 => ?_
 refine c_region ?_
 refine l_box wn rfl rfl fun b3 => ?_
 refine l_val wn (r_assign rfl) rfl ?_
 refine l_nil (e_go hK1 ?_)
 refine c_seq fun _ hK2 => ?_
 refine c_region ?_
 refine l_val wn (r_assign rfl) rfl ?_
 refine l_nil (e_go hK2 ?_)
 refine c_seq fun _ hK3 => ?_
 refine c_seq fun _ hK4 => ?_
 refine c_region ?_
 refine l_val wn (r_move rfl) rfl ?_
 refine l_val wn (r_len rfl Try.underlying25) rfl ?_
 refine l_val wn (r_move rfl) rfl ?_
 refine l_nil (e_go hK4 ?_)
 refine c_block ?_
 refine c_loop1 (fun (k : Nat) => [(3, .pointer (some ⟨b3, 0, none⟩)), (5, .int .i64 ((Sh.bIn (l.take k) p.frm p.to).length : Int)), (8, .slice lA l.length lc), (9, .int .i64 (l.length : Int)), (10, .int .i64 (k : Int))]) (fun (k : Nat) => [.blk b3 [.int .i64 p.tier, .int .i64 p.frm, .int .i64 p.to] 61, slO (In w) 8 bucketE (.slice lA l.length lc) l]) (fun (k : Nat) => k ≤ l.length) (fun (k : Nat) => l.length - k) 0 (sc rfl (sc (ji (by first | omega | rfl | (rw [hst]; simp) | (rw [hst]))) (sc rfl (sc rfl (sc (ji (by first | omega | rfl | (rw [hst]; simp) | (rw [hst]))) sn))))) (fun _ h => h) ?_ (fun k hI1 => ?_)
 · omega
 have hlen := Nat.le_trans (Sh.bIn_len (l.take k) p.frm p.to) (List.length_take_le k l)
 refine c_seq fun _ hK5 => ?_
 refine c_region ?_
 refine l_val wn (r_lss rfl rfl) rfl ?_
 refine l_nil (e_go hK5 ?_)
 refine c_seq fun _ hK6 => ?_
 refine c_cond rfl (fun h1 => ?_) (fun h1 => ?_)
 · refine c_skip (e_go hK6 ?_)
   refine c_seq fun _ hK7 => ?_
   refine c_block ?_
   refine c_seq fun _ hK8 => ?_
   refine c_region ?_
   obtain ⟨ad1, hd1⟩ := hlA (ne_nil (i := k) (by first | omega | decide | (simp only [List.length_cons, List.length_nil, List.length_append, List.length_take, List.length_set]; omega)))
   refine l_val wn (r_ia (i := k) rfl hd1 rfl (by omega) (by first | omega | decide | (simp only [List.length_cons, List.length_nil, List.length_append, List.length_take, List.length_set]; omega)) Try.underlying25 inf78) rfl ?_
   obtain ⟨s1, hs1⟩ : ∃ x, l[k]? = some x := ⟨_, List.getElem?_eq_getElem (by first | omega | decide | (simp only [List.length_cons, List.length_nil, List.length_append, List.length_take, List.length_set]; omega))⟩
   refine l_val wn (r_eln 1 [.int .i64 s1.at_, .int .i64 s1.sum.count, .int .i64 s1.sum.total, .int .i64 s1.sum.min, .int .i64 s1.sum.max, .int .i64 s1.sum.first, .int .i64 s1.sum.last, .int .i64 s1.sum.rise] rfl rfl hd1 hs1 rfl rfl agg78 inf78) rfl ?_
   refine l_alloc wn inf78 rfl fun b7 => ?_
   refine l_stn 0 wn rfl rfl rfl inf78 rfl rfl rfl ?_
   refine l_nil (e_go hK8 ?_)
   refine c_seq fun _ hK9 => ?_
   refine c_region ?_
   refine l_val wn (r_fa rfl fld78_0) rfl ?_
   refine l_val wn (r_lb 0 rfl rfl rfl flat3) rfl ?_
   refine l_val wn (r_fa rfl fld61_1) rfl ?_
   refine l_val wn (r_lb 1 rfl rfl rfl flat3) rfl ?_
   refine l_val wn (r_geq rfl rfl) rfl ?_
   refine l_val wn (r_move rfl) rfl ?_
   refine l_case (t := 19) rfl (fun h2 => ?_) (fun h2 => ?_)
   · refine l_val (wg rfl rfl rfl) (r_fa rfl fld78_0) rfl ?_
     refine l_val (wg rfl rfl rfl) (r_lb 0 rfl rfl rfl flat3) rfl ?_
     refine l_val (wg rfl rfl rfl) (r_fa rfl fld61_2) rfl ?_
     refine l_val (wg rfl rfl rfl) (r_lb 1 rfl rfl rfl flat3) rfl ?_
     refine l_val (wg rfl rfl rfl) (r_lss rfl rfl) rfl ?_
     refine l_val wn (r_pick rfl rfl) rfl ?_
     refine l_nil (e_go hK9 ?_)
     refine c_cond rfl (fun h3 => ?_) (fun h3 => ?_)
     · refine c_region ?_
       refine l_val wn (r_move rfl) rfl ?_
       refine l_val wn (r_addn rfl rfl (by omega)) rfl ?_
       refine l_val wn (r_assign rfl) rfl ?_
       refine l_nil (e_in_n (e_go hK7 ?_))
       refine c_region ?_
       refine l_val wn (r_addn rfl rfl (by omega)) rfl ?_
       refine l_val wn (r_move rfl) rfl ?_
       have hst := (Sh.bIn_succ (a := p.frm) (b := p.to) hs1).trans (if_pos (by omega))
       refine l_nil (e_round1 (k + 1) (sc rfl (sc (ji (by first | omega | rfl | (rw [hst]; simp) | (rw [hst]))) (sc rfl (sc rfl (sc (ji (by first | omega | rfl | (rw [hst]; simp) | (rw [hst]))) sn))))) (fun _ h => (h.sel [1, 2] (by decide) rfl)) ?_ ?_)
       · omega
       omega
     refine c_skip (e_in_n (e_go hK7 ?_))
     refine c_region ?_
     refine l_val wn (r_addn rfl rfl (by omega)) rfl ?_
     refine l_val wn (r_move rfl) rfl ?_
     have hst := (Sh.bIn_succ (a := p.frm) (b := p.to) hs1).trans (if_neg (by omega))
     refine l_nil (e_round1 (k + 1) (sc rfl (sc (ji (by first | omega | rfl | (rw [hst]; simp) | (rw [hst]))) (sc rfl (sc rfl (sc (ji (by first | omega | rfl | (rw [hst]; simp) | (rw [hst]))) sn))))) (fun _ h => (h.sel [1, 2] (by decide) rfl)) ?_ ?_)
     · omega
     omega
   refine l_skip (wg rfl rfl rfl) rfl ?_
   refine l_skip (wg rfl rfl rfl) rfl ?_
   refine l_skip (wg rfl rfl rfl) rfl ?_
   refine l_skip (wg rfl rfl rfl) rfl ?_
   refine l_skip (wg rfl rfl rfl) rfl ?_
   refine l_val wn (r_pick rfl rfl) rfl ?_
   refine l_nil (e_go hK9 ?_)
   refine c_false rfl rfl ?_
   refine c_skip (e_in_n (e_go hK7 ?_))
   refine c_region ?_
   refine l_val wn (r_addn rfl rfl (by omega)) rfl ?_
   refine l_val wn (r_move rfl) rfl ?_
   have hst := (Sh.bIn_succ (a := p.frm) (b := p.to) hs1).trans (if_neg (by omega))
   refine l_nil (e_round1 (k + 1) (sc rfl (sc (ji (by first | omega | rfl | (rw [hst]; simp) | (rw [hst]))) (sc rfl (sc rfl (sc (ji (by first | omega | rfl | (rw [hst]; simp) | (rw [hst]))) sn))))) (fun _ h => (h.sel [1, 2] (by decide) rfl)) ?_ ?_)
   · omega
   omega
 refine c_exit (e_then_x (e_loop1_x (e_in_hit (e_go hK3 ?_))))
 refine c_seq fun _ hK10 => ?_
 refine c_region ?_
 refine l_val wn (r_move rfl) rfl ?_
 refine l_val wn (r_assign rfl) rfl ?_
 refine l_nil (e_go hK10 ?_)
 refine c_ret (e_ret1 (.inl rfl) Try.results42 (rv_tmp rfl) fun w1 hM => ?_)
 exact ret_ok (congrArg (Value.int .i64) (by rw [List.take_of_length_le (by omega)])) hM

end Go.Proofs.Ytnbkennlmnnbeaa
