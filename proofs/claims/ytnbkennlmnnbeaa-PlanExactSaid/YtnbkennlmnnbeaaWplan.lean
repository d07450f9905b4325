/-
  Walks: what each function hands back.
-/
import Derived.Test.YtnbkennlmnnbeaaWshelf3
import Derived.Test.YtnbkennlmnnbeaaPPlan
namespace Go.Proofs.Ytnbkennlmnnbeaa
open Ex
set_option linter.unusedVariables false
set_option linter.unusedSimpArgs false
theorem c_span (zp : Nat) (z0 : Value) (z1 : Value) (z2 : Value) (z3 : Value) (z : Shelf) (tier : Int) (w : World) (hzp : w.heap[zp]? = some (.cells [z0, z1, z2, z3, .int .i64 z.rawFrom, .int .i64 z.fineFrom, .int .i64 z.fineTo, .int .i64 z.coarseFrom, .int .i64 z.coarseTo].toArray 27 (0, 0)))  :
    Calls Try.prog 69 #[.pointer (some ⟨zp, 0, none⟩), .int .i64 tier] w (Ret w (.tuple #[.int .i64 (Sh.spanFrom z tier), .int .i64 (Sh.spanTo z tier)])) := by
 refine fstart (N := 31) (vals := [.pointer (some ⟨zp, 0, none⟩), .int .i64 tier]) (S := Mem w no [datB zp [z0, z1, z2, z3, .int .i64 z.rawFrom, .int .i64 z.fineFrom, .int .i64 z.fineTo, .int .i64 z.coarseFrom, .int .i64 z.coarseTo] 27]) Try.func69 rfl rfl rfl (Mem.ofDats (dc (ddb hzp) dn)) ?_
 refine c_seq fun _ hK1 => ?_
 refine c_region ?_
 refine l_val wn (r_assign rfl) rfl ?_
 refine l_val wn (r_assign rfl) rfl ?_
 refine l_nil (e_go hK1 ?_)
 refine c_seq fun _ hK2 => ?_
 refine c_seq fun _ hK3 => ?_
 refine c_region ?_
 refine l_val wn (r_move rfl) rfl ?_
 refine l_nil (e_go hK3 ?_)
 refine c_block ?_
 refine c_seq fun _ hK4 => ?_
 refine c_region ?_
 refine l_val wn (r_eql rfl rfl) rfl ?_
 refine l_val wn (r_assign rfl) rfl ?_
 refine l_nil (e_go hK4 ?_)
 refine c_cond rfl (fun h1 => ?_) (fun h1 => ?_)
 · refine c_seq fun _ hK5 => ?_
   refine c_quiet mix (by kernel_rfl) (fun _ h => h.drew) ?_
   refine q_val wn (r_move rfl) rfl ?_
   refine q_val wn (r_nilCheck rfl) rfl ?_
   refine q_val wn (r_fa rfl fld27_5) rfl ?_
   refine q_val wn (r_ldb 0 rfl rfl rfl flat3) rfl ?_
   refine q_val wn (r_move rfl) rfl ?_
   refine q_val wn (r_nilCheck rfl) rfl ?_
   refine q_val wn (r_fa rfl fld27_6) rfl ?_
   refine q_val wn (r_ldb 0 rfl rfl rfl flat3) rfl ?_
   refine q_val wn (r_assign rfl) rfl ?_
   refine q_val wn (r_assign rfl) rfl ?_
   refine q_end (e_go hK5 ?_)
   refine c_ret (e_in_r (e_then_r (e_ret2 (.inl rfl) Try.results69 (rv_tmp rfl) (rv_tmp rfl) fun w1 hM => ?_)))
   exact ret_ok (by simp [Sh.spanFrom, Sh.spanTo, h1]) hM
 refine c_seq fun _ hK6 => ?_
 refine c_region ?_
 refine l_val wn (r_eql rfl rfl) rfl ?_
 refine l_val wn (r_assign rfl) rfl ?_
 refine l_nil (e_go hK6 ?_)
 refine c_cond rfl (fun h2 => ?_) (fun h2 => ?_)
 · refine c_seq fun _ hK7 => ?_
   refine c_quiet mix (by kernel_rfl) (fun _ h => h.drew) ?_
   refine q_val wn (r_move rfl) rfl ?_
   refine q_val wn (r_nilCheck rfl) rfl ?_
   refine q_val wn (r_fa rfl fld27_7) rfl ?_
   refine q_val wn (r_ldb 0 rfl rfl rfl flat3) rfl ?_
   refine q_val wn (r_move rfl) rfl ?_
   refine q_val wn (r_nilCheck rfl) rfl ?_
   refine q_val wn (r_fa rfl fld27_8) rfl ?_
   refine q_val wn (r_ldb 0 rfl rfl rfl flat3) rfl ?_
   refine q_val wn (r_assign rfl) rfl ?_
   refine q_val wn (r_assign rfl) rfl ?_
   refine q_end (e_go hK7 ?_)
   refine c_ret (e_in_r (e_then_r (e_ret2 (.inl rfl) Try.results69 (rv_tmp rfl) (rv_tmp rfl) fun w1 hM => ?_)))
   exact ret_ok (by simp [Sh.spanFrom, Sh.spanTo, h1, h2]) hM
 refine c_skip (e_in_n (e_go hK2 ?_))
 refine c_seq fun _ hK8 => ?_
 refine c_region ?_
 refine l_val wn (r_move rfl) rfl ?_
 refine l_val wn (r_nilCheck rfl) rfl ?_
 refine l_val wn (r_fa rfl fld27_4) rfl ?_
 refine l_val wn (r_ldb 0 rfl rfl rfl flat3) rfl ?_
 refine l_val wn (r_assign rfl) rfl ?_
 refine l_val wn (r_assign rfl) rfl ?_
 refine l_nil (e_go hK8 ?_)
 refine c_ret (e_ret2 (.inl rfl) Try.results69 (rv_tmp rfl) (rv_tmp rfl) fun w1 hM => ?_)
 exact ret_ok (by simp [Sh.spanFrom, Sh.spanTo, h1, h2]) hM

theorem c_may (zp : Nat) (z0 : Value) (z1 : Value) (z2 : Value) (z3 : Value) (z : Shelf) (p : Part) (w : World) (hzp : w.heap[zp]? = some (.cells [z0, z1, z2, z3, .int .i64 z.rawFrom, .int .i64 z.fineFrom, .int .i64 z.fineTo, .int .i64 z.coarseFrom, .int .i64 z.coarseTo].toArray 27 (0, 0)))  :
    Calls Try.prog 37 #[.pointer (some ⟨zp, 0, none⟩), .agg (partE p).toArray] w (Ret w (.bool (decide (Sh.may z p)))) := by
 refine fstart (N := 58) (vals := [.pointer (some ⟨zp, 0, none⟩), .agg (partE p).toArray]) (S := Mem w no [datB zp [z0, z1, z2, z3, .int .i64 z.rawFrom, .int .i64 z.fineFrom, .int .i64 z.fineTo, .int .i64 z.coarseFrom, .int .i64 z.coarseTo] 27]) Try.func37 rfl rfl rfl (Mem.ofDats (dc (ddb hzp) dn)) ?_
 refine c_seq fun _ hK1 => ?_
 refine c_region ?_
 refine l_box wn rfl rfl fun b3 => ?_
 refine l_val wn (r_assign rfl) rfl ?_
 refine l_nil (e_go hK1 ?_)
 refine c_seq fun _ hK2 => ?_
 refine c_cut [(0, .pointer (some ⟨zp, 0, none⟩)), (3, .pointer (some ⟨b3, 0, none⟩)), (22, .bool (decide ((p.tier < 0) ∨ ((2 < p.tier) ∨ (p.to ≤ p.frm)))))] (Mem w no [.blk b3 [.int .i64 p.tier, .int .i64 p.frm, .int .i64 p.to] 61, datB zp [z0, z1, z2, z3, .int .i64 z.rawFrom, .int .i64 z.fineFrom, .int .i64 z.fineTo, .int .i64 z.coarseFrom, .int .i64 z.coarseTo] 27]) (fun _ hK3 => ?_) ?_
 · refine c_region ?_
   refine l_val wn (r_fa rfl fld61_0) rfl ?_
   refine l_val wn (r_lb 0 rfl rfl rfl flat3) rfl ?_
   refine l_val wn (r_lss rfl rfl) rfl ?_
   refine l_val wn (r_move rfl) rfl ?_
   refine l_case (t := 11) rfl (fun h1 => ?_) (fun h1 => ?_)
   · refine l_skip (wg rfl rfl rfl) rfl ?_
     refine l_skip (wg rfl rfl rfl) rfl ?_
     refine l_skip (wg rfl rfl rfl) rfl ?_
     refine l_val wn (r_pick rfl rfl) rfl ?_
     refine l_val wn (r_move rfl) rfl ?_
     refine l_skip (wg rfl rfl rfl) rfl ?_
     refine l_skip (wg rfl rfl rfl) rfl ?_
     refine l_skip (wg rfl rfl rfl) rfl ?_
     refine l_skip (wg rfl rfl rfl) rfl ?_
     refine l_skip (wg rfl rfl rfl) rfl ?_
     refine l_val wn (r_pick rfl rfl) rfl ?_
     refine l_nil (e_cut hK3 (sc rfl (sc rfl (sc (jt (Or.inl h1)) sn))) (fun _ h => h))
   have hst := Sh.stepOf_pos p.tier
   refine l_val (wg rfl rfl rfl) (r_fa rfl fld61_0) rfl ?_
   refine l_val (wg rfl rfl rfl) (r_lb 0 rfl rfl rfl flat3) rfl ?_
   refine l_val (wg rfl rfl rfl) (r_gtr rfl rfl) rfl ?_
   refine l_val wn (r_pick rfl rfl) rfl ?_
   refine l_val wn (r_move rfl) rfl ?_
   refine l_case (t := 16) rfl (fun h2 => ?_) (fun h2 => ?_)
   · refine l_skip (wg rfl rfl rfl) rfl ?_
     refine l_skip (wg rfl rfl rfl) rfl ?_
     refine l_skip (wg rfl rfl rfl) rfl ?_
     refine l_skip (wg rfl rfl rfl) rfl ?_
     refine l_skip (wg rfl rfl rfl) rfl ?_
     refine l_val wn (r_pick rfl rfl) rfl ?_
     refine l_nil (e_cut hK3 (sc rfl (sc rfl (sc (jt (Or.inr (Or.inl h2))) sn))) (fun _ h => h))
   refine l_val (wg rfl rfl rfl) (r_fa rfl fld61_1) rfl ?_
   refine l_val (wg rfl rfl rfl) (r_lb 0 rfl rfl rfl flat3) rfl ?_
   refine l_val (wg rfl rfl rfl) (r_fa rfl fld61_2) rfl ?_
   refine l_val (wg rfl rfl rfl) (r_lb 0 rfl rfl rfl flat3) rfl ?_
   refine l_val (wg rfl rfl rfl) (r_geq rfl rfl) rfl ?_
   refine l_val wn (r_pick rfl rfl) rfl ?_
   refine l_nil (e_cut hK3 (sc rfl (sc rfl (sc (jp (iff_or_right h1 (iff_or_right h2 Iff.rfl))) sn))) (fun _ h => h))
 refine c_cond rfl (fun h3 => ?_) (fun h3 => ?_)
 · refine c_seq fun _ hK4 => ?_
   refine c_region ?_
   refine l_val wn (r_assign rfl) rfl ?_
   refine l_nil (e_go hK4 ?_)
   refine c_ret (e_then_r (e_ret1 (.inl rfl) Try.results37 (rv_tmp rfl) fun w1 hM => ?_))
   exact ret_ok (congrArg Value.bool (decide_eq_false (fun g => g.1 h3)).symm) hM
 have hst := Sh.stepOf_pos p.tier
 refine c_skip (e_go hK2 ?_)
 refine c_seq fun _ hK5 => ?_
 refine c_region ?_
 refine l_val wn (r_move rfl) rfl ?_
 refine l_val wn (r_fa rfl fld61_0) rfl ?_
 refine l_val wn (r_lb 0 rfl rfl rfl flat3) rfl ?_
 refine l_callF wn rfl Try.call69 rfl (fun w1 hM => c_span zp _ _ _ _ z p.tier w1 (hM.datb (i := 1) rfl)) ?_
 refine l_val wn (r_move rfl) rfl ?_
 refine l_val wn (r_extract rfl rfl) rfl ?_
 refine l_val wn (r_extract rfl rfl) rfl ?_
 refine l_val wn (r_assign rfl) rfl ?_
 refine l_val wn (r_assign rfl) rfl ?_
 refine l_nil (e_go hK5 ?_)
 refine c_seq fun _ hK6 => ?_
 refine c_region ?_
 refine l_val wn (r_fa rfl fld61_0) rfl ?_
 refine l_val wn (r_lb 0 rfl rfl rfl flat3) rfl ?_
 refine l_callF wn rfl Try.call39 rfl (fun w1 hM => c_Step p.tier w1) ?_
 refine l_val wn (rv_i (show _ = Sh.stepOf p.tier from rfl) (r_max rfl rfl)) rfl ?_
 refine l_val wn (r_assign rfl) rfl ?_
 refine l_nil (e_go hK6 ?_)
 refine c_seq fun _ hK7 => ?_
 refine c_region ?_
 refine l_val wn (r_fa rfl fld61_1) rfl ?_
 refine l_val wn (r_lb 0 rfl rfl rfl flat3) rfl ?_
 refine l_val wn (r_move rfl) rfl ?_
 refine l_val wn (r_geq rfl rfl) rfl ?_
 refine l_val wn (r_move rfl) rfl ?_
 refine l_case (t := 38) rfl (fun h4 => ?_) (fun h4 => ?_)
 · refine l_val (wg rfl rfl rfl) (r_fa rfl fld61_2) rfl ?_
   refine l_val (wg rfl rfl rfl) (r_lb 0 rfl rfl rfl flat3) rfl ?_
   refine l_val (wg rfl rfl rfl) (r_move rfl) rfl ?_
   refine l_val (wg rfl rfl rfl) (r_leq rfl rfl) rfl ?_
   refine l_val wn (r_pick rfl rfl) rfl ?_
   refine l_val wn (r_move rfl) rfl ?_
   refine l_case (t := 44) rfl (fun h5 => ?_) (fun h5 => ?_)
   · refine l_val (wg rfl rfl rfl) (r_fa rfl fld61_1) rfl ?_
     refine l_val (wg rfl rfl rfl) (r_lb 0 rfl rfl rfl flat3) rfl ?_
     refine l_val (wg rfl rfl rfl) (r_move rfl) rfl ?_
     refine l_val (wg rfl rfl rfl) (r_rem rfl rfl (by omega)) rfl ?_
     refine l_val (wg rfl rfl rfl) (r_eql rfl rfl) rfl ?_
     refine l_val wn (r_pick rfl rfl) rfl ?_
     refine l_val wn (r_move rfl) rfl ?_
     refine l_case (t := 51) rfl (fun h6 => ?_) (fun h6 => ?_)
     · refine l_val (wg rfl rfl rfl) (r_fa rfl fld61_2) rfl ?_
       refine l_val (wg rfl rfl rfl) (r_lb 0 rfl rfl rfl flat3) rfl ?_
       refine l_val (wg rfl rfl rfl) (r_move rfl) rfl ?_
       refine l_val (wg rfl rfl rfl) (r_rem rfl rfl (by omega)) rfl ?_
       refine l_val (wg rfl rfl rfl) (r_eql rfl rfl) rfl ?_
       refine l_val wn (r_pick rfl rfl) rfl ?_
       refine l_val wn (r_assign rfl) rfl ?_
       refine l_nil (e_go hK7 ?_)
       refine c_ret (e_ret1 (.inl rfl) Try.results37 (rv_tmp rfl) fun w1 hM => ?_)
       exact ret_ok (congrArg Value.bool (decide_eq_decide.2 ⟨fun g => ⟨h3, h4, h5, h6, g⟩, fun g => g.2.2.2.2⟩)) hM
     refine l_skip (wg rfl rfl rfl) rfl ?_
     refine l_skip (wg rfl rfl rfl) rfl ?_
     refine l_skip (wg rfl rfl rfl) rfl ?_
     refine l_skip (wg rfl rfl rfl) rfl ?_
     refine l_skip (wg rfl rfl rfl) rfl ?_
     refine l_val wn (r_pick rfl rfl) rfl ?_
     refine l_val wn (r_assign rfl) rfl ?_
     refine l_nil (e_go hK7 ?_)
     refine c_ret (e_ret1 (.inl rfl) Try.results37 (rv_tmp rfl) fun w1 hM => ?_)
     exact ret_ok (congrArg Value.bool (decide_eq_false (fun g => h6 g.2.2.2.1)).symm) hM
   refine l_skip (wg rfl rfl rfl) rfl ?_
   refine l_skip (wg rfl rfl rfl) rfl ?_
   refine l_skip (wg rfl rfl rfl) rfl ?_
   refine l_skip (wg rfl rfl rfl) rfl ?_
   refine l_skip (wg rfl rfl rfl) rfl ?_
   refine l_val wn (r_pick rfl rfl) rfl ?_
   refine l_val wn (r_move rfl) rfl ?_
   refine l_skip (wg rfl rfl rfl) rfl ?_
   refine l_skip (wg rfl rfl rfl) rfl ?_
   refine l_skip (wg rfl rfl rfl) rfl ?_
   refine l_skip (wg rfl rfl rfl) rfl ?_
   refine l_skip (wg rfl rfl rfl) rfl ?_
   refine l_val wn (r_pick rfl rfl) rfl ?_
   refine l_val wn (r_assign rfl) rfl ?_
   refine l_nil (e_go hK7 ?_)
   refine c_ret (e_ret1 (.inl rfl) Try.results37 (rv_tmp rfl) fun w1 hM => ?_)
   exact ret_ok (congrArg Value.bool (decide_eq_false (fun g => h5 g.2.2.1)).symm) hM
 refine l_skip (wg rfl rfl rfl) rfl ?_
 refine l_skip (wg rfl rfl rfl) rfl ?_
 refine l_skip (wg rfl rfl rfl) rfl ?_
 refine l_skip (wg rfl rfl rfl) rfl ?_
 refine l_val wn (r_pick rfl rfl) rfl ?_
 refine l_val wn (r_move rfl) rfl ?_
 refine l_skip (wg rfl rfl rfl) rfl ?_
 refine l_skip (wg rfl rfl rfl) rfl ?_
 refine l_skip (wg rfl rfl rfl) rfl ?_
 refine l_skip (wg rfl rfl rfl) rfl ?_
 refine l_skip (wg rfl rfl rfl) rfl ?_
 refine l_val wn (r_pick rfl rfl) rfl ?_
 refine l_val wn (r_move rfl) rfl ?_
 refine l_skip (wg rfl rfl rfl) rfl ?_
 refine l_skip (wg rfl rfl rfl) rfl ?_
 refine l_skip (wg rfl rfl rfl) rfl ?_
 refine l_skip (wg rfl rfl rfl) rfl ?_
 refine l_skip (wg rfl rfl rfl) rfl ?_
 refine l_val wn (r_pick rfl rfl) rfl ?_
 refine l_val wn (r_assign rfl) rfl ?_
 refine l_nil (e_go hK7 ?_)
 refine c_ret (e_ret1 (.inl rfl) Try.results37 (rv_tmp rfl) fun w1 hM => ?_)
 exact ret_ok (congrArg Value.bool (decide_eq_false (fun g => h4 g.2.1)).symm) hM

theorem c_covers (z0 : Value) (z1 : Value) (z2 : Value) (z3 : Value) (z : Shelf) (lv : Value) (l : List Part) (f : Int) (t : Int) (P0 : Nat → Prop) (w : World) (hP0 : ∀ b, P0 b → b < w.heap.size) (hz0 : FlatSl P0 2 labelE z0 z.series w) (hz1 : FlatSl P0 2 sampleE z1 z.raw w) (hz2 : FlatSl P0 8 bucketE z2 z.fine w) (hz3 : FlatSl P0 8 bucketE z3 z.coarse w) (hl : FlatSl P0 3 partE lv l w)  :
    Calls Try.prog 12 #[.agg (List.toArray [z0, z1, z2, z3, .int .i64 z.rawFrom, .int .i64 z.fineFrom, .int .i64 z.fineTo, .int .i64 z.coarseFrom, .int .i64 z.coarseTo]), lv, .int .i64 f, .int .i64 t] w (Ret w (.bool (Sh.covers z l f t))) := by
 obtain ⟨z0A, z0c, rfl, hz0c, hz0m, hz0A⟩ := hz0.form
 obtain ⟨z1A, z1c, rfl, hz1c, hz1m, hz1A⟩ := hz1.form
 obtain ⟨z2A, z2c, rfl, hz2c, hz2m, hz2A⟩ := hz2.form
 obtain ⟨z3A, z3c, rfl, hz3c, hz3m, hz3A⟩ := hz3.form
 obtain ⟨lA, lc, rfl, hlc, hlm, hlA⟩ := hl.form
 refine fstart (N := 32) (vals := [.agg (List.toArray [.slice z0A z.series.length z0c, .slice z1A z.raw.length z1c, .slice z2A z.fine.length z2c, .slice z3A z.coarse.length z3c, .int .i64 z.rawFrom, .int .i64 z.fineFrom, .int .i64 z.fineTo, .int .i64 z.coarseFrom, .int .i64 z.coarseTo]), .slice lA l.length lc, .int .i64 f, .int .i64 t]) (S := Mem w ⟨no, P0⟩ [slP 2 labelE (.slice z0A z.series.length z0c) z.series, slP 2 sampleE (.slice z1A z.raw.length z1c) z.raw, slP 8 bucketE (.slice z2A z.fine.length z2c) z.fine, slP 8 bucketE (.slice z3A z.coarse.length z3c) z.coarse, slP 3 partE (.slice lA l.length lc) l]) Try.func12 rfl rfl rfl (Mem.ofDatsP hP0 (dc (dlp hz0) (dc (dlp hz1) (dc (dlp hz2) (dc (dlp hz3) (dc (dlp hl) dn)))))) ?_
 refine c_seq fun _ hK1 => ?_
 refine c_region ?_
 refine l_box wn rfl rfl fun b4 => ?_
 refine l_val wn (r_assign rfl) rfl ?_
 refine l_nil (e_go hK1 ?_)
 refine c_seq fun _ hK2 => ?_
 refine c_seq fun _ hK3 => ?_
 refine c_region ?_
 refine l_val wn (r_move rfl) rfl ?_
 refine l_val wn (r_len rfl Try.underlying28) rfl ?_
 refine l_val wn (r_move rfl) rfl ?_
 refine l_nil (e_go hK3 ?_)
 refine c_block ?_
 refine c_loop2 (fun (k : Nat) (g : Int) => [(2, .int .i64 g), (3, .int .i64 t), (4, .pointer (some ⟨b4, 0, none⟩)), (11, .slice lA l.length lc), (12, .int .i64 (l.length : Int)), (13, .int .i64 (k : Int))]) (fun (k : Nat) (g : Int) => [.blk b4 [.slice z0A z.series.length z0c, .slice z1A z.raw.length z1c, .slice z2A z.fine.length z2c, .slice z3A z.coarse.length z3c, .int .i64 z.rawFrom, .int .i64 z.fineFrom, .int .i64 z.fineTo, .int .i64 z.coarseFrom, .int .i64 z.coarseTo] 27, slP 2 labelE (.slice z0A z.series.length z0c) z.series, slP 2 sampleE (.slice z1A z.raw.length z1c) z.raw, slP 8 bucketE (.slice z2A z.fine.length z2c) z.fine, slP 8 bucketE (.slice z3A z.coarse.length z3c) z.coarse, slP 3 partE (.slice lA l.length lc) l]) (fun (k : Nat) (g : Int) => k ≤ l.length ∧ Sh.covers z l f t = Sh.covers z (l.drop k) g t) (fun (k : Nat) (g : Int) => l.length - k) 0 f (sc rfl (sc rfl (sc rfl (sc rfl (sc rfl (sc (ji (by omega)) sn)))))) (fun _ h => h) ?_ (fun k g hI1 => ?_)
 · exact ⟨by omega, rfl⟩
 refine c_seq fun _ hK4 => ?_
 refine c_region ?_
 refine l_val wn (r_lss rfl rfl) rfl ?_
 refine l_nil (e_go hK4 ?_)
 refine c_seq fun _ hK5 => ?_
 refine c_cond rfl (fun h1 => ?_) (fun h1 => ?_)
 · refine c_skip (e_go hK5 ?_)
   refine c_seq fun _ hK6 => ?_
   refine c_block ?_
   refine c_seq fun _ hK7 => ?_
   refine c_region ?_
   obtain ⟨ad1, hd1⟩ := hlA (ne_nil (i := k) (by first | omega | decide | (simp only [List.length_cons, List.length_nil, List.length_append, List.length_take, List.length_set]; omega)))
   refine l_val wn (r_ia (i := k) rfl hd1 rfl (by omega) (by first | omega | decide | (simp only [List.length_cons, List.length_nil, List.length_append, List.length_take, List.length_set]; omega)) Try.underlying28 inf61) rfl ?_
   obtain ⟨s1, hs1⟩ : ∃ x, l[k]? = some x := ⟨_, List.getElem?_eq_getElem (by first | omega | decide | (simp only [List.length_cons, List.length_nil, List.length_append, List.length_take, List.length_set]; omega))⟩
   refine l_val wn (r_pln 5 [.int .i64 s1.tier, .int .i64 s1.frm, .int .i64 s1.to] rfl rfl hd1 hs1 rfl rfl agg61 inf61) rfl ?_
   refine l_alloc wn inf61 rfl fun b10 => ?_
   refine l_stn 0 wn rfl rfl rfl inf61 rfl rfl rfl ?_
   refine l_nil (e_go hK7 ?_)
   refine c_seq fun _ hK8 => ?_
   refine c_cut [(3, .int .i64 t), (4, .pointer (some ⟨b4, 0, none⟩)), (10, .pointer (some ⟨b10, 0, none⟩)), (11, .slice lA l.length lc), (12, .int .i64 (l.length : Int)), (13, .int .i64 (k : Int)), (25, .bool (decide ((s1.frm ≠ g) ∨ (¬ (Sh.may z s1)))))] (Mem w ⟨no, P0⟩ [.blk b10 [.int .i64 s1.tier, .int .i64 s1.frm, .int .i64 s1.to] 61, .blk b4 [.slice z0A z.series.length z0c, .slice z1A z.raw.length z1c, .slice z2A z.fine.length z2c, .slice z3A z.coarse.length z3c, .int .i64 z.rawFrom, .int .i64 z.fineFrom, .int .i64 z.fineTo, .int .i64 z.coarseFrom, .int .i64 z.coarseTo] 27, slP 2 labelE (.slice z0A z.series.length z0c) z.series, slP 2 sampleE (.slice z1A z.raw.length z1c) z.raw, slP 8 bucketE (.slice z2A z.fine.length z2c) z.fine, slP 8 bucketE (.slice z3A z.coarse.length z3c) z.coarse, slP 3 partE (.slice lA l.length lc) l]) (fun _ hK9 => ?_) ?_
   · refine c_region ?_
     refine l_val wn (r_fa rfl fld61_1) rfl ?_
     refine l_val wn (r_lb 0 rfl rfl rfl flat3) rfl ?_
     refine l_val wn (r_move rfl) rfl ?_
     refine l_val wn (r_neq rfl rfl) rfl ?_
     refine l_val wn (r_move rfl) rfl ?_
     refine l_case (t := 21) rfl (fun h2 => ?_) (fun h2 => ?_)
     · refine l_skip (wg rfl rfl rfl) rfl ?_
       refine l_skip (wg rfl rfl rfl) rfl ?_
       refine l_skip (wg rfl rfl rfl) rfl ?_
       refine l_val wn (r_pick rfl rfl) rfl ?_
       refine l_nil (e_cut hK9 (sc rfl (sc rfl (sc rfl (sc rfl (sc rfl (sc rfl (sc (jt (Or.inl h2)) sn))))))) (fun _ h => h))
     refine l_val (wg rfl rfl rfl) (r_lbn 0 [.int .i64 s1.tier, .int .i64 s1.frm, .int .i64 s1.to] rfl rfl rfl rfl agg61 inf61) rfl ?_
     refine l_callF (wg rfl rfl rfl) rfl Try.call37 rfl (fun w1 hM => c_may b4 _ _ _ _ z s1 w1 (hM.blk (i := 1) rfl)) ?_
     refine l_val (wg rfl rfl rfl) (r_not rfl) rfl ?_
     refine l_val wn (r_pick rfl rfl) rfl ?_
     refine l_nil (e_cut hK9 (sc rfl (sc rfl (sc rfl (sc rfl (sc rfl (sc rfl (sc (jp (iff_or_right h2 Iff.rfl)) sn))))))) (fun _ h => h))
   refine c_cond rfl (fun h3 => ?_) (fun h3 => ?_)
   · refine c_seq fun _ hK10 => ?_
     refine c_region ?_
     refine l_val wn (r_assign rfl) rfl ?_
     refine l_nil (e_go hK10 ?_)
     refine c_ret (e_then_r (e_in_r (e_then_r (e_loop2_r (e_in_r (e_then_r (e_ret1 (.inl rfl) Try.results12 (rv_tmp rfl) fun w1 hM => ?_)))))))
     exact ret_ok (congrArg Value.bool (by rw [hI1.2, Sh.covers_step hs1, Sh.cov_no h3])) hM
   refine c_skip (e_go hK8 ?_)
   refine c_region ?_
   refine l_val wn (r_fa rfl fld61_2) rfl ?_
   refine l_val wn (r_lb 0 rfl rfl rfl flat3) rfl ?_
   refine l_val wn (r_assign rfl) rfl ?_
   refine l_nil (e_in_n (e_go hK6 ?_))
   refine c_region ?_
   refine l_val wn (r_addn rfl rfl (by omega)) rfl ?_
   refine l_val wn (r_move rfl) rfl ?_
   refine l_nil (e_round2 (k + 1) s1.to (sc rfl (sc rfl (sc rfl (sc rfl (sc rfl (sc (ji (by omega)) sn)))))) (fun _ h => (h.sel [1, 2, 3, 4, 5, 6] (by decide) rfl)) ?_ ?_)
   · exact ⟨by omega, by rw [hI1.2, Sh.covers_step hs1, Sh.cov_yes h3]⟩
   omega
 refine c_exit (e_then_x (e_loop2_x (e_in_hit (e_go hK2 ?_))))
 refine c_seq fun _ hK11 => ?_
 refine c_region ?_
 refine l_val wn (r_move rfl) rfl ?_
 refine l_val wn (r_move rfl) rfl ?_
 refine l_val wn (r_eql rfl rfl) rfl ?_
 refine l_val wn (r_assign rfl) rfl ?_
 refine l_nil (e_go hK11 ?_)
 refine c_ret (e_ret1 (.inl rfl) Try.results12 (rv_tmp rfl) fun w1 hM => ?_)
 exact ret_ok (congrArg Value.bool (by rw [hI1.2, Sh.covers_end (by omega)])) hM

theorem c_count (lv : Value) (l : List Bucket) (p : Part) (w : World) (hl : FlatSl (In w) 8 bucketE lv l w) (hl1 : l.length ≤ 1048576) :
    Calls Try.prog 42 #[lv, .agg (partE p).toArray] w (Ret w (.int .i64 ((Sh.bIn l p.frm p.to).length : Int))) := by
 obtain ⟨lA, lc, rfl, hlc, hlm, hlA⟩ := hl.form
 refine fstart (N := 30) (vals := [.slice lA l.length lc, .agg (partE p).toArray]) (S := Mem w no [slO (In w) 8 bucketE (.slice lA l.length lc) l]) Try.func42 rfl rfl rfl (Mem.ofDats (dc (dl hl) dn)) ?_
 refine c_seq fun _ hK1 => ?_
 refine c_region ?_
 refine l_box wn rfl rfl fun b3 => ?_
 refine l_val wn (r_assign rfl) rfl ?_
 refine l_nil (e_go hK1 ?_)
 refine c_seq fun _ hK2 => ?_
 refine c_region ?_
 refine l_val wn (r_assign rfl) rfl ?_
 refine l_nil (e_go hK2 ?_)
 refine c_seq fun _ hK3 => ?_
 refine c_seq fun _ hK4 => ?_
 refine c_region ?_
 refine l_val wn (r_move rfl) rfl ?_
 refine l_val wn (r_len rfl Try.underlying25) rfl ?_
 refine l_val wn (r_move rfl) rfl ?_
 refine l_nil (e_go hK4 ?_)
 refine c_block ?_
 refine c_loop1 (fun (k : Nat) => [(3, .pointer (some ⟨b3, 0, none⟩)), (5, .int .i64 ((Sh.bIn (l.take k) p.frm p.to).length : Int)), (8, .slice lA l.length lc), (9, .int .i64 (l.length : Int)), (10, .int .i64 (k : Int))]) (fun (k : Nat) => [.blk b3 [.int .i64 p.tier, .int .i64 p.frm, .int .i64 p.to] 61, slO (In w) 8 bucketE (.slice lA l.length lc) l]) (fun (k : Nat) => k ≤ l.length) (fun (k : Nat) => l.length - k) 0 (sc rfl (sc (ji (by first | omega | rfl | (rw [hst]; simp) | (rw [hst]))) (sc rfl (sc rfl (sc (ji (by first | omega | rfl | (rw [hst]; simp) | (rw [hst]))) sn))))) (fun _ h => h) ?_ (fun k hI1 => ?_)
 · omega
 have hlen := Nat.le_trans (Sh.bIn_len (l.take k) p.frm p.to) (List.length_take_le k l)
 refine c_seq fun _ hK5 => ?_
 refine c_region ?_
 refine l_val wn (r_lss rfl rfl) rfl ?_
 refine l_nil (e_go hK5 ?_)
 refine c_seq fun _ hK6 => ?_
 refine c_cond rfl (fun h1 => ?_) (fun h1 => ?_)
 · refine c_skip (e_go hK6 ?_)
   refine c_seq fun _ hK7 => ?_
   refine c_block ?_
   refine c_seq fun _ hK8 => ?_
   refine c_region ?_
   obtain ⟨ad1, hd1⟩ := hlA (ne_nil (i := k) (by first | omega | decide | (simp only [List.length_cons, List.length_nil, List.length_append, List.length_take, List.length_set]; omega)))
   refine l_val wn (r_ia (i := k) rfl hd1 rfl (by omega) (by first | omega | decide | (simp only [List.length_cons, List.length_nil, List.length_append, List.length_take, List.length_set]; omega)) Try.underlying25 inf78) rfl ?_
   obtain ⟨s1, hs1⟩ : ∃ x, l[k]? = some x := ⟨_, List.getElem?_eq_getElem (by first | omega | decide | (simp only [List.length_cons, List.length_nil, List.length_append, List.length_take, List.length_set]; omega))⟩
   refine l_val wn (r_eln 1 [.int .i64 s1.at_, .int .i64 s1.sum.count, .int .i64 s1.sum.total, .int .i64 s1.sum.min, .int .i64 s1.sum.max, .int .i64 s1.sum.first, .int .i64 s1.sum.last, .int .i64 s1.sum.rise] rfl rfl hd1 hs1 rfl rfl agg78 inf78) rfl ?_
   refine l_alloc wn inf78 rfl fun b7 => ?_
   refine l_stn 0 wn rfl rfl rfl inf78 rfl rfl rfl ?_
   refine l_nil (e_go hK8 ?_)
   refine c_seq fun _ hK9 => ?_
   refine c_region ?_
   refine l_val wn (r_fa rfl fld78_0) rfl ?_
   refine l_val wn (r_lb 0 rfl rfl rfl flat3) rfl ?_
   refine l_val wn (r_fa rfl fld61_1) rfl ?_
   refine l_val wn (r_lb 1 rfl rfl rfl flat3) rfl ?_
   refine l_val wn (r_geq rfl rfl) rfl ?_
   refine l_val wn (r_move rfl) rfl ?_
   refine l_case (t := 19) rfl (fun h2 => ?_) (fun h2 => ?_)
   · refine l_val (wg rfl rfl rfl) (r_fa rfl fld78_0) rfl ?_
     refine l_val (wg rfl rfl rfl) (r_lb 0 rfl rfl rfl flat3) rfl ?_
     refine l_val (wg rfl rfl rfl) (r_fa rfl fld61_2) rfl ?_
     refine l_val (wg rfl rfl rfl) (r_lb 1 rfl rfl rfl flat3) rfl ?_
     refine l_val (wg rfl rfl rfl) (r_lss rfl rfl) rfl ?_
     refine l_val wn (r_pick rfl rfl) rfl ?_
     refine l_nil (e_go hK9 ?_)
     refine c_cond rfl (fun h3 => ?_) (fun h3 => ?_)
     · refine c_region ?_
       refine l_val wn (r_move rfl) rfl ?_
       refine l_val wn (r_addn rfl rfl (by omega)) rfl ?_
       refine l_val wn (r_assign rfl) rfl ?_
       refine l_nil (e_in_n (e_go hK7 ?_))
       refine c_region ?_
       refine l_val wn (r_addn rfl rfl (by omega)) rfl ?_
       refine l_val wn (r_move rfl) rfl ?_
       have hst := (Sh.bIn_succ (a := p.frm) (b := p.to) hs1).trans (if_pos (by omega))
       refine l_nil (e_round1 (k + 1) (sc rfl (sc (ji (by first | omega | rfl | (rw [hst]; simp) | (rw [hst]))) (sc rfl (sc rfl (sc (ji (by first | omega | rfl | (rw [hst]; simp) | (rw [hst]))) sn))))) (fun _ h => (h.sel [1, 2] (by decide) rfl)) ?_ ?_)
       · omega
       omega
     refine c_skip (e_in_n (e_go hK7 ?_))
     refine c_region ?_
     refine l_val wn (r_addn rfl rfl (by omega)) rfl ?_
     refine l_val wn (r_move rfl) rfl ?_
     have hst := (Sh.bIn_succ (a := p.frm) (b := p.to) hs1).trans (if_neg (by omega))
     refine l_nil (e_round1 (k + 1) (sc rfl (sc (ji (by first | omega | rfl | (rw [hst]; simp) | (rw [hst]))) (sc rfl (sc rfl (sc (ji (by first | omega | rfl | (rw [hst]; simp) | (rw [hst]))) sn))))) (fun _ h => (h.sel [1, 2] (by decide) rfl)) ?_ ?_)
     · omega
     omega
   refine l_skip (wg rfl rfl rfl) rfl ?_
   refine l_skip (wg rfl rfl rfl) rfl ?_
   refine l_skip (wg rfl rfl rfl) rfl ?_
   refine l_skip (wg rfl rfl rfl) rfl ?_
   refine l_skip (wg rfl rfl rfl) rfl ?_
   refine l_val wn (r_pick rfl rfl) rfl ?_
   refine l_nil (e_go hK9 ?_)
   refine c_false rfl rfl ?_
   refine c_skip (e_in_n (e_go hK7 ?_))
   refine c_region ?_
   refine l_val wn (r_addn rfl rfl (by omega)) rfl ?_
   refine l_val wn (r_move rfl) rfl ?_
   have hst := (Sh.bIn_succ (a := p.frm) (b := p.to) hs1).trans (if_neg (by omega))
   refine l_nil (e_round1 (k + 1) (sc rfl (sc (ji (by first | omega | rfl | (rw [hst]; simp) | (rw [hst]))) (sc rfl (sc rfl (sc (ji (by first | omega | rfl | (rw [hst]; simp) | (rw [hst]))) sn))))) (fun _ h => (h.sel [1, 2] (by decide) rfl)) ?_ ?_)
   · omega
   omega
 refine c_exit (e_then_x (e_loop1_x (e_in_hit (e_go hK3 ?_))))
 refine c_seq fun _ hK10 => ?_
 refine c_region ?_
 refine l_val wn (r_move rfl) rfl ?_
 refine l_val wn (r_assign rfl) rfl ?_
 refine l_nil (e_go hK10 ?_)
 refine c_ret (e_ret1 (.inl rfl) Try.results42 (rv_tmp rfl) fun w1 hM => ?_)
 exact ret_ok (congrArg (Value.int .i64) (by rw [List.take_of_length_le (by omega)])) hM

set_option maxHeartbeats 4000000 in
theorem c_choose (z0 : Value) (z1 : Value) (z2 : Value) (z3 : Value) (z : Shelf) (f : Int) (t : Int) (P0 : Nat → Prop) (w : World) (hP0 : ∀ b, P0 b → b < w.heap.size) (hz0 : FlatSl P0 2 labelE z0 z.series w) (hz1 : FlatSl P0 2 sampleE z1 z.raw w) (hz2 : FlatSl P0 8 bucketE z2 z.fine w) (hz3 : FlatSl P0 8 bucketE z3 z.coarse w)  :
    Calls Try.prog 14 #[.agg (List.toArray [z0, z1, z2, z3, .int .i64 z.rawFrom, .int .i64 z.fineFrom, .int .i64 z.fineTo, .int .i64 z.coarseFrom, .int .i64 z.coarseTo]), .int .i64 f, .int .i64 t] w (RetLT w 61 3 partE (Sh.choose z f t).1 (fun r => .tuple [r, .int .i64 (Sh.choose z f t).2].toArray)) := by
 obtain ⟨z0A, z0c, rfl, hz0c, hz0m, hz0A⟩ := hz0.form
 obtain ⟨z1A, z1c, rfl, hz1c, hz1m, hz1A⟩ := hz1.form
 obtain ⟨z2A, z2c, rfl, hz2c, hz2m, hz2A⟩ := hz2.form
 obtain ⟨z3A, z3c, rfl, hz3c, hz3m, hz3A⟩ := hz3.form
 refine fstart (N := 99) (vals := [.agg (List.toArray [.slice z0A z.series.length z0c, .slice z1A z.raw.length z1c, .slice z2A z.fine.length z2c, .slice z3A z.coarse.length z3c, .int .i64 z.rawFrom, .int .i64 z.fineFrom, .int .i64 z.fineTo, .int .i64 z.coarseFrom, .int .i64 z.coarseTo]), .int .i64 f, .int .i64 t]) (S := Mem w ⟨no, P0⟩ [slP 2 labelE (.slice z0A z.series.length z0c) z.series, slP 2 sampleE (.slice z1A z.raw.length z1c) z.raw, slP 8 bucketE (.slice z2A z.fine.length z2c) z.fine, slP 8 bucketE (.slice z3A z.coarse.length z3c) z.coarse]) Try.func14 rfl rfl rfl (Mem.ofDatsP hP0 (dc (dlp hz0) (dc (dlp hz1) (dc (dlp hz2) (dc (dlp hz3) dn))))) ?_
 refine c_seq fun _ hK1 => ?_
 refine c_region ?_
 refine l_box wn rfl rfl fun b3 => ?_
 refine l_nilRow (partE : Part → List Value) 61 3 ?_
 refine l_val wn (r_assign rfl) rfl ?_
 refine l_val wn (r_assign rfl) rfl ?_
 refine l_nil (e_go hK1 ?_)
 refine c_seq fun _ hK2 => ?_
 refine c_seq fun _ hK3 => ?_
 refine c_region ?_
 refine l_val wn (r_lbn 1 [.slice z0A z.series.length z0c, .slice z1A z.raw.length z1c, .slice z2A z.fine.length z2c, .slice z3A z.coarse.length z3c, .int .i64 z.rawFrom, .int .i64 z.fineFrom, .int .i64 z.fineTo, .int .i64 z.coarseFrom, .int .i64 z.coarseTo] rfl rfl rfl rfl agg27 inf27) rfl ?_
 refine l_callF wn rfl Try.call19 rfl (fun w1 hM => c_shWrong _ _ _ _ z (In w1) w1 (fun _ h => h) (hM.slp 2 rfl) (hM.slp 3 rfl) (hM.slp 4 rfl) (hM.slp 5 rfl)) ?_
 refine l_val wn (r_assign rfl) rfl ?_
 refine l_nil (e_go hK3 ?_)
 refine c_seq fun _ hK4 => ?_
 refine c_region ?_
 refine l_val wn (r_move rfl) rfl ?_
 refine l_val wn (r_neq rfl rfl) rfl ?_
 refine l_nil (e_go hK4 ?_)
 refine c_cond rfl (fun h1 => ?_) (fun h1 => ?_)
 · refine c_seq fun _ hK5 => ?_
   refine c_region ?_
   refine l_val wn (r_move rfl) rfl ?_
   refine l_nilRow (partE : Part → List Value) 61 3 ?_
   refine l_val wn (r_assign rfl) rfl ?_
   refine l_val wn (r_assign rfl) rfl ?_
   refine l_nil (e_go hK5 ?_)
   refine c_ret (e_then_r (e_ret2 (.inl rfl) Try.results14 (rv_tmp rfl) (rv_tmp rfl) fun w1 hM => ?_))
   have he : Sh.choose z f t = (([] : List Part), (Sh.wrong z)) := Sh.choose_wrong h1
   exact hM.retLT 0 rfl (by rw [he]) (by rw [he])
 have hs2 : Roll.step 2 = 60 := rfl
 have hs1_ : Roll.step 1 = 10 := rfl
 have hs0 : Roll.step 0 = 0 := rfl
 refine c_skip (e_go hK2 ?_)
 refine c_seq fun _ hK6 => ?_
 refine c_cut [(1, .int .i64 f), (2, .int .i64 t), (3, .pointer (some ⟨b3, 0, none⟩)), (31, .bool (decide ((f < 0) ∨ ((t < f) ∨ (1000000 < t)))))] (Mem w ⟨no, P0⟩ [Row (.slice none 0 0) 61 3 partE ([] : List Part), .blk b3 [.slice z0A z.series.length z0c, .slice z1A z.raw.length z1c, .slice z2A z.fine.length z2c, .slice z3A z.coarse.length z3c, .int .i64 z.rawFrom, .int .i64 z.fineFrom, .int .i64 z.fineTo, .int .i64 z.coarseFrom, .int .i64 z.coarseTo] 27, slP 2 labelE (.slice z0A z.series.length z0c) z.series, slP 2 sampleE (.slice z1A z.raw.length z1c) z.raw, slP 8 bucketE (.slice z2A z.fine.length z2c) z.fine, slP 8 bucketE (.slice z3A z.coarse.length z3c) z.coarse]) (fun _ hK7 => ?_) ?_
 · refine c_region ?_
   refine l_val wn (r_move rfl) rfl ?_
   refine l_val wn (r_lss rfl rfl) rfl ?_
   refine l_val wn (r_move rfl) rfl ?_
   refine l_case (t := 23) rfl (fun h2 => ?_) (fun h2 => ?_)
   · refine l_skip (wg rfl rfl rfl) rfl ?_
     refine l_skip (wg rfl rfl rfl) rfl ?_
     refine l_skip (wg rfl rfl rfl) rfl ?_
     refine l_val wn (r_pick rfl rfl) rfl ?_
     refine l_val wn (r_move rfl) rfl ?_
     refine l_skip (wg rfl rfl rfl) rfl ?_
     refine l_skip (wg rfl rfl rfl) rfl ?_
     refine l_val wn (r_pick rfl rfl) rfl ?_
     refine l_nil (e_cut hK7 (sc rfl (sc rfl (sc rfl (sc (jt (Or.inl h2)) sn)))) (fun _ h => h))
   refine l_val (wg rfl rfl rfl) (r_move rfl) rfl ?_
   refine l_val (wg rfl rfl rfl) (r_move rfl) rfl ?_
   refine l_val (wg rfl rfl rfl) (r_gtr rfl rfl) rfl ?_
   refine l_val wn (r_pick rfl rfl) rfl ?_
   refine l_val wn (r_move rfl) rfl ?_
   refine l_case (t := 28) rfl (fun h3 => ?_) (fun h3 => ?_)
   · refine l_skip (wg rfl rfl rfl) rfl ?_
     refine l_skip (wg rfl rfl rfl) rfl ?_
     refine l_val wn (r_pick rfl rfl) rfl ?_
     refine l_nil (e_cut hK7 (sc rfl (sc rfl (sc rfl (sc (jt (Or.inr (Or.inl h3))) sn)))) (fun _ h => h))
   refine l_val (wg rfl rfl rfl) (r_move rfl) rfl ?_
   refine l_val (wg rfl rfl rfl) (r_gtr rfl rfl) rfl ?_
   refine l_val wn (r_pick rfl rfl) rfl ?_
   refine l_nil (e_cut hK7 (sc rfl (sc rfl (sc rfl (sc (jp (iff_or_right h2 (iff_or_right h3 Iff.rfl))) sn)))) (fun _ h => h))
 refine c_cond rfl (fun h4 => ?_) (fun h4 => ?_)
 · refine c_seq fun _ hK8 => ?_
   refine c_region ?_
   refine l_nilRow (partE : Part → List Value) 61 3 ?_
   refine l_val wn (r_assign rfl) rfl ?_
   refine l_val wn (r_assign rfl) rfl ?_
   refine l_nil (e_go hK8 ?_)
   refine c_ret (e_then_r (e_ret2 (.inl rfl) Try.results14 (rv_tmp rfl) (rv_tmp rfl) fun w1 hM => ?_))
   have he : Sh.choose z f t = (([] : List Part), 3) := Sh.choose_range h1 (by omega)
   exact hM.retLT 0 rfl (by rw [he]) (by rw [he])
 refine c_skip (e_go hK6 ?_)
 refine c_seq fun _ hK9 => ?_
 refine c_region ?_
 refine l_nilRow (partE : Part → List Value) 61 3 ?_
 refine l_val wn (r_assign rfl) rfl ?_
 refine l_nil (e_go hK9 ?_)
 refine c_seq fun _ hK10 => ?_
 refine c_block ?_
 refine c_loop3 (fun (g : Int) (out : List Part) (vr : Value) => [(1, .int .i64 g), (2, .int .i64 t), (3, .pointer (some ⟨b3, 0, none⟩)), (9, vr)]) (fun (g : Int) (out : List Part) (vr : Value) => [Row vr 61 3 partE out, Row (.slice none 0 0) 61 3 partE ([] : List Part), .blk b3 [.slice z0A z.series.length z0c, .slice z1A z.raw.length z1c, .slice z2A z.fine.length z2c, .slice z3A z.coarse.length z3c, .int .i64 z.rawFrom, .int .i64 z.fineFrom, .int .i64 z.fineTo, .int .i64 z.coarseFrom, .int .i64 z.coarseTo] 27, slP 2 labelE (.slice z0A z.series.length z0c) z.series, slP 2 sampleE (.slice z1A z.raw.length z1c) z.raw, slP 8 bucketE (.slice z2A z.fine.length z2c) z.fine, slP 8 bucketE (.slice z3A z.coarse.length z3c) z.coarse]) (fun (g : Int) (out : List Part) (vr : Value) => (Sh.chooseL z f t [] = Sh.chooseL z g t out) ∧ 0 ≤ g ∧ g ≤ t ∧ (out.length : Int) ≤ g) (fun (g : Int) (out : List Part) (vr : Value) => (t - g).toNat) f [] (.slice none 0 0) (sc rfl (sc rfl (sc rfl (sc rfl sn)))) (fun _ h => h) ?_ (fun g out vr hI1 => ?_)
 · exact ⟨rfl, by omega, by omega, by simp; omega⟩
 refine c_open 0 (l := out) rfl fun A1 cp1 hv1 hc1 hm1 hA1 => ?_
 subst hv1
 refine c_seq fun _ hK11 => ?_
 refine c_seq fun _ hK12 => ?_
 refine c_region ?_
 refine l_val wn (r_move rfl) rfl ?_
 refine l_val wn (r_move rfl) rfl ?_
 refine l_val wn (r_lss rfl rfl) rfl ?_
 refine l_nil (e_go hK12 ?_)
 refine c_cond rfl (fun h5 => ?_) (fun h5 => ?_)
 · refine c_skip (e_go hK11 ?_)
   refine c_block ?_
   refine c_seq fun _ hK13 => ?_
   refine c_region ?_
   refine l_val wn (r_build [.int .i64 (-1), .int .i64 0, .int .i64 0] pl61 inf61 rfl rfl) rfl ?_
   refine l_alloc wn inf61 rfl fun b10 => ?_
   refine l_stn 0 wn rfl rfl rfl inf61 rfl rfl rfl ?_
   refine l_nil (e_go hK13 ?_)
   refine c_seq fun _ hK14 => ?_
   refine c_seq fun _ hK15 => ?_
   refine c_region ?_
   refine l_bsL intE ([2, 1, 0] : List Int) wn Try.underlying62 inf3 rfl rfl rfl rfl (by decide) (by decide) rfl fun b36 => ?_
   refine l_val wn (r_len rfl Try.underlying62) rfl ?_
   refine l_val wn (r_move rfl) rfl ?_
   refine l_nil (e_go hK15 ?_)
   refine c_block ?_
   refine c_enter ?_
   refine c_round fun _ hK16 => ?_
   refine c_seq fun _ hK17 => ?_
   refine c_region ?_
   refine l_val wn (r_lss rfl rfl) rfl ?_
   refine l_nil (e_go hK17 ?_)
   refine c_seq fun _ hK18 => ?_
   refine c_true rfl (decide_eq_true (by decide)) ?_
   refine c_skip (e_go hK18 ?_)
   refine c_seq fun _ hK19 => ?_
   refine c_block ?_
   refine c_seq fun _ hK20 => ?_
   refine c_region ?_
   refine l_val wn (r_ia (i := 0) rfl rfl rfl (by omega) (by first | omega | decide) Try.underlying62 inf3) rfl ?_
   refine l_val wn (r_rl 0 encInt rfl rfl rfl (show ([2, 1, 0] : List Int)[0]? = some 2 from rfl) rfl flat3) rfl ?_
   refine l_val wn (r_assign rfl) rfl ?_
   refine l_nil (e_go hK20 ?_)
   refine c_seq fun _ hK21 => ?_
   refine c_region ?_
   refine l_val wn (r_move rfl) rfl ?_
   refine l_val wn (r_move rfl) rfl ?_
   refine l_callF wn rfl Try.call39 rfl (fun w1 hM => c_Step 2 w1) ?_
   refine l_val wn (r_addn rfl rfl (by omega)) rfl ?_
   refine l_val wn (r_assign rfl) rfl ?_
   refine l_nil (e_go hK21 ?_)
   refine c_seq fun _ hK22 => ?_
   refine c_seq fun _ hK23 => ?_
   refine c_region ?_
   refine l_val wn (r_move rfl) rfl ?_
   refine l_val wn (r_eql rfl rfl) rfl ?_
   refine l_nil (e_go hK23 ?_)
   refine c_false rfl (decide_eq_false (by decide)) ?_
   refine c_skip (e_go hK22 ?_)
   refine c_seq fun _ hK24 => ?_
   refine c_region ?_
   refine l_val wn (r_move rfl) rfl ?_
   refine l_val wn (r_move rfl) rfl ?_
   refine l_val wn (r_move rfl) rfl ?_
   refine l_val wn (r_build [.int .i64 2, .int .i64 g, .int .i64 (g + (Roll.step 2))] pl61 inf61 rfl rfl) rfl ?_
   refine l_alloc wn inf61 rfl fun b14 => ?_
   refine l_stn 0 wn rfl rfl rfl inf61 rfl rfl rfl ?_
   refine l_nil (e_go hK24 ?_)
   refine c_cut [(1, .int .i64 g), (2, .int .i64 t), (3, .pointer (some ⟨b3, 0, none⟩)), (9, .slice A1 out.length cp1), (10, .pointer (some ⟨b10, 0, none⟩)), (14, .pointer (some ⟨b14, 0, none⟩)), (36, .slice (some ⟨b36, 0, none⟩) 3 3), (37, .int .i64 3), (38, .int .i64 0), (65, .bool (decide (((g + (Roll.step 2)) ≤ t) ∧ (Sh.may z (⟨2, g, (g + (Roll.step 2))⟩ : Part)))))] (Mem w ⟨no, P0⟩ [.blk b14 [.int .i64 2, .int .i64 g, .int .i64 (g + (Roll.step 2))] 61, Row (.slice (some ⟨b36, 0, none⟩) 3 3) 3 1 intE ([2, 1, 0] : List Int), .blk b10 [.int .i64 (-1), .int .i64 0, .int .i64 0] 61, Row (.slice A1 out.length cp1) 61 3 partE out, Row (.slice none 0 0) 61 3 partE ([] : List Part), .blk b3 [.slice z0A z.series.length z0c, .slice z1A z.raw.length z1c, .slice z2A z.fine.length z2c, .slice z3A z.coarse.length z3c, .int .i64 z.rawFrom, .int .i64 z.fineFrom, .int .i64 z.fineTo, .int .i64 z.coarseFrom, .int .i64 z.coarseTo] 27, slP 2 labelE (.slice z0A z.series.length z0c) z.series, slP 2 sampleE (.slice z1A z.raw.length z1c) z.raw, slP 8 bucketE (.slice z2A z.fine.length z2c) z.fine, slP 8 bucketE (.slice z3A z.coarse.length z3c) z.coarse]) (fun _ hK25 => ?_) ?_
   · refine c_region ?_
     refine l_val wn (r_move rfl) rfl ?_
     refine l_val wn (r_move rfl) rfl ?_
     refine l_val wn (r_leq rfl rfl) rfl ?_
     refine l_val wn (r_move rfl) rfl ?_
     refine l_case (t := 62) rfl (fun h6 => ?_) (fun h6 => ?_)
     · refine l_val (wg rfl rfl rfl) (r_lbn 0 [.int .i64 2, .int .i64 g, .int .i64 (g + (Roll.step 2))] rfl rfl rfl rfl agg61 inf61) rfl ?_
       refine l_callF (wg rfl rfl rfl) rfl Try.call37 rfl (fun w1 hM => c_may b3 _ _ _ _ z (⟨2, g, (g + (Roll.step 2))⟩ : Part) w1 (hM.blk (i := 5) rfl)) ?_
       refine l_val wn (r_pick rfl rfl) rfl ?_
       refine l_nil (e_cut hK25 (sc rfl (sc rfl (sc rfl (sc rfl (sc rfl (sc rfl (sc rfl (sc rfl (sc rfl (sc (jp (iff_and_right h6 Iff.rfl)) sn)))))))))) (fun _ h => h))
     refine l_skip (wg rfl rfl rfl) rfl ?_
     refine l_skip (wg rfl rfl rfl) rfl ?_
     refine l_val wn (r_pick rfl rfl) rfl ?_
     refine l_nil (e_cut hK25 (sc rfl (sc rfl (sc rfl (sc rfl (sc rfl (sc rfl (sc rfl (sc rfl (sc rfl (sc (jf (fun g => h6 g.1)) sn)))))))))) (fun _ h => h))
   refine c_cond rfl (fun h7 => ?_) (fun h7 => ?_)
   · refine c_seq fun _ hK26 => ?_
     refine c_region ?_
     refine l_val wn (r_lbn 0 [.int .i64 2, .int .i64 g, .int .i64 (g + (Roll.step 2))] rfl rfl rfl rfl agg61 inf61) rfl ?_
     refine l_stn 2 wn rfl rfl rfl inf61 rfl rfl rfl ?_
     refine l_nil (e_go hK26 ?_)
     refine c_exit (e_in_miss rfl (e_then_x (e_then_x (e_in_hit (e_go hK14 ?_)))))
     refine c_seq fun _ hK27 => ?_
     refine c_seq fun _ hK28 => ?_
     refine c_region ?_
     refine l_val wn (r_fa rfl fld61_0) rfl ?_
     refine l_val wn (r_lb 2 rfl rfl rfl flat3) rfl ?_
     refine l_val wn (r_lss rfl rfl) rfl ?_
     refine l_nil (e_go hK28 ?_)
     refine c_false rfl (decide_eq_false (by decide)) ?_
     refine c_skip (e_go hK27 ?_)
     refine c_seq fun _ hK29 => ?_
     refine c_seq fun _ hK30 => ?_
     refine c_region ?_
     refine l_val wn (r_move rfl) rfl ?_
     refine l_val wn (r_len rfl Try.underlying28) rfl ?_
     refine l_val wn (r_subn rfl rfl (by omega)) rfl ?_
     refine l_val wn (r_assign rfl) rfl ?_
     refine l_nil (e_go hK30 ?_)
     refine c_seq fun _ hK31 => ?_
     refine c_quiet mix (by kernel_rfl) (fun _ h => h.drew) ?_
     refine q_val wn (r_move rfl) rfl ?_
     refine q_val wn (r_geq rfl rfl) rfl ?_
     refine q_val wn (r_move rfl) rfl ?_
     refine q_case (t := 76) rfl (fun h8 => ?_) (fun h8 => ?_)
     · refine q_val (wg rfl rfl rfl) (r_move rfl) rfl ?_
       refine q_val (wg rfl rfl rfl) (r_move rfl) rfl ?_
       obtain ⟨ad1, hd1⟩ := hA1 (ne_nil (i := (out.length - 1)) (by first | omega | decide))
       refine q_val (wg rfl rfl rfl) (r_ia (i := (out.length - 1)) rfl hd1 rfl (by omega) (by first | omega | decide) Try.underlying28 inf61) rfl ?_
       refine q_val (wg rfl rfl rfl) (r_fe rfl fld61_0) rfl ?_
       obtain ⟨s1, hs1⟩ : ∃ x, out[(out.length - 1)]? = some x := ⟨_, List.getElem?_eq_getElem (by first | omega | decide)⟩
       refine q_val (wg rfl rfl rfl) (r_rl 3 encPart rfl rfl hd1 hs1 rfl flat3) rfl ?_
       refine q_val (wg rfl rfl rfl) (r_fa rfl fld61_0) rfl ?_
       refine q_val (wg rfl rfl rfl) (r_lb 2 rfl rfl rfl flat3) rfl ?_
       refine q_val (wg rfl rfl rfl) (r_eql rfl rfl) rfl ?_
       refine q_val wn (r_pick rfl rfl) rfl ?_
       refine q_end (e_go hK31 ?_)
       refine c_cond rfl (fun h9 => ?_) (fun h9 => ?_)
       · refine c_region ?_
         refine l_val wn (r_move rfl) rfl ?_
         refine l_val wn (r_move rfl) rfl ?_
         refine l_val wn (r_fa rfl fld61_2) rfl ?_
         refine l_val wn (r_lb 2 rfl rfl rfl flat3) rfl ?_
         refine l_val wn (r_ia (i := (out.length - 1)) rfl hd1 rfl (by omega) (by first | omega | decide) Try.underlying28 inf61) rfl ?_
         refine l_val wn (r_fe rfl fld61_2) rfl ?_
         refine l_rst 3 (vs := [.int .i64 (g + (Roll.step 2))]) (⟨s1.tier, s1.frm, (g + (Roll.step 2))⟩ : Part) encPart wn rfl rfl rfl rfl hd1 hs1 inf3 rfl rfl rfl rfl ?_
         refine l_nil (e_go hK29 ?_)
         refine c_region ?_
         refine l_val wn (r_fa rfl fld61_2) rfl ?_
         refine l_val wn (r_lb 2 rfl rfl rfl flat3) rfl ?_
         refine l_val wn (r_assign rfl) rfl ?_
         refine l_nil (e_in_n (e_round3 (g + (Roll.step 2)) (out.set (out.length - 1) (⟨s1.tier, s1.frm, (g + (Roll.step 2))⟩ : Part)) (.slice A1 out.length cp1) (sc rfl (sc rfl (sc rfl (sc rfl sn)))) (fun _ h => (h.sel [3, 4, 5, 6, 7, 8, 9] (by decide) rfl)) ?_ ?_))
         · have hp : Sh.pick z g t = (⟨2, g, (g + (Roll.step 2))⟩ : Part) := Sh.pick_2 (z := z) (f := g) (t := t) h7.1 h7.2
           have hpt : ¬ (Sh.pick z g t).tier < 0 := by rw [hp]; dsimp only; omega
           have hto := Sh.pick_to hpt
           have hnx := hI1.1.trans (Sh.chooseL_next (out := out) (by omega) hpt)
           have hpl := Sh.push_len out (Sh.pick z g t)
           rw [hp] at hto hnx hpl
           have hpu : Sh.push out _ = _ := Sh.push_last (p := (⟨2, g, (g + (Roll.step 2))⟩ : Part)) hs1 h9
           rw [hpu] at hnx hpl
           try dsimp only at hto
           try dsimp only at hnx
           try dsimp only at hpl
           exact ⟨hnx, by omega, by omega, by omega⟩
         have hp : Sh.pick z g t = (⟨2, g, (g + (Roll.step 2))⟩ : Part) := Sh.pick_2 (z := z) (f := g) (t := t) h7.1 h7.2
         have hpt : ¬ (Sh.pick z g t).tier < 0 := by rw [hp]; dsimp only; omega
         have hto := Sh.pick_to hpt
         rw [hp] at hto
         try dsimp only at hto
         omega
       refine c_region ?_
       refine l_val wn (r_move rfl) rfl ?_
       refine l_val wn (r_lbn 2 [.int .i64 2, .int .i64 g, .int .i64 (g + (Roll.step 2))] rfl rfl rfl rfl agg61 inf61) rfl ?_
       refine l_bsL partE ([(⟨2, g, (g + (Roll.step 2))⟩ : Part)] : List Part) wn Try.underlying28 inf61 rfl rfl rfl rfl (by decide) (by decide) rfl fun b94 => ?_
       refine l_app 4 out ([(⟨2, g, (g + (Roll.step 2))⟩ : Part)] : List Part) encPart wn rfl rfl rfl (fun _ hM => (RowSl encPart hM 0 rfl)) Try.underlying28 inf61 rfl rfl (by first | omega | (simp only [List.length_append, List.length_cons, List.length_nil]; omega)) rfl fun A2 cp2 hc2 hm2 hA2 => ?_
       refine l_val wn (r_assign rfl) rfl ?_
       refine l_nil (e_go hK29 ?_)
       refine c_region ?_
       refine l_val wn (r_fa rfl fld61_2) rfl ?_
       refine l_val wn (r_lb 3 rfl rfl rfl flat3) rfl ?_
       refine l_val wn (r_assign rfl) rfl ?_
       refine l_nil (e_in_n (e_round3 (g + (Roll.step 2)) (out ++ ([(⟨2, g, (g + (Roll.step 2))⟩ : Part)] : List Part)) (.slice A2 ((out ++ ([(⟨2, g, (g + (Roll.step 2))⟩ : Part)] : List Part)).length) cp2) (sc rfl (sc rfl (sc rfl (sc rfl sn)))) (fun _ h => (h.sel [4, 5, 6, 7, 8, 9, 10] (by decide) rfl)) ?_ ?_))
       · have hp : Sh.pick z g t = (⟨2, g, (g + (Roll.step 2))⟩ : Part) := Sh.pick_2 (z := z) (f := g) (t := t) h7.1 h7.2
         have hpt : ¬ (Sh.pick z g t).tier < 0 := by rw [hp]; dsimp only; omega
         have hto := Sh.pick_to hpt
         have hnx := hI1.1.trans (Sh.chooseL_next (out := out) (by omega) hpt)
         have hpl := Sh.push_len out (Sh.pick z g t)
         rw [hp] at hto hnx hpl
         have hpu : Sh.push out _ = _ := Sh.push_new (p := (⟨2, g, (g + (Roll.step 2))⟩ : Part)) hs1 h9
         rw [hpu] at hnx hpl
         try dsimp only at hto
         try dsimp only at hnx
         try dsimp only at hpl
         exact ⟨hnx, by omega, by omega, by omega⟩
       have hp : Sh.pick z g t = (⟨2, g, (g + (Roll.step 2))⟩ : Part) := Sh.pick_2 (z := z) (f := g) (t := t) h7.1 h7.2
       have hpt : ¬ (Sh.pick z g t).tier < 0 := by rw [hp]; dsimp only; omega
       have hto := Sh.pick_to hpt
       rw [hp] at hto
       try dsimp only at hto
       omega
     refine q_skip (wg rfl rfl rfl) rfl ?_
     refine q_skip (wg rfl rfl rfl) rfl ?_
     refine q_skip (wg rfl rfl rfl) rfl ?_
     refine q_skip (wg rfl rfl rfl) rfl ?_
     refine q_skip (wg rfl rfl rfl) rfl ?_
     refine q_skip (wg rfl rfl rfl) rfl ?_
     refine q_skip (wg rfl rfl rfl) rfl ?_
     refine q_skip (wg rfl rfl rfl) rfl ?_
     refine q_val wn (r_pick rfl rfl) rfl ?_
     refine q_end (e_go hK31 ?_)
     refine c_false rfl rfl ?_
     refine c_region ?_
     refine l_val wn (r_move rfl) rfl ?_
     refine l_val wn (r_lbn 2 [.int .i64 2, .int .i64 g, .int .i64 (g + (Roll.step 2))] rfl rfl rfl rfl agg61 inf61) rfl ?_
     refine l_bsL partE ([(⟨2, g, (g + (Roll.step 2))⟩ : Part)] : List Part) wn Try.underlying28 inf61 rfl rfl rfl rfl (by decide) (by decide) rfl fun b94 => ?_
     refine l_app 4 out ([(⟨2, g, (g + (Roll.step 2))⟩ : Part)] : List Part) encPart wn rfl rfl rfl (fun _ hM => (RowSl encPart hM 0 rfl)) Try.underlying28 inf61 rfl rfl (by first | omega | (simp only [List.length_append, List.length_cons, List.length_nil]; omega)) rfl fun A3 cp3 hc3 hm3 hA3 => ?_
     refine l_val wn (r_assign rfl) rfl ?_
     refine l_nil (e_go hK29 ?_)
     refine c_region ?_
     refine l_val wn (r_fa rfl fld61_2) rfl ?_
     refine l_val wn (r_lb 3 rfl rfl rfl flat3) rfl ?_
     refine l_val wn (r_assign rfl) rfl ?_
     refine l_nil (e_in_n (e_round3 (g + (Roll.step 2)) (out ++ ([(⟨2, g, (g + (Roll.step 2))⟩ : Part)] : List Part)) (.slice A3 ((out ++ ([(⟨2, g, (g + (Roll.step 2))⟩ : Part)] : List Part)).length) cp3) (sc rfl (sc rfl (sc rfl (sc rfl sn)))) (fun _ h => (h.sel [4, 5, 6, 7, 8, 9, 10] (by decide) rfl)) ?_ ?_))
     · have hp : Sh.pick z g t = (⟨2, g, (g + (Roll.step 2))⟩ : Part) := Sh.pick_2 (z := z) (f := g) (t := t) h7.1 h7.2
       have hpt : ¬ (Sh.pick z g t).tier < 0 := by rw [hp]; dsimp only; omega
       have hto := Sh.pick_to hpt
       have hnx := hI1.1.trans (Sh.chooseL_next (out := out) (by omega) hpt)
       have hpl := Sh.push_len out (Sh.pick z g t)
       rw [hp] at hto hnx hpl
       have hpu : Sh.push out _ = _ := Sh.push_nil (p := (⟨2, g, (g + (Roll.step 2))⟩ : Part)) (by omega)
       rw [hpu] at hnx hpl
       try dsimp only at hto
       try dsimp only at hnx
       try dsimp only at hpl
       exact ⟨hnx, by omega, by omega, by omega⟩
     have hp : Sh.pick z g t = (⟨2, g, (g + (Roll.step 2))⟩ : Part) := Sh.pick_2 (z := z) (f := g) (t := t) h7.1 h7.2
     have hpt : ¬ (Sh.pick z g t).tier < 0 := by rw [hp]; dsimp only; omega
     have hto := Sh.pick_to hpt
     rw [hp] at hto
     try dsimp only at hto
     omega
   refine c_skip (e_in_n (e_go hK19 ?_))
   refine c_region ?_
   refine l_val wn (r_addn rfl rfl (by omega)) rfl ?_
   refine l_val wn (r_move rfl) rfl ?_
   refine l_nil (e_goL hK16 ?_)
   refine c_round fun _ hK32 => ?_
   refine c_seq fun _ hK33 => ?_
   refine c_region ?_
   refine l_val wn (r_lss rfl rfl) rfl ?_
   refine l_nil (e_go hK33 ?_)
   refine c_seq fun _ hK34 => ?_
   refine c_true rfl (decide_eq_true (by decide)) ?_
   refine c_skip (e_go hK34 ?_)
   refine c_seq fun _ hK35 => ?_
   refine c_block ?_
   refine c_seq fun _ hK36 => ?_
   refine c_region ?_
   refine l_val wn (r_ia (i := 1) rfl rfl rfl (by omega) (by first | omega | decide) Try.underlying62 inf3) rfl ?_
   refine l_val wn (r_rl 1 encInt rfl rfl rfl (show ([2, 1, 0] : List Int)[1]? = some 1 from rfl) rfl flat3) rfl ?_
   refine l_val wn (r_assign rfl) rfl ?_
   refine l_nil (e_go hK36 ?_)
   refine c_seq fun _ hK37 => ?_
   refine c_region ?_
   refine l_val wn (r_move rfl) rfl ?_
   refine l_val wn (r_move rfl) rfl ?_
   refine l_callF wn rfl Try.call39 rfl (fun w1 hM => c_Step 1 w1) ?_
   refine l_val wn (r_addn rfl rfl (by omega)) rfl ?_
   refine l_val wn (r_assign rfl) rfl ?_
   refine l_nil (e_go hK37 ?_)
   refine c_seq fun _ hK38 => ?_
   refine c_seq fun _ hK39 => ?_
   refine c_region ?_
   refine l_val wn (r_move rfl) rfl ?_
   refine l_val wn (r_eql rfl rfl) rfl ?_
   refine l_nil (e_go hK39 ?_)
   refine c_false rfl (decide_eq_false (by decide)) ?_
   refine c_skip (e_go hK38 ?_)
   refine c_seq fun _ hK40 => ?_
   refine c_region ?_
   refine l_val wn (r_move rfl) rfl ?_
   refine l_val wn (r_move rfl) rfl ?_
   refine l_val wn (r_move rfl) rfl ?_
   refine l_val wn (r_build [.int .i64 1, .int .i64 g, .int .i64 (g + (Roll.step 1))] pl61 inf61 rfl rfl) rfl ?_
   refine l_alloc wn inf61 rfl fun b14_1 => ?_
   refine l_stn 0 wn rfl rfl rfl inf61 rfl rfl rfl ?_
   refine l_nil (e_go hK40 ?_)
   refine c_cut [(1, .int .i64 g), (2, .int .i64 t), (3, .pointer (some ⟨b3, 0, none⟩)), (9, .slice A1 out.length cp1), (10, .pointer (some ⟨b10, 0, none⟩)), (14, .pointer (some ⟨b14_1, 0, none⟩)), (36, .slice (some ⟨b36, 0, none⟩) 3 3), (37, .int .i64 3), (38, .int .i64 1), (65, .bool (decide (((g + (Roll.step 1)) ≤ t) ∧ (Sh.may z (⟨1, g, (g + (Roll.step 1))⟩ : Part)))))] (Mem w ⟨no, P0⟩ [.blk b14_1 [.int .i64 1, .int .i64 g, .int .i64 (g + (Roll.step 1))] 61, .blk b14 [.int .i64 2, .int .i64 g, .int .i64 (g + (Roll.step 2))] 61, Row (.slice (some ⟨b36, 0, none⟩) 3 3) 3 1 intE ([2, 1, 0] : List Int), .blk b10 [.int .i64 (-1), .int .i64 0, .int .i64 0] 61, Row (.slice A1 out.length cp1) 61 3 partE out, Row (.slice none 0 0) 61 3 partE ([] : List Part), .blk b3 [.slice z0A z.series.length z0c, .slice z1A z.raw.length z1c, .slice z2A z.fine.length z2c, .slice z3A z.coarse.length z3c, .int .i64 z.rawFrom, .int .i64 z.fineFrom, .int .i64 z.fineTo, .int .i64 z.coarseFrom, .int .i64 z.coarseTo] 27, slP 2 labelE (.slice z0A z.series.length z0c) z.series, slP 2 sampleE (.slice z1A z.raw.length z1c) z.raw, slP 8 bucketE (.slice z2A z.fine.length z2c) z.fine, slP 8 bucketE (.slice z3A z.coarse.length z3c) z.coarse]) (fun _ hK41 => ?_) ?_
   · refine c_region ?_
     refine l_val wn (r_move rfl) rfl ?_
     refine l_val wn (r_move rfl) rfl ?_
     refine l_val wn (r_leq rfl rfl) rfl ?_
     refine l_val wn (r_move rfl) rfl ?_
     refine l_case (t := 62) rfl (fun h10 => ?_) (fun h10 => ?_)
     · refine l_val (wg rfl rfl rfl) (r_lbn 0 [.int .i64 1, .int .i64 g, .int .i64 (g + (Roll.step 1))] rfl rfl rfl rfl agg61 inf61) rfl ?_
       refine l_callF (wg rfl rfl rfl) rfl Try.call37 rfl (fun w1 hM => c_may b3 _ _ _ _ z (⟨1, g, (g + (Roll.step 1))⟩ : Part) w1 (hM.blk (i := 6) rfl)) ?_
       refine l_val wn (r_pick rfl rfl) rfl ?_
       refine l_nil (e_cut hK41 (sc rfl (sc rfl (sc rfl (sc rfl (sc rfl (sc rfl (sc rfl (sc rfl (sc rfl (sc (jp (iff_and_right h10 Iff.rfl)) sn)))))))))) (fun _ h => h))
     refine l_skip (wg rfl rfl rfl) rfl ?_
     refine l_skip (wg rfl rfl rfl) rfl ?_
     refine l_val wn (r_pick rfl rfl) rfl ?_
     refine l_nil (e_cut hK41 (sc rfl (sc rfl (sc rfl (sc rfl (sc rfl (sc rfl (sc rfl (sc rfl (sc rfl (sc (jf (fun g => h10 g.1)) sn)))))))))) (fun _ h => h))
   refine c_cond rfl (fun h11 => ?_) (fun h11 => ?_)
   · refine c_seq fun _ hK42 => ?_
     refine c_region ?_
     refine l_val wn (r_lbn 0 [.int .i64 1, .int .i64 g, .int .i64 (g + (Roll.step 1))] rfl rfl rfl rfl agg61 inf61) rfl ?_
     refine l_stn 3 wn rfl rfl rfl inf61 rfl rfl rfl ?_
     refine l_nil (e_go hK42 ?_)
     refine c_exit (e_in_miss rfl (e_then_x (e_then_x (e_in_hit (e_go hK14 ?_)))))
     refine c_seq fun _ hK43 => ?_
     refine c_seq fun _ hK44 => ?_
     refine c_region ?_
     refine l_val wn (r_fa rfl fld61_0) rfl ?_
     refine l_val wn (r_lb 3 rfl rfl rfl flat3) rfl ?_
     refine l_val wn (r_lss rfl rfl) rfl ?_
     refine l_nil (e_go hK44 ?_)
     refine c_false rfl (decide_eq_false (by decide)) ?_
     refine c_skip (e_go hK43 ?_)
     refine c_seq fun _ hK45 => ?_
     refine c_seq fun _ hK46 => ?_
     refine c_region ?_
     refine l_val wn (r_move rfl) rfl ?_
     refine l_val wn (r_len rfl Try.underlying28) rfl ?_
     refine l_val wn (r_subn rfl rfl (by omega)) rfl ?_
     refine l_val wn (r_assign rfl) rfl ?_
     refine l_nil (e_go hK46 ?_)
     refine c_seq fun _ hK47 => ?_
     refine c_quiet mix (by kernel_rfl) (fun _ h => h.drew) ?_
     refine q_val wn (r_move rfl) rfl ?_
     refine q_val wn (r_geq rfl rfl) rfl ?_
     refine q_val wn (r_move rfl) rfl ?_
     refine q_case (t := 76) rfl (fun h12 => ?_) (fun h12 => ?_)
     · refine q_val (wg rfl rfl rfl) (r_move rfl) rfl ?_
       refine q_val (wg rfl rfl rfl) (r_move rfl) rfl ?_
       obtain ⟨ad2, hd2⟩ := hA1 (ne_nil (i := (out.length - 1)) (by first | omega | decide))
       refine q_val (wg rfl rfl rfl) (r_ia (i := (out.length - 1)) rfl hd2 rfl (by omega) (by first | omega | decide) Try.underlying28 inf61) rfl ?_
       refine q_val (wg rfl rfl rfl) (r_fe rfl fld61_0) rfl ?_
       obtain ⟨s2, hs2⟩ : ∃ x, out[(out.length - 1)]? = some x := ⟨_, List.getElem?_eq_getElem (by first | omega | decide)⟩
       refine q_val (wg rfl rfl rfl) (r_rl 4 encPart rfl rfl hd2 hs2 rfl flat3) rfl ?_
       refine q_val (wg rfl rfl rfl) (r_fa rfl fld61_0) rfl ?_
       refine q_val (wg rfl rfl rfl) (r_lb 3 rfl rfl rfl flat3) rfl ?_
       refine q_val (wg rfl rfl rfl) (r_eql rfl rfl) rfl ?_
       refine q_val wn (r_pick rfl rfl) rfl ?_
       refine q_end (e_go hK47 ?_)
       refine c_cond rfl (fun h13 => ?_) (fun h13 => ?_)
       · refine c_region ?_
         refine l_val wn (r_move rfl) rfl ?_
         refine l_val wn (r_move rfl) rfl ?_
         refine l_val wn (r_fa rfl fld61_2) rfl ?_
         refine l_val wn (r_lb 3 rfl rfl rfl flat3) rfl ?_
         refine l_val wn (r_ia (i := (out.length - 1)) rfl hd2 rfl (by omega) (by first | omega | decide) Try.underlying28 inf61) rfl ?_
         refine l_val wn (r_fe rfl fld61_2) rfl ?_
         refine l_rst 4 (vs := [.int .i64 (g + (Roll.step 1))]) (⟨s2.tier, s2.frm, (g + (Roll.step 1))⟩ : Part) encPart wn rfl rfl rfl rfl hd2 hs2 inf3 rfl rfl rfl rfl ?_
         refine l_nil (e_go hK45 ?_)
         refine c_region ?_
         refine l_val wn (r_fa rfl fld61_2) rfl ?_
         refine l_val wn (r_lb 3 rfl rfl rfl flat3) rfl ?_
         refine l_val wn (r_assign rfl) rfl ?_
         refine l_nil (e_in_n (e_round3 (g + (Roll.step 1)) (out.set (out.length - 1) (⟨s2.tier, s2.frm, (g + (Roll.step 1))⟩ : Part)) (.slice A1 out.length cp1) (sc rfl (sc rfl (sc rfl (sc rfl sn)))) (fun _ h => (h.sel [4, 5, 6, 7, 8, 9, 10] (by decide) rfl)) ?_ ?_))
         · have hp : Sh.pick z g t = (⟨1, g, (g + (Roll.step 1))⟩ : Part) := Sh.pick_1 (z := z) (f := g) (t := t) h7 h11.1 h11.2
           have hpt : ¬ (Sh.pick z g t).tier < 0 := by rw [hp]; dsimp only; omega
           have hto := Sh.pick_to hpt
           have hnx := hI1.1.trans (Sh.chooseL_next (out := out) (by omega) hpt)
           have hpl := Sh.push_len out (Sh.pick z g t)
           rw [hp] at hto hnx hpl
           have hpu : Sh.push out _ = _ := Sh.push_last (p := (⟨1, g, (g + (Roll.step 1))⟩ : Part)) hs2 h13
           rw [hpu] at hnx hpl
           try dsimp only at hto
           try dsimp only at hnx
           try dsimp only at hpl
           exact ⟨hnx, by omega, by omega, by omega⟩
         have hp : Sh.pick z g t = (⟨1, g, (g + (Roll.step 1))⟩ : Part) := Sh.pick_1 (z := z) (f := g) (t := t) h7 h11.1 h11.2
         have hpt : ¬ (Sh.pick z g t).tier < 0 := by rw [hp]; dsimp only; omega
         have hto := Sh.pick_to hpt
         rw [hp] at hto
         try dsimp only at hto
         omega
       refine c_region ?_
       refine l_val wn (r_move rfl) rfl ?_
       refine l_val wn (r_lbn 3 [.int .i64 1, .int .i64 g, .int .i64 (g + (Roll.step 1))] rfl rfl rfl rfl agg61 inf61) rfl ?_
       refine l_bsL partE ([(⟨1, g, (g + (Roll.step 1))⟩ : Part)] : List Part) wn Try.underlying28 inf61 rfl rfl rfl rfl (by decide) (by decide) rfl fun b94 => ?_
       refine l_app 5 out ([(⟨1, g, (g + (Roll.step 1))⟩ : Part)] : List Part) encPart wn rfl rfl rfl (fun _ hM => (RowSl encPart hM 0 rfl)) Try.underlying28 inf61 rfl rfl (by first | omega | (simp only [List.length_append, List.length_cons, List.length_nil]; omega)) rfl fun A4 cp4 hc4 hm4 hA4 => ?_
       refine l_val wn (r_assign rfl) rfl ?_
       refine l_nil (e_go hK45 ?_)
       refine c_region ?_
       refine l_val wn (r_fa rfl fld61_2) rfl ?_
       refine l_val wn (r_lb 4 rfl rfl rfl flat3) rfl ?_
       refine l_val wn (r_assign rfl) rfl ?_
       refine l_nil (e_in_n (e_round3 (g + (Roll.step 1)) (out ++ ([(⟨1, g, (g + (Roll.step 1))⟩ : Part)] : List Part)) (.slice A4 ((out ++ ([(⟨1, g, (g + (Roll.step 1))⟩ : Part)] : List Part)).length) cp4) (sc rfl (sc rfl (sc rfl (sc rfl sn)))) (fun _ h => (h.sel [5, 6, 7, 8, 9, 10, 11] (by decide) rfl)) ?_ ?_))
       · have hp : Sh.pick z g t = (⟨1, g, (g + (Roll.step 1))⟩ : Part) := Sh.pick_1 (z := z) (f := g) (t := t) h7 h11.1 h11.2
         have hpt : ¬ (Sh.pick z g t).tier < 0 := by rw [hp]; dsimp only; omega
         have hto := Sh.pick_to hpt
         have hnx := hI1.1.trans (Sh.chooseL_next (out := out) (by omega) hpt)
         have hpl := Sh.push_len out (Sh.pick z g t)
         rw [hp] at hto hnx hpl
         have hpu : Sh.push out _ = _ := Sh.push_new (p := (⟨1, g, (g + (Roll.step 1))⟩ : Part)) hs2 h13
         rw [hpu] at hnx hpl
         try dsimp only at hto
         try dsimp only at hnx
         try dsimp only at hpl
         exact ⟨hnx, by omega, by omega, by omega⟩
       have hp : Sh.pick z g t = (⟨1, g, (g + (Roll.step 1))⟩ : Part) := Sh.pick_1 (z := z) (f := g) (t := t) h7 h11.1 h11.2
       have hpt : ¬ (Sh.pick z g t).tier < 0 := by rw [hp]; dsimp only; omega
       have hto := Sh.pick_to hpt
       rw [hp] at hto
       try dsimp only at hto
       omega
     refine q_skip (wg rfl rfl rfl) rfl ?_
     refine q_skip (wg rfl rfl rfl) rfl ?_
     refine q_skip (wg rfl rfl rfl) rfl ?_
     refine q_skip (wg rfl rfl rfl) rfl ?_
     refine q_skip (wg rfl rfl rfl) rfl ?_
     refine q_skip (wg rfl rfl rfl) rfl ?_
     refine q_skip (wg rfl rfl rfl) rfl ?_
     refine q_skip (wg rfl rfl rfl) rfl ?_
     refine q_val wn (r_pick rfl rfl) rfl ?_
     refine q_end (e_go hK47 ?_)
     refine c_false rfl rfl ?_
     refine c_region ?_
     refine l_val wn (r_move rfl) rfl ?_
     refine l_val wn (r_lbn 3 [.int .i64 1, .int .i64 g, .int .i64 (g + (Roll.step 1))] rfl rfl rfl rfl agg61 inf61) rfl ?_
     refine l_bsL partE ([(⟨1, g, (g + (Roll.step 1))⟩ : Part)] : List Part) wn Try.underlying28 inf61 rfl rfl rfl rfl (by decide) (by decide) rfl fun b94 => ?_
     refine l_app 5 out ([(⟨1, g, (g + (Roll.step 1))⟩ : Part)] : List Part) encPart wn rfl rfl rfl (fun _ hM => (RowSl encPart hM 0 rfl)) Try.underlying28 inf61 rfl rfl (by first | omega | (simp only [List.length_append, List.length_cons, List.length_nil]; omega)) rfl fun A5 cp5 hc5 hm5 hA5 => ?_
     refine l_val wn (r_assign rfl) rfl ?_
     refine l_nil (e_go hK45 ?_)
     refine c_region ?_
     refine l_val wn (r_fa rfl fld61_2) rfl ?_
     refine l_val wn (r_lb 4 rfl rfl rfl flat3) rfl ?_
     refine l_val wn (r_assign rfl) rfl ?_
     refine l_nil (e_in_n (e_round3 (g + (Roll.step 1)) (out ++ ([(⟨1, g, (g + (Roll.step 1))⟩ : Part)] : List Part)) (.slice A5 ((out ++ ([(⟨1, g, (g + (Roll.step 1))⟩ : Part)] : List Part)).length) cp5) (sc rfl (sc rfl (sc rfl (sc rfl sn)))) (fun _ h => (h.sel [5, 6, 7, 8, 9, 10, 11] (by decide) rfl)) ?_ ?_))
     · have hp : Sh.pick z g t = (⟨1, g, (g + (Roll.step 1))⟩ : Part) := Sh.pick_1 (z := z) (f := g) (t := t) h7 h11.1 h11.2
       have hpt : ¬ (Sh.pick z g t).tier < 0 := by rw [hp]; dsimp only; omega
       have hto := Sh.pick_to hpt
       have hnx := hI1.1.trans (Sh.chooseL_next (out := out) (by omega) hpt)
       have hpl := Sh.push_len out (Sh.pick z g t)
       rw [hp] at hto hnx hpl
       have hpu : Sh.push out _ = _ := Sh.push_nil (p := (⟨1, g, (g + (Roll.step 1))⟩ : Part)) (by omega)
       rw [hpu] at hnx hpl
       try dsimp only at hto
       try dsimp only at hnx
       try dsimp only at hpl
       exact ⟨hnx, by omega, by omega, by omega⟩
     have hp : Sh.pick z g t = (⟨1, g, (g + (Roll.step 1))⟩ : Part) := Sh.pick_1 (z := z) (f := g) (t := t) h7 h11.1 h11.2
     have hpt : ¬ (Sh.pick z g t).tier < 0 := by rw [hp]; dsimp only; omega
     have hto := Sh.pick_to hpt
     rw [hp] at hto
     try dsimp only at hto
     omega
   refine c_skip (e_in_n (e_go hK35 ?_))
   refine c_region ?_
   refine l_val wn (r_addn rfl rfl (by omega)) rfl ?_
   refine l_val wn (r_move rfl) rfl ?_
   refine l_nil (e_goL hK32 ?_)
   refine c_round fun _ hK48 => ?_
   refine c_seq fun _ hK49 => ?_
   refine c_region ?_
   refine l_val wn (r_lss rfl rfl) rfl ?_
   refine l_nil (e_go hK49 ?_)
   refine c_seq fun _ hK50 => ?_
   refine c_true rfl (decide_eq_true (by decide)) ?_
   refine c_skip (e_go hK50 ?_)
   refine c_seq fun _ hK51 => ?_
   refine c_block ?_
   refine c_seq fun _ hK52 => ?_
   refine c_region ?_
   refine l_val wn (r_ia (i := 2) rfl rfl rfl (by omega) (by first | omega | decide) Try.underlying62 inf3) rfl ?_
   refine l_val wn (r_rl 2 encInt rfl rfl rfl (show ([2, 1, 0] : List Int)[2]? = some 0 from rfl) rfl flat3) rfl ?_
   refine l_val wn (r_assign rfl) rfl ?_
   refine l_nil (e_go hK52 ?_)
   refine c_seq fun _ hK53 => ?_
   refine c_region ?_
   refine l_val wn (r_move rfl) rfl ?_
   refine l_val wn (r_move rfl) rfl ?_
   refine l_callF wn rfl Try.call39 rfl (fun w1 hM => c_Step 0 w1) ?_
   refine l_val wn (r_addn rfl rfl (by omega)) rfl ?_
   refine l_val wn (r_assign rfl) rfl ?_
   refine l_nil (e_go hK53 ?_)
   refine c_seq fun _ hK54 => ?_
   refine c_seq fun _ hK55 => ?_
   refine c_region ?_
   refine l_val wn (r_move rfl) rfl ?_
   refine l_val wn (r_eql rfl rfl) rfl ?_
   refine l_nil (e_go hK55 ?_)
   refine c_true rfl (decide_eq_true (by decide)) ?_
   refine c_region ?_
   refine l_val wn (r_move rfl) rfl ?_
   refine l_val wn (r_move rfl) rfl ?_
   refine l_val wn (r_remn rfl rfl (by omega) (by omega)) rfl ?_
   refine l_val wn (r_subn rfl rfl (by omega)) rfl ?_
   refine l_val wn (r_addn rfl rfl (by omega)) rfl ?_
   refine l_val wn (r_move rfl) rfl ?_
   refine l_val wn (rv_i (show _ = (Sh.mn (g - g % 10 + 10) t) from rfl) (r_min rfl rfl)) rfl ?_
   refine l_val wn (r_assign rfl) rfl ?_
   refine l_nil (e_go hK54 ?_)
   refine c_seq fun _ hK56 => ?_
   refine c_region ?_
   refine l_val wn (r_move rfl) rfl ?_
   refine l_val wn (r_move rfl) rfl ?_
   refine l_val wn (r_move rfl) rfl ?_
   refine l_val wn (r_build [.int .i64 0, .int .i64 g, .int .i64 (Sh.mn (g - g % 10 + 10) t)] pl61 inf61 rfl rfl) rfl ?_
   refine l_alloc wn inf61 rfl fun b14_2 => ?_
   refine l_stn 0 wn rfl rfl rfl inf61 rfl rfl rfl ?_
   refine l_nil (e_go hK56 ?_)
   refine c_cut [(1, .int .i64 g), (2, .int .i64 t), (3, .pointer (some ⟨b3, 0, none⟩)), (9, .slice A1 out.length cp1), (10, .pointer (some ⟨b10, 0, none⟩)), (14, .pointer (some ⟨b14_2, 0, none⟩)), (36, .slice (some ⟨b36, 0, none⟩) 3 3), (37, .int .i64 3), (38, .int .i64 2), (65, .bool (decide (((Sh.mn (g - g % 10 + 10) t) ≤ t) ∧ (Sh.may z (⟨0, g, (Sh.mn (g - g % 10 + 10) t)⟩ : Part)))))] (Mem w ⟨no, P0⟩ [.blk b14_2 [.int .i64 0, .int .i64 g, .int .i64 (Sh.mn (g - g % 10 + 10) t)] 61, .blk b14_1 [.int .i64 1, .int .i64 g, .int .i64 (g + (Roll.step 1))] 61, .blk b14 [.int .i64 2, .int .i64 g, .int .i64 (g + (Roll.step 2))] 61, Row (.slice (some ⟨b36, 0, none⟩) 3 3) 3 1 intE ([2, 1, 0] : List Int), .blk b10 [.int .i64 (-1), .int .i64 0, .int .i64 0] 61, Row (.slice A1 out.length cp1) 61 3 partE out, Row (.slice none 0 0) 61 3 partE ([] : List Part), .blk b3 [.slice z0A z.series.length z0c, .slice z1A z.raw.length z1c, .slice z2A z.fine.length z2c, .slice z3A z.coarse.length z3c, .int .i64 z.rawFrom, .int .i64 z.fineFrom, .int .i64 z.fineTo, .int .i64 z.coarseFrom, .int .i64 z.coarseTo] 27, slP 2 labelE (.slice z0A z.series.length z0c) z.series, slP 2 sampleE (.slice z1A z.raw.length z1c) z.raw, slP 8 bucketE (.slice z2A z.fine.length z2c) z.fine, slP 8 bucketE (.slice z3A z.coarse.length z3c) z.coarse]) (fun _ hK57 => ?_) ?_
   · refine c_region ?_
     refine l_val wn (r_move rfl) rfl ?_
     refine l_val wn (r_move rfl) rfl ?_
     refine l_val wn (r_leq rfl rfl) rfl ?_
     refine l_val wn (r_move rfl) rfl ?_
     refine l_case (t := 62) rfl (fun h14 => ?_) (fun h14 => ?_)
     · refine l_val (wg rfl rfl rfl) (r_lbn 0 [.int .i64 0, .int .i64 g, .int .i64 (Sh.mn (g - g % 10 + 10) t)] rfl rfl rfl rfl agg61 inf61) rfl ?_
       refine l_callF (wg rfl rfl rfl) rfl Try.call37 rfl (fun w1 hM => c_may b3 _ _ _ _ z (⟨0, g, (Sh.mn (g - g % 10 + 10) t)⟩ : Part) w1 (hM.blk (i := 7) rfl)) ?_
       refine l_val wn (r_pick rfl rfl) rfl ?_
       refine l_nil (e_cut hK57 (sc rfl (sc rfl (sc rfl (sc rfl (sc rfl (sc rfl (sc rfl (sc rfl (sc rfl (sc (jp (iff_and_right h14 Iff.rfl)) sn)))))))))) (fun _ h => h))
     refine l_skip (wg rfl rfl rfl) rfl ?_
     refine l_skip (wg rfl rfl rfl) rfl ?_
     refine l_val wn (r_pick rfl rfl) rfl ?_
     refine l_nil (e_cut hK57 (sc rfl (sc rfl (sc rfl (sc rfl (sc rfl (sc rfl (sc rfl (sc rfl (sc rfl (sc (jf (fun g => h14 g.1)) sn)))))))))) (fun _ h => h))
   refine c_cond rfl (fun h15 => ?_) (fun h15 => ?_)
   · refine c_seq fun _ hK58 => ?_
     refine c_region ?_
     refine l_val wn (r_lbn 0 [.int .i64 0, .int .i64 g, .int .i64 (Sh.mn (g - g % 10 + 10) t)] rfl rfl rfl rfl agg61 inf61) rfl ?_
     refine l_stn 4 wn rfl rfl rfl inf61 rfl rfl rfl ?_
     refine l_nil (e_go hK58 ?_)
     refine c_exit (e_in_miss rfl (e_then_x (e_then_x (e_in_hit (e_go hK14 ?_)))))
     refine c_seq fun _ hK59 => ?_
     refine c_seq fun _ hK60 => ?_
     refine c_region ?_
     refine l_val wn (r_fa rfl fld61_0) rfl ?_
     refine l_val wn (r_lb 4 rfl rfl rfl flat3) rfl ?_
     refine l_val wn (r_lss rfl rfl) rfl ?_
     refine l_nil (e_go hK60 ?_)
     refine c_false rfl (decide_eq_false (by decide)) ?_
     refine c_skip (e_go hK59 ?_)
     refine c_seq fun _ hK61 => ?_
     refine c_seq fun _ hK62 => ?_
     refine c_region ?_
     refine l_val wn (r_move rfl) rfl ?_
     refine l_val wn (r_len rfl Try.underlying28) rfl ?_
     refine l_val wn (r_subn rfl rfl (by omega)) rfl ?_
     refine l_val wn (r_assign rfl) rfl ?_
     refine l_nil (e_go hK62 ?_)
     refine c_seq fun _ hK63 => ?_
     refine c_quiet mix (by kernel_rfl) (fun _ h => h.drew) ?_
     refine q_val wn (r_move rfl) rfl ?_
     refine q_val wn (r_geq rfl rfl) rfl ?_
     refine q_val wn (r_move rfl) rfl ?_
     refine q_case (t := 76) rfl (fun h16 => ?_) (fun h16 => ?_)
     · refine q_val (wg rfl rfl rfl) (r_move rfl) rfl ?_
       refine q_val (wg rfl rfl rfl) (r_move rfl) rfl ?_
       obtain ⟨ad3, hd3⟩ := hA1 (ne_nil (i := (out.length - 1)) (by first | omega | decide))
       refine q_val (wg rfl rfl rfl) (r_ia (i := (out.length - 1)) rfl hd3 rfl (by omega) (by first | omega | decide) Try.underlying28 inf61) rfl ?_
       refine q_val (wg rfl rfl rfl) (r_fe rfl fld61_0) rfl ?_
       obtain ⟨s3, hs3⟩ : ∃ x, out[(out.length - 1)]? = some x := ⟨_, List.getElem?_eq_getElem (by first | omega | decide)⟩
       refine q_val (wg rfl rfl rfl) (r_rl 5 encPart rfl rfl hd3 hs3 rfl flat3) rfl ?_
       refine q_val (wg rfl rfl rfl) (r_fa rfl fld61_0) rfl ?_
       refine q_val (wg rfl rfl rfl) (r_lb 4 rfl rfl rfl flat3) rfl ?_
       refine q_val (wg rfl rfl rfl) (r_eql rfl rfl) rfl ?_
       refine q_val wn (r_pick rfl rfl) rfl ?_
       refine q_end (e_go hK63 ?_)
       refine c_cond rfl (fun h17 => ?_) (fun h17 => ?_)
       · refine c_region ?_
         refine l_val wn (r_move rfl) rfl ?_
         refine l_val wn (r_move rfl) rfl ?_
         refine l_val wn (r_fa rfl fld61_2) rfl ?_
         refine l_val wn (r_lb 4 rfl rfl rfl flat3) rfl ?_
         refine l_val wn (r_ia (i := (out.length - 1)) rfl hd3 rfl (by omega) (by first | omega | decide) Try.underlying28 inf61) rfl ?_
         refine l_val wn (r_fe rfl fld61_2) rfl ?_
         refine l_rst 5 (vs := [.int .i64 (Sh.mn (g - g % 10 + 10) t)]) (⟨s3.tier, s3.frm, (Sh.mn (g - g % 10 + 10) t)⟩ : Part) encPart wn rfl rfl rfl rfl hd3 hs3 inf3 rfl rfl rfl rfl ?_
         refine l_nil (e_go hK61 ?_)
         refine c_region ?_
         refine l_val wn (r_fa rfl fld61_2) rfl ?_
         refine l_val wn (r_lb 4 rfl rfl rfl flat3) rfl ?_
         refine l_val wn (r_assign rfl) rfl ?_
         refine l_nil (e_in_n (e_round3 (Sh.mn (g - g % 10 + 10) t) (out.set (out.length - 1) (⟨s3.tier, s3.frm, (Sh.mn (g - g % 10 + 10) t)⟩ : Part)) (.slice A1 out.length cp1) (sc rfl (sc rfl (sc rfl (sc rfl sn)))) (fun _ h => (h.sel [5, 6, 7, 8, 9, 10, 11] (by decide) rfl)) ?_ ?_))
         · have hp := Sh.pick_0 (z := z) (f := g) (t := t) h7 h11 h15.1 h15.2
           have hpt : ¬ (Sh.pick z g t).tier < 0 := by rw [hp]; dsimp only; omega
           have hto := Sh.pick_to hpt
           have hnx := hI1.1.trans (Sh.chooseL_next (out := out) (by omega) hpt)
           have hpl := Sh.push_len out (Sh.pick z g t)
           rw [hp] at hto hnx hpl
           have hpu : Sh.push out _ = _ := Sh.push_last (p := (⟨0, g, (Sh.mn (g - g % 10 + 10) t)⟩ : Part)) hs3 h17
           rw [hpu] at hnx hpl
           try dsimp only at hto
           try dsimp only at hnx
           try dsimp only at hpl
           exact ⟨hnx, by omega, by omega, by omega⟩
         have hp := Sh.pick_0 (z := z) (f := g) (t := t) h7 h11 h15.1 h15.2
         have hpt : ¬ (Sh.pick z g t).tier < 0 := by rw [hp]; dsimp only; omega
         have hto := Sh.pick_to hpt
         rw [hp] at hto
         try dsimp only at hto
         omega
       refine c_region ?_
       refine l_val wn (r_move rfl) rfl ?_
       refine l_val wn (r_lbn 4 [.int .i64 0, .int .i64 g, .int .i64 (Sh.mn (g - g % 10 + 10) t)] rfl rfl rfl rfl agg61 inf61) rfl ?_
       refine l_bsL partE ([(⟨0, g, (Sh.mn (g - g % 10 + 10) t)⟩ : Part)] : List Part) wn Try.underlying28 inf61 rfl rfl rfl rfl (by decide) (by decide) rfl fun b94 => ?_
       refine l_app 6 out ([(⟨0, g, (Sh.mn (g - g % 10 + 10) t)⟩ : Part)] : List Part) encPart wn rfl rfl rfl (fun _ hM => (RowSl encPart hM 0 rfl)) Try.underlying28 inf61 rfl rfl (by first | omega | (simp only [List.length_append, List.length_cons, List.length_nil]; omega)) rfl fun A6 cp6 hc6 hm6 hA6 => ?_
       refine l_val wn (r_assign rfl) rfl ?_
       refine l_nil (e_go hK61 ?_)
       refine c_region ?_
       refine l_val wn (r_fa rfl fld61_2) rfl ?_
       refine l_val wn (r_lb 5 rfl rfl rfl flat3) rfl ?_
       refine l_val wn (r_assign rfl) rfl ?_
       refine l_nil (e_in_n (e_round3 (Sh.mn (g - g % 10 + 10) t) (out ++ ([(⟨0, g, (Sh.mn (g - g % 10 + 10) t)⟩ : Part)] : List Part)) (.slice A6 ((out ++ ([(⟨0, g, (Sh.mn (g - g % 10 + 10) t)⟩ : Part)] : List Part)).length) cp6) (sc rfl (sc rfl (sc rfl (sc rfl sn)))) (fun _ h => (h.sel [6, 7, 8, 9, 10, 11, 12] (by decide) rfl)) ?_ ?_))
       · have hp := Sh.pick_0 (z := z) (f := g) (t := t) h7 h11 h15.1 h15.2
         have hpt : ¬ (Sh.pick z g t).tier < 0 := by rw [hp]; dsimp only; omega
         have hto := Sh.pick_to hpt
         have hnx := hI1.1.trans (Sh.chooseL_next (out := out) (by omega) hpt)
         have hpl := Sh.push_len out (Sh.pick z g t)
         rw [hp] at hto hnx hpl
         have hpu : Sh.push out _ = _ := Sh.push_new (p := (⟨0, g, (Sh.mn (g - g % 10 + 10) t)⟩ : Part)) hs3 h17
         rw [hpu] at hnx hpl
         try dsimp only at hto
         try dsimp only at hnx
         try dsimp only at hpl
         exact ⟨hnx, by omega, by omega, by omega⟩
       have hp := Sh.pick_0 (z := z) (f := g) (t := t) h7 h11 h15.1 h15.2
       have hpt : ¬ (Sh.pick z g t).tier < 0 := by rw [hp]; dsimp only; omega
       have hto := Sh.pick_to hpt
       rw [hp] at hto
       try dsimp only at hto
       omega
     refine q_skip (wg rfl rfl rfl) rfl ?_
     refine q_skip (wg rfl rfl rfl) rfl ?_
     refine q_skip (wg rfl rfl rfl) rfl ?_
     refine q_skip (wg rfl rfl rfl) rfl ?_
     refine q_skip (wg rfl rfl rfl) rfl ?_
     refine q_skip (wg rfl rfl rfl) rfl ?_
     refine q_skip (wg rfl rfl rfl) rfl ?_
     refine q_skip (wg rfl rfl rfl) rfl ?_
     refine q_val wn (r_pick rfl rfl) rfl ?_
     refine q_end (e_go hK63 ?_)
     refine c_false rfl rfl ?_
     refine c_region ?_
     refine l_val wn (r_move rfl) rfl ?_
     refine l_val wn (r_lbn 4 [.int .i64 0, .int .i64 g, .int .i64 (Sh.mn (g - g % 10 + 10) t)] rfl rfl rfl rfl agg61 inf61) rfl ?_
     refine l_bsL partE ([(⟨0, g, (Sh.mn (g - g % 10 + 10) t)⟩ : Part)] : List Part) wn Try.underlying28 inf61 rfl rfl rfl rfl (by decide) (by decide) rfl fun b94 => ?_
     refine l_app 6 out ([(⟨0, g, (Sh.mn (g - g % 10 + 10) t)⟩ : Part)] : List Part) encPart wn rfl rfl rfl (fun _ hM => (RowSl encPart hM 0 rfl)) Try.underlying28 inf61 rfl rfl (by first | omega | (simp only [List.length_append, List.length_cons, List.length_nil]; omega)) rfl fun A7 cp7 hc7 hm7 hA7 => ?_
     refine l_val wn (r_assign rfl) rfl ?_
     refine l_nil (e_go hK61 ?_)
     refine c_region ?_
     refine l_val wn (r_fa rfl fld61_2) rfl ?_
     refine l_val wn (r_lb 5 rfl rfl rfl flat3) rfl ?_
     refine l_val wn (r_assign rfl) rfl ?_
     refine l_nil (e_in_n (e_round3 (Sh.mn (g - g % 10 + 10) t) (out ++ ([(⟨0, g, (Sh.mn (g - g % 10 + 10) t)⟩ : Part)] : List Part)) (.slice A7 ((out ++ ([(⟨0, g, (Sh.mn (g - g % 10 + 10) t)⟩ : Part)] : List Part)).length) cp7) (sc rfl (sc rfl (sc rfl (sc rfl sn)))) (fun _ h => (h.sel [6, 7, 8, 9, 10, 11, 12] (by decide) rfl)) ?_ ?_))
     · have hp := Sh.pick_0 (z := z) (f := g) (t := t) h7 h11 h15.1 h15.2
       have hpt : ¬ (Sh.pick z g t).tier < 0 := by rw [hp]; dsimp only; omega
       have hto := Sh.pick_to hpt
       have hnx := hI1.1.trans (Sh.chooseL_next (out := out) (by omega) hpt)
       have hpl := Sh.push_len out (Sh.pick z g t)
       rw [hp] at hto hnx hpl
       have hpu : Sh.push out _ = _ := Sh.push_nil (p := (⟨0, g, (Sh.mn (g - g % 10 + 10) t)⟩ : Part)) (by omega)
       rw [hpu] at hnx hpl
       try dsimp only at hto
       try dsimp only at hnx
       try dsimp only at hpl
       exact ⟨hnx, by omega, by omega, by omega⟩
     have hp := Sh.pick_0 (z := z) (f := g) (t := t) h7 h11 h15.1 h15.2
     have hpt : ¬ (Sh.pick z g t).tier < 0 := by rw [hp]; dsimp only; omega
     have hto := Sh.pick_to hpt
     rw [hp] at hto
     try dsimp only at hto
     omega
   refine c_skip (e_in_n (e_go hK51 ?_))
   refine c_region ?_
   refine l_val wn (r_addn rfl rfl (by omega)) rfl ?_
   refine l_val wn (r_move rfl) rfl ?_
   refine l_nil (e_goL hK48 ?_)
   refine c_round fun _ hK64 => ?_
   refine c_seq fun _ hK65 => ?_
   refine c_region ?_
   refine l_val wn (r_lss rfl rfl) rfl ?_
   refine l_nil (e_go hK65 ?_)
   refine c_seq fun _ hK66 => ?_
   refine c_false rfl (decide_eq_false (by decide)) ?_
   refine c_exit (e_then_x (e_then_x (e_in_hit (e_go hK14 ?_))))
   refine c_seq fun _ hK67 => ?_
   refine c_seq fun _ hK68 => ?_
   refine c_region ?_
   refine l_val wn (r_fa rfl fld61_0) rfl ?_
   refine l_val wn (r_lb 4 rfl rfl rfl flat3) rfl ?_
   refine l_val wn (r_lss rfl rfl) rfl ?_
   refine l_nil (e_go hK68 ?_)
   refine c_true rfl (decide_eq_true (by decide)) ?_
   refine c_seq fun _ hK69 => ?_
   refine c_region ?_
   refine l_nilRow (partE : Part → List Value) 61 3 ?_
   refine l_val wn (r_assign rfl) rfl ?_
   refine l_val wn (r_assign rfl) rfl ?_
   refine l_nil (e_go hK69 ?_)
   refine c_ret (e_then_r (e_in_r (e_loop3_r (e_in_r (e_then_r (e_ret2 (.inl rfl) Try.results14 (rv_tmp rfl) (rv_tmp rfl) fun w1 hM => ?_))))))
   have hp := Sh.pick_no (z := z) (f := g) (t := t) h7 h11 h15
   have he : Sh.choose z f t = (([] : List Part), 10) := Sh.choose_gone h1 (by omega) hI1.1 (by omega) (by rw [hp]; decide)
   exact hM.retLT 0 rfl (by rw [he]) (by rw [he])
 refine c_exit (e_then_x (e_loop3_x (e_in_hit (e_go hK10 ?_))))
 refine c_seq fun _ hK70 => ?_
 refine c_region ?_
 refine l_val wn (r_move rfl) rfl ?_
 refine l_val wn (r_assign rfl) rfl ?_
 refine l_val wn (r_assign rfl) rfl ?_
 refine l_nil (e_go hK70 ?_)
 refine c_ret (e_ret2 (.inl rfl) Try.results14 (rv_tmp rfl) (rv_tmp rfl) fun w1 hM => ?_)
 have he : Sh.choose z f t = (out, 0) := Sh.choose_end h1 (by omega) hI1.1 (by omega)
 exact hM.retLT 0 rfl (by rw [he]) (by rw [he])

set_option maxHeartbeats 4000000 in
theorem c_read (z0 : Value) (z1 : Value) (z2 : Value) (z3 : Value) (z : Shelf) (lv : Value) (l : List Part) (P0 : Nat → Prop) (w : World) (hP0 : ∀ b, P0 b → b < w.heap.size) (hz0 : FlatSl P0 2 labelE z0 z.series w) (hz1 : FlatSl P0 2 sampleE z1 z.raw w) (hz2 : FlatSl P0 8 bucketE z2 z.fine w) (hz3 : FlatSl P0 8 bucketE z3 z.coarse w) (hl : FlatSl P0 3 partE lv l w) (hl1 : l.length ≤ 1048576) :
    Calls Try.prog 17 #[.agg (List.toArray [z0, z1, z2, z3, .int .i64 z.rawFrom, .int .i64 z.fineFrom, .int .i64 z.fineTo, .int .i64 z.coarseFrom, .int .i64 z.coarseTo]), lv] w (Ret w (.tuple #[.agg (sumE (Sh.read z l).1).toArray, .int .i64 (Sh.read z l).2.1, .int .i64 (Sh.read z l).2.2])) := by
 obtain ⟨z0A, z0c, rfl, hz0c, hz0m, hz0A⟩ := hz0.form
 obtain ⟨z1A, z1c, rfl, hz1c, hz1m, hz1A⟩ := hz1.form
 obtain ⟨z2A, z2c, rfl, hz2c, hz2m, hz2A⟩ := hz2.form
 obtain ⟨z3A, z3c, rfl, hz3c, hz3m, hz3A⟩ := hz3.form
 obtain ⟨lA, lc, rfl, hlc, hlm, hlA⟩ := hl.form
 refine fstart (N := 112) (vals := [.agg (List.toArray [.slice z0A z.series.length z0c, .slice z1A z.raw.length z1c, .slice z2A z.fine.length z2c, .slice z3A z.coarse.length z3c, .int .i64 z.rawFrom, .int .i64 z.fineFrom, .int .i64 z.fineTo, .int .i64 z.coarseFrom, .int .i64 z.coarseTo]), .slice lA l.length lc]) (S := Mem w ⟨no, P0⟩ [slP 2 labelE (.slice z0A z.series.length z0c) z.series, slP 2 sampleE (.slice z1A z.raw.length z1c) z.raw, slP 8 bucketE (.slice z2A z.fine.length z2c) z.fine, slP 8 bucketE (.slice z3A z.coarse.length z3c) z.coarse, slP 3 partE (.slice lA l.length lc) l]) Try.func17 rfl rfl rfl (Mem.ofDatsP hP0 (dc (dlp hz0) (dc (dlp hz1) (dc (dlp hz2) (dc (dlp hz3) (dc (dlp hl) dn)))))) ?_
 refine c_seq fun _ hK1 => ?_
 refine c_region ?_
 refine l_box wn rfl rfl fun b2 => ?_
 refine l_alloc wn inf35 rfl fun b4 => ?_
 refine l_val wn (r_assign rfl) rfl ?_
 refine l_val wn (r_assign rfl) rfl ?_
 refine l_nil (e_go hK1 ?_)
 refine c_seq fun _ hK2 => ?_
 refine c_seq fun _ hK3 => ?_
 refine c_region ?_
 refine l_val wn (r_lbn 1 [.slice z0A z.series.length z0c, .slice z1A z.raw.length z1c, .slice z2A z.fine.length z2c, .slice z3A z.coarse.length z3c, .int .i64 z.rawFrom, .int .i64 z.fineFrom, .int .i64 z.fineTo, .int .i64 z.coarseFrom, .int .i64 z.coarseTo] rfl rfl rfl rfl agg27 inf27) rfl ?_
 refine l_callF wn rfl Try.call19 rfl (fun w1 hM => c_shWrong _ _ _ _ z (In w1) w1 (fun _ h => h) (hM.slp 2 rfl) (hM.slp 3 rfl) (hM.slp 4 rfl) (hM.slp 5 rfl)) ?_
 refine l_val wn (r_assign rfl) rfl ?_
 refine l_nil (e_go hK3 ?_)
 refine c_seq fun _ hK4 => ?_
 refine c_region ?_
 refine l_val wn (r_move rfl) rfl ?_
 refine l_val wn (r_neq rfl rfl) rfl ?_
 refine l_nil (e_go hK4 ?_)
 refine c_cond rfl (fun h1 => ?_) (fun h1 => ?_)
 · refine c_seq fun _ hK5 => ?_
   refine c_region ?_
   refine l_val wn (r_build [.int .i64 0, .int .i64 0, .int .i64 0, .int .i64 0, .int .i64 0, .int .i64 0, .int .i64 0] pl35 inf35 rfl rfl) rfl ?_
   refine l_val wn (r_move rfl) rfl ?_
   refine l_stn 0 wn rfl rfl rfl inf35 rfl rfl rfl ?_
   refine l_val wn (r_assign rfl) rfl ?_
   refine l_val wn (r_assign rfl) rfl ?_
   refine l_nil (e_go hK5 ?_)
   refine c_ret (e_then_r (e_ret3 (.inl rfl) Try.results17 (rv_cell 0 rfl rfl agg35 inf35 rfl) (rv_tmp rfl) (rv_tmp rfl) fun w1 hM => ?_))
   have he : Sh.read z l = (Sum.zero, 0, (Sh.wrong z)) := Sh.read_wrong h1
   rw [he]
   exact ret_ok rfl hM
 obtain ⟨l1, l2, l3, l4⟩ := (Sh.ok_of h1).lens
 refine c_skip (e_go hK2 ?_)
 refine c_seq fun _ hK6 => ?_
 refine c_region ?_
 refine l_alloc wn inf35 rfl fun b8 => ?_
 refine l_nil (e_go hK6 ?_)
 refine c_seq fun _ hK7 => ?_
 refine c_region ?_
 refine l_val wn (r_assign rfl) rfl ?_
 refine l_nil (e_go hK7 ?_)
 refine c_seq fun _ hK8 => ?_
 refine c_seq fun _ hK9 => ?_
 refine c_region ?_
 refine l_val wn (r_move rfl) rfl ?_
 refine l_val wn (r_len rfl Try.underlying28) rfl ?_
 refine l_val wn (r_move rfl) rfl ?_
 refine l_nil (e_go hK9 ?_)
 refine c_block ?_
 refine c_loop3 (fun (k : Nat) (u : Sum) (c : Int) => [(1, .slice lA l.length lc), (2, .pointer (some ⟨b2, 0, none⟩)), (4, .pointer (some ⟨b4, 0, none⟩)), (8, .pointer (some ⟨b8, 0, none⟩)), (9, .int .i64 c), (21, .slice lA l.length lc), (22, .int .i64 (l.length : Int)), (23, .int .i64 (k : Int))]) (fun (k : Nat) (u : Sum) (c : Int) => [.blk b8 [.int .i64 u.count, .int .i64 u.total, .int .i64 u.min, .int .i64 u.max, .int .i64 u.first, .int .i64 u.last, .int .i64 u.rise] 35, .blk b4 [.int .i64 0, .int .i64 0, .int .i64 0, .int .i64 0, .int .i64 0, .int .i64 0, .int .i64 0] 35, .blk b2 [.slice z0A z.series.length z0c, .slice z1A z.raw.length z1c, .slice z2A z.fine.length z2c, .slice z3A z.coarse.length z3c, .int .i64 z.rawFrom, .int .i64 z.fineFrom, .int .i64 z.fineTo, .int .i64 z.coarseFrom, .int .i64 z.coarseTo] 27, slP 2 labelE (.slice z0A z.series.length z0c) z.series, slP 2 sampleE (.slice z1A z.raw.length z1c) z.raw, slP 8 bucketE (.slice z2A z.fine.length z2c) z.fine, slP 8 bucketE (.slice z3A z.coarse.length z3c) z.coarse, slP 3 partE (.slice lA l.length lc) l]) (fun (k : Nat) (u : Sum) (c : Int) => k ≤ l.length ∧ Sh.readN z none l Sum.zero 0 = Sh.readN z (Sh.prevP l k) (l.drop k) u c ∧ (0 ≤ c ∧ c ≤ 500 * (k : Int)) ∧ Sh.good u (30000 * (k : Int))) (fun (k : Nat) (u : Sum) (c : Int) => l.length - k) 0 Sum.zero 0 (sc rfl (sc rfl (sc rfl (sc rfl (sc rfl (sc rfl (sc rfl (sc (ji (by first | omega | (simp [Roll.inT, Sh.bIn]; done) | (rw [hst2, List.length_append]; simp only [List.length_cons, List.length_nil]; omega) | (rw [hst2]; done) | (rw [hst2]; omega))) sn)))))))) (fun _ h => h) ?_ (fun k u c hI1 => ?_)
 · exact ⟨by omega, rfl, by omega, by simpa using Sh.good_zero⟩
 refine c_seq fun _ hK10 => ?_
 refine c_region ?_
 refine l_val wn (r_lss rfl rfl) rfl ?_
 refine l_nil (e_go hK10 ?_)
 refine c_seq fun _ hK11 => ?_
 refine c_cond rfl (fun h2 => ?_) (fun h2 => ?_)
 · refine c_skip (e_go hK11 ?_)
   refine c_seq fun _ hK12 => ?_
   refine c_block ?_
   refine c_seq fun _ hK13 => ?_
   refine c_region ?_
   refine l_val wn (r_move rfl) rfl ?_
   obtain ⟨ad1, hd1⟩ := hlA (ne_nil (i := k) (by first | omega | decide | (simp only [List.length_cons, List.length_nil, List.length_append, List.length_take, List.length_set]; omega)))
   refine l_val wn (r_ia (i := k) rfl hd1 rfl (by omega) (by first | omega | decide | (simp only [List.length_cons, List.length_nil, List.length_append, List.length_take, List.length_set]; omega)) Try.underlying28 inf61) rfl ?_
   obtain ⟨s1, hs1⟩ : ∃ x, l[k]? = some x := ⟨_, List.getElem?_eq_getElem (by first | omega | decide | (simp only [List.length_cons, List.length_nil, List.length_append, List.length_take, List.length_set]; omega))⟩
   have hc91 := Sh.bIn_len z.fine s1.frm s1.to
   have hc92 := Sh.bIn_len z.coarse s1.frm s1.to
   have hc93 := Roll.inT_len z.raw s1.frm s1.to
   refine l_val wn (r_pln 7 [.int .i64 s1.tier, .int .i64 s1.frm, .int .i64 s1.to] rfl rfl hd1 hs1 rfl rfl agg61 inf61) rfl ?_
   refine l_alloc wn inf61 rfl fun b11 => ?_
   refine l_val wn (r_assign rfl) rfl ?_
   refine l_stn 0 wn rfl rfl rfl inf61 rfl rfl rfl ?_
   refine l_nil (e_go hK13 ?_)
   refine c_seq fun _ hK14 => ?_
   refine c_seq fun _ hK15 => ?_
   refine c_quiet mix (by kernel_rfl) (fun _ h => h.drew) ?_
   refine q_val wn (r_lbn 0 [.int .i64 s1.tier, .int .i64 s1.frm, .int .i64 s1.to] rfl rfl rfl rfl agg61 inf61) rfl ?_
   refine q_callF wn rfl Try.call37 rfl (fun w1 hM => c_may b2 _ _ _ _ z s1 w1 (hM.blk (i := 3) rfl)) ?_
   refine q_val wn (r_not rfl) rfl ?_
   refine q_val wn (r_move rfl) rfl ?_
   refine q_case (t := 31) rfl (fun h3 => ?_) (fun h3 => ?_)
   · refine q_skip (wg rfl rfl rfl) rfl ?_
     refine q_skip (wg rfl rfl rfl) rfl ?_
     refine q_skip (wg rfl rfl rfl) rfl ?_
     refine q_skip (wu rfl rfl) rfl ?_
     refine q_skip (wu rfl rfl) rfl ?_
     refine q_skip (wu rfl rfl) rfl ?_
     refine q_skip (wu rfl rfl) rfl ?_
     refine q_skip (wu rfl rfl) rfl ?_
     refine q_skip (wu rfl rfl) rfl ?_
     refine q_skip (wu rfl rfl) rfl ?_
     refine q_skip (wu rfl rfl) rfl ?_
     refine q_skip (wu rfl rfl) rfl ?_
     refine q_skip (wg rfl rfl rfl) rfl ?_
     refine q_val wn (r_pick rfl rfl) rfl ?_
     refine q_end (e_go hK15 ?_)
     refine c_true rfl rfl ?_
     refine c_seq fun _ hK16 => ?_
     refine c_region ?_
     refine l_val wn (r_build [.int .i64 0, .int .i64 0, .int .i64 0, .int .i64 0, .int .i64 0, .int .i64 0, .int .i64 0] pl35 inf35 rfl rfl) rfl ?_
     refine l_stn 2 wn rfl rfl rfl inf35 rfl rfl rfl ?_
     refine l_val wn (r_assign rfl) rfl ?_
     refine l_val wn (r_assign rfl) rfl ?_
     refine l_nil (e_go hK16 ?_)
     refine c_ret (e_then_r (e_in_r (e_then_r (e_loop3_r (e_in_r (e_then_r (e_ret3 (.inl rfl) Try.results17 (rv_cell 2 rfl rfl agg35 inf35 rfl) (rv_tmp rfl) (rv_tmp rfl) fun w1 hM => ?_)))))))
     have he : Sh.read z l = (Sum.zero, 0, 8) := Sh.read_bad h1 hI1.2.1 hs1 (.inl h3)
     rw [he]
     exact ret_ok rfl hM
   refine q_val (wg rfl rfl rfl) (r_move rfl) rfl ?_
   refine q_val (wg rfl rfl rfl) (r_gtr rfl rfl) rfl ?_
   refine q_val (wg rfl rfl rfl) (r_move rfl) rfl ?_
   refine q_case (t := 34) rfl (fun h4 => ?_) (fun h4 => ?_)
   · refine q_val (wg rfl rfl rfl) (r_move rfl) rfl ?_
     refine q_val (wg rfl rfl rfl) (r_move rfl) rfl ?_
     refine q_val (wg rfl rfl rfl) (r_subn rfl rfl (by omega)) rfl ?_
     refine q_val (wg rfl rfl rfl) (r_ia (i := (k - 1)) rfl hd1 rfl (by omega) (by first | omega | decide | (simp only [List.length_cons, List.length_nil, List.length_append, List.length_take, List.length_set]; omega)) Try.underlying28 inf61) rfl ?_
     refine q_val (wg rfl rfl rfl) (r_fe rfl fld61_2) rfl ?_
     obtain ⟨s2, hs2⟩ : ∃ x, l[(k - 1)]? = some x := ⟨_, List.getElem?_eq_getElem (by first | omega | decide | (simp only [List.length_cons, List.length_nil, List.length_append, List.length_take, List.length_set]; omega))⟩
     refine q_val (wg rfl rfl rfl) (r_pl 8 rfl rfl hd1 hs2 rfl flat3) rfl ?_
     refine q_val (wg rfl rfl rfl) (r_fa rfl fld61_1) rfl ?_
     refine q_val (wg rfl rfl rfl) (r_lb 0 rfl rfl rfl flat3) rfl ?_
     refine q_val (wg rfl rfl rfl) (r_neq rfl rfl) rfl ?_
     refine q_val (wg rfl rfl rfl) (r_pick rfl rfl) rfl ?_
     refine q_val wn (r_pick rfl rfl) rfl ?_
     refine q_end (e_go hK15 ?_)
     refine c_cond rfl (fun h5 => ?_) (fun h5 => ?_)
     · refine c_seq fun _ hK17 => ?_
       refine c_region ?_
       refine l_val wn (r_build [.int .i64 0, .int .i64 0, .int .i64 0, .int .i64 0, .int .i64 0, .int .i64 0, .int .i64 0] pl35 inf35 rfl rfl) rfl ?_
       refine l_stn 2 wn rfl rfl rfl inf35 rfl rfl rfl ?_
       refine l_val wn (r_assign rfl) rfl ?_
       refine l_val wn (r_assign rfl) rfl ?_
       refine l_nil (e_go hK17 ?_)
       refine c_ret (e_then_r (e_in_r (e_then_r (e_loop3_r (e_in_r (e_then_r (e_ret3 (.inl rfl) Try.results17 (rv_cell 2 rfl rfl agg35 inf35 rfl) (rv_tmp rfl) (rv_tmp rfl) fun w1 hM => ?_)))))))
       have he : Sh.read z l = (Sum.zero, 0, 8) := Sh.read_bad h1 hI1.2.1 hs1 (.inr ((Sh.apart_pos (by omega) hs2).2 h5))
       rw [he]
       exact ret_ok rfl hM
     refine c_skip (e_go hK14 ?_)
     refine c_seq fun _ hK18 => ?_
     refine c_region ?_
     refine l_alloc wn inf35 rfl fun b12 => ?_
     refine l_nil (e_go hK18 ?_)
     refine c_seq fun _ hK19 => ?_
     refine c_seq fun _ hK20 => ?_
     refine c_region ?_
     refine l_val wn (r_fa rfl fld61_0) rfl ?_
     refine l_val wn (r_lb 1 rfl rfl rfl flat3) rfl ?_
     refine l_nil (e_go hK20 ?_)
     refine c_block ?_
     refine c_seq fun _ hK21 => ?_
     refine c_region ?_
     refine l_val wn (r_eql rfl rfl) rfl ?_
     refine l_val wn (r_assign rfl) rfl ?_
     refine l_nil (e_go hK21 ?_)
     refine c_cond rfl (fun h6 => ?_) (fun h6 => ?_)
     · refine c_seq fun _ hK22 => ?_
       refine c_region ?_
       refine l_val wn (r_fa rfl fld27_2) rfl ?_
       refine l_val wn (r_lb 4 rfl rfl rfl flat25) rfl ?_
       refine l_val wn (r_fa rfl fld61_1) rfl ?_
       refine l_val wn (r_lb 1 rfl rfl rfl flat3) rfl ?_
       refine l_val wn (r_fa rfl fld61_2) rfl ?_
       refine l_val wn (r_lb 1 rfl rfl rfl flat3) rfl ?_
       refine l_callF wn rfl Try.call41 rfl (fun w1 hM => c_rollOf _ z.fine s1.frm s1.to w1 (hM.slp 7 rfl)) ?_
       refine l_stn 0 wn rfl rfl rfl inf35 rfl rfl rfl ?_
       refine l_nil (e_go hK22 ?_)
       refine c_region ?_
       refine l_val wn (r_move rfl) rfl ?_
       refine l_val wn (r_fa rfl fld27_2) rfl ?_
       refine l_val wn (r_lb 4 rfl rfl rfl flat25) rfl ?_
       refine l_val wn (r_lbn 1 [.int .i64 s1.tier, .int .i64 s1.frm, .int .i64 s1.to] rfl rfl rfl rfl agg61 inf61) rfl ?_
       refine l_callF wn rfl Try.call42 rfl (fun w1 hM => c_count _ z.fine s1 w1 (hM.slp 7 rfl) (by omega)) ?_
       refine l_val wn (r_addn rfl rfl (by omega)) rfl ?_
       refine l_val wn (r_assign rfl) rfl ?_
       refine l_nil (e_in_n (e_go hK19 ?_))
       refine c_region ?_
       refine l_val wn (r_lbn 2 [.int .i64 u.count, .int .i64 u.total, .int .i64 u.min, .int .i64 u.max, .int .i64 u.first, .int .i64 u.last, .int .i64 u.rise] rfl rfl rfl rfl agg35 inf35) rfl ?_
       refine l_val wn (r_lbn 0 [.int .i64 ((Roll.of z.fine s1.frm s1.to).count), .int .i64 ((Roll.of z.fine s1.frm s1.to).total), .int .i64 ((Roll.of z.fine s1.frm s1.to).min), .int .i64 ((Roll.of z.fine s1.frm s1.to).max), .int .i64 ((Roll.of z.fine s1.frm s1.to).first), .int .i64 ((Roll.of z.fine s1.frm s1.to).last), .int .i64 ((Roll.of z.fine s1.frm s1.to).rise)] rfl rfl rfl rfl agg35 inf35) rfl ?_
       refine l_callF wn rfl Try.call43 rfl (fun w1 hM => c_Join u (Roll.of z.fine s1.frm s1.to) w1) ?_
       refine l_stn 2 wn rfl rfl rfl inf35 rfl rfl rfl ?_
       refine l_nil (e_in_n (e_go hK12 ?_))
       refine c_region ?_
       refine l_val wn (r_addn rfl rfl (by omega)) rfl ?_
       refine l_val wn (r_move rfl) rfl ?_
       refine l_nil (e_round3 (k + 1) (Agg.join u (Roll.of z.fine s1.frm s1.to)) (c + ((Sh.bIn z.fine s1.frm s1.to).length : Int)) (sc rfl (sc rfl (sc rfl (sc rfl (sc rfl (sc rfl (sc rfl (sc (ji (by first | omega | (simp [Roll.inT, Sh.bIn]; done) | (rw [hst2, List.length_append]; simp only [List.length_cons, List.length_nil]; omega) | (rw [hst2]; done) | (rw [hst2]; omega))) sn)))))))) (fun _ h => (h.sel [2, 3, 4, 5, 6, 7, 8, 9] (by decide) rfl)) ?_ ?_)
       · have hps := Sh.partSum_1 (z := z) h6
         have hgd := Sh.partSum_good (Sh.ok_of h1) (Classical.not_not.1 h3)
         have hcr := Sh.partCost_rng (Sh.ok_of h1) s1
         rw [hps.1] at hgd
         rw [hps.2] at hcr
         exact ⟨by omega, Sh.read_next hI1.2.1 hs1 (Classical.not_not.1 h3) (fun q => h5 ((Sh.apart_pos (by omega) hs2).1 q)) hps.1 hps.2, by omega, (hI1.2.2.2.join hgd (by omega)).mono (by omega)⟩
       omega
     refine c_seq fun _ hK23 => ?_
     refine c_region ?_
     refine l_val wn (r_eql rfl rfl) rfl ?_
     refine l_val wn (r_assign rfl) rfl ?_
     refine l_nil (e_go hK23 ?_)
     refine c_cond rfl (fun h7 => ?_) (fun h7 => ?_)
     · refine c_seq fun _ hK24 => ?_
       refine c_region ?_
       refine l_val wn (r_fa rfl fld27_3) rfl ?_
       refine l_val wn (r_lb 4 rfl rfl rfl flat25) rfl ?_
       refine l_val wn (r_fa rfl fld61_1) rfl ?_
       refine l_val wn (r_lb 1 rfl rfl rfl flat3) rfl ?_
       refine l_val wn (r_fa rfl fld61_2) rfl ?_
       refine l_val wn (r_lb 1 rfl rfl rfl flat3) rfl ?_
       refine l_callF wn rfl Try.call41 rfl (fun w1 hM => c_rollOf _ z.coarse s1.frm s1.to w1 (hM.slp 8 rfl)) ?_
       refine l_stn 0 wn rfl rfl rfl inf35 rfl rfl rfl ?_
       refine l_nil (e_go hK24 ?_)
       refine c_region ?_
       refine l_val wn (r_move rfl) rfl ?_
       refine l_val wn (r_fa rfl fld27_3) rfl ?_
       refine l_val wn (r_lb 4 rfl rfl rfl flat25) rfl ?_
       refine l_val wn (r_lbn 1 [.int .i64 s1.tier, .int .i64 s1.frm, .int .i64 s1.to] rfl rfl rfl rfl agg61 inf61) rfl ?_
       refine l_callF wn rfl Try.call42 rfl (fun w1 hM => c_count _ z.coarse s1 w1 (hM.slp 8 rfl) (by omega)) ?_
       refine l_val wn (r_addn rfl rfl (by omega)) rfl ?_
       refine l_val wn (r_assign rfl) rfl ?_
       refine l_nil (e_in_n (e_go hK19 ?_))
       refine c_region ?_
       refine l_val wn (r_lbn 2 [.int .i64 u.count, .int .i64 u.total, .int .i64 u.min, .int .i64 u.max, .int .i64 u.first, .int .i64 u.last, .int .i64 u.rise] rfl rfl rfl rfl agg35 inf35) rfl ?_
       refine l_val wn (r_lbn 0 [.int .i64 ((Roll.of z.coarse s1.frm s1.to).count), .int .i64 ((Roll.of z.coarse s1.frm s1.to).total), .int .i64 ((Roll.of z.coarse s1.frm s1.to).min), .int .i64 ((Roll.of z.coarse s1.frm s1.to).max), .int .i64 ((Roll.of z.coarse s1.frm s1.to).first), .int .i64 ((Roll.of z.coarse s1.frm s1.to).last), .int .i64 ((Roll.of z.coarse s1.frm s1.to).rise)] rfl rfl rfl rfl agg35 inf35) rfl ?_
       refine l_callF wn rfl Try.call43 rfl (fun w1 hM => c_Join u (Roll.of z.coarse s1.frm s1.to) w1) ?_
       refine l_stn 2 wn rfl rfl rfl inf35 rfl rfl rfl ?_
       refine l_nil (e_in_n (e_go hK12 ?_))
       refine c_region ?_
       refine l_val wn (r_addn rfl rfl (by omega)) rfl ?_
       refine l_val wn (r_move rfl) rfl ?_
       refine l_nil (e_round3 (k + 1) (Agg.join u (Roll.of z.coarse s1.frm s1.to)) (c + ((Sh.bIn z.coarse s1.frm s1.to).length : Int)) (sc rfl (sc rfl (sc rfl (sc rfl (sc rfl (sc rfl (sc rfl (sc (ji (by first | omega | (simp [Roll.inT, Sh.bIn]; done) | (rw [hst2, List.length_append]; simp only [List.length_cons, List.length_nil]; omega) | (rw [hst2]; done) | (rw [hst2]; omega))) sn)))))))) (fun _ h => (h.sel [2, 3, 4, 5, 6, 7, 8, 9] (by decide) rfl)) ?_ ?_)
       · have hps := Sh.partSum_2 (z := z) h6 h7
         have hgd := Sh.partSum_good (Sh.ok_of h1) (Classical.not_not.1 h3)
         have hcr := Sh.partCost_rng (Sh.ok_of h1) s1
         rw [hps.1] at hgd
         rw [hps.2] at hcr
         exact ⟨by omega, Sh.read_next hI1.2.1 hs1 (Classical.not_not.1 h3) (fun q => h5 ((Sh.apart_pos (by omega) hs2).1 q)) hps.1 hps.2, by omega, (hI1.2.2.2.join hgd (by omega)).mono (by omega)⟩
       omega
     refine c_seq fun _ hK25 => ?_
     refine c_region ?_
     refine l_val wn (r_fa rfl fld27_1) rfl ?_
     refine l_val wn (r_lb 4 rfl rfl rfl flat24) rfl ?_
     refine l_val wn (r_len rfl Try.underlying24) rfl ?_
     refine l_val wn (r_move rfl) rfl ?_
     refine l_nil (e_go hK25 ?_)
     refine c_block ?_
     refine c_loop1 (fun (j : Nat) => [(1, .slice lA l.length lc), (2, .pointer (some ⟨b2, 0, none⟩)), (4, .pointer (some ⟨b4, 0, none⟩)), (8, .pointer (some ⟨b8, 0, none⟩)), (9, .int .i64 (c + ((Roll.inT (z.raw.take j) s1.frm s1.to).length : Int))), (11, .pointer (some ⟨b11, 0, none⟩)), (12, .pointer (some ⟨b12, 0, none⟩)), (21, .slice lA l.length lc), (22, .int .i64 (l.length : Int)), (23, .int .i64 (k : Int)), (50, .slice z1A z.raw.length z1c), (51, .int .i64 (z.raw.length : Int)), (52, .int .i64 (j : Int))]) (fun (j : Nat) => [.blk b12 [.int .i64 ((Agg.of (Roll.inT (z.raw.take j) s1.frm s1.to)).count), .int .i64 ((Agg.of (Roll.inT (z.raw.take j) s1.frm s1.to)).total), .int .i64 ((Agg.of (Roll.inT (z.raw.take j) s1.frm s1.to)).min), .int .i64 ((Agg.of (Roll.inT (z.raw.take j) s1.frm s1.to)).max), .int .i64 ((Agg.of (Roll.inT (z.raw.take j) s1.frm s1.to)).first), .int .i64 ((Agg.of (Roll.inT (z.raw.take j) s1.frm s1.to)).last), .int .i64 ((Agg.of (Roll.inT (z.raw.take j) s1.frm s1.to)).rise)] 35, .blk b11 [.int .i64 s1.tier, .int .i64 s1.frm, .int .i64 s1.to] 61, .blk b8 [.int .i64 u.count, .int .i64 u.total, .int .i64 u.min, .int .i64 u.max, .int .i64 u.first, .int .i64 u.last, .int .i64 u.rise] 35, .blk b4 [.int .i64 0, .int .i64 0, .int .i64 0, .int .i64 0, .int .i64 0, .int .i64 0, .int .i64 0] 35, .blk b2 [.slice z0A z.series.length z0c, .slice z1A z.raw.length z1c, .slice z2A z.fine.length z2c, .slice z3A z.coarse.length z3c, .int .i64 z.rawFrom, .int .i64 z.fineFrom, .int .i64 z.fineTo, .int .i64 z.coarseFrom, .int .i64 z.coarseTo] 27, slP 2 labelE (.slice z0A z.series.length z0c) z.series, slP 2 sampleE (.slice z1A z.raw.length z1c) z.raw, slP 8 bucketE (.slice z2A z.fine.length z2c) z.fine, slP 8 bucketE (.slice z3A z.coarse.length z3c) z.coarse, slP 3 partE (.slice lA l.length lc) l]) (fun (j : Nat) => j ≤ z.raw.length) (fun (j : Nat) => z.raw.length - j) 0 (sc rfl (sc rfl (sc rfl (sc rfl (sc (ji (by first | omega | (simp [Roll.inT, Sh.bIn]; done) | (rw [hst2, List.length_append]; simp only [List.length_cons, List.length_nil]; omega) | (rw [hst2]; done) | (rw [hst2]; omega))) (sc rfl (sc rfl (sc rfl (sc rfl (sc rfl (sc rfl (sc rfl (sc (ji (by first | omega | (simp [Roll.inT, Sh.bIn]; done) | (rw [hst2, List.length_append]; simp only [List.length_cons, List.length_nil]; omega) | (rw [hst2]; done) | (rw [hst2]; omega))) sn))))))))))))) (fun _ h => h) ?_ (fun j hI2 => ?_)
     · omega
     have hlj := Nat.le_trans (Roll.inT_len (z.raw.take j) s1.frm s1.to) (List.length_take_le' j z.raw)
     refine c_seq fun _ hK26 => ?_
     refine c_region ?_
     refine l_val wn (r_lss rfl rfl) rfl ?_
     refine l_nil (e_go hK26 ?_)
     refine c_seq fun _ hK27 => ?_
     refine c_cond rfl (fun h8 => ?_) (fun h8 => ?_)
     · refine c_skip (e_go hK27 ?_)
       refine c_seq fun _ hK28 => ?_
       refine c_block ?_
       refine c_seq fun _ hK29 => ?_
       refine c_region ?_
       obtain ⟨ad2, hd2⟩ := hz1A (ne_nil (i := j) (by first | omega | decide | (simp only [List.length_cons, List.length_nil, List.length_append, List.length_take, List.length_set]; omega)))
       refine l_val wn (r_ia (i := j) rfl hd2 rfl (by omega) (by first | omega | decide | (simp only [List.length_cons, List.length_nil, List.length_append, List.length_take, List.length_set]; omega)) Try.underlying24 inf39) rfl ?_
       obtain ⟨s3, hs3⟩ : ∃ x, z.raw[j]? = some x := ⟨_, List.getElem?_eq_getElem (by first | omega | decide | (simp only [List.length_cons, List.length_nil, List.length_append, List.length_take, List.length_set]; omega))⟩
       refine l_val wn (r_pln 6 [.int .i64 s3.time, .int .i64 s3.value] rfl rfl hd2 hs3 rfl rfl agg39 inf39) rfl ?_
       refine l_alloc wn inf39 rfl fun b14 => ?_
       refine l_stn 0 wn rfl rfl rfl inf39 rfl rfl rfl ?_
       refine l_nil (e_go hK29 ?_)
       refine c_seq fun _ hK30 => ?_
       refine c_region ?_
       refine l_val wn (r_fa rfl fld39_0) rfl ?_
       refine l_val wn (r_lb 0 rfl rfl rfl flat3) rfl ?_
       refine l_val wn (r_fa rfl fld61_1) rfl ?_
       refine l_val wn (r_lb 2 rfl rfl rfl flat3) rfl ?_
       refine l_val wn (r_geq rfl rfl) rfl ?_
       refine l_val wn (r_move rfl) rfl ?_
       refine l_case (t := 61) rfl (fun h9 => ?_) (fun h9 => ?_)
       · refine l_val (wg rfl rfl rfl) (r_fa rfl fld39_0) rfl ?_
         refine l_val (wg rfl rfl rfl) (r_lb 0 rfl rfl rfl flat3) rfl ?_
         refine l_val (wg rfl rfl rfl) (r_fa rfl fld61_2) rfl ?_
         refine l_val (wg rfl rfl rfl) (r_lb 2 rfl rfl rfl flat3) rfl ?_
         refine l_val (wg rfl rfl rfl) (r_lss rfl rfl) rfl ?_
         refine l_val wn (r_pick rfl rfl) rfl ?_
         refine l_nil (e_go hK30 ?_)
         refine c_cond rfl (fun h10 => ?_) (fun h10 => ?_)
         · refine c_seq fun _ hK31 => ?_
           refine c_quietT 5 mix (by kernel_rfl) (fun _ h => h.drew) fun _ hT1 => ?_
           refine q_val wn (r_lbn 1 [.int .i64 ((Agg.of (Roll.inT (z.raw.take j) s1.frm s1.to)).count), .int .i64 ((Agg.of (Roll.inT (z.raw.take j) s1.frm s1.to)).total), .int .i64 ((Agg.of (Roll.inT (z.raw.take j) s1.frm s1.to)).min), .int .i64 ((Agg.of (Roll.inT (z.raw.take j) s1.frm s1.to)).max), .int .i64 ((Agg.of (Roll.inT (z.raw.take j) s1.frm s1.to)).first), .int .i64 ((Agg.of (Roll.inT (z.raw.take j) s1.frm s1.to)).last), .int .i64 ((Agg.of (Roll.inT (z.raw.take j) s1.frm s1.to)).rise)] rfl rfl rfl rfl agg35 inf35) rfl ?_
           refine q_val wn (r_fa rfl fld39_1) rfl ?_
           refine q_val wn (r_lb 0 rfl rfl rfl flat3) rfl ?_
           refine q_callF wn rfl Try.call44 rfl (fun w1 hM => c_One s3.value w1) ?_
           refine q_callF wn rfl Try.call43 rfl (fun w1 hM => c_Join (Agg.of (Roll.inT (z.raw.take j) s1.frm s1.to)) (Agg.one s3.value) w1) ?_
           refine q_tail hT1 ?_
           refine l_stn 1 wn rfl rfl rfl inf35 rfl rfl rfl ?_
           refine l_nil (e_go hK31 ?_)
           refine c_region ?_
           refine l_val wn (r_move rfl) rfl ?_
           refine l_val wn (r_addn rfl rfl (by omega)) rfl ?_
           refine l_val wn (r_assign rfl) rfl ?_
           refine l_nil (e_in_n (e_go hK28 ?_))
           refine c_region ?_
           refine l_val wn (r_addn rfl rfl (by omega)) rfl ?_
           refine l_val wn (r_move rfl) rfl ?_
           have hst := (Sh.inT_of_succ (a := s1.frm) (b := s1.to) hs3).trans (if_pos (by omega))
           have hst2 := (Roll.inT_succ (a := s1.frm) (b := s1.to) hs3).trans (if_pos (by omega))
           refine l_nil (e_round1 (j + 1) (sc rfl (sc rfl (sc rfl (sc rfl (sc (ji (by first | omega | (simp [Roll.inT, Sh.bIn]; done) | (rw [hst2, List.length_append]; simp only [List.length_cons, List.length_nil]; omega) | (rw [hst2]; done) | (rw [hst2]; omega))) (sc rfl (sc rfl (sc rfl (sc rfl (sc rfl (sc rfl (sc rfl (sc (ji (by first | omega | (simp [Roll.inT, Sh.bIn]; done) | (rw [hst2, List.length_append]; simp only [List.length_cons, List.length_nil]; omega) | (rw [hst2]; done) | (rw [hst2]; omega))) sn))))))))))))) (fun _ h => by rw [hst]; exact (h.sel [1, 2, 3, 4, 5, 6, 7, 8, 9, 10] (by decide) rfl)) ?_ ?_)
           · omega
           omega
         refine c_skip (e_in_n (e_go hK28 ?_))
         refine c_region ?_
         refine l_val wn (r_addn rfl rfl (by omega)) rfl ?_
         refine l_val wn (r_move rfl) rfl ?_
         have hst := (Sh.inT_of_succ (a := s1.frm) (b := s1.to) hs3).trans (if_neg (by omega))
         have hst2 := (Roll.inT_succ (a := s1.frm) (b := s1.to) hs3).trans (if_neg (by omega))
         refine l_nil (e_round1 (j + 1) (sc rfl (sc rfl (sc rfl (sc rfl (sc (ji (by first | omega | (simp [Roll.inT, Sh.bIn]; done) | (rw [hst2, List.length_append]; simp only [List.length_cons, List.length_nil]; omega) | (rw [hst2]; done) | (rw [hst2]; omega))) (sc rfl (sc rfl (sc rfl (sc rfl (sc rfl (sc rfl (sc rfl (sc (ji (by first | omega | (simp [Roll.inT, Sh.bIn]; done) | (rw [hst2, List.length_append]; simp only [List.length_cons, List.length_nil]; omega) | (rw [hst2]; done) | (rw [hst2]; omega))) sn))))))))))))) (fun _ h => by rw [hst]; exact (h.sel [1, 2, 3, 4, 5, 6, 7, 8, 9, 10] (by decide) rfl)) ?_ ?_)
         · omega
         omega
       refine l_skip (wg rfl rfl rfl) rfl ?_
       refine l_skip (wg rfl rfl rfl) rfl ?_
       refine l_skip (wg rfl rfl rfl) rfl ?_
       refine l_skip (wg rfl rfl rfl) rfl ?_
       refine l_skip (wg rfl rfl rfl) rfl ?_
       refine l_val wn (r_pick rfl rfl) rfl ?_
       refine l_nil (e_go hK30 ?_)
       refine c_false rfl rfl ?_
       refine c_skip (e_in_n (e_go hK28 ?_))
       refine c_region ?_
       refine l_val wn (r_addn rfl rfl (by omega)) rfl ?_
       refine l_val wn (r_move rfl) rfl ?_
       have hst := (Sh.inT_of_succ (a := s1.frm) (b := s1.to) hs3).trans (if_neg (by omega))
       have hst2 := (Roll.inT_succ (a := s1.frm) (b := s1.to) hs3).trans (if_neg (by omega))
       refine l_nil (e_round1 (j + 1) (sc rfl (sc rfl (sc rfl (sc rfl (sc (ji (by first | omega | (simp [Roll.inT, Sh.bIn]; done) | (rw [hst2, List.length_append]; simp only [List.length_cons, List.length_nil]; omega) | (rw [hst2]; done) | (rw [hst2]; omega))) (sc rfl (sc rfl (sc rfl (sc rfl (sc rfl (sc rfl (sc rfl (sc (ji (by first | omega | (simp [Roll.inT, Sh.bIn]; done) | (rw [hst2, List.length_append]; simp only [List.length_cons, List.length_nil]; omega) | (rw [hst2]; done) | (rw [hst2]; omega))) sn))))))))))))) (fun _ h => by rw [hst]; exact (h.sel [1, 2, 3, 4, 5, 6, 7, 8, 9, 10] (by decide) rfl)) ?_ ?_)
       · omega
       omega
     have hk1 : z.raw.take j = z.raw := List.take_of_length_le (by omega)
     rw [hk1]
     refine c_exit (e_then_x (e_loop1_x (e_in_hit (e_in_n (e_go hK19 ?_)))))
     refine c_region ?_
     refine l_val wn (r_lbn 2 [.int .i64 u.count, .int .i64 u.total, .int .i64 u.min, .int .i64 u.max, .int .i64 u.first, .int .i64 u.last, .int .i64 u.rise] rfl rfl rfl rfl agg35 inf35) rfl ?_
     refine l_val wn (r_lbn 0 [.int .i64 ((Agg.of (Roll.inT z.raw s1.frm s1.to)).count), .int .i64 ((Agg.of (Roll.inT z.raw s1.frm s1.to)).total), .int .i64 ((Agg.of (Roll.inT z.raw s1.frm s1.to)).min), .int .i64 ((Agg.of (Roll.inT z.raw s1.frm s1.to)).max), .int .i64 ((Agg.of (Roll.inT z.raw s1.frm s1.to)).first), .int .i64 ((Agg.of (Roll.inT z.raw s1.frm s1.to)).last), .int .i64 ((Agg.of (Roll.inT z.raw s1.frm s1.to)).rise)] rfl rfl rfl rfl agg35 inf35) rfl ?_
     refine l_callF wn rfl Try.call43 rfl (fun w1 hM => c_Join u (Agg.of (Roll.inT z.raw s1.frm s1.to)) w1) ?_
     refine l_stn 2 wn rfl rfl rfl inf35 rfl rfl rfl ?_
     refine l_nil (e_in_n (e_go hK12 ?_))
     refine c_region ?_
     refine l_val wn (r_addn rfl rfl (by omega)) rfl ?_
     refine l_val wn (r_move rfl) rfl ?_
     refine l_nil (e_round3 (k + 1) (Agg.join u (Agg.of (Roll.inT z.raw s1.frm s1.to))) (c + ((Roll.inT z.raw s1.frm s1.to).length : Int)) (sc rfl (sc rfl (sc rfl (sc rfl (sc rfl (sc rfl (sc rfl (sc (ji (by first | omega | (simp [Roll.inT, Sh.bIn]; done) | (rw [hst2, List.length_append]; simp only [List.length_cons, List.length_nil]; omega) | (rw [hst2]; done) | (rw [hst2]; omega))) sn)))))))) (fun _ h => (h.sel [2, 3, 4, 5, 6, 7, 8, 9] (by decide) rfl)) ?_ ?_)
     · have hps := Sh.partSum_0 (z := z) h6 h7
       have hgd := Sh.partSum_good (Sh.ok_of h1) (Classical.not_not.1 h3)
       have hcr := Sh.partCost_rng (Sh.ok_of h1) s1
       rw [hps.1] at hgd
       rw [hps.2] at hcr
       exact ⟨by omega, Sh.read_next hI1.2.1 hs1 (Classical.not_not.1 h3) (fun q => h5 ((Sh.apart_pos (by omega) hs2).1 q)) hps.1 hps.2, by omega, (hI1.2.2.2.join hgd (by omega)).mono (by omega)⟩
     omega
   refine q_skip (wg rfl rfl rfl) rfl ?_
   refine q_skip (wg rfl rfl rfl) rfl ?_
   refine q_skip (wg rfl rfl rfl) rfl ?_
   refine q_skip (wg rfl rfl rfl) rfl ?_
   refine q_skip (wg rfl rfl rfl) rfl ?_
   refine q_skip (wg rfl rfl rfl) rfl ?_
   refine q_skip (wg rfl rfl rfl) rfl ?_
   refine q_skip (wg rfl rfl rfl) rfl ?_
   refine q_skip (wg rfl rfl rfl) rfl ?_
   refine q_val (wg rfl rfl rfl) (r_pick rfl rfl) rfl ?_
   refine q_val wn (r_pick rfl rfl) rfl ?_
   refine q_end (e_go hK15 ?_)
   refine c_false rfl rfl ?_
   refine c_skip (e_go hK14 ?_)
   refine c_seq fun _ hK32 => ?_
   refine c_region ?_
   refine l_alloc wn inf35 rfl fun b12 => ?_
   refine l_nil (e_go hK32 ?_)
   refine c_seq fun _ hK33 => ?_
   refine c_seq fun _ hK34 => ?_
   refine c_region ?_
   refine l_val wn (r_fa rfl fld61_0) rfl ?_
   refine l_val wn (r_lb 1 rfl rfl rfl flat3) rfl ?_
   refine l_nil (e_go hK34 ?_)
   refine c_block ?_
   refine c_seq fun _ hK35 => ?_
   refine c_region ?_
   refine l_val wn (r_eql rfl rfl) rfl ?_
   refine l_val wn (r_assign rfl) rfl ?_
   refine l_nil (e_go hK35 ?_)
   refine c_cond rfl (fun h11 => ?_) (fun h11 => ?_)
   · refine c_seq fun _ hK36 => ?_
     refine c_region ?_
     refine l_val wn (r_fa rfl fld27_2) rfl ?_
     refine l_val wn (r_lb 4 rfl rfl rfl flat25) rfl ?_
     refine l_val wn (r_fa rfl fld61_1) rfl ?_
     refine l_val wn (r_lb 1 rfl rfl rfl flat3) rfl ?_
     refine l_val wn (r_fa rfl fld61_2) rfl ?_
     refine l_val wn (r_lb 1 rfl rfl rfl flat3) rfl ?_
     refine l_callF wn rfl Try.call41 rfl (fun w1 hM => c_rollOf _ z.fine s1.frm s1.to w1 (hM.slp 7 rfl)) ?_
     refine l_stn 0 wn rfl rfl rfl inf35 rfl rfl rfl ?_
     refine l_nil (e_go hK36 ?_)
     refine c_region ?_
     refine l_val wn (r_move rfl) rfl ?_
     refine l_val wn (r_fa rfl fld27_2) rfl ?_
     refine l_val wn (r_lb 4 rfl rfl rfl flat25) rfl ?_
     refine l_val wn (r_lbn 1 [.int .i64 s1.tier, .int .i64 s1.frm, .int .i64 s1.to] rfl rfl rfl rfl agg61 inf61) rfl ?_
     refine l_callF wn rfl Try.call42 rfl (fun w1 hM => c_count _ z.fine s1 w1 (hM.slp 7 rfl) (by omega)) ?_
     refine l_val wn (r_addn rfl rfl (by omega)) rfl ?_
     refine l_val wn (r_assign rfl) rfl ?_
     refine l_nil (e_in_n (e_go hK33 ?_))
     refine c_region ?_
     refine l_val wn (r_lbn 2 [.int .i64 u.count, .int .i64 u.total, .int .i64 u.min, .int .i64 u.max, .int .i64 u.first, .int .i64 u.last, .int .i64 u.rise] rfl rfl rfl rfl agg35 inf35) rfl ?_
     refine l_val wn (r_lbn 0 [.int .i64 ((Roll.of z.fine s1.frm s1.to).count), .int .i64 ((Roll.of z.fine s1.frm s1.to).total), .int .i64 ((Roll.of z.fine s1.frm s1.to).min), .int .i64 ((Roll.of z.fine s1.frm s1.to).max), .int .i64 ((Roll.of z.fine s1.frm s1.to).first), .int .i64 ((Roll.of z.fine s1.frm s1.to).last), .int .i64 ((Roll.of z.fine s1.frm s1.to).rise)] rfl rfl rfl rfl agg35 inf35) rfl ?_
     refine l_callF wn rfl Try.call43 rfl (fun w1 hM => c_Join u (Roll.of z.fine s1.frm s1.to) w1) ?_
     refine l_stn 2 wn rfl rfl rfl inf35 rfl rfl rfl ?_
     refine l_nil (e_in_n (e_go hK12 ?_))
     refine c_region ?_
     refine l_val wn (r_addn rfl rfl (by omega)) rfl ?_
     refine l_val wn (r_move rfl) rfl ?_
     refine l_nil (e_round3 (k + 1) (Agg.join u (Roll.of z.fine s1.frm s1.to)) (c + ((Sh.bIn z.fine s1.frm s1.to).length : Int)) (sc rfl (sc rfl (sc rfl (sc rfl (sc rfl (sc rfl (sc rfl (sc (ji (by first | omega | (simp [Roll.inT, Sh.bIn]; done) | (rw [hst2, List.length_append]; simp only [List.length_cons, List.length_nil]; omega) | (rw [hst2]; done) | (rw [hst2]; omega))) sn)))))))) (fun _ h => (h.sel [2, 3, 4, 5, 6, 7, 8, 9] (by decide) rfl)) ?_ ?_)
     · have hps := Sh.partSum_1 (z := z) h11
       have hgd := Sh.partSum_good (Sh.ok_of h1) (Classical.not_not.1 h3)
       have hcr := Sh.partCost_rng (Sh.ok_of h1) s1
       rw [hps.1] at hgd
       rw [hps.2] at hcr
       exact ⟨by omega, Sh.read_next hI1.2.1 hs1 (Classical.not_not.1 h3) (Sh.apart_zero (by omega)) hps.1 hps.2, by omega, (hI1.2.2.2.join hgd (by omega)).mono (by omega)⟩
     omega
   refine c_seq fun _ hK37 => ?_
   refine c_region ?_
   refine l_val wn (r_eql rfl rfl) rfl ?_
   refine l_val wn (r_assign rfl) rfl ?_
   refine l_nil (e_go hK37 ?_)
   refine c_cond rfl (fun h12 => ?_) (fun h12 => ?_)
   · refine c_seq fun _ hK38 => ?_
     refine c_region ?_
     refine l_val wn (r_fa rfl fld27_3) rfl ?_
     refine l_val wn (r_lb 4 rfl rfl rfl flat25) rfl ?_
     refine l_val wn (r_fa rfl fld61_1) rfl ?_
     refine l_val wn (r_lb 1 rfl rfl rfl flat3) rfl ?_
     refine l_val wn (r_fa rfl fld61_2) rfl ?_
     refine l_val wn (r_lb 1 rfl rfl rfl flat3) rfl ?_
     refine l_callF wn rfl Try.call41 rfl (fun w1 hM => c_rollOf _ z.coarse s1.frm s1.to w1 (hM.slp 8 rfl)) ?_
     refine l_stn 0 wn rfl rfl rfl inf35 rfl rfl rfl ?_
     refine l_nil (e_go hK38 ?_)
     refine c_region ?_
     refine l_val wn (r_move rfl) rfl ?_
     refine l_val wn (r_fa rfl fld27_3) rfl ?_
     refine l_val wn (r_lb 4 rfl rfl rfl flat25) rfl ?_
     refine l_val wn (r_lbn 1 [.int .i64 s1.tier, .int .i64 s1.frm, .int .i64 s1.to] rfl rfl rfl rfl agg61 inf61) rfl ?_
     refine l_callF wn rfl Try.call42 rfl (fun w1 hM => c_count _ z.coarse s1 w1 (hM.slp 8 rfl) (by omega)) ?_
     refine l_val wn (r_addn rfl rfl (by omega)) rfl ?_
     refine l_val wn (r_assign rfl) rfl ?_
     refine l_nil (e_in_n (e_go hK33 ?_))
     refine c_region ?_
     refine l_val wn (r_lbn 2 [.int .i64 u.count, .int .i64 u.total, .int .i64 u.min, .int .i64 u.max, .int .i64 u.first, .int .i64 u.last, .int .i64 u.rise] rfl rfl rfl rfl agg35 inf35) rfl ?_
     refine l_val wn (r_lbn 0 [.int .i64 ((Roll.of z.coarse s1.frm s1.to).count), .int .i64 ((Roll.of z.coarse s1.frm s1.to).total), .int .i64 ((Roll.of z.coarse s1.frm s1.to).min), .int .i64 ((Roll.of z.coarse s1.frm s1.to).max), .int .i64 ((Roll.of z.coarse s1.frm s1.to).first), .int .i64 ((Roll.of z.coarse s1.frm s1.to).last), .int .i64 ((Roll.of z.coarse s1.frm s1.to).rise)] rfl rfl rfl rfl agg35 inf35) rfl ?_
     refine l_callF wn rfl Try.call43 rfl (fun w1 hM => c_Join u (Roll.of z.coarse s1.frm s1.to) w1) ?_
     refine l_stn 2 wn rfl rfl rfl inf35 rfl rfl rfl ?_
     refine l_nil (e_in_n (e_go hK12 ?_))
     refine c_region ?_
     refine l_val wn (r_addn rfl rfl (by omega)) rfl ?_
     refine l_val wn (r_move rfl) rfl ?_
     refine l_nil (e_round3 (k + 1) (Agg.join u (Roll.of z.coarse s1.frm s1.to)) (c + ((Sh.bIn z.coarse s1.frm s1.to).length : Int)) (sc rfl (sc rfl (sc rfl (sc rfl (sc rfl (sc rfl (sc rfl (sc (ji (by first | omega | (simp [Roll.inT, Sh.bIn]; done) | (rw [hst2, List.length_append]; simp only [List.length_cons, List.length_nil]; omega) | (rw [hst2]; done) | (rw [hst2]; omega))) sn)))))))) (fun _ h => (h.sel [2, 3, 4, 5, 6, 7, 8, 9] (by decide) rfl)) ?_ ?_)
     · have hps := Sh.partSum_2 (z := z) h11 h12
       have hgd := Sh.partSum_good (Sh.ok_of h1) (Classical.not_not.1 h3)
       have hcr := Sh.partCost_rng (Sh.ok_of h1) s1
       rw [hps.1] at hgd
       rw [hps.2] at hcr
       exact ⟨by omega, Sh.read_next hI1.2.1 hs1 (Classical.not_not.1 h3) (Sh.apart_zero (by omega)) hps.1 hps.2, by omega, (hI1.2.2.2.join hgd (by omega)).mono (by omega)⟩
     omega
   refine c_seq fun _ hK39 => ?_
   refine c_region ?_
   refine l_val wn (r_fa rfl fld27_1) rfl ?_
   refine l_val wn (r_lb 4 rfl rfl rfl flat24) rfl ?_
   refine l_val wn (r_len rfl Try.underlying24) rfl ?_
   refine l_val wn (r_move rfl) rfl ?_
   refine l_nil (e_go hK39 ?_)
   refine c_block ?_
   refine c_loop1 (fun (j : Nat) => [(1, .slice lA l.length lc), (2, .pointer (some ⟨b2, 0, none⟩)), (4, .pointer (some ⟨b4, 0, none⟩)), (8, .pointer (some ⟨b8, 0, none⟩)), (9, .int .i64 (c + ((Roll.inT (z.raw.take j) s1.frm s1.to).length : Int))), (11, .pointer (some ⟨b11, 0, none⟩)), (12, .pointer (some ⟨b12, 0, none⟩)), (21, .slice lA l.length lc), (22, .int .i64 (l.length : Int)), (23, .int .i64 (k : Int)), (50, .slice z1A z.raw.length z1c), (51, .int .i64 (z.raw.length : Int)), (52, .int .i64 (j : Int))]) (fun (j : Nat) => [.blk b12 [.int .i64 ((Agg.of (Roll.inT (z.raw.take j) s1.frm s1.to)).count), .int .i64 ((Agg.of (Roll.inT (z.raw.take j) s1.frm s1.to)).total), .int .i64 ((Agg.of (Roll.inT (z.raw.take j) s1.frm s1.to)).min), .int .i64 ((Agg.of (Roll.inT (z.raw.take j) s1.frm s1.to)).max), .int .i64 ((Agg.of (Roll.inT (z.raw.take j) s1.frm s1.to)).first), .int .i64 ((Agg.of (Roll.inT (z.raw.take j) s1.frm s1.to)).last), .int .i64 ((Agg.of (Roll.inT (z.raw.take j) s1.frm s1.to)).rise)] 35, .blk b11 [.int .i64 s1.tier, .int .i64 s1.frm, .int .i64 s1.to] 61, .blk b8 [.int .i64 u.count, .int .i64 u.total, .int .i64 u.min, .int .i64 u.max, .int .i64 u.first, .int .i64 u.last, .int .i64 u.rise] 35, .blk b4 [.int .i64 0, .int .i64 0, .int .i64 0, .int .i64 0, .int .i64 0, .int .i64 0, .int .i64 0] 35, .blk b2 [.slice z0A z.series.length z0c, .slice z1A z.raw.length z1c, .slice z2A z.fine.length z2c, .slice z3A z.coarse.length z3c, .int .i64 z.rawFrom, .int .i64 z.fineFrom, .int .i64 z.fineTo, .int .i64 z.coarseFrom, .int .i64 z.coarseTo] 27, slP 2 labelE (.slice z0A z.series.length z0c) z.series, slP 2 sampleE (.slice z1A z.raw.length z1c) z.raw, slP 8 bucketE (.slice z2A z.fine.length z2c) z.fine, slP 8 bucketE (.slice z3A z.coarse.length z3c) z.coarse, slP 3 partE (.slice lA l.length lc) l]) (fun (j : Nat) => j ≤ z.raw.length) (fun (j : Nat) => z.raw.length - j) 0 (sc rfl (sc rfl (sc rfl (sc rfl (sc (ji (by first | omega | (simp [Roll.inT, Sh.bIn]; done) | (rw [hst2, List.length_append]; simp only [List.length_cons, List.length_nil]; omega) | (rw [hst2]; done) | (rw [hst2]; omega))) (sc rfl (sc rfl (sc rfl (sc rfl (sc rfl (sc rfl (sc rfl (sc (ji (by first | omega | (simp [Roll.inT, Sh.bIn]; done) | (rw [hst2, List.length_append]; simp only [List.length_cons, List.length_nil]; omega) | (rw [hst2]; done) | (rw [hst2]; omega))) sn))))))))))))) (fun _ h => h) ?_ (fun j hI3 => ?_)
   · omega
   have hlj := Nat.le_trans (Roll.inT_len (z.raw.take j) s1.frm s1.to) (List.length_take_le' j z.raw)
   refine c_seq fun _ hK40 => ?_
   refine c_region ?_
   refine l_val wn (r_lss rfl rfl) rfl ?_
   refine l_nil (e_go hK40 ?_)
   refine c_seq fun _ hK41 => ?_
   refine c_cond rfl (fun h13 => ?_) (fun h13 => ?_)
   · refine c_skip (e_go hK41 ?_)
     refine c_seq fun _ hK42 => ?_
     refine c_block ?_
     refine c_seq fun _ hK43 => ?_
     refine c_region ?_
     obtain ⟨ad3, hd3⟩ := hz1A (ne_nil (i := j) (by first | omega | decide | (simp only [List.length_cons, List.length_nil, List.length_append, List.length_take, List.length_set]; omega)))
     refine l_val wn (r_ia (i := j) rfl hd3 rfl (by omega) (by first | omega | decide | (simp only [List.length_cons, List.length_nil, List.length_append, List.length_take, List.length_set]; omega)) Try.underlying24 inf39) rfl ?_
     obtain ⟨s4, hs4⟩ : ∃ x, z.raw[j]? = some x := ⟨_, List.getElem?_eq_getElem (by first | omega | decide | (simp only [List.length_cons, List.length_nil, List.length_append, List.length_take, List.length_set]; omega))⟩
     refine l_val wn (r_pln 6 [.int .i64 s4.time, .int .i64 s4.value] rfl rfl hd3 hs4 rfl rfl agg39 inf39) rfl ?_
     refine l_alloc wn inf39 rfl fun b14 => ?_
     refine l_stn 0 wn rfl rfl rfl inf39 rfl rfl rfl ?_
     refine l_nil (e_go hK43 ?_)
     refine c_seq fun _ hK44 => ?_
     refine c_region ?_
     refine l_val wn (r_fa rfl fld39_0) rfl ?_
     refine l_val wn (r_lb 0 rfl rfl rfl flat3) rfl ?_
     refine l_val wn (r_fa rfl fld61_1) rfl ?_
     refine l_val wn (r_lb 2 rfl rfl rfl flat3) rfl ?_
     refine l_val wn (r_geq rfl rfl) rfl ?_
     refine l_val wn (r_move rfl) rfl ?_
     refine l_case (t := 61) rfl (fun h14 => ?_) (fun h14 => ?_)
     · refine l_val (wg rfl rfl rfl) (r_fa rfl fld39_0) rfl ?_
       refine l_val (wg rfl rfl rfl) (r_lb 0 rfl rfl rfl flat3) rfl ?_
       refine l_val (wg rfl rfl rfl) (r_fa rfl fld61_2) rfl ?_
       refine l_val (wg rfl rfl rfl) (r_lb 2 rfl rfl rfl flat3) rfl ?_
       refine l_val (wg rfl rfl rfl) (r_lss rfl rfl) rfl ?_
       refine l_val wn (r_pick rfl rfl) rfl ?_
       refine l_nil (e_go hK44 ?_)
       refine c_cond rfl (fun h15 => ?_) (fun h15 => ?_)
       · refine c_seq fun _ hK45 => ?_
         refine c_quietT 5 mix (by kernel_rfl) (fun _ h => h.drew) fun _ hT2 => ?_
         refine q_val wn (r_lbn 1 [.int .i64 ((Agg.of (Roll.inT (z.raw.take j) s1.frm s1.to)).count), .int .i64 ((Agg.of (Roll.inT (z.raw.take j) s1.frm s1.to)).total), .int .i64 ((Agg.of (Roll.inT (z.raw.take j) s1.frm s1.to)).min), .int .i64 ((Agg.of (Roll.inT (z.raw.take j) s1.frm s1.to)).max), .int .i64 ((Agg.of (Roll.inT (z.raw.take j) s1.frm s1.to)).first), .int .i64 ((Agg.of (Roll.inT (z.raw.take j) s1.frm s1.to)).last), .int .i64 ((Agg.of (Roll.inT (z.raw.take j) s1.frm s1.to)).rise)] rfl rfl rfl rfl agg35 inf35) rfl ?_
         refine q_val wn (r_fa rfl fld39_1) rfl ?_
         refine q_val wn (r_lb 0 rfl rfl rfl flat3) rfl ?_
         refine q_callF wn rfl Try.call44 rfl (fun w1 hM => c_One s4.value w1) ?_
         refine q_callF wn rfl Try.call43 rfl (fun w1 hM => c_Join (Agg.of (Roll.inT (z.raw.take j) s1.frm s1.to)) (Agg.one s4.value) w1) ?_
         refine q_tail hT2 ?_
         refine l_stn 1 wn rfl rfl rfl inf35 rfl rfl rfl ?_
         refine l_nil (e_go hK45 ?_)
         refine c_region ?_
         refine l_val wn (r_move rfl) rfl ?_
         refine l_val wn (r_addn rfl rfl (by omega)) rfl ?_
         refine l_val wn (r_assign rfl) rfl ?_
         refine l_nil (e_in_n (e_go hK42 ?_))
         refine c_region ?_
         refine l_val wn (r_addn rfl rfl (by omega)) rfl ?_
         refine l_val wn (r_move rfl) rfl ?_
         have hst := (Sh.inT_of_succ (a := s1.frm) (b := s1.to) hs4).trans (if_pos (by omega))
         have hst2 := (Roll.inT_succ (a := s1.frm) (b := s1.to) hs4).trans (if_pos (by omega))
         refine l_nil (e_round1 (j + 1) (sc rfl (sc rfl (sc rfl (sc rfl (sc (ji (by first | omega | (simp [Roll.inT, Sh.bIn]; done) | (rw [hst2, List.length_append]; simp only [List.length_cons, List.length_nil]; omega) | (rw [hst2]; done) | (rw [hst2]; omega))) (sc rfl (sc rfl (sc rfl (sc rfl (sc rfl (sc rfl (sc rfl (sc (ji (by first | omega | (simp [Roll.inT, Sh.bIn]; done) | (rw [hst2, List.length_append]; simp only [List.length_cons, List.length_nil]; omega) | (rw [hst2]; done) | (rw [hst2]; omega))) sn))))))))))))) (fun _ h => by rw [hst]; exact (h.sel [1, 2, 3, 4, 5, 6, 7, 8, 9, 10] (by decide) rfl)) ?_ ?_)
         · omega
         omega
       refine c_skip (e_in_n (e_go hK42 ?_))
       refine c_region ?_
       refine l_val wn (r_addn rfl rfl (by omega)) rfl ?_
       refine l_val wn (r_move rfl) rfl ?_
       have hst := (Sh.inT_of_succ (a := s1.frm) (b := s1.to) hs4).trans (if_neg (by omega))
       have hst2 := (Roll.inT_succ (a := s1.frm) (b := s1.to) hs4).trans (if_neg (by omega))
       refine l_nil (e_round1 (j + 1) (sc rfl (sc rfl (sc rfl (sc rfl (sc (ji (by first | omega | (simp [Roll.inT, Sh.bIn]; done) | (rw [hst2, List.length_append]; simp only [List.length_cons, List.length_nil]; omega) | (rw [hst2]; done) | (rw [hst2]; omega))) (sc rfl (sc rfl (sc rfl (sc rfl (sc rfl (sc rfl (sc rfl (sc (ji (by first | omega | (simp [Roll.inT, Sh.bIn]; done) | (rw [hst2, List.length_append]; simp only [List.length_cons, List.length_nil]; omega) | (rw [hst2]; done) | (rw [hst2]; omega))) sn))))))))))))) (fun _ h => by rw [hst]; exact (h.sel [1, 2, 3, 4, 5, 6, 7, 8, 9, 10] (by decide) rfl)) ?_ ?_)
       · omega
       omega
     refine l_skip (wg rfl rfl rfl) rfl ?_
     refine l_skip (wg rfl rfl rfl) rfl ?_
     refine l_skip (wg rfl rfl rfl) rfl ?_
     refine l_skip (wg rfl rfl rfl) rfl ?_
     refine l_skip (wg rfl rfl rfl) rfl ?_
     refine l_val wn (r_pick rfl rfl) rfl ?_
     refine l_nil (e_go hK44 ?_)
     refine c_false rfl rfl ?_
     refine c_skip (e_in_n (e_go hK42 ?_))
     refine c_region ?_
     refine l_val wn (r_addn rfl rfl (by omega)) rfl ?_
     refine l_val wn (r_move rfl) rfl ?_
     have hst := (Sh.inT_of_succ (a := s1.frm) (b := s1.to) hs4).trans (if_neg (by omega))
     have hst2 := (Roll.inT_succ (a := s1.frm) (b := s1.to) hs4).trans (if_neg (by omega))
     refine l_nil (e_round1 (j + 1) (sc rfl (sc rfl (sc rfl (sc rfl (sc (ji (by first | omega | (simp [Roll.inT, Sh.bIn]; done) | (rw [hst2, List.length_append]; simp only [List.length_cons, List.length_nil]; omega) | (rw [hst2]; done) | (rw [hst2]; omega))) (sc rfl (sc rfl (sc rfl (sc rfl (sc rfl (sc rfl (sc rfl (sc (ji (by first | omega | (simp [Roll.inT, Sh.bIn]; done) | (rw [hst2, List.length_append]; simp only [List.length_cons, List.length_nil]; omega) | (rw [hst2]; done) | (rw [hst2]; omega))) sn))))))))))))) (fun _ h => by rw [hst]; exact (h.sel [1, 2, 3, 4, 5, 6, 7, 8, 9, 10] (by decide) rfl)) ?_ ?_)
     · omega
     omega
   have hk2 : z.raw.take j = z.raw := List.take_of_length_le (by omega)
   rw [hk2]
   refine c_exit (e_then_x (e_loop1_x (e_in_hit (e_in_n (e_go hK33 ?_)))))
   refine c_region ?_
   refine l_val wn (r_lbn 2 [.int .i64 u.count, .int .i64 u.total, .int .i64 u.min, .int .i64 u.max, .int .i64 u.first, .int .i64 u.last, .int .i64 u.rise] rfl rfl rfl rfl agg35 inf35) rfl ?_
   refine l_val wn (r_lbn 0 [.int .i64 ((Agg.of (Roll.inT z.raw s1.frm s1.to)).count), .int .i64 ((Agg.of (Roll.inT z.raw s1.frm s1.to)).total), .int .i64 ((Agg.of (Roll.inT z.raw s1.frm s1.to)).min), .int .i64 ((Agg.of (Roll.inT z.raw s1.frm s1.to)).max), .int .i64 ((Agg.of (Roll.inT z.raw s1.frm s1.to)).first), .int .i64 ((Agg.of (Roll.inT z.raw s1.frm s1.to)).last), .int .i64 ((Agg.of (Roll.inT z.raw s1.frm s1.to)).rise)] rfl rfl rfl rfl agg35 inf35) rfl ?_
   refine l_callF wn rfl Try.call43 rfl (fun w1 hM => c_Join u (Agg.of (Roll.inT z.raw s1.frm s1.to)) w1) ?_
   refine l_stn 2 wn rfl rfl rfl inf35 rfl rfl rfl ?_
   refine l_nil (e_in_n (e_go hK12 ?_))
   refine c_region ?_
   refine l_val wn (r_addn rfl rfl (by omega)) rfl ?_
   refine l_val wn (r_move rfl) rfl ?_
   refine l_nil (e_round3 (k + 1) (Agg.join u (Agg.of (Roll.inT z.raw s1.frm s1.to))) (c + ((Roll.inT z.raw s1.frm s1.to).length : Int)) (sc rfl (sc rfl (sc rfl (sc rfl (sc rfl (sc rfl (sc rfl (sc (ji (by first | omega | (simp [Roll.inT, Sh.bIn]; done) | (rw [hst2, List.length_append]; simp only [List.length_cons, List.length_nil]; omega) | (rw [hst2]; done) | (rw [hst2]; omega))) sn)))))))) (fun _ h => (h.sel [2, 3, 4, 5, 6, 7, 8, 9] (by decide) rfl)) ?_ ?_)
   · have hps := Sh.partSum_0 (z := z) h11 h12
     have hgd := Sh.partSum_good (Sh.ok_of h1) (Classical.not_not.1 h3)
     have hcr := Sh.partCost_rng (Sh.ok_of h1) s1
     rw [hps.1] at hgd
     rw [hps.2] at hcr
     exact ⟨by omega, Sh.read_next hI1.2.1 hs1 (Classical.not_not.1 h3) (Sh.apart_zero (by omega)) hps.1 hps.2, by omega, (hI1.2.2.2.join hgd (by omega)).mono (by omega)⟩
   omega
 refine c_exit (e_then_x (e_loop3_x (e_in_hit (e_go hK8 ?_))))
 refine c_seq fun _ hK46 => ?_
 refine c_region ?_
 refine l_val wn (r_lbn 0 [.int .i64 u.count, .int .i64 u.total, .int .i64 u.min, .int .i64 u.max, .int .i64 u.first, .int .i64 u.last, .int .i64 u.rise] rfl rfl rfl rfl agg35 inf35) rfl ?_
 refine l_val wn (r_move rfl) rfl ?_
 refine l_stn 1 wn rfl rfl rfl inf35 rfl rfl rfl ?_
 refine l_val wn (r_assign rfl) rfl ?_
 refine l_val wn (r_assign rfl) rfl ?_
 refine l_nil (e_go hK46 ?_)
 refine c_ret (e_ret3 (.inl rfl) Try.results17 (rv_cell 1 rfl rfl agg35 inf35 rfl) (rv_tmp rfl) (rv_tmp rfl) fun w1 hM => ?_)
 have he : Sh.read z l = (u, c, 0) := Sh.read_ok h1 hI1.2.1 (by omega)
 rw [he]
 exact ret_ok rfl hM

end Go.Proofs.Ytnbkennlmnnbeaa
