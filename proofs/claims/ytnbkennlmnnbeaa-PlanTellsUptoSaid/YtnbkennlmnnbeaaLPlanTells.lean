/-
  Walks: what each function hands back.
-/
import Derived.Test.YtnbkennlmnnbeaaWplan3
namespace Go.Proofs.Ytnbkennlmnnbeaa
open Ex
set_option linter.unusedVariables false
set_option linter.unusedSimpArgs false
set_option maxHeartbeats 1000000 in
theorem law_PlanTells (z0 : Value) (z1 : Value) (z2 : Value) (z3 : Value) (z : Shelf) (lv : Value) (l : List Part) (f : Int) (t : Int) (P0 : Nat → Prop) (w : World) (hP0 : ∀ b, P0 b → b < w.heap.size) (hz0 : FlatSl P0 2 labelE z0 z.series w) (hz1 : FlatSl P0 2 sampleE z1 z.raw w) (hz2 : FlatSl P0 8 bucketE z2 z.fine w) (hz3 : FlatSl P0 8 bucketE z3 z.coarse w) (hl : FlatSl P0 3 partE lv l w) (hl1 : l.length ≤ 1048576) (hok : ∀ x ∈ z.series, x.key.size ≤ 9223372036854775807 ∧ x.val.size ≤ 9223372036854775807) :
    Calls Try.prog 3 #[.agg (List.toArray [z0, z1, z2, z3, .int .i64 z.rawFrom, .int .i64 z.fineFrom, .int .i64 z.fineTo, .int .i64 z.coarseFrom, .int .i64 z.coarseTo]), lv, .int .i64 f, .int .i64 t] w (Ret w (.bool true)) := by
 obtain ⟨z0A, z0c, rfl, hz0c, hz0m, hz0A⟩ := hz0.form
 obtain ⟨z1A, z1c, rfl, hz1c, hz1m, hz1A⟩ := hz1.form
 obtain ⟨z2A, z2c, rfl, hz2c, hz2m, hz2A⟩ := hz2.form
 obtain ⟨z3A, z3c, rfl, hz3c, hz3m, hz3A⟩ := hz3.form
 obtain ⟨lA, lc, rfl, hlc, hlm, hlA⟩ := hl.form
 refine fstart (N := 78) (vals := [.agg (List.toArray [.slice z0A z.series.length z0c, .slice z1A z.raw.length z1c, .slice z2A z.fine.length z2c, .slice z3A z.coarse.length z3c, .int .i64 z.rawFrom, .int .i64 z.fineFrom, .int .i64 z.fineTo, .int .i64 z.coarseFrom, .int .i64 z.coarseTo]), .slice lA l.length lc, .int .i64 f, .int .i64 t]) (S := Mem w ⟨no, P0⟩ [slP 2 labelE (.slice z0A z.series.length z0c) z.series, slP 2 sampleE (.slice z1A z.raw.length z1c) z.raw, slP 8 bucketE (.slice z2A z.fine.length z2c) z.fine, slP 8 bucketE (.slice z3A z.coarse.length z3c) z.coarse, slP 3 partE (.slice lA l.length lc) l]) Try.func3 rfl rfl rfl (Mem.ofDatsP hP0 (dc (dlp hz0) (dc (dlp hz1) (dc (dlp hz2) (dc (dlp hz3) (dc (dlp hl) dn)))))) ?_
 refine c_seq fun _ hK1 => ?_
 refine c_region ?_
 refine l_box wn rfl rfl fun b4 => ?_
 refine l_val wn (r_assign rfl) rfl ?_
 refine l_nil (e_go hK1 ?_)
 refine c_seq fun _ hK2 => ?_
 refine c_seq fun _ hK3 => ?_
 refine c_quiet mix (by kernel_rfl) (fun _ h => h.drew) ?_
 refine q_val wn (r_lbn 0 [.slice z0A z.series.length z0c, .slice z1A z.raw.length z1c, .slice z2A z.fine.length z2c, .slice z3A z.coarse.length z3c, .int .i64 z.rawFrom, .int .i64 z.fineFrom, .int .i64 z.fineTo, .int .i64 z.coarseFrom, .int .i64 z.coarseTo] rfl rfl rfl rfl agg27 inf27) rfl ?_
 refine q_val wn (r_move rfl) rfl ?_
 refine q_val wn (r_move rfl) rfl ?_
 refine q_val wn (r_move rfl) rfl ?_
 refine q_callF wn rfl Try.call12 rfl (fun w1 hM => c_covers _ _ _ _ z _ l f t (In w1) w1 (fun _ h => h) (hM.slp 1 rfl) (hM.slp 2 rfl) (hM.slp 3 rfl) (hM.slp 4 rfl) (hM.slp 5 rfl)) ?_
 refine q_val wn (r_lbn 0 [.slice z0A z.series.length z0c, .slice z1A z.raw.length z1c, .slice z2A z.fine.length z2c, .slice z3A z.coarse.length z3c, .int .i64 z.rawFrom, .int .i64 z.fineFrom, .int .i64 z.fineTo, .int .i64 z.coarseFrom, .int .i64 z.coarseTo] rfl rfl rfl rfl agg27 inf27) rfl ?_
 refine q_val wn (r_move rfl) rfl ?_
 refine q_val wn (r_move rfl) rfl ?_
 refine q_val wn (r_move rfl) rfl ?_
 refine q_callF wn rfl Try.call13 rfl (fun w1 hM => c_refCovers _ _ _ _ z _ l f t (In w1) w1 (fun _ h => h) (hM.slp 1 rfl) (hM.slp 2 rfl) (hM.slp 3 rfl) (hM.slp 4 rfl) (hM.slp 5 rfl)) ?_
 refine q_val wn (r_bneq rfl rfl flat4 Try.underlying4) rfl ?_
 refine q_end (e_go hK3 ?_)
 refine c_false rfl (decide_eq_false (fun h => h rfl)) ?_
 refine c_skip (e_go hK2 ?_)
 refine c_seq fun _ hK4 => ?_
 refine c_region ?_
 refine l_val wn (r_lbn 0 [.slice z0A z.series.length z0c, .slice z1A z.raw.length z1c, .slice z2A z.fine.length z2c, .slice z3A z.coarse.length z3c, .int .i64 z.rawFrom, .int .i64 z.fineFrom, .int .i64 z.fineTo, .int .i64 z.coarseFrom, .int .i64 z.coarseTo] rfl rfl rfl rfl agg27 inf27) rfl ?_
 refine l_val wn (r_move rfl) rfl ?_
 refine l_val wn (r_move rfl) rfl ?_
 refine l_callLT ((Sh.choose z f t).1) (fun r => .tuple (List.toArray [r, .int .i64 ((Sh.choose z f t).2)])) wn rfl rfl Try.call14 rfl (fun w1 hM => c_choose _ _ _ _ z f t (In w1) w1 (fun _ h => h) (hM.slp 1 rfl) (hM.slp 2 rfl) (hM.slp 3 rfl) (hM.slp 4 rfl)) fun A1 cp1 hc1 hm1 hA1 => ?_
 refine l_val wn (r_move rfl) rfl ?_
 refine l_val wn (r_extract rfl rfl) rfl ?_
 refine l_val wn (r_extract rfl rfl) rfl ?_
 refine l_val wn (r_assign rfl) rfl ?_
 refine l_val wn (r_assign rfl) rfl ?_
 refine l_nil (e_go hK4 ?_)
 refine c_seq fun _ hK5 => ?_
 refine c_region ?_
 refine l_val wn (r_lbn 1 [.slice z0A z.series.length z0c, .slice z1A z.raw.length z1c, .slice z2A z.fine.length z2c, .slice z3A z.coarse.length z3c, .int .i64 z.rawFrom, .int .i64 z.fineFrom, .int .i64 z.fineTo, .int .i64 z.coarseFrom, .int .i64 z.coarseTo] rfl rfl rfl rfl agg27 inf27) rfl ?_
 refine l_val wn (r_move rfl) rfl ?_
 refine l_val wn (r_move rfl) rfl ?_
 refine l_callLT ((Sh.choose z f t).1) (fun r => .tuple (List.toArray [r, .int .i64 ((Sh.choose z f t).2)])) wn rfl rfl Try.call15 rfl (fun w1 hM => c_refChoose _ _ _ _ z f t (In w1) w1 (fun _ h => h) (hM.slp 2 rfl) (hM.slp 3 rfl) (hM.slp 4 rfl) (hM.slp 5 rfl) (by exact hok)) fun A2 cp2 hc2 hm2 hA2 => ?_
 refine l_val wn (r_move rfl) rfl ?_
 refine l_val wn (r_extract rfl rfl) rfl ?_
 refine l_val wn (r_extract rfl rfl) rfl ?_
 refine l_val wn (r_assign rfl) rfl ?_
 refine l_val wn (r_assign rfl) rfl ?_
 refine l_nil (e_go hK5 ?_)
 refine c_seq fun _ hK6 => ?_
 refine c_seq fun _ hK7 => ?_
 refine c_region ?_
 refine l_val wn (r_move rfl) rfl ?_
 refine l_val wn (r_move rfl) rfl ?_
 refine l_val wn (r_neq rfl rfl) rfl ?_
 refine l_val wn (r_move rfl) rfl ?_
 refine l_litf (t := 45) rfl (fun h => h rfl) ?_
 refine l_val (wg rfl rfl rfl) (r_move rfl) rfl ?_
 refine l_val (wg rfl rfl rfl) (r_move rfl) rfl ?_
 refine l_callF (wg rfl rfl rfl) rfl Try.call16 rfl (fun w1 hM => c_SameParts _ ((Sh.choose z f t).1) _ ((Sh.choose z f t).1) w1 (RowSl encPart hM 1 rfl) (RowSl encPart hM 0 rfl)) ?_
 refine l_val (wg rfl rfl rfl) (r_not rfl) rfl ?_
 refine l_val wn (r_pick rfl rfl) rfl ?_
 refine l_nil (e_go hK7 ?_)
 refine c_false rfl (decide_eq_false (fun h => h rfl)) ?_
 refine c_skip (e_go hK6 ?_)
 refine c_seq fun _ hK8 => ?_
 refine c_region ?_
 refine l_val wn (r_lbn 2 [.slice z0A z.series.length z0c, .slice z1A z.raw.length z1c, .slice z2A z.fine.length z2c, .slice z3A z.coarse.length z3c, .int .i64 z.rawFrom, .int .i64 z.fineFrom, .int .i64 z.fineTo, .int .i64 z.coarseFrom, .int .i64 z.coarseTo] rfl rfl rfl rfl agg27 inf27) rfl ?_
 refine l_val wn (r_move rfl) rfl ?_
 refine l_callF wn rfl Try.call17 rfl (fun w1 hM => c_read _ _ _ _ z _ l (In w1) w1 (fun _ h => h) (hM.slp 3 rfl) (hM.slp 4 rfl) (hM.slp 5 rfl) (hM.slp 6 rfl) (hM.slp 7 rfl) (by first | omega | assumption)) ?_
 refine l_val wn (r_move rfl) rfl ?_
 refine l_val wn (r_extract rfl rfl) rfl ?_
 refine l_val wn (r_extract rfl rfl) rfl ?_
 refine l_val wn (r_extract rfl rfl) rfl ?_
 refine l_alloc wn inf35 rfl fun b13 => ?_
 refine l_stn 0 wn rfl rfl rfl inf35 rfl rfl rfl ?_
 refine l_val wn (r_assign rfl) rfl ?_
 refine l_val wn (r_assign rfl) rfl ?_
 refine l_nil (e_go hK8 ?_)
 refine c_seq fun _ hK9 => ?_
 refine c_region ?_
 refine l_val wn (r_lbn 3 [.slice z0A z.series.length z0c, .slice z1A z.raw.length z1c, .slice z2A z.fine.length z2c, .slice z3A z.coarse.length z3c, .int .i64 z.rawFrom, .int .i64 z.fineFrom, .int .i64 z.fineTo, .int .i64 z.coarseFrom, .int .i64 z.coarseTo] rfl rfl rfl rfl agg27 inf27) rfl ?_
 refine l_val wn (r_move rfl) rfl ?_
 refine l_callF wn rfl Try.call18 rfl (fun w1 hM => c_refRead _ _ _ _ z _ l (In w1) w1 (fun _ h => h) (hM.slp 4 rfl) (hM.slp 5 rfl) (hM.slp 6 rfl) (hM.slp 7 rfl) (hM.slp 8 rfl) (by first | omega | assumption) (by exact hok)) ?_
 refine l_val wn (r_move rfl) rfl ?_
 refine l_val wn (r_extract rfl rfl) rfl ?_
 refine l_val wn (r_extract rfl rfl) rfl ?_
 refine l_val wn (r_extract rfl rfl) rfl ?_
 refine l_alloc wn inf35 rfl fun b15 => ?_
 refine l_stn 0 wn rfl rfl rfl inf35 rfl rfl rfl ?_
 refine l_val wn (r_assign rfl) rfl ?_
 refine l_val wn (r_assign rfl) rfl ?_
 refine l_nil (e_go hK9 ?_)
 refine c_seq fun _ hK10 => ?_
 refine c_region ?_
 refine l_val wn (r_move rfl) rfl ?_
 refine l_val wn (r_move rfl) rfl ?_
 refine l_val wn (r_eql rfl rfl) rfl ?_
 refine l_val wn (r_move rfl) rfl ?_
 refine l_litt (t := 68) rfl rfl ?_
 refine l_val (wg rfl rfl rfl) (r_lbn 1 [.int .i64 (((Sh.read z l).1).count), .int .i64 (((Sh.read z l).1).total), .int .i64 (((Sh.read z l).1).min), .int .i64 (((Sh.read z l).1).max), .int .i64 (((Sh.read z l).1).first), .int .i64 (((Sh.read z l).1).last), .int .i64 (((Sh.read z l).1).rise)] rfl rfl rfl rfl agg35 inf35) rfl ?_
 refine l_val (wg rfl rfl rfl) (r_lbn 0 [.int .i64 (((Sh.read z l).1).count), .int .i64 (((Sh.read z l).1).total), .int .i64 (((Sh.read z l).1).min), .int .i64 (((Sh.read z l).1).max), .int .i64 (((Sh.read z l).1).first), .int .i64 (((Sh.read z l).1).last), .int .i64 (((Sh.read z l).1).rise)] rfl rfl rfl rfl agg35 inf35) rfl ?_
 refine l_val (wg rfl rfl rfl) (r_eqlS (a := ((Sh.read z l).1)) (b := ((Sh.read z l).1)) rfl rfl eqv35) rfl ?_
 refine l_val wn (r_pick rfl rfl) rfl ?_
 refine l_val wn (r_move rfl) rfl ?_
 refine l_litt (t := 73) rfl rfl ?_
 refine l_val (wg rfl rfl rfl) (r_move rfl) rfl ?_
 refine l_val (wg rfl rfl rfl) (r_move rfl) rfl ?_
 refine l_val (wg rfl rfl rfl) (r_eql rfl rfl) rfl ?_
 refine l_val wn (r_pick rfl rfl) rfl ?_
 refine l_val wn (r_assign rfl) rfl ?_
 refine l_nil (e_go hK10 ?_)
 refine c_ret (e_ret1 (.inl rfl) Try.results3 (rv_tmp rfl) fun w1 hM => ?_)
 exact ret_ok (by first | rfl | (rw [decide_eq_true]; rfl) | simp) hM

end Go.Proofs.Ytnbkennlmnnbeaa
