/-
  Walks: what each function hands back.
-/
import Derived.Test.YtnbkennlmnnbeaaWmade
namespace Go.Proofs.Ytnbkennlmnnbeaa
open Ex
set_option linter.unusedVariables false
set_option linter.unusedSimpArgs false
set_option maxHeartbeats 1000000 in
theorem law_PlanCheap (lv : Value) (l : List Sample) (ro : Int) (ov : Value) (o : List Int) (f : Int) (t : Int) (w : World) (hl : FlatSl (In w) 2 sampleE lv l w) (ho : FlatSl (In w) 1 intE ov o w)  :
    Calls Try.prog 9 #[lv, .int .i64 ro, ov, .int .i64 f, .int .i64 t] w (Ret w (.bool true)) := by
 obtain ⟨lA, lc, rfl, hlc, hlm, hlA⟩ := hl.form
 obtain ⟨oA, oc, rfl, hoc, hom, hoA⟩ := ho.form
 refine fstart (N := 83) (vals := [.slice lA l.length lc, .int .i64 ro, .slice oA o.length oc, .int .i64 f, .int .i64 t]) (S := Mem w ⟨no, In w⟩ [slP 2 sampleE (.slice lA l.length lc) l, slP 1 intE (.slice oA o.length oc) o]) Try.func9 rfl rfl rfl (Mem.ofDatsP (fun _ h => h) (dc (dlp hl) (dc (dlp ho) dn))) ?_
 refine c_seq fun _ hK1 => ?_
 refine c_region ?_
 refine l_val wn (r_assign rfl) rfl ?_
 refine l_nil (e_go hK1 ?_)
 refine c_seq fun _ hK2 => ?_
 refine c_seq fun _ hK3 => ?_
 refine c_region ?_
 refine l_callF wn rfl Try.call35 rfl (fun w1 hM => c_alive8  w1) ?_
 refine l_val wn (r_notb rfl) rfl ?_
 refine l_nil (e_go hK3 ?_)
 refine c_false rfl rfl ?_
 refine c_skip (e_go hK2 ?_)
 refine c_seq fun _ hK4 => ?_
 refine c_seq fun _ hK5 => ?_
 refine c_region ?_
 refine l_val wn (r_move rfl) rfl ?_
 refine l_val wn (r_len rfl Try.underlying62) rfl ?_
 refine l_val wn (r_gtr rfl rfl) rfl ?_
 refine l_nil (e_go hK5 ?_)
 refine c_cond rfl (fun h1 => ?_) (fun h1 => ?_)
 · refine c_seq fun _ hK6 => ?_
   refine c_region ?_
   refine l_val wn (r_assign rfl) rfl ?_
   refine l_nil (e_go hK6 ?_)
   refine c_ret (e_then_r (e_ret1 (.inl rfl) Try.results9 (rv_tmp rfl) fun w1 hM => ?_))
   exact ret_ok rfl hM
 refine c_skip (e_go hK4 ?_)
 refine c_seq fun _ hK7 => ?_
 refine c_region ?_
 refine l_val wn (r_move rfl) rfl ?_
 refine l_val wn (r_move rfl) rfl ?_
 refine l_val wn (r_move rfl) rfl ?_
 refine l_callSh (fun u => .tuple (List.toArray [u, .bool ((Sh.made l ro o).2)])) ((Sh.made l ro o).1) wn rfl Try.call36 rfl (fun w1 Pb hM pp => c_made _ l ro _ o Pb w1 pp.lt (pp.sl 0 rfl) (pp.sl 1 rfl)) fun A1 cp1 A2 cp2 A3 cp3 A4 cp4 hb1 hA1 hA2 hA3 hA4 => ?_
 refine l_val wn (r_move rfl) rfl ?_
 refine l_val wn (r_extract rfl rfl) rfl ?_
 refine l_val wn (r_extract rfl rfl) rfl ?_
 refine l_alloc wn inf27 rfl fun b11 => ?_
 refine l_stn 0 wn rfl rfl rfl inf27 rfl rfl rfl ?_
 refine l_val wn (r_assign rfl) rfl ?_
 refine l_nil (e_go hK7 ?_)
 refine c_seq fun _ hK8 => ?_
 refine c_region ?_
 refine l_val wn (r_lbn 0 [.slice A1 (((Sh.made l ro o).1).series.length) cp1, .slice A2 (((Sh.made l ro o).1).raw.length) cp2, .slice A3 (((Sh.made l ro o).1).fine.length) cp3, .slice A4 (((Sh.made l ro o).1).coarse.length) cp4, .int .i64 (((Sh.made l ro o).1).rawFrom), .int .i64 (((Sh.made l ro o).1).fineFrom), .int .i64 (((Sh.made l ro o).1).fineTo), .int .i64 (((Sh.made l ro o).1).coarseFrom), .int .i64 (((Sh.made l ro o).1).coarseTo)] rfl rfl rfl rfl agg27 inf27) rfl ?_
 refine l_val wn (r_move rfl) rfl ?_
 refine l_val wn (r_move rfl) rfl ?_
 refine l_callLT ((Sh.choose ((Sh.made l ro o).1) f t).1) (fun r => .tuple (List.toArray [r, .int .i64 ((Sh.choose ((Sh.made l ro o).1) f t).2)])) wn rfl rfl Try.call14 rfl (fun w1 hM => c_choose _ _ _ _ ((Sh.made l ro o).1) f t (In w1) w1 (fun _ h => h) (hM.slp 1 rfl) (hM.slp 2 rfl) (hM.slp 3 rfl) (hM.slp 4 rfl)) fun A5 cp5 hc1 hm1 hA5 => ?_
 refine l_val wn (r_move rfl) rfl ?_
 refine l_val wn (r_extract rfl rfl) rfl ?_
 refine l_val wn (r_extract rfl rfl) rfl ?_
 refine l_val wn (r_assign rfl) rfl ?_
 refine l_val wn (r_assign rfl) rfl ?_
 refine l_nil (e_go hK8 ?_)
 refine c_seq fun _ hK9 => ?_
 refine c_region ?_
 refine l_val wn (r_move rfl) rfl ?_
 refine l_val wn (r_move rfl) rfl ?_
 refine l_val wn (r_build [.int .i64 0, .int .i64 f, .int .i64 t] pl61 inf61 rfl rfl) rfl ?_
 refine l_bsL partE ([(⟨0, f, t⟩ : Part)] : List Part) wn Try.underlying28 inf61 rfl rfl rfl rfl (by decide) (by decide) rfl fun b43 => ?_
 refine l_val wn (r_assign rfl) rfl ?_
 refine l_nil (e_go hK9 ?_)
 refine c_seq fun _ hK10 => ?_
 refine c_cut [(11, .pointer (some ⟨b11, 0, none⟩)), (13, .slice A5 (((Sh.choose ((Sh.made l ro o).1) f t).1).length) cp5), (15, .slice (some ⟨b43, 0, none⟩) 1 1), (57, .bool (decide (((!(Sh.made l ro o).2) = true) ∨ (((Sh.choose ((Sh.made l ro o).1) f t).2 ≠ 0) ∨ ((!(Sh.covers ((Sh.made l ro o).1) ([(⟨0, f, t⟩ : Part)] : List Part) f t)) = true)))))] (Mem w ⟨no, In w⟩ [Row (.slice (some ⟨b43, 0, none⟩) 1 1) 61 3 partE ([(⟨0, f, t⟩ : Part)] : List Part), Row (.slice A5 (((Sh.choose ((Sh.made l ro o).1) f t).1).length) cp5) 61 3 partE ((Sh.choose ((Sh.made l ro o).1) f t).1), .blk b11 [.slice A1 (((Sh.made l ro o).1).series.length) cp1, .slice A2 (((Sh.made l ro o).1).raw.length) cp2, .slice A3 (((Sh.made l ro o).1).fine.length) cp3, .slice A4 (((Sh.made l ro o).1).coarse.length) cp4, .int .i64 (((Sh.made l ro o).1).rawFrom), .int .i64 (((Sh.made l ro o).1).fineFrom), .int .i64 (((Sh.made l ro o).1).fineTo), .int .i64 (((Sh.made l ro o).1).coarseFrom), .int .i64 (((Sh.made l ro o).1).coarseTo)] 27, slP 2 labelE (.slice A1 (((Sh.made l ro o).1).series.length) cp1) (((Sh.made l ro o).1).series), slP 2 sampleE (.slice A2 (((Sh.made l ro o).1).raw.length) cp2) (((Sh.made l ro o).1).raw), slP 8 bucketE (.slice A3 (((Sh.made l ro o).1).fine.length) cp3) (((Sh.made l ro o).1).fine), slP 8 bucketE (.slice A4 (((Sh.made l ro o).1).coarse.length) cp4) (((Sh.made l ro o).1).coarse), slP 2 sampleE (.slice lA l.length lc) l, slP 1 intE (.slice oA o.length oc) o]) (fun _ hK11 => ?_) ?_
 · refine c_region ?_
   refine l_val wn (r_move rfl) rfl ?_
   refine l_val wn (r_notb rfl) rfl ?_
   refine l_val wn (r_move rfl) rfl ?_
   refine l_caseb (t := 46) rfl (fun h2 => ?_) (fun h2 => ?_)
   · refine l_skip (wg rfl rfl rfl) rfl ?_
     refine l_skip (wg rfl rfl rfl) rfl ?_
     refine l_val wn (r_pick rfl rfl) rfl ?_
     refine l_val wn (r_move rfl) rfl ?_
     refine l_skip (wg rfl rfl rfl) rfl ?_
     refine l_skip (wg rfl rfl rfl) rfl ?_
     refine l_skip (wg rfl rfl rfl) rfl ?_
     refine l_skip (wg rfl rfl rfl) rfl ?_
     refine l_skip (wg rfl rfl rfl) rfl ?_
     refine l_skip (wg rfl rfl rfl) rfl ?_
     refine l_val wn (r_pick rfl rfl) rfl ?_
     refine l_nil (e_cut hK11 (sc rfl (sc rfl (sc rfl (sc (jt (Or.inl h2)) sn)))) (fun _ h => h))
   refine l_val (wg rfl rfl rfl) (r_move rfl) rfl ?_
   refine l_val (wg rfl rfl rfl) (r_neq rfl rfl) rfl ?_
   refine l_val wn (r_pick rfl rfl) rfl ?_
   refine l_val wn (r_move rfl) rfl ?_
   refine l_case (t := 50) rfl (fun h3 => ?_) (fun h3 => ?_)
   · refine l_skip (wg rfl rfl rfl) rfl ?_
     refine l_skip (wg rfl rfl rfl) rfl ?_
     refine l_skip (wg rfl rfl rfl) rfl ?_
     refine l_skip (wg rfl rfl rfl) rfl ?_
     refine l_skip (wg rfl rfl rfl) rfl ?_
     refine l_skip (wg rfl rfl rfl) rfl ?_
     refine l_val wn (r_pick rfl rfl) rfl ?_
     refine l_nil (e_cut hK11 (sc rfl (sc rfl (sc rfl (sc (jt (Or.inr (Or.inl h3))) sn)))) (fun _ h => h))
   refine l_val (wg rfl rfl rfl) (r_lbn 2 [.slice A1 (((Sh.made l ro o).1).series.length) cp1, .slice A2 (((Sh.made l ro o).1).raw.length) cp2, .slice A3 (((Sh.made l ro o).1).fine.length) cp3, .slice A4 (((Sh.made l ro o).1).coarse.length) cp4, .int .i64 (((Sh.made l ro o).1).rawFrom), .int .i64 (((Sh.made l ro o).1).fineFrom), .int .i64 (((Sh.made l ro o).1).fineTo), .int .i64 (((Sh.made l ro o).1).coarseFrom), .int .i64 (((Sh.made l ro o).1).coarseTo)] rfl rfl rfl rfl agg27 inf27) rfl ?_
   refine l_val (wg rfl rfl rfl) (r_move rfl) rfl ?_
   refine l_val (wg rfl rfl rfl) (r_move rfl) rfl ?_
   refine l_val (wg rfl rfl rfl) (r_move rfl) rfl ?_
   refine l_callF (wg rfl rfl rfl) rfl Try.call12 rfl (fun w1 hM => c_covers _ _ _ _ ((Sh.made l ro o).1) _ ([(⟨0, f, t⟩ : Part)] : List Part) f t (In w1) w1 (fun _ h => h) (hM.slp 3 rfl) (hM.slp 4 rfl) (hM.slp 5 rfl) (hM.slp 6 rfl) (RowSl encPart hM 0 rfl)) ?_
   refine l_val (wg rfl rfl rfl) (r_notb rfl) rfl ?_
   refine l_val wn (r_pick rfl rfl) rfl ?_
   refine l_nil (e_cut hK11 (sc rfl (sc rfl (sc rfl (sc (jpb (iff_or_right h2 (iff_or_right h3 Iff.rfl))) sn)))) (fun _ h => h))
 refine c_cond rfl (fun h4 => ?_) (fun h4 => ?_)
 · refine c_seq fun _ hK12 => ?_
   refine c_region ?_
   refine l_val wn (r_assign rfl) rfl ?_
   refine l_nil (e_go hK12 ?_)
   refine c_ret (e_then_r (e_ret1 (.inl rfl) Try.results9 (rv_tmp rfl) fun w1 hM => ?_))
   exact ret_ok rfl hM
 have hmd : (Sh.made l ro o).2 = true := by cases hb : (Sh.made l ro o).2 with | true => rfl | false => exact absurd (Or.inl (by rw [hb]; rfl)) h4
 have hkp := Sh.made_keep hmd
 have hce : (Sh.choose (Sh.made l ro o).1 f t).2 = 0 := Classical.not_not.1 fun g => h4 (Or.inr (Or.inl g))
 obtain ⟨ho, hcv, hal⟩ := Sh.choose_cov hce
 have hrc : Sh.covers (Sh.made l ro o).1 [⟨0, f, t⟩] f t = true := Classical.not_not.1 fun g => h4 (Or.inr (Or.inr (by simpa using g)))
 have hr1 := Sh.read_cov ho hcv
 have hr2 := Sh.read_cov ho hrc
 have hq1 := (hkp.covered _ _ _ hcv).2
 have hq2 : Sh.costs (Sh.made l ro o).1 [⟨0, f, t⟩] = _ := Sh.raw_cost hkp hrc
 refine c_skip (e_go hK10 ?_)
 refine c_seq fun _ hK13 => ?_
 refine c_region ?_
 refine l_val wn (r_lbn 2 [.slice A1 (((Sh.made l ro o).1).series.length) cp1, .slice A2 (((Sh.made l ro o).1).raw.length) cp2, .slice A3 (((Sh.made l ro o).1).fine.length) cp3, .slice A4 (((Sh.made l ro o).1).coarse.length) cp4, .int .i64 (((Sh.made l ro o).1).rawFrom), .int .i64 (((Sh.made l ro o).1).fineFrom), .int .i64 (((Sh.made l ro o).1).fineTo), .int .i64 (((Sh.made l ro o).1).coarseFrom), .int .i64 (((Sh.made l ro o).1).coarseTo)] rfl rfl rfl rfl agg27 inf27) rfl ?_
 refine l_val wn (r_move rfl) rfl ?_
 refine l_callF wn rfl Try.call17 rfl (fun w1 hM => c_read _ _ _ _ ((Sh.made l ro o).1) _ ((Sh.choose ((Sh.made l ro o).1) f t).1) (In w1) w1 (fun _ h => h) (hM.slp 3 rfl) (hM.slp 4 rfl) (hM.slp 5 rfl) (hM.slp 6 rfl) (RowSl encPart hM 1 rfl) (by first | omega | assumption | exact Sh.choose_len _ _ _ | simp)) ?_
 refine l_val wn (r_move rfl) rfl ?_
 refine l_val wn (r_extract rfl rfl) rfl ?_
 refine l_val wn (r_extract rfl rfl) rfl ?_
 refine l_val wn (r_extract rfl rfl) rfl ?_
 refine l_alloc wn inf35 rfl fun b16 => ?_
 refine l_stn 0 wn rfl rfl rfl inf35 rfl rfl rfl ?_
 refine l_val wn (r_assign rfl) rfl ?_
 refine l_val wn (r_assign rfl) rfl ?_
 refine l_nil (e_go hK13 ?_)
 refine c_seq fun _ hK14 => ?_
 refine c_region ?_
 refine l_val wn (r_lbn 3 [.slice A1 (((Sh.made l ro o).1).series.length) cp1, .slice A2 (((Sh.made l ro o).1).raw.length) cp2, .slice A3 (((Sh.made l ro o).1).fine.length) cp3, .slice A4 (((Sh.made l ro o).1).coarse.length) cp4, .int .i64 (((Sh.made l ro o).1).rawFrom), .int .i64 (((Sh.made l ro o).1).fineFrom), .int .i64 (((Sh.made l ro o).1).fineTo), .int .i64 (((Sh.made l ro o).1).coarseFrom), .int .i64 (((Sh.made l ro o).1).coarseTo)] rfl rfl rfl rfl agg27 inf27) rfl ?_
 refine l_val wn (r_move rfl) rfl ?_
 refine l_callF wn rfl Try.call17 rfl (fun w1 hM => c_read _ _ _ _ ((Sh.made l ro o).1) _ ([(⟨0, f, t⟩ : Part)] : List Part) (In w1) w1 (fun _ h => h) (hM.slp 4 rfl) (hM.slp 5 rfl) (hM.slp 6 rfl) (hM.slp 7 rfl) (RowSl encPart hM 1 rfl) (by first | omega | assumption | exact Sh.choose_len _ _ _ | simp)) ?_
 refine l_val wn (r_move rfl) rfl ?_
 refine l_val wn (r_extract rfl rfl) rfl ?_
 refine l_val wn (r_extract rfl rfl) rfl ?_
 refine l_val wn (r_extract rfl rfl) rfl ?_
 refine l_alloc wn inf35 rfl fun b18 => ?_
 refine l_stn 0 wn rfl rfl rfl inf35 rfl rfl rfl ?_
 refine l_val wn (r_assign rfl) rfl ?_
 refine l_val wn (r_assign rfl) rfl ?_
 refine l_nil (e_go hK14 ?_)
 refine c_seq fun _ hK15 => ?_
 refine c_region ?_
 refine l_val wn (r_move rfl) rfl ?_
 refine l_val wn (r_eql rfl rfl) rfl ?_
 refine l_val wn (r_move rfl) rfl ?_
 refine l_case (t := 74) rfl (fun h5 => ?_) (fun h5 => ?_)
 · refine l_val (wg rfl rfl rfl) (r_move rfl) rfl ?_
   refine l_val (wg rfl rfl rfl) (r_eql rfl rfl) rfl ?_
   refine l_val wn (r_pick rfl rfl) rfl ?_
   refine l_val wn (r_move rfl) rfl ?_
   refine l_case (t := 78) rfl (fun h6 => ?_) (fun h6 => ?_)
   · refine l_val (wg rfl rfl rfl) (r_move rfl) rfl ?_
     refine l_val (wg rfl rfl rfl) (r_move rfl) rfl ?_
     refine l_val (wg rfl rfl rfl) (r_leq rfl rfl) rfl ?_
     refine l_val wn (r_pick rfl rfl) rfl ?_
     refine l_val wn (r_assign rfl) rfl ?_
     refine l_nil (e_go hK15 ?_)
     refine c_ret (e_ret1 (.inl rfl) Try.results9 (rv_tmp rfl) fun w1 hM => ?_)
     exact ret_ok (congrArg Value.bool (by rw [hr1, hr2]; simp; omega)) hM
   refine l_skip (wg rfl rfl rfl) rfl ?_
   refine l_skip (wg rfl rfl rfl) rfl ?_
   refine l_skip (wg rfl rfl rfl) rfl ?_
   refine l_val wn (r_pick rfl rfl) rfl ?_
   refine l_val wn (r_assign rfl) rfl ?_
   refine l_nil (e_go hK15 ?_)
   refine c_ret (e_ret1 (.inl rfl) Try.results9 (rv_tmp rfl) fun w1 hM => ?_)
   exact absurd (by rw [hr2]) h6
 refine l_skip (wg rfl rfl rfl) rfl ?_
 refine l_skip (wg rfl rfl rfl) rfl ?_
 refine l_val wn (r_pick rfl rfl) rfl ?_
 refine l_val wn (r_move rfl) rfl ?_
 refine l_skip (wg rfl rfl rfl) rfl ?_
 refine l_skip (wg rfl rfl rfl) rfl ?_
 refine l_skip (wg rfl rfl rfl) rfl ?_
 refine l_val wn (r_pick rfl rfl) rfl ?_
 refine l_val wn (r_assign rfl) rfl ?_
 refine l_nil (e_go hK15 ?_)
 refine c_ret (e_ret1 (.inl rfl) Try.results9 (rv_tmp rfl) fun w1 hM => ?_)
 exact absurd (by rw [hr1]) h5

end Go.Proofs.Ytnbkennlmnnbeaa
