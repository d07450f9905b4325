/-
  Walks: what each function hands back.
-/
import Derived.Test.YtnbkennlmnnbeaaWplan2
namespace Go.Proofs.Ytnbkennlmnnbeaa
open Ex
set_option linter.unusedVariables false
set_option linter.unusedSimpArgs false
set_option maxHeartbeats 4000000 in
theorem c_read (z0 : Value) (z1 : Value) (z2 : Value) (z3 : Value) (z : Shelf) (lv : Value) (l : List Part) (P0 : Nat → Prop) (w : World) (hP0 : ∀ b, P0 b → b < w.heap.size) (hz0 : FlatSl P0 2 labelE z0 z.series w) (hz1 : FlatSl P0 2 sampleE z1 z.raw w) (hz2 : FlatSl P0 8 bucketE z2 z.fine w) (hz3 : FlatSl P0 8 bucketE z3 z.coarse w) (hl : FlatSl P0 3 partE lv l w) (hl1 : l.length ≤ 1048576) :
    Calls Try.prog 17 #[.agg (List.toArray [z0, z1, z2, z3, .int .i64 z.rawFrom, .int .i64 z.fineFrom, .int .i64 z.fineTo, .int .i64 z.coarseFrom, .int .i64 z.coarseTo]), lv] w (Ret w (.tuple #[.agg (sumE (Sh.read z l).1).toArray, .int .i64 (Sh.read z l).2.1, .int .i64 (Sh.read z l).2.2])) := by
 obtain ⟨z0A, z0c, rfl, hz0c, hz0m, hz0A⟩ := hz0.form
 obtain ⟨z1A, z1c, rfl, hz1c, hz1m, hz1A⟩ := hz1.form
 obtain ⟨z2A, z2c, rfl, hz2c, hz2m, hz2A⟩ := hz2.form
 obtain ⟨z3A, z3c, rfl, hz3c, hz3m, hz3A⟩ := hz3.form
 obtain ⟨lA, lc, rfl, hlc, hlm, hlA⟩ := hl.form
 refine fstart (N := 112) (vals := [.agg (List.toArray [.slice z0A z.series.length z0c, .slice z1A z.raw.length z1c, .slice z2A z.fine.length z2c, .slice z3A z.coarse.length z3c, .int .i64 z.rawFrom, .int .i64 z.fineFrom, .int .i64 z.fineTo, .int .i64 z.coarseFrom, .int .i64 z.coarseTo]), .slice lA l.length lc]) (S := Mem w ⟨no, P0⟩ [slP 2 labelE (.slice z0A z.series.length z0c) z.series, slP 2 sampleE (.slice z1A z.raw.length z1c) z.raw, slP 8 bucketE (.slice z2A z.fine.length z2c) z.fine, slP 8 bucketE (.slice z3A z.coarse.length z3c) z.coarse, slP 3 partE (.slice lA l.length lc) l]) Try.func17 rfl rfl rfl (Mem.ofDatsP hP0 (dc (dlp hz0) (dc (dlp hz1) (dc (dlp hz2) (dc (dlp hz3) (dc (dlp hl) dn)))))) ?_
 refine c_seq fun _ hK1 => ?_
 refine c_region ?_
 refine l_box wn rfl rfl fun b2 => ?_
 refine l_alloc wn inf35 rfl fun b4 => ?_
 refine l_val wn (r_assign rfl) rfl ?_
 refine l_val wn (r_assign rfl) rfl ?_
 refine l_nil (e_go hK1 ?_)
 refine c_seq fun _ hK2 => ?_
 refine c_seq fun _ hK3 => ?_
 refine c_region ?_
 refine l_val wn (r_lbn 1 [.slice z0A z.series.length z0c, .slice z1A z.raw.length z1c, .slice z2A z.fine.length z2c, .slice z3A z.coarse.length z3c, .int .i64 z.rawFrom, .int .i64 z.fineFrom, .int .i64 z.fineTo, .int .i64 z.coarseFrom, .int .i64 z.coarseTo] rfl rfl rfl rfl agg27 inf27) rfl ?_
 refine l_callF wn rfl Try.call19 rfl (fun w1 hM => c_shWrong _ _ _ _ z (In w1) w1 (fun _ h => h) (hM.slp 2 rfl) (hM.slp 3 rfl) (hM.slp 4 rfl) (hM.slp 5 rfl)) ?_
 refine l_val wn (r_assign rfl) rfl ?_
 refine l_nil (e_go hK3 ?_)
 refine c_seq fun _ hK4 => ?_
 refine c_region ?_
 refine l_val wn (r_move rfl) rfl ?_
 refine l_val wn (r_neq rfl rfl) rfl ?_
 refine l_nil (e_go hK4 ?_)
 refine c_cond rfl (fun h1 => ?_) (fun h1 => ?_)
 · refine c_seq fun _ hK5 => ?_
   refine c_region ?_
   refine l_val wn (r_build [.int .i64 0, .int .i64 0, .int .i64 0, .int .i64 0, .int .i64 0, .int .i64 0, .int .i64 0] pl35 inf35 rfl rfl) rfl ?_
   refine l_val wn (r_move rfl) rfl ?_
   refine l_stn 0 wn rfl rfl rfl inf35 rfl rfl rfl ?_
   refine l_val wn (r_assign rfl) rfl ?_
   refine l_val wn (r_assign rfl) rfl ?_
   refine l_nil (e_go hK5 ?_)
   refine c_ret (e_then_r (e_ret3 (.inl rfl) Try.results17 (rv_cell 0 rfl rfl agg35 inf35 rfl) (rv_tmp rfl) (rv_tmp rfl) fun w1 hM => ?_))
   have he : Sh.read z l = (Sum.zero, 0, (Sh.wrong z)) := Sh.read_wrong h1
   rw [he]
   exact ret_ok rfl hM
 obtain ⟨l1, l2, l3, l4⟩ := (Sh.ok_of h1).lens
 refine c_skip (e_go hK2 ?_)
 refine c_seq fun _ hK6 => ?_
 refine c_region ?_
 refine l_alloc wn inf35 rfl fun b8 => ?_
 refine l_nil (e_go hK6 ?_)
 refine c_seq fun _ hK7 => ?_
 refine c_region ?_
 refine l_val wn (r_assign rfl) rfl ?_
 refine l_nil (e_go hK7 ?_)
 refine c_seq fun _ hK8 => ?_
 refine c_seq fun _ hK9 => ?_
 refine c_region ?_
 refine l_val wn (r_move rfl) rfl ?_
 refine l_val wn (r_len rfl Try.underlying28) rfl ?_
 refine l_val wn (r_move rfl) rfl ?_
 refine l_nil (e_go hK9 ?_)
 refine c_block ?_
 refine c_loop3 (fun (k : Nat) (u : Sum) (c : Int) => [(1, .slice lA l.length lc), (2, .pointer (some ⟨b2, 0, none⟩)), (4, .pointer (some ⟨b4, 0, none⟩)), (8, .pointer (some ⟨b8, 0, none⟩)), (9, .int .i64 c), (21, .slice lA l.length lc), (22, .int .i64 (l.length : Int)), (23, .int .i64 (k : Int))]) (fun (k : Nat) (u : Sum) (c : Int) => [.blk b8 [.int .i64 u.count, .int .i64 u.total, .int .i64 u.min, .int .i64 u.max, .int .i64 u.first, .int .i64 u.last, .int .i64 u.rise] 35, .blk b4 [.int .i64 0, .int .i64 0, .int .i64 0, .int .i64 0, .int .i64 0, .int .i64 0, .int .i64 0] 35, .blk b2 [.slice z0A z.series.length z0c, .slice z1A z.raw.length z1c, .slice z2A z.fine.length z2c, .slice z3A z.coarse.length z3c, .int .i64 z.rawFrom, .int .i64 z.fineFrom, .int .i64 z.fineTo, .int .i64 z.coarseFrom, .int .i64 z.coarseTo] 27, slP 2 labelE (.slice z0A z.series.length z0c) z.series, slP 2 sampleE (.slice z1A z.raw.length z1c) z.raw, slP 8 bucketE (.slice z2A z.fine.length z2c) z.fine, slP 8 bucketE (.slice z3A z.coarse.length z3c) z.coarse, slP 3 partE (.slice lA l.length lc) l]) (fun (k : Nat) (u : Sum) (c : Int) => k ≤ l.length ∧ Sh.readN z none l Sum.zero 0 = Sh.readN z (Sh.prevP l k) (l.drop k) u c ∧ (0 ≤ c ∧ c ≤ 500 * (k : Int)) ∧ Sh.good u (30000 * (k : Int))) (fun (k : Nat) (u : Sum) (c : Int) => l.length - k) 0 Sum.zero 0 (sc rfl (sc rfl (sc rfl (sc rfl (sc rfl (sc rfl (sc rfl (sc (ji (by first | omega | (simp [Roll.inT, Sh.bIn]; done) | (rw [hst2, List.length_append]; simp only [List.length_cons, List.length_nil]; omega) | (rw [hst2]; done) | (rw [hst2]; omega))) sn)))))))) (fun _ h => h) ?_ (fun k u c hI1 => ?_)
 · exact ⟨by omega, rfl, by omega, by simpa using Sh.good_zero⟩
 refine c_seq fun _ hK10 => ?_
 refine c_region ?_
 refine l_val wn (r_lss rfl rfl) rfl ?_
 refine l_nil (e_go hK10 ?_)
 refine c_seq fun _ hK11 => ?_
 refine c_cond rfl (fun h2 => ?_) (fun h2 => ?_)
 · refine c_skip (e_go hK11 ?_)
   refine c_seq fun _ hK12 => ?_
   refine c_block ?_
   refine c_seq fun _ hK13 => ?_
   refine c_region ?_
   refine l_val wn (r_move rfl) rfl ?_
   obtain ⟨ad1, hd1⟩ := hlA (ne_nil (i := k) (by first | omega | decide | (simp only [List.length_cons, List.length_nil, List.length_append, List.length_take, List.length_set]; omega)))
   refine l_val wn (r_ia (i := k) rfl hd1 rfl (by omega) (by first | omega | decide | (simp only [List.length_cons, List.length_nil, List.length_append, List.length_take, List.length_set]; omega)) Try.underlying28 inf61) rfl ?_
   obtain ⟨s1, hs1⟩ : ∃ x, l[k]? = some x := ⟨_, List.getElem?_eq_getElem (by first | omega | decide | (simp only [List.length_cons, List.length_nil, List.length_append, List.length_take, List.length_set]; omega))⟩
   have hc91 := Sh.bIn_len z.fine s1.frm s1.to
   have hc92 := Sh.bIn_len z.coarse s1.frm s1.to
   have hc93 := Roll.inT_len z.raw s1.frm s1.to
   refine l_val wn (r_pln 7 [.int .i64 s1.tier, .int .i64 s1.frm, .int .i64 s1.to] rfl rfl hd1 hs1 rfl rfl agg61 inf61) rfl ?_
   refine l_alloc wn inf61 rfl fun b11 => ?_
   refine l_val wn (r_assign rfl) rfl ?_
   refine l_stn 0 wn rfl rfl rfl inf61 rfl rfl rfl ?_
   refine l_nil (e_go hK13 ?_)
   refine c_seq fun _ hK14 => ?_
   refine c_seq fun _ hK15 => ?_
   refine c_quiet mix (by kernel_rfl) (fun _ h => h.drew) ?_
   refine q_val wn (r_lbn 0 [.int .i64 s1.tier, .int .i64 s1.frm, .int .i64 s1.to] rfl rfl rfl rfl agg61 inf61) rfl ?_
   refine q_callF wn rfl Try.call37 rfl (fun w1 hM => c_may b2 _ _ _ _ z s1 w1 (hM.blk (i := 3) rfl)) ?_
   refine q_val wn (r_not rfl) rfl ?_
   refine q_val wn (r_move rfl) rfl ?_
   refine q_case (t := 31) rfl (fun h3 => ?_) (fun h3 => ?_)
   · refine q_skip (wg rfl rfl rfl) rfl ?_
     refine q_skip (wg rfl rfl rfl) rfl ?_
     refine q_skip (wg rfl rfl rfl) rfl ?_
     refine q_skip (wu rfl rfl) rfl ?_
     refine q_skip (wu rfl rfl) rfl ?_
     refine q_skip (wu rfl rfl) rfl ?_
     refine q_skip (wu rfl rfl) rfl ?_
     refine q_skip (wu rfl rfl) rfl ?_
     refine q_skip (wu rfl rfl) rfl ?_
     refine q_skip (wu rfl rfl) rfl ?_
     refine q_skip (wu rfl rfl) rfl ?_
     refine q_skip (wu rfl rfl) rfl ?_
     refine q_skip (wg rfl rfl rfl) rfl ?_
     refine q_val wn (r_pick rfl rfl) rfl ?_
     refine q_end (e_go hK15 ?_)
     refine c_true rfl rfl ?_
     refine c_seq fun _ hK16 => ?_
     refine c_region ?_
     refine l_val wn (r_build [.int .i64 0, .int .i64 0, .int .i64 0, .int .i64 0, .int .i64 0, .int .i64 0, .int .i64 0] pl35 inf35 rfl rfl) rfl ?_
     refine l_stn 2 wn rfl rfl rfl inf35 rfl rfl rfl ?_
     refine l_val wn (r_assign rfl) rfl ?_
     refine l_val wn (r_assign rfl) rfl ?_
     refine l_nil (e_go hK16 ?_)
     refine c_ret (e_then_r (e_in_r (e_then_r (e_loop3_r (e_in_r (e_then_r (e_ret3 (.inl rfl) Try.results17 (rv_cell 2 rfl rfl agg35 inf35 rfl) (rv_tmp rfl) (rv_tmp rfl) fun w1 hM => ?_)))))))
     have he : Sh.read z l = (Sum.zero, 0, 8) := Sh.read_bad h1 hI1.2.1 hs1 (.inl h3)
     rw [he]
     exact ret_ok rfl hM
   refine q_val (wg rfl rfl rfl) (r_move rfl) rfl ?_
   refine q_val (wg rfl rfl rfl) (r_gtr rfl rfl) rfl ?_
   refine q_val (wg rfl rfl rfl) (r_move rfl) rfl ?_
   refine q_case (t := 34) rfl (fun h4 => ?_) (fun h4 => ?_)
   · refine q_val (wg rfl rfl rfl) (r_move rfl) rfl ?_
     refine q_val (wg rfl rfl rfl) (r_move rfl) rfl ?_
     refine q_val (wg rfl rfl rfl) (r_subn rfl rfl (by omega)) rfl ?_
     refine q_val (wg rfl rfl rfl) (r_ia (i := (k - 1)) rfl hd1 rfl (by omega) (by first | omega | decide | (simp only [List.length_cons, List.length_nil, List.length_append, List.length_take, List.length_set]; omega)) Try.underlying28 inf61) rfl ?_
     refine q_val (wg rfl rfl rfl) (r_fe rfl fld61_2) rfl ?_
     obtain ⟨s2, hs2⟩ : ∃ x, l[(k - 1)]? = some x := ⟨_, List.getElem?_eq_getElem (by first | omega | decide | (simp only [List.length_cons, List.length_nil, List.length_append, List.length_take, List.length_set]; omega))⟩
     refine q_val (wg rfl rfl rfl) (r_pl 8 rfl rfl hd1 hs2 rfl flat3) rfl ?_
     refine q_val (wg rfl rfl rfl) (r_fa rfl fld61_1) rfl ?_
     refine q_val (wg rfl rfl rfl) (r_lb 0 rfl rfl rfl flat3) rfl ?_
     refine q_val (wg rfl rfl rfl) (r_neq rfl rfl) rfl ?_
     refine q_val (wg rfl rfl rfl) (r_pick rfl rfl) rfl ?_
     refine q_val wn (r_pick rfl rfl) rfl ?_
     refine q_end (e_go hK15 ?_)
     refine c_cond rfl (fun h5 => ?_) (fun h5 => ?_)
     · refine c_seq fun _ hK17 => ?_
       refine c_region ?_
       refine l_val wn (r_build [.int .i64 0, .int .i64 0, .int .i64 0, .int .i64 0, .int .i64 0, .int .i64 0, .int .i64 0] pl35 inf35 rfl rfl) rfl ?_
       refine l_stn 2 wn rfl rfl rfl inf35 rfl rfl rfl ?_
       refine l_val wn (r_assign rfl) rfl ?_
       refine l_val wn (r_assign rfl) rfl ?_
       refine l_nil (e_go hK17 ?_)
       refine c_ret (e_then_r (e_in_r (e_then_r (e_loop3_r (e_in_r (e_then_r (e_ret3 (.inl rfl) Try.results17 (rv_cell 2 rfl rfl agg35 inf35 rfl) (rv_tmp rfl) (rv_tmp rfl) fun w1 hM => ?_)))))))
       have he : Sh.read z l = (Sum.zero, 0, 8) := Sh.read_bad h1 hI1.2.1 hs1 (.inr ((Sh.apart_pos (by omega) hs2).2 h5))
       rw [he]
       exact ret_ok rfl hM
     refine c_skip (e_go hK14 ?_)
     refine c_seq fun _ hK18 => ?_
     refine c_region ?_
     refine l_alloc wn inf35 rfl fun b12 => ?_
     refine l_nil (e_go hK18 ?_)
     refine c_seq fun _ hK19 => ?_
     refine c_seq fun _ hK20 => ?_
     refine c_region ?_
     refine l_val wn (r_fa rfl fld61_0) rfl ?_
     refine l_val wn (r_lb 1 rfl rfl rfl flat3) rfl ?_
     refine l_nil (e_go hK20 ?_)
     refine c_block ?_
     refine c_seq fun _ hK21 => ?_
     refine c_region ?_
     refine l_val wn (r_eql rfl rfl) rfl ?_
     refine l_val wn (r_assign rfl) rfl ?_
     refine l_nil (e_go hK21 ?_)
     refine c_cond rfl (fun h6 => ?_) (fun h6 => ?_)
     · refine c_seq fun _ hK22 => ?_
       refine c_region ?_
       refine l_val wn (r_fa rfl fld27_2) rfl ?_
       refine l_val wn (r_lb 4 rfl rfl rfl flat25) rfl ?_
       refine l_val wn (r_fa rfl fld61_1) rfl ?_
       refine l_val wn (r_lb 1 rfl rfl rfl flat3) rfl ?_
       refine l_val wn (r_fa rfl fld61_2) rfl ?_
       refine l_val wn (r_lb 1 rfl rfl rfl flat3) rfl ?_
       refine l_callF wn rfl Try.call41 rfl (fun w1 hM => c_rollOf _ z.fine s1.frm s1.to w1 (hM.slp 7 rfl)) ?_
       refine l_stn 0 wn rfl rfl rfl inf35 rfl rfl rfl ?_
       refine l_nil (e_go hK22 ?_)
       refine c_region ?_
       refine l_val wn (r_move rfl) rfl ?_
       refine l_val wn (r_fa rfl fld27_2) rfl ?_
       refine l_val wn (r_lb 4 rfl rfl rfl flat25) rfl ?_
       refine l_val wn (r_lbn 1 [.int .i64 s1.tier, .int .i64 s1.frm, .int .i64 s1.to] rfl rfl rfl rfl agg61 inf61) rfl ?_
       refine l_callF wn rfl Try.call42 rfl (fun w1 hM => c_count _ z.fine s1 w1 (hM.slp 7 rfl) (by omega)) ?_
       refine l_val wn (r_addn rfl rfl (by omega)) rfl ?_
       refine l_val wn (r_assign rfl) rfl ?_
       refine l_nil (e_in_n (e_go hK19 ?_))
       refine c_region ?_
       refine l_val wn (r_lbn 2 [.int .i64 u.count, .int .i64 u.total, .int .i64 u.min, .int .i64 u.max, .int .i64 u.first, .int .i64 u.last, .int .i64 u.rise] rfl rfl rfl rfl agg35 inf35) rfl ?_
       refine l_val wn (r_lbn 0 [.int .i64 ((Roll.of z.fine s1.frm s1.to).count), .int .i64 ((Roll.of z.fine s1.frm s1.to).total), .int .i64 ((Roll.of z.fine s1.frm s1.to).min), .int .i64 ((Roll.of z.fine s1.frm s1.to).max), .int .i64 ((Roll.of z.fine s1.frm s1.to).first), .int .i64 ((Roll.of z.fine s1.frm s1.to).last), .int .i64 ((Roll.of z.fine s1.frm s1.to).rise)] rfl rfl rfl rfl agg35 inf35) rfl ?_
       refine l_callF wn rfl Try.call43 rfl (fun w1 hM => c_Join u (Roll.of z.fine s1.frm s1.to) w1) ?_
       refine l_stn 2 wn rfl rfl rfl inf35 rfl rfl rfl ?_
       refine l_nil (e_in_n (e_go hK12 ?_))
       refine c_region ?_
       refine l_val wn (r_addn rfl rfl (by omega)) rfl ?_
       refine l_val wn (r_move rfl) rfl ?_
       refine l_nil (e_round3 (k + 1) (Agg.join u (Roll.of z.fine s1.frm s1.to)) (c + ((Sh.bIn z.fine s1.frm s1.to).length : Int)) (sc rfl (sc rfl (sc rfl (sc rfl (sc rfl (sc rfl (sc rfl (sc (ji (by first | omega | (simp [Roll.inT, Sh.bIn]; done) | (rw [hst2, List.length_append]; simp only [List.length_cons, List.length_nil]; omega) | (rw [hst2]; done) | (rw [hst2]; omega))) sn)))))))) (fun _ h => (h.sel [2, 3, 4, 5, 6, 7, 8, 9] (by decide) rfl)) ?_ ?_)
       · have hps := Sh.partSum_1 (z := z) h6
         have hgd := Sh.partSum_good (Sh.ok_of h1) (Classical.not_not.1 h3)
         have hcr := Sh.partCost_rng (Sh.ok_of h1) s1
         rw [hps.1] at hgd
         rw [hps.2] at hcr
         exact ⟨by omega, Sh.read_next hI1.2.1 hs1 (Classical.not_not.1 h3) (fun q => h5 ((Sh.apart_pos (by omega) hs2).1 q)) hps.1 hps.2, by omega, (hI1.2.2.2.join hgd (by omega)).mono (by omega)⟩
       omega
     refine c_seq fun _ hK23 => ?_
     refine c_region ?_
     refine l_val wn (r_eql rfl rfl) rfl ?_
     refine l_val wn (r_assign rfl) rfl ?_
     refine l_nil (e_go hK23 ?_)
     refine c_cond rfl (fun h7 => ?_) (fun h7 => ?_)
     · refine c_seq fun _ hK24 => ?_
       refine c_region ?_
       refine l_val wn (r_fa rfl fld27_3) rfl ?_
       refine l_val wn (r_lb 4 rfl rfl rfl flat25) rfl ?_
       refine l_val wn (r_fa rfl fld61_1) rfl ?_
       refine l_val wn (r_lb 1 rfl rfl rfl flat3) rfl ?_
       refine l_val wn (r_fa rfl fld61_2) rfl ?_
       refine l_val wn (r_lb 1 rfl rfl rfl flat3) rfl ?_
       refine l_callF wn rfl Try.call41 rfl (fun w1 hM => c_rollOf _ z.coarse s1.frm s1.to w1 (hM.slp 8 rfl)) ?_
       refine l_stn 0 wn rfl rfl rfl inf35 rfl rfl rfl ?_
       refine l_nil (e_go hK24 ?_)
       refine c_region ?_
       refine l_val wn (r_move rfl) rfl ?_
       refine l_val wn (r_fa rfl fld27_3) rfl ?_
       refine l_val wn (r_lb 4 rfl rfl rfl flat25) rfl ?_
       refine l_val wn (r_lbn 1 [.int .i64 s1.tier, .int .i64 s1.frm, .int .i64 s1.to] rfl rfl rfl rfl agg61 inf61) rfl ?_
       refine l_callF wn rfl Try.call42 rfl (fun w1 hM => c_count _ z.coarse s1 w1 (hM.slp 8 rfl) (by omega)) ?_
       refine l_val wn (r_addn rfl rfl (by omega)) rfl ?_
       refine l_val wn (r_assign rfl) rfl ?_
       refine l_nil (e_in_n (e_go hK19 ?_))
       refine c_region ?_
       refine l_val wn (r_lbn 2 [.int .i64 u.count, .int .i64 u.total, .int .i64 u.min, .int .i64 u.max, .int .i64 u.first, .int .i64 u.last, .int .i64 u.rise] rfl rfl rfl rfl agg35 inf35) rfl ?_
       refine l_val wn (r_lbn 0 [.int .i64 ((Roll.of z.coarse s1.frm s1.to).count), .int .i64 ((Roll.of z.coarse s1.frm s1.to).total), .int .i64 ((Roll.of z.coarse s1.frm s1.to).min), .int .i64 ((Roll.of z.coarse s1.frm s1.to).max), .int .i64 ((Roll.of z.coarse s1.frm s1.to).first), .int .i64 ((Roll.of z.coarse s1.frm s1.to).last), .int .i64 ((Roll.of z.coarse s1.frm s1.to).rise)] rfl rfl rfl rfl agg35 inf35) rfl ?_
       refine l_callF wn rfl Try.call43 rfl (fun w1 hM => c_Join u (Roll.of z.coarse s1.frm s1.to) w1) ?_
       refine l_stn 2 wn rfl rfl rfl inf35 rfl rfl rfl ?_
       refine l_nil (e_in_n (e_go hK12 ?_))
       refine c_region ?_
       refine l_val wn (r_addn rfl rfl (by omega)) rfl ?_
       refine l_val wn (r_move rfl) rfl ?_
       refine l_nil (e_round3 (k + 1) (Agg.join u (Roll.of z.coarse s1.frm s1.to)) (c + ((Sh.bIn z.coarse s1.frm s1.to).length : Int)) (sc rfl (sc rfl (sc rfl (sc rfl (sc rfl (sc rfl (sc rfl (sc (ji (by first | omega | (simp [Roll.inT, Sh.bIn]; done) | (rw [hst2, List.length_append]; simp only [List.length_cons, List.length_nil]; omega) | (rw [hst2]; done) | (rw [hst2]; omega))) sn)))))))) (fun _ h => (h.sel [2, 3, 4, 5, 6, 7, 8, 9] (by decide) rfl)) ?_ ?_)
       · have hps := Sh.partSum_2 (z := z) h6 h7
         have hgd := Sh.partSum_good (Sh.ok_of h1) (Classical.not_not.1 h3)
         have hcr := Sh.partCost_rng (Sh.ok_of h1) s1
         rw [hps.1] at hgd
         rw [hps.2] at hcr
         exact ⟨by omega, Sh.read_next hI1.2.1 hs1 (Classical.not_not.1 h3) (fun q => h5 ((Sh.apart_pos (by omega) hs2).1 q)) hps.1 hps.2, by omega, (hI1.2.2.2.join hgd (by omega)).mono (by omega)⟩
       omega
     refine c_seq fun _ hK25 => ?_
     refine c_region ?_
     refine l_val wn (r_fa rfl fld27_1) rfl ?_
     refine l_val wn (r_lb 4 rfl rfl rfl flat24) rfl ?_
     refine l_val wn (r_len rfl Try.underlying24) rfl ?_
     refine l_val wn (r_move rfl) rfl ?_
     refine l_nil (e_go hK25 ?_)
     refine c_block ?_
     refine c_loop1 (fun (j : Nat) => [(1, .slice lA l.length lc), (2, .pointer (some ⟨b2, 0, none⟩)), (4, .pointer (some ⟨b4, 0, none⟩)), (8, .pointer (some ⟨b8, 0, none⟩)), (9, .int .i64 (c + ((Roll.inT (z.raw.take j) s1.frm s1.to).length : Int))), (11, .pointer (some ⟨b11, 0, none⟩)), (12, .pointer (some ⟨b12, 0, none⟩)), (21, .slice lA l.length lc), (22, .int .i64 (l.length : Int)), (23, .int .i64 (k : Int)), (50, .slice z1A z.raw.length z1c), (51, .int .i64 (z.raw.length : Int)), (52, .int .i64 (j : Int))]) (fun (j : Nat) => [.blk b12 [.int .i64 ((Agg.of (Roll.inT (z.raw.take j) s1.frm s1.to)).count), .int .i64 ((Agg.of (Roll.inT (z.raw.take j) s1.frm s1.to)).total), .int .i64 ((Agg.of (Roll.inT (z.raw.take j) s1.frm s1.to)).min), .int .i64 ((Agg.of (Roll.inT (z.raw.take j) s1.frm s1.to)).max), .int .i64 ((Agg.of (Roll.inT (z.raw.take j) s1.frm s1.to)).first), .int .i64 ((Agg.of (Roll.inT (z.raw.take j) s1.frm s1.to)).last), .int .i64 ((Agg.of (Roll.inT (z.raw.take j) s1.frm s1.to)).rise)] 35, .blk b11 [.int .i64 s1.tier, .int .i64 s1.frm, .int .i64 s1.to] 61, .blk b8 [.int .i64 u.count, .int .i64 u.total, .int .i64 u.min, .int .i64 u.max, .int .i64 u.first, .int .i64 u.last, .int .i64 u.rise] 35, .blk b4 [.int .i64 0, .int .i64 0, .int .i64 0, .int .i64 0, .int .i64 0, .int .i64 0, .int .i64 0] 35, .blk b2 [.slice z0A z.series.length z0c, .slice z1A z.raw.length z1c, .slice z2A z.fine.length z2c, .slice z3A z.coarse.length z3c, .int .i64 z.rawFrom, .int .i64 z.fineFrom, .int .i64 z.fineTo, .int .i64 z.coarseFrom, .int .i64 z.coarseTo] 27, slP 2 labelE (.slice z0A z.series.length z0c) z.series, slP 2 sampleE (.slice z1A z.raw.length z1c) z.raw, slP 8 bucketE (.slice z2A z.fine.length z2c) z.fine, slP 8 bucketE (.slice z3A z.coarse.length z3c) z.coarse, slP 3 partE (.slice lA l.length lc) l]) (fun (j : Nat) => j ≤ z.raw.length) (fun (j : Nat) => z.raw.length - j) 0 (sc rfl (sc rfl (sc rfl (sc rfl (sc (ji (by first | omega | (simp [Roll.inT, Sh.bIn]; done) | (rw [hst2, List.length_append]; simp only [List.length_cons, List.length_nil]; omega) | (rw [hst2]; done) | (rw [hst2]; omega))) (sc rfl (sc rfl (sc rfl (sc rfl (sc rfl (sc rfl (sc rfl (sc (ji (by first | omega | (simp [Roll.inT, Sh.bIn]; done) | (rw [hst2, List.length_append]; simp only [List.length_cons, List.length_nil]; omega) | (rw [hst2]; done) | (rw [hst2]; omega))) sn))))))))))))) (fun _ h => h) ?_ (fun j hI2 => ?_)
     · omega
     have hlj := Nat.le_trans (Roll.inT_len (z.raw.take j) s1.frm s1.to) (List.length_take_le' j z.raw)
     refine c_seq fun _ hK26 => ?_
     refine c_region ?_
     refine l_val wn (r_lss rfl rfl) rfl ?_
     refine l_nil (e_go hK26 ?_)
     refine c_seq fun _ hK27 => ?_
     refine c_cond rfl (fun h8 => ?_) (fun h8 => ?_)
     · refine c_skip (e_go hK27 ?_)
       refine c_seq fun _ hK28 => ?_
       refine c_block ?_
       refine c_seq fun _ hK29 => ?_
       refine c_region ?_
       obtain ⟨ad2, hd2⟩ := hz1A (ne_nil (i := j) (by first | omega | decide | (simp only [List.length_cons, List.length_nil, List.length_append, List.length_take, List.length_set]; omega)))
       refine l_val wn (r_ia (i := j) rfl hd2 rfl (by omega) (by first | omega | decide | (simp only [List.length_cons, List.length_nil, List.length_append, List.length_take, List.length_set]; omega)) Try.underlying24 inf39) rfl ?_
       obtain ⟨s3, hs3⟩ : ∃ x, z.raw[j]? = some x := ⟨_, List.getElem?_eq_getElem (by first | omega | decide | (simp only [List.length_cons, List.length_nil, List.length_append, List.length_take, List.length_set]; omega))⟩
       refine l_val wn (r_pln 6 [.int .i64 s3.time, .int .i64 s3.value] rfl rfl hd2 hs3 rfl rfl agg39 inf39) rfl ?_
       refine l_alloc wn inf39 rfl fun b14 => ?_
       refine l_stn 0 wn rfl rfl rfl inf39 rfl rfl rfl ?_
       refine l_nil (e_go hK29 ?_)
       refine c_seq fun _ hK30 => ?_
       refine c_region ?_
       refine l_val wn (r_fa rfl fld39_0) rfl ?_
       refine l_val wn (r_lb 0 rfl rfl rfl flat3) rfl ?_
       refine l_val wn (r_fa rfl fld61_1) rfl ?_
       refine l_val wn (r_lb 2 rfl rfl rfl flat3) rfl ?_
       refine l_val wn (r_geq rfl rfl) rfl ?_
       refine l_val wn (r_move rfl) rfl ?_
       refine l_case (t := 61) rfl (fun h9 => ?_) (fun h9 => ?_)
       · refine l_val (wg rfl rfl rfl) (r_fa rfl fld39_0) rfl ?_
         refine l_val (wg rfl rfl rfl) (r_lb 0 rfl rfl rfl flat3) rfl ?_
         refine l_val (wg rfl rfl rfl) (r_fa rfl fld61_2) rfl ?_
         refine l_val (wg rfl rfl rfl) (r_lb 2 rfl rfl rfl flat3) rfl ?_
         refine l_val (wg rfl rfl rfl) (r_lss rfl rfl) rfl ?_
         refine l_val wn (r_pick rfl rfl) rfl ?_
         refine l_nil (e_go hK30 ?_)
         refine c_cond rfl (fun h10 => ?_) (fun h10 => ?_)
         · refine c_seq fun _ hK31 => ?_
           refine c_quietT 5 mix (by kernel_rfl) (fun _ h => h.drew) fun _ hT1 => ?_
           refine q_val wn (r_lbn 1 [.int .i64 ((Agg.of (Roll.inT (z.raw.take j) s1.frm s1.to)).count), .int .i64 ((Agg.of (Roll.inT (z.raw.take j) s1.frm s1.to)).total), .int .i64 ((Agg.of (Roll.inT (z.raw.take j) s1.frm s1.to)).min), .int .i64 ((Agg.of (Roll.inT (z.raw.take j) s1.frm s1.to)).max), .int .i64 ((Agg.of (Roll.inT (z.raw.take j) s1.frm s1.to)).first), .int .i64 ((Agg.of (Roll.inT (z.raw.take j) s1.frm s1.to)).last), .int .i64 ((Agg.of (Roll.inT (z.raw.take j) s1.frm s1.to)).rise)] rfl rfl rfl rfl agg35 inf35) rfl ?_
           refine q_val wn (r_fa rfl fld39_1) rfl ?_
           refine q_val wn (r_lb 0 rfl rfl rfl flat3) rfl ?_
           refine q_callF wn rfl Try.call44 rfl (fun w1 hM => c_One s3.value w1) ?_
           refine q_callF wn rfl Try.call43 rfl (fun w1 hM => c_Join (Agg.of (Roll.inT (z.raw.take j) s1.frm s1.to)) (Agg.one s3.value) w1) ?_
           refine q_tail hT1 ?_
           refine l_stn 1 wn rfl rfl rfl inf35 rfl rfl rfl ?_
           refine l_nil (e_go hK31 ?_)
           refine c_region ?_
           refine l_val wn (r_move rfl) rfl ?_
           refine l_val wn (r_addn rfl rfl (by omega)) rfl ?_
           refine l_val wn (r_assign rfl) rfl ?_
           refine l_nil (e_in_n (e_go hK28 ?_))
           refine c_region ?_
           refine l_val wn (r_addn rfl rfl (by omega)) rfl ?_
           refine l_val wn (r_move rfl) rfl ?_
           have hst := (Sh.inT_of_succ (a := s1.frm) (b := s1.to) hs3).trans (if_pos (by omega))
           have hst2 := (Roll.inT_succ (a := s1.frm) (b := s1.to) hs3).trans (if_pos (by omega))
           refine l_nil (e_round1 (j + 1) (sc rfl (sc rfl (sc rfl (sc rfl (sc (ji (by first | omega | (simp [Roll.inT, Sh.bIn]; done) | (rw [hst2, List.length_append]; simp only [List.length_cons, List.length_nil]; omega) | (rw [hst2]; done) | (rw [hst2]; omega))) (sc rfl (sc rfl (sc rfl (sc rfl (sc rfl (sc rfl (sc rfl (sc (ji (by first | omega | (simp [Roll.inT, Sh.bIn]; done) | (rw [hst2, List.length_append]; simp only [List.length_cons, List.length_nil]; omega) | (rw [hst2]; done) | (rw [hst2]; omega))) sn))))))))))))) (fun _ h => by rw [hst]; exact (h.sel [1, 2, 3, 4, 5, 6, 7, 8, 9, 10] (by decide) rfl)) ?_ ?_)
           · omega
           omega
         refine c_skip (e_in_n (e_go hK28 ?_))
         refine c_region ?_
         refine l_val wn (r_addn rfl rfl (by omega)) rfl ?_
         refine l_val wn (r_move rfl) rfl ?_
         have hst := (Sh.inT_of_succ (a := s1.frm) (b := s1.to) hs3).trans (if_neg (by omega))
         have hst2 := (Roll.inT_succ (a := s1.frm) (b := s1.to) hs3).trans (if_neg (by omega))
         refine l_nil (e_round1 (j + 1) (sc rfl (sc rfl (sc rfl (sc rfl (sc (ji (by first | omega | (simp [Roll.inT, Sh.bIn]; done) | (rw [hst2, List.length_append]; simp only [List.length_cons, List.length_nil]; omega) | (rw [hst2]; done) | (rw [hst2]; omega))) (sc rfl (sc rfl (sc rfl (sc rfl (sc rfl (sc rfl (sc rfl (sc (ji (by first | omega | (simp [Roll.inT, Sh.bIn]; done) | (rw [hst2, List.length_append]; simp only [List.length_cons, List.length_nil]; omega) | (rw [hst2]; done) | (rw [hst2]; omega))) sn))))))))))))) (fun _ h => by rw [hst]; exact (h.sel [1, 2, 3, 4, 5, 6, 7, 8, 9, 10] (by decide) rfl)) ?_ ?_)
         · omega
         omega
       refine l_skip (wg rfl rfl rfl) rfl ?_
       refine l_skip (wg rfl rfl rfl) rfl ?_
       refine l_skip (wg rfl rfl rfl) rfl ?_
       refine l_skip (wg rfl rfl rfl) rfl ?_
       refine l_skip (wg rfl rfl rfl) rfl ?_
       refine l_val wn (r_pick rfl rfl) rfl ?_
       refine l_nil (e_go hK30 ?_)
       refine c_false rfl rfl ?_
       refine c_skip (e_in_n (e_go hK28 ?_))
       refine c_region ?_
       refine l_val wn (r_addn rfl rfl (by omega)) rfl ?_
       refine l_val wn (r_move rfl) rfl ?_
       have hst := (Sh.inT_of_succ (a := s1.frm) (b := s1.to) hs3).trans (if_neg (by omega))
       have hst2 := (Roll.inT_succ (a := s1.frm) (b := s1.to) hs3).trans (if_neg (by omega))
       refine l_nil (e_round1 (j + 1) (sc rfl (sc rfl (sc rfl (sc rfl (sc (ji (by first | omega | (simp [Roll.inT, Sh.bIn]; done) | (rw [hst2, List.length_append]; simp only [List.length_cons, List.length_nil]; omega) | (rw [hst2]; done) | (rw [hst2]; omega))) (sc rfl (sc rfl (sc rfl (sc rfl (sc rfl (sc rfl (sc rfl (sc (ji (by first | omega | (simp [Roll.inT, Sh.bIn]; done) | (rw [hst2, List.length_append]; simp only [List.length_cons, List.length_nil]; omega) | (rw [hst2]; done) | (rw [hst2]; omega))) sn))))))))))))) (fun _ h => by rw [hst]; exact (h.sel [1, 2, 3, 4, 5, 6, 7, 8, 9, 10] (by decide) rfl)) ?_ ?_)
       · omega
       omega
     have hk1 : z.raw.take j = z.raw := List.take_of_length_le (by omega)
     rw [hk1]
     refine c_exit (e_then_x (e_loop1_x (e_in_hit (e_in_n (e_go hK19 ?_)))))
     refine c_region ?_
     refine l_val wn (r_lbn 2 [.int .i64 u.count, .int .i64 u.total, .int .i64 u.min, .int .i64 u.max, .int .i64 u.first, .int .i64 u.last, .int .i64 u.rise] rfl rfl rfl rfl agg35 inf35) rfl ?_
     refine l_val wn (r_lbn 0 [.int .i64 ((Agg.of (Roll.inT z.raw s1.frm s1.to)).count), .int .i64 ((Agg.of (Roll.inT z.raw s1.frm s1.to)).total), .int .i64 ((Agg.of (Roll.inT z.raw s1.frm s1.to)).min), .int .i64 ((Agg.of (Roll.inT z.raw s1.frm s1.to)).max), .int .i64 ((Agg.of (Roll.inT z.raw s1.frm s1.to)).first), .int .i64 ((Agg.of (Roll.inT z.raw s1.frm s1.to)).last), .int .i64 ((Agg.of (Roll.inT z.raw s1.frm s1.to)).rise)] rfl rfl rfl rfl agg35 inf35) rfl ?_
     refine l_callF wn rfl Try.call43 rfl (fun w1 hM => c_Join u (Agg.of (Roll.inT z.raw s1.frm s1.to)) w1) ?_
     refine l_stn 2 wn rfl rfl rfl inf35 rfl rfl rfl ?_
     refine l_nil (e_in_n (e_go hK12 ?_))
     refine c_region ?_
     refine l_val wn (r_addn rfl rfl (by omega)) rfl ?_
     refine l_val wn (r_move rfl) rfl ?_
     refine l_nil (e_round3 (k + 1) (Agg.join u (Agg.of (Roll.inT z.raw s1.frm s1.to))) (c + ((Roll.inT z.raw s1.frm s1.to).length : Int)) (sc rfl (sc rfl (sc rfl (sc rfl (sc rfl (sc rfl (sc rfl (sc (ji (by first | omega | (simp [Roll.inT, Sh.bIn]; done) | (rw [hst2, List.length_append]; simp only [List.length_cons, List.length_nil]; omega) | (rw [hst2]; done) | (rw [hst2]; omega))) sn)))))))) (fun _ h => (h.sel [2, 3, 4, 5, 6, 7, 8, 9] (by decide) rfl)) ?_ ?_)
     · have hps := Sh.partSum_0 (z := z) h6 h7
       have hgd := Sh.partSum_good (Sh.ok_of h1) (Classical.not_not.1 h3)
       have hcr := Sh.partCost_rng (Sh.ok_of h1) s1
       rw [hps.1] at hgd
       rw [hps.2] at hcr
       exact ⟨by omega, Sh.read_next hI1.2.1 hs1 (Classical.not_not.1 h3) (fun q => h5 ((Sh.apart_pos (by omega) hs2).1 q)) hps.1 hps.2, by omega, (hI1.2.2.2.join hgd (by omega)).mono (by omega)⟩
     omega
   refine q_skip (wg rfl rfl rfl) rfl ?_
   refine q_skip (wg rfl rfl rfl) rfl ?_
   refine q_skip (wg rfl rfl rfl) rfl ?_
   refine q_skip (wg rfl rfl rfl) rfl ?_
   refine q_skip (wg rfl rfl rfl) rfl ?_
   refine q_skip (wg rfl rfl rfl) rfl ?_
   refine q_skip (wg rfl rfl rfl) rfl ?_
   refine q_skip (wg rfl rfl rfl) rfl ?_
   refine q_skip (wg rfl rfl rfl) rfl ?_
   refine q_val (wg rfl rfl rfl) (r_pick rfl rfl) rfl ?_
   refine q_val wn (r_pick rfl rfl) rfl ?_
   refine q_end (e_go hK15 ?_)
   refine c_false rfl rfl ?_
   refine c_skip (e_go hK14 ?_)
   refine c_seq fun _ hK32 => ?_
   refine c_region ?_
   refine l_alloc wn inf35 rfl fun b12 => ?_
   refine l_nil (e_go hK32 ?_)
   refine c_seq fun _ hK33 => ?_
   refine c_seq fun _ hK34 => ?_
   refine c_region ?_
   refine l_val wn (r_fa rfl fld61_0) rfl ?_
   refine l_val wn (r_lb 1 rfl rfl rfl flat3) rfl ?_
   refine l_nil (e_go hK34 ?_)
   refine c_block ?_
   refine c_seq fun _ hK35 => ?_
   refine c_region ?_
   refine l_val wn (r_eql rfl rfl) rfl ?_
   refine l_val wn (r_assign rfl) rfl ?_
   refine l_nil (e_go hK35 ?_)
   refine c_cond rfl (fun h11 => ?_) (fun h11 => ?_)
   · refine c_seq fun _ hK36 => ?_
     refine c_region ?_
     refine l_val wn (r_fa rfl fld27_2) rfl ?_
     refine l_val wn (r_lb 4 rfl rfl rfl flat25) rfl ?_
     refine l_val wn (r_fa rfl fld61_1) rfl ?_
     refine l_val wn (r_lb 1 rfl rfl rfl flat3) rfl ?_
     refine l_val wn (r_fa rfl fld61_2) rfl ?_
     refine l_val wn (r_lb 1 rfl rfl rfl flat3) rfl ?_
     refine l_callF wn rfl Try.call41 rfl (fun w1 hM => c_rollOf _ z.fine s1.frm s1.to w1 (hM.slp 7 rfl)) ?_
     refine l_stn 0 wn rfl rfl rfl inf35 rfl rfl rfl ?_
     refine l_nil (e_go hK36 ?_)
     refine c_region ?_
     refine l_val wn (r_move rfl) rfl ?_
     refine l_val wn (r_fa rfl fld27_2) rfl ?_
     refine l_val wn (r_lb 4 rfl rfl rfl flat25) rfl ?_
     refine l_val wn (r_lbn 1 [.int .i64 s1.tier, .int .i64 s1.frm, .int .i64 s1.to] rfl rfl rfl rfl agg61 inf61) rfl ?_
     refine l_callF wn rfl Try.call42 rfl (fun w1 hM => c_count _ z.fine s1 w1 (hM.slp 7 rfl) (by omega)) ?_
     refine l_val wn (r_addn rfl rfl (by omega)) rfl ?_
     refine l_val wn (r_assign rfl) rfl ?_
     refine l_nil (e_in_n (e_go hK33 ?_))
     refine c_region ?_
     refine l_val wn (r_lbn 2 [.int .i64 u.count, .int .i64 u.total, .int .i64 u.min, .int .i64 u.max, .int .i64 u.first, .int .i64 u.last, .int .i64 u.rise] rfl rfl rfl rfl agg35 inf35) rfl ?_
     refine l_val wn (r_lbn 0 [.int .i64 ((Roll.of z.fine s1.frm s1.to).count), .int .i64 ((Roll.of z.fine s1.frm s1.to).total), .int .i64 ((Roll.of z.fine s1.frm s1.to).min), .int .i64 ((Roll.of z.fine s1.frm s1.to).max), .int .i64 ((Roll.of z.fine s1.frm s1.to).first), .int .i64 ((Roll.of z.fine s1.frm s1.to).last), .int .i64 ((Roll.of z.fine s1.frm s1.to).rise)] rfl rfl rfl rfl agg35 inf35) rfl ?_
     refine l_callF wn rfl Try.call43 rfl (fun w1 hM => c_Join u (Roll.of z.fine s1.frm s1.to) w1) ?_
     refine l_stn 2 wn rfl rfl rfl inf35 rfl rfl rfl ?_
     refine l_nil (e_in_n (e_go hK12 ?_))
     refine c_region ?_
     refine l_val wn (r_addn rfl rfl (by omega)) rfl ?_
     refine l_val wn (r_move rfl) rfl ?_
     refine l_nil (e_round3 (k + 1) (Agg.join u (Roll.of z.fine s1.frm s1.to)) (c + ((Sh.bIn z.fine s1.frm s1.to).length : Int)) (sc rfl (sc rfl (sc rfl (sc rfl (sc rfl (sc rfl (sc rfl (sc (ji (by first | omega | (simp [Roll.inT, Sh.bIn]; done) | (rw [hst2, List.length_append]; simp only [List.length_cons, List.length_nil]; omega) | (rw [hst2]; done) | (rw [hst2]; omega))) sn)))))))) (fun _ h => (h.sel [2, 3, 4, 5, 6, 7, 8, 9] (by decide) rfl)) ?_ ?_)
     · have hps := Sh.partSum_1 (z := z) h11
       have hgd := Sh.partSum_good (Sh.ok_of h1) (Classical.not_not.1 h3)
       have hcr := Sh.partCost_rng (Sh.ok_of h1) s1
       rw [hps.1] at hgd
       rw [hps.2] at hcr
       exact ⟨by omega, Sh.read_next hI1.2.1 hs1 (Classical.not_not.1 h3) (Sh.apart_zero (by omega)) hps.1 hps.2, by omega, (hI1.2.2.2.join hgd (by omega)).mono (by omega)⟩
     omega
   refine c_seq fun _ hK37 => ?_
   refine c_region ?_
   refine l_val wn (r_eql rfl rfl) rfl ?_
   refine l_val wn (r_assign rfl) rfl ?_
   refine l_nil (e_go hK37 ?_)
   refine c_cond rfl (fun h12 => ?_) (fun h12 => ?_)
   · refine c_seq fun _ hK38 => ?_
     refine c_region ?_
     refine l_val wn (r_fa rfl fld27_3) rfl ?_
     refine l_val wn (r_lb 4 rfl rfl rfl flat25) rfl ?_
     refine l_val wn (r_fa rfl fld61_1) rfl ?_
     refine l_val wn (r_lb 1 rfl rfl rfl flat3) rfl ?_
     refine l_val wn (r_fa rfl fld61_2) rfl ?_
     refine l_val wn (r_lb 1 rfl rfl rfl flat3) rfl ?_
     refine l_callF wn rfl Try.call41 rfl (fun w1 hM => c_rollOf _ z.coarse s1.frm s1.to w1 (hM.slp 8 rfl)) ?_
     refine l_stn 0 wn rfl rfl rfl inf35 rfl rfl rfl ?_
     refine l_nil (e_go hK38 ?_)
     refine c_region ?_
     refine l_val wn (r_move rfl) rfl ?_
     refine l_val wn (r_fa rfl fld27_3) rfl ?_
     refine l_val wn (r_lb 4 rfl rfl rfl flat25) rfl ?_
     refine l_val wn (r_lbn 1 [.int .i64 s1.tier, .int .i64 s1.frm, .int .i64 s1.to] rfl rfl rfl rfl agg61 inf61) rfl ?_
     refine l_callF wn rfl Try.call42 rfl (fun w1 hM => c_count _ z.coarse s1 w1 (hM.slp 8 rfl) (by omega)) ?_
     refine l_val wn (r_addn rfl rfl (by omega)) rfl ?_
     refine l_val wn (r_assign rfl) rfl ?_
     refine l_nil (e_in_n (e_go hK33 ?_))
     refine c_region ?_
     refine l_val wn (r_lbn 2 [.int .i64 u.count, .int .i64 u.total, .int .i64 u.min, .int .i64 u.max, .int .i64 u.first, .int .i64 u.last, .int .i64 u.rise] rfl rfl rfl rfl agg35 inf35) rfl ?_
     refine l_val wn (r_lbn 0 [.int .i64 ((Roll.of z.coarse s1.frm s1.to).count), .int .i64 ((Roll.of z.coarse s1.frm s1.to).total), .int .i64 ((Roll.of z.coarse s1.frm s1.to).min), .int .i64 ((Roll.of z.coarse s1.frm s1.to).max), .int .i64 ((Roll.of z.coarse s1.frm s1.to).first), .int .i64 ((Roll.of z.coarse s1.frm s1.to).last), .int .i64 ((Roll.of z.coarse s1.frm s1.to).rise)] rfl rfl rfl rfl agg35 inf35) rfl ?_
     refine l_callF wn rfl Try.call43 rfl (fun w1 hM => c_Join u (Roll.of z.coarse s1.frm s1.to) w1) ?_
     refine l_stn 2 wn rfl rfl rfl inf35 rfl rfl rfl ?_
     refine l_nil (e_in_n (e_go hK12 ?_))
     refine c_region ?_
     refine l_val wn (r_addn rfl rfl (by omega)) rfl ?_
     refine l_val wn (r_move rfl) rfl ?_
     refine l_nil (e_round3 (k + 1) (Agg.join u (Roll.of z.coarse s1.frm s1.to)) (c + ((Sh.bIn z.coarse s1.frm s1.to).length : Int)) (sc rfl (sc rfl (sc rfl (sc rfl (sc rfl (sc rfl (sc rfl (sc (ji (by first | omega | (simp [Roll.inT, Sh.bIn]; done) | (rw [hst2, List.length_append]; simp only [List.length_cons, List.length_nil]; omega) | (rw [hst2]; done) | (rw [hst2]; omega))) sn)))))))) (fun _ h => (h.sel [2, 3, 4, 5, 6, 7, 8, 9] (by decide) rfl)) ?_ ?_)
     · have hps := Sh.partSum_2 (z := z) h11 h12
       have hgd := Sh.partSum_good (Sh.ok_of h1) (Classical.not_not.1 h3)
       have hcr := Sh.partCost_rng (Sh.ok_of h1) s1
       rw [hps.1] at hgd
       rw [hps.2] at hcr
       exact ⟨by omega, Sh.read_next hI1.2.1 hs1 (Classical.not_not.1 h3) (Sh.apart_zero (by omega)) hps.1 hps.2, by omega, (hI1.2.2.2.join hgd (by omega)).mono (by omega)⟩
     omega
   refine c_seq fun _ hK39 => ?_
   refine c_region ?_
   refine l_val wn (r_fa rfl fld27_1) rfl ?_
   refine l_val wn (r_lb 4 rfl rfl rfl flat24) rfl ?_
   refine l_val wn (r_len rfl Try.underlying24) rfl ?_
   refine l_val wn (r_move rfl) rfl ?_
   refine l_nil (e_go hK39 ?_)
   refine c_block ?_
   refine c_loop1 (fun (j : Nat) => [(1, .slice lA l.length lc), (2, .pointer (some ⟨b2, 0, none⟩)), (4, .pointer (some ⟨b4, 0, none⟩)), (8, .pointer (some ⟨b8, 0, none⟩)), (9, .int .i64 (c + ((Roll.inT (z.raw.take j) s1.frm s1.to).length : Int))), (11, .pointer (some ⟨b11, 0, none⟩)), (12, .pointer (some ⟨b12, 0, none⟩)), (21, .slice lA l.length lc), (22, .int .i64 (l.length : Int)), (23, .int .i64 (k : Int)), (50, .slice z1A z.raw.length z1c), (51, .int .i64 (z.raw.length : Int)), (52, .int .i64 (j : Int))]) (fun (j : Nat) => [.blk b12 [.int .i64 ((Agg.of (Roll.inT (z.raw.take j) s1.frm s1.to)).count), .int .i64 ((Agg.of (Roll.inT (z.raw.take j) s1.frm s1.to)).total), .int .i64 ((Agg.of (Roll.inT (z.raw.take j) s1.frm s1.to)).min), .int .i64 ((Agg.of (Roll.inT (z.raw.take j) s1.frm s1.to)).max), .int .i64 ((Agg.of (Roll.inT (z.raw.take j) s1.frm s1.to)).first), .int .i64 ((Agg.of (Roll.inT (z.raw.take j) s1.frm s1.to)).last), .int .i64 ((Agg.of (Roll.inT (z.raw.take j) s1.frm s1.to)).rise)] 35, .blk b11 [.int .i64 s1.tier, .int .i64 s1.frm, .int .i64 s1.to] 61, .blk b8 [.int .i64 u.count, .int .i64 u.total, .int .i64 u.min, .int .i64 u.max, .int .i64 u.first, .int .i64 u.last, .int .i64 u.rise] 35, .blk b4 [.int .i64 0, .int .i64 0, .int .i64 0, .int .i64 0, .int .i64 0, .int .i64 0, .int .i64 0] 35, .blk b2 [.slice z0A z.series.length z0c, .slice z1A z.raw.length z1c, .slice z2A z.fine.length z2c, .slice z3A z.coarse.length z3c, .int .i64 z.rawFrom, .int .i64 z.fineFrom, .int .i64 z.fineTo, .int .i64 z.coarseFrom, .int .i64 z.coarseTo] 27, slP 2 labelE (.slice z0A z.series.length z0c) z.series, slP 2 sampleE (.slice z1A z.raw.length z1c) z.raw, slP 8 bucketE (.slice z2A z.fine.length z2c) z.fine, slP 8 bucketE (.slice z3A z.coarse.length z3c) z.coarse, slP 3 partE (.slice lA l.length lc) l]) (fun (j : Nat) => j ≤ z.raw.length) (fun (j : Nat) => z.raw.length - j) 0 (sc rfl (sc rfl (sc rfl (sc rfl (sc (ji (by first | omega | (simp [Roll.inT, Sh.bIn]; done) | (rw [hst2, List.length_append]; simp only [List.length_cons, List.length_nil]; omega) | (rw [hst2]; done) | (rw [hst2]; omega))) (sc rfl (sc rfl (sc rfl (sc rfl (sc rfl (sc rfl (sc rfl (sc (ji (by first | omega | (simp [Roll.inT, Sh.bIn]; done) | (rw [hst2, List.length_append]; simp only [List.length_cons, List.length_nil]; omega) | (rw [hst2]; done) | (rw [hst2]; omega))) sn))))))))))))) (fun _ h => h) ?_ (fun j hI3 => ?_)
   · omega
   have hlj := Nat.le_trans (Roll.inT_len (z.raw.take j) s1.frm s1.to) (List.length_take_le' j z.raw)
   refine c_seq fun _ hK40 => ?_
   refine c_region ?_
   refine l_val wn (r_lss rfl rfl) rfl ?_
   refine l_nil (e_go hK40 ?_)
   refine c_seq fun _ hK41 => ?_
   refine c_cond rfl (fun h13 => ?_) (fun h13 => ?_)
   · refine c_skip (e_go hK41 ?_)
     refine c_seq fun _ hK42 => ?_
     refine c_block ?_
     refine c_seq fun _ hK43 => ?_
     refine c_region ?_
     obtain ⟨ad3, hd3⟩ := hz1A (ne_nil (i := j) (by first | omega | decide | (simp only [List.length_cons, List.length_nil, List.length_append, List.length_take, List.length_set]; omega)))
     refine l_val wn (r_ia (i := j) rfl hd3 rfl (by omega) (by first | omega | decide | (simp only [List.length_cons, List.length_nil, List.length_append, List.length_take, List.length_set]; omega)) Try.underlying24 inf39) rfl ?_
     obtain ⟨s4, hs4⟩ : ∃ x, z.raw[j]? = some x := ⟨_, List.getElem?_eq_getElem (by first | omega | decide | (simp only [List.length_cons, List.length_nil, List.length_append, List.length_take, List.length_set]; omega))⟩
     refine l_val wn (r_pln 6 [.int .i64 s4.time, .int .i64 s4.value] rfl rfl hd3 hs4 rfl rfl agg39 inf39) rfl ?_
     refine l_alloc wn inf39 rfl fun b14 => ?_
     refine l_stn 0 wn rfl rfl rfl inf39 rfl rfl rfl ?_
     refine l_nil (e_go hK43 ?_)
     refine c_seq fun _ hK44 => ?_
     refine c_region ?_
     refine l_val wn (r_fa rfl fld39_0) rfl ?_
     refine l_val wn (r_lb 0 rfl rfl rfl flat3) rfl ?_
     refine l_val wn (r_fa rfl fld61_1) rfl ?_
     refine l_val wn (r_lb 2 rfl rfl rfl flat3) rfl ?_
     refine l_val wn (r_geq rfl rfl) rfl ?_
     refine l_val wn (r_move rfl) rfl ?_
     refine l_case (t := 61) rfl (fun h14 => ?_) (fun h14 => ?_)
     · refine l_val (wg rfl rfl rfl) (r_fa rfl fld39_0) rfl ?_
       refine l_val (wg rfl rfl rfl) (r_lb 0 rfl rfl rfl flat3) rfl ?_
       refine l_val (wg rfl rfl rfl) (r_fa rfl fld61_2) rfl ?_
       refine l_val (wg rfl rfl rfl) (r_lb 2 rfl rfl rfl flat3) rfl ?_
       refine l_val (wg rfl rfl rfl) (r_lss rfl rfl) rfl ?_
       refine l_val wn (r_pick rfl rfl) rfl ?_
       refine l_nil (e_go hK44 ?_)
       refine c_cond rfl (fun h15 => ?_) (fun h15 => ?_)
       · refine c_seq fun _ hK45 => ?_
         refine c_quietT 5 mix (by kernel_rfl) (fun _ h => h.drew) fun _ hT2 => ?_
         refine q_val wn (r_lbn 1 [.int .i64 ((Agg.of (Roll.inT (z.raw.take j) s1.frm s1.to)).count), .int .i64 ((Agg.of (Roll.inT (z.raw.take j) s1.frm s1.to)).total), .int .i64 ((Agg.of (Roll.inT (z.raw.take j) s1.frm s1.to)).min), .int .i64 ((Agg.of (Roll.inT (z.raw.take j) s1.frm s1.to)).max), .int .i64 ((Agg.of (Roll.inT (z.raw.take j) s1.frm s1.to)).first), .int .i64 ((Agg.of (Roll.inT (z.raw.take j) s1.frm s1.to)).last), .int .i64 ((Agg.of (Roll.inT (z.raw.take j) s1.frm s1.to)).rise)] rfl rfl rfl rfl agg35 inf35) rfl ?_
         refine q_val wn (r_fa rfl fld39_1) rfl ?_
         refine q_val wn (r_lb 0 rfl rfl rfl flat3) rfl ?_
         refine q_callF wn rfl Try.call44 rfl (fun w1 hM => c_One s4.value w1) ?_
         refine q_callF wn rfl Try.call43 rfl (fun w1 hM => c_Join (Agg.of (Roll.inT (z.raw.take j) s1.frm s1.to)) (Agg.one s4.value) w1) ?_
         refine q_tail hT2 ?_
         refine l_stn 1 wn rfl rfl rfl inf35 rfl rfl rfl ?_
         refine l_nil (e_go hK45 ?_)
         refine c_region ?_
         refine l_val wn (r_move rfl) rfl ?_
         refine l_val wn (r_addn rfl rfl (by omega)) rfl ?_
         refine l_val wn (r_assign rfl) rfl ?_
         refine l_nil (e_in_n (e_go hK42 ?_))
         refine c_region ?_
         refine l_val wn (r_addn rfl rfl (by omega)) rfl ?_
         refine l_val wn (r_move rfl) rfl ?_
         have hst := (Sh.inT_of_succ (a := s1.frm) (b := s1.to) hs4).trans (if_pos (by omega))
         have hst2 := (Roll.inT_succ (a := s1.frm) (b := s1.to) hs4).trans (if_pos (by omega))
         refine l_nil (e_round1 (j + 1) (sc rfl (sc rfl (sc rfl (sc rfl (sc (ji (by first | omega | (simp [Roll.inT, Sh.bIn]; done) | (rw [hst2, List.length_append]; simp only [List.length_cons, List.length_nil]; omega) | (rw [hst2]; done) | (rw [hst2]; omega))) (sc rfl (sc rfl (sc rfl (sc rfl (sc rfl (sc rfl (sc rfl (sc (ji (by first | omega | (simp [Roll.inT, Sh.bIn]; done) | (rw [hst2, List.length_append]; simp only [List.length_cons, List.length_nil]; omega) | (rw [hst2]; done) | (rw [hst2]; omega))) sn))))))))))))) (fun _ h => by rw [hst]; exact (h.sel [1, 2, 3, 4, 5, 6, 7, 8, 9, 10] (by decide) rfl)) ?_ ?_)
         · omega
         omega
       refine c_skip (e_in_n (e_go hK42 ?_))
       refine c_region ?_
       refine l_val wn (r_addn rfl rfl (by omega)) rfl ?_
       refine l_val wn (r_move rfl) rfl ?_
       have hst := (Sh.inT_of_succ (a := s1.frm) (b := s1.to) hs4).trans (if_neg (by omega))
       have hst2 := (Roll.inT_succ (a := s1.frm) (b := s1.to) hs4).trans (if_neg (by omega))
       refine l_nil (e_round1 (j + 1) (sc rfl (sc rfl (sc rfl (sc rfl (sc (ji (by first | omega | (simp [Roll.inT, Sh.bIn]; done) | (rw [hst2, List.length_append]; simp only [List.length_cons, List.length_nil]; omega) | (rw [hst2]; done) | (rw [hst2]; omega))) (sc rfl (sc rfl (sc rfl (sc rfl (sc rfl (sc rfl (sc rfl (sc (ji (by first | omega | (simp [Roll.inT, Sh.bIn]; done) | (rw [hst2, List.length_append]; simp only [List.length_cons, List.length_nil]; omega) | (rw [hst2]; done) | (rw [hst2]; omega))) sn))))))))))))) (fun _ h => by rw [hst]; exact (h.sel [1, 2, 3, 4, 5, 6, 7, 8, 9, 10] (by decide) rfl)) ?_ ?_)
       · omega
       omega
     refine l_skip (wg rfl rfl rfl) rfl ?_
     refine l_skip (wg rfl rfl rfl) rfl ?_
     refine l_skip (wg rfl rfl rfl) rfl ?_
     refine l_skip (wg rfl rfl rfl) rfl ?_
     refine l_skip (wg rfl rfl rfl) rfl ?_
     refine l_val wn (r_pick rfl rfl) rfl ?_
     refine l_nil (e_go hK44 ?_)
     refine c_false rfl rfl ?_
     refine c_skip (e_in_n (e_go hK42 ?_))
     refine c_region ?_
     refine l_val wn (r_addn rfl rfl (by omega)) rfl ?_
     refine l_val wn (r_move rfl) rfl ?_
     have hst := (Sh.inT_of_succ (a := s1.frm) (b := s1.to) hs4).trans (if_neg (by omega))
     have hst2 := (Roll.inT_succ (a := s1.frm) (b := s1.to) hs4).trans (if_neg (by omega))
     refine l_nil (e_round1 (j + 1) (sc rfl (sc rfl (sc rfl (sc rfl (sc (ji (by first | omega | (simp [Roll.inT, Sh.bIn]; done) | (rw [hst2, List.length_append]; simp only [List.length_cons, List.length_nil]; omega) | (rw [hst2]; done) | (rw [hst2]; omega))) (sc rfl (sc rfl (sc rfl (sc rfl (sc rfl (sc rfl (sc rfl (sc (ji (by first | omega | (simp [Roll.inT, Sh.bIn]; done) | (rw [hst2, List.length_append]; simp only [List.length_cons, List.length_nil]; omega) | (rw [hst2]; done) | (rw [hst2]; omega))) sn))))))))))))) (fun _ h => by rw [hst]; exact (h.sel [1, 2, 3, 4, 5, 6, 7, 8, 9, 10] (by decide) rfl)) ?_ ?_)
     · omega
     omega
   have hk2 : z.raw.take j = z.raw := List.take_of_length_le (by omega)
   rw [hk2]
   refine c_exit (e_then_x (e_loop1_x (e_in_hit (e_in_n (e_go hK33 ?_)))))
   refine c_region ?_
   refine l_val wn (r_lbn 2 [.int .i64 u.count, .int .i64 u.total, .int .i64 u.min, .int .i64 u.max, .int .i64 u.first, .int .i64 u.last, .int .i64 u.rise] rfl rfl rfl rfl agg35 inf35) rfl ?_
   refine l_val wn (r_lbn 0 [.int .i64 ((Agg.of (Roll.inT z.raw s1.frm s1.to)).count), .int .i64 ((Agg.of (Roll.inT z.raw s1.frm s1.to)).total), .int .i64 ((Agg.of (Roll.inT z.raw s1.frm s1.to)).min), .int .i64 ((Agg.of (Roll.inT z.raw s1.frm s1.to)).max), .int .i64 ((Agg.of (Roll.inT z.raw s1.frm s1.to)).first), .int .i64 ((Agg.of (Roll.inT z.raw s1.frm s1.to)).last), .int .i64 ((Agg.of (Roll.inT z.raw s1.frm s1.to)).rise)] rfl rfl rfl rfl agg35 inf35) rfl ?_
   refine l_callF wn rfl Try.call43 rfl (fun w1 hM => c_Join u (Agg.of (Roll.inT z.raw s1.frm s1.to)) w1) ?_
   refine l_stn 2 wn rfl rfl rfl inf35 rfl rfl rfl ?_
   refine l_nil (e_in_n (e_go hK12 ?_))
   refine c_region ?_
   refine l_val wn (r_addn rfl rfl (by omega)) rfl ?_
   refine l_val wn (r_move rfl) rfl ?_
   refine l_nil (e_round3 (k + 1) (Agg.join u (Agg.of (Roll.inT z.raw s1.frm s1.to))) (c + ((Roll.inT z.raw s1.frm s1.to).length : Int)) (sc rfl (sc rfl (sc rfl (sc rfl (sc rfl (sc rfl (sc rfl (sc (ji (by first | omega | (simp [Roll.inT, Sh.bIn]; done) | (rw [hst2, List.length_append]; simp only [List.length_cons, List.length_nil]; omega) | (rw [hst2]; done) | (rw [hst2]; omega))) sn)))))))) (fun _ h => (h.sel [2, 3, 4, 5, 6, 7, 8, 9] (by decide) rfl)) ?_ ?_)
   · have hps := Sh.partSum_0 (z := z) h11 h12
     have hgd := Sh.partSum_good (Sh.ok_of h1) (Classical.not_not.1 h3)
     have hcr := Sh.partCost_rng (Sh.ok_of h1) s1
     rw [hps.1] at hgd
     rw [hps.2] at hcr
     exact ⟨by omega, Sh.read_next hI1.2.1 hs1 (Classical.not_not.1 h3) (Sh.apart_zero (by omega)) hps.1 hps.2, by omega, (hI1.2.2.2.join hgd (by omega)).mono (by omega)⟩
   omega
 refine c_exit (e_then_x (e_loop3_x (e_in_hit (e_go hK8 ?_))))
 refine c_seq fun _ hK46 => ?_
 refine c_region ?_
 refine l_val wn (r_lbn 0 [.int .i64 u.count, .int .i64 u.total, .int .i64 u.min, .int .i64 u.max, .int .i64 u.first, .int .i64 u.last, .int .i64 u.rise] rfl rfl rfl rfl agg35 inf35) rfl ?_
 refine l_val wn (r_move rfl) rfl ?_
 refine l_stn 1 wn rfl rfl rfl inf35 rfl rfl rfl ?_
 refine l_val wn (r_assign rfl) rfl ?_
 refine l_val wn (r_assign rfl) rfl ?_
 refine l_nil (e_go hK46 ?_)
 refine c_ret (e_ret3 (.inl rfl) Try.results17 (rv_cell 1 rfl rfl agg35 inf35 rfl) (rv_tmp rfl) (rv_tmp rfl) fun w1 hM => ?_)
 have he : Sh.read z l = (u, c, 0) := Sh.read_ok h1 hI1.2.1 (by omega)
 rw [he]
 exact ret_ok rfl hM

set_option maxHeartbeats 4000000 in
theorem c_refRead (z0 : Value) (z1 : Value) (z2 : Value) (z3 : Value) (z : Shelf) (lv : Value) (l : List Part) (P0 : Nat → Prop) (w : World) (hP0 : ∀ b, P0 b → b < w.heap.size) (hz0 : FlatSl P0 2 labelE z0 z.series w) (hz1 : FlatSl P0 2 sampleE z1 z.raw w) (hz2 : FlatSl P0 8 bucketE z2 z.fine w) (hz3 : FlatSl P0 8 bucketE z3 z.coarse w) (hl : FlatSl P0 3 partE lv l w) (hl1 : l.length ≤ 1048576) (hok : ∀ x ∈ z.series, x.key.size ≤ 9223372036854775807 ∧ x.val.size ≤ 9223372036854775807) :
    Calls Try.prog 18 #[.agg (List.toArray [z0, z1, z2, z3, .int .i64 z.rawFrom, .int .i64 z.fineFrom, .int .i64 z.fineTo, .int .i64 z.coarseFrom, .int .i64 z.coarseTo]), lv] w (Ret w (.tuple #[.agg (sumE (Sh.read z l).1).toArray, .int .i64 (Sh.read z l).2.1, .int .i64 (Sh.read z l).2.2])) := by
 obtain ⟨z0A, z0c, rfl, hz0c, hz0m, hz0A⟩ := hz0.form
 obtain ⟨z1A, z1c, rfl, hz1c, hz1m, hz1A⟩ := hz1.form
 obtain ⟨z2A, z2c, rfl, hz2c, hz2m, hz2A⟩ := hz2.form
 obtain ⟨z3A, z3c, rfl, hz3c, hz3m, hz3A⟩ := hz3.form
 obtain ⟨lA, lc, rfl, hlc, hlm, hlA⟩ := hl.form
 refine fstart (N := 105) (vals := [.agg (List.toArray [.slice z0A z.series.length z0c, .slice z1A z.raw.length z1c, .slice z2A z.fine.length z2c, .slice z3A z.coarse.length z3c, .int .i64 z.rawFrom, .int .i64 z.fineFrom, .int .i64 z.fineTo, .int .i64 z.coarseFrom, .int .i64 z.coarseTo]), .slice lA l.length lc]) (S := Mem w ⟨no, P0⟩ [slP 2 labelE (.slice z0A z.series.length z0c) z.series, slP 2 sampleE (.slice z1A z.raw.length z1c) z.raw, slP 8 bucketE (.slice z2A z.fine.length z2c) z.fine, slP 8 bucketE (.slice z3A z.coarse.length z3c) z.coarse, slP 3 partE (.slice lA l.length lc) l]) Try.func18 rfl rfl rfl (Mem.ofDatsP hP0 (dc (dlp hz0) (dc (dlp hz1) (dc (dlp hz2) (dc (dlp hz3) (dc (dlp hl) dn)))))) ?_
 refine c_seq fun _ hK1 => ?_
 refine c_region ?_
 refine l_box wn rfl rfl fun b2 => ?_
 refine l_alloc wn inf35 rfl fun b4 => ?_
 refine l_val wn (r_assign rfl) rfl ?_
 refine l_val wn (r_assign rfl) rfl ?_
 refine l_nil (e_go hK1 ?_)
 refine c_seq fun _ hK2 => ?_
 refine c_seq fun _ hK3 => ?_
 refine c_region ?_
 refine l_val wn (r_lbn 1 [.slice z0A z.series.length z0c, .slice z1A z.raw.length z1c, .slice z2A z.fine.length z2c, .slice z3A z.coarse.length z3c, .int .i64 z.rawFrom, .int .i64 z.fineFrom, .int .i64 z.fineTo, .int .i64 z.coarseFrom, .int .i64 z.coarseTo] rfl rfl rfl rfl agg27 inf27) rfl ?_
 refine l_callF wn rfl Try.call20 rfl (fun w1 hM => c_refShWrong _ _ _ _ z (In w1) w1 (fun _ h => h) (hM.slp 2 rfl) (hM.slp 3 rfl) (hM.slp 4 rfl) (hM.slp 5 rfl) (by exact hok)) ?_
 refine l_val wn (r_assign rfl) rfl ?_
 refine l_nil (e_go hK3 ?_)
 refine c_seq fun _ hK4 => ?_
 refine c_region ?_
 refine l_val wn (r_move rfl) rfl ?_
 refine l_val wn (r_neq rfl rfl) rfl ?_
 refine l_nil (e_go hK4 ?_)
 refine c_cond rfl (fun h1 => ?_) (fun h1 => ?_)
 · refine c_seq fun _ hK5 => ?_
   refine c_region ?_
   refine l_val wn (r_build [.int .i64 0, .int .i64 0, .int .i64 0, .int .i64 0, .int .i64 0, .int .i64 0, .int .i64 0] pl35 inf35 rfl rfl) rfl ?_
   refine l_val wn (r_move rfl) rfl ?_
   refine l_stn 0 wn rfl rfl rfl inf35 rfl rfl rfl ?_
   refine l_val wn (r_assign rfl) rfl ?_
   refine l_val wn (r_assign rfl) rfl ?_
   refine l_nil (e_go hK5 ?_)
   refine c_ret (e_then_r (e_ret3 (.inl rfl) Try.results18 (rv_cell 0 rfl rfl agg35 inf35 rfl) (rv_tmp rfl) (rv_tmp rfl) fun w1 hM => ?_))
   have he : Sh.read z l = (Sum.zero, 0, (Sh.wrong z)) := Sh.read_wrong h1
   rw [he]
   exact ret_ok rfl hM
 obtain ⟨l1, l2, l3, l4⟩ := (Sh.ok_of h1).lens
 refine c_skip (e_go hK2 ?_)
 refine c_seq fun _ hK6 => ?_
 refine c_region ?_
 refine l_alloc wn inf35 rfl fun b8 => ?_
 refine l_nil (e_go hK6 ?_)
 refine c_seq fun _ hK7 => ?_
 refine c_region ?_
 refine l_val wn (r_assign rfl) rfl ?_
 refine l_nil (e_go hK7 ?_)
 refine c_seq fun _ hK8 => ?_
 refine c_seq fun _ hK9 => ?_
 refine c_region ?_
 refine l_val wn (r_move rfl) rfl ?_
 refine l_val wn (r_len rfl Try.underlying28) rfl ?_
 refine l_val wn (r_move rfl) rfl ?_
 refine l_nil (e_go hK9 ?_)
 refine c_block ?_
 refine c_loop3 (fun (k : Nat) (u : Sum) (c : Int) => [(1, .slice lA l.length lc), (2, .pointer (some ⟨b2, 0, none⟩)), (4, .pointer (some ⟨b4, 0, none⟩)), (8, .pointer (some ⟨b8, 0, none⟩)), (9, .int .i64 c), (23, .slice lA l.length lc), (24, .int .i64 (l.length : Int)), (25, .int .i64 (k : Int))]) (fun (k : Nat) (u : Sum) (c : Int) => [.blk b8 [.int .i64 u.count, .int .i64 u.total, .int .i64 u.min, .int .i64 u.max, .int .i64 u.first, .int .i64 u.last, .int .i64 u.rise] 35, .blk b4 [.int .i64 0, .int .i64 0, .int .i64 0, .int .i64 0, .int .i64 0, .int .i64 0, .int .i64 0] 35, .blk b2 [.slice z0A z.series.length z0c, .slice z1A z.raw.length z1c, .slice z2A z.fine.length z2c, .slice z3A z.coarse.length z3c, .int .i64 z.rawFrom, .int .i64 z.fineFrom, .int .i64 z.fineTo, .int .i64 z.coarseFrom, .int .i64 z.coarseTo] 27, slP 2 labelE (.slice z0A z.series.length z0c) z.series, slP 2 sampleE (.slice z1A z.raw.length z1c) z.raw, slP 8 bucketE (.slice z2A z.fine.length z2c) z.fine, slP 8 bucketE (.slice z3A z.coarse.length z3c) z.coarse, slP 3 partE (.slice lA l.length lc) l]) (fun (k : Nat) (u : Sum) (c : Int) => k ≤ l.length ∧ Sh.readN z none l Sum.zero 0 = Sh.readN z (Sh.prevP l k) (l.drop k) u c ∧ (0 ≤ c ∧ c ≤ 500 * (k : Int)) ∧ Sh.good u (30000 * (k : Int))) (fun (k : Nat) (u : Sum) (c : Int) => l.length - k) 0 Sum.zero 0 (sc rfl (sc rfl (sc rfl (sc rfl (sc rfl (sc rfl (sc rfl (sc (ji (by first | omega | (simp [Roll.inT, Sh.bIn]; done) | (rw [hst2, List.length_append]; simp only [List.length_cons, List.length_nil]; omega) | (rw [hst2]; done) | (rw [hst2]; omega))) sn)))))))) (fun _ h => h) ?_ (fun k u c hI1 => ?_)
 · exact ⟨by omega, rfl, by omega, by simpa using Sh.good_zero⟩
 refine c_seq fun _ hK10 => ?_
 refine c_region ?_
 refine l_val wn (r_lss rfl rfl) rfl ?_
 refine l_nil (e_go hK10 ?_)
 refine c_seq fun _ hK11 => ?_
 refine c_cond rfl (fun h2 => ?_) (fun h2 => ?_)
 · refine c_skip (e_go hK11 ?_)
   refine c_seq fun _ hK12 => ?_
   refine c_block ?_
   refine c_seq fun _ hK13 => ?_
   refine c_region ?_
   refine l_val wn (r_move rfl) rfl ?_
   obtain ⟨ad1, hd1⟩ := hlA (ne_nil (i := k) (by first | omega | decide | (simp only [List.length_cons, List.length_nil, List.length_append, List.length_take, List.length_set]; omega)))
   refine l_val wn (r_ia (i := k) rfl hd1 rfl (by omega) (by first | omega | decide | (simp only [List.length_cons, List.length_nil, List.length_append, List.length_take, List.length_set]; omega)) Try.underlying28 inf61) rfl ?_
   obtain ⟨s1, hs1⟩ : ∃ x, l[k]? = some x := ⟨_, List.getElem?_eq_getElem (by first | omega | decide | (simp only [List.length_cons, List.length_nil, List.length_append, List.length_take, List.length_set]; omega))⟩
   have hc91 := Sh.bIn_len z.fine s1.frm s1.to
   have hc92 := Sh.bIn_len z.coarse s1.frm s1.to
   have hc93 := Roll.inT_len z.raw s1.frm s1.to
   refine l_val wn (r_pln 7 [.int .i64 s1.tier, .int .i64 s1.frm, .int .i64 s1.to] rfl rfl hd1 hs1 rfl rfl agg61 inf61) rfl ?_
   refine l_alloc wn inf61 rfl fun b11 => ?_
   refine l_val wn (r_assign rfl) rfl ?_
   refine l_stn 0 wn rfl rfl rfl inf61 rfl rfl rfl ?_
   refine l_nil (e_go hK13 ?_)
   refine c_seq fun _ hK14 => ?_
   refine c_seq fun _ hK15 => ?_
   refine c_quiet mix (by kernel_rfl) (fun _ h => h.drew) ?_
   refine q_val wn (r_lbn 3 [.slice z0A z.series.length z0c, .slice z1A z.raw.length z1c, .slice z2A z.fine.length z2c, .slice z3A z.coarse.length z3c, .int .i64 z.rawFrom, .int .i64 z.fineFrom, .int .i64 z.fineTo, .int .i64 z.coarseFrom, .int .i64 z.coarseTo] rfl rfl rfl rfl agg27 inf27) rfl ?_
   refine q_val wn (r_lbn 0 [.int .i64 s1.tier, .int .i64 s1.frm, .int .i64 s1.to] rfl rfl rfl rfl agg61 inf61) rfl ?_
   refine q_callF wn rfl Try.call38 rfl (fun w1 hM => c_refMay _ _ _ _ z s1 (In w1) w1 (fun _ h => h) (hM.slp 4 rfl) (hM.slp 5 rfl) (hM.slp 6 rfl) (hM.slp 7 rfl)) ?_
   refine q_val wn (r_not rfl) rfl ?_
   refine q_val wn (r_move rfl) rfl ?_
   refine q_case (t := 34) rfl (fun h3 => ?_) (fun h3 => ?_)
   · refine q_skip (wg rfl rfl rfl) rfl ?_
     refine q_skip (wg rfl rfl rfl) rfl ?_
     refine q_skip (wg rfl rfl rfl) rfl ?_
     refine q_skip (wu rfl rfl) rfl ?_
     refine q_skip (wu rfl rfl) rfl ?_
     refine q_skip (wu rfl rfl) rfl ?_
     refine q_skip (wu rfl rfl) rfl ?_
     refine q_skip (wu rfl rfl) rfl ?_
     refine q_skip (wu rfl rfl) rfl ?_
     refine q_skip (wu rfl rfl) rfl ?_
     refine q_skip (wu rfl rfl) rfl ?_
     refine q_skip (wu rfl rfl) rfl ?_
     refine q_skip (wg rfl rfl rfl) rfl ?_
     refine q_val wn (r_pick rfl rfl) rfl ?_
     refine q_end (e_go hK15 ?_)
     refine c_true rfl rfl ?_
     refine c_seq fun _ hK16 => ?_
     refine c_region ?_
     refine l_val wn (r_build [.int .i64 0, .int .i64 0, .int .i64 0, .int .i64 0, .int .i64 0, .int .i64 0, .int .i64 0] pl35 inf35 rfl rfl) rfl ?_
     refine l_stn 2 wn rfl rfl rfl inf35 rfl rfl rfl ?_
     refine l_val wn (r_assign rfl) rfl ?_
     refine l_val wn (r_assign rfl) rfl ?_
     refine l_nil (e_go hK16 ?_)
     refine c_ret (e_then_r (e_in_r (e_then_r (e_loop3_r (e_in_r (e_then_r (e_ret3 (.inl rfl) Try.results18 (rv_cell 2 rfl rfl agg35 inf35 rfl) (rv_tmp rfl) (rv_tmp rfl) fun w1 hM => ?_)))))))
     have he : Sh.read z l = (Sum.zero, 0, 8) := Sh.read_bad h1 hI1.2.1 hs1 (.inl h3)
     rw [he]
     exact ret_ok rfl hM
   refine q_val (wg rfl rfl rfl) (r_move rfl) rfl ?_
   refine q_val (wg rfl rfl rfl) (r_gtr rfl rfl) rfl ?_
   refine q_val (wg rfl rfl rfl) (r_move rfl) rfl ?_
   refine q_case (t := 37) rfl (fun h4 => ?_) (fun h4 => ?_)
   · refine q_val (wg rfl rfl rfl) (r_fa rfl fld61_1) rfl ?_
     refine q_val (wg rfl rfl rfl) (r_lb 0 rfl rfl rfl flat3) rfl ?_
     refine q_val (wg rfl rfl rfl) (r_move rfl) rfl ?_
     refine q_val (wg rfl rfl rfl) (r_move rfl) rfl ?_
     refine q_val (wg rfl rfl rfl) (r_subn rfl rfl (by omega)) rfl ?_
     refine q_val (wg rfl rfl rfl) (r_ia (i := (k - 1)) rfl hd1 rfl (by omega) (by first | omega | decide | (simp only [List.length_cons, List.length_nil, List.length_append, List.length_take, List.length_set]; omega)) Try.underlying28 inf61) rfl ?_
     refine q_val (wg rfl rfl rfl) (r_fe rfl fld61_2) rfl ?_
     obtain ⟨s2, hs2⟩ : ∃ x, l[(k - 1)]? = some x := ⟨_, List.getElem?_eq_getElem (by first | omega | decide | (simp only [List.length_cons, List.length_nil, List.length_append, List.length_take, List.length_set]; omega))⟩
     refine q_val (wg rfl rfl rfl) (r_pl 8 rfl rfl hd1 hs2 rfl flat3) rfl ?_
     refine q_val (wg rfl rfl rfl) (r_neq rfl rfl) rfl ?_
     refine q_val (wg rfl rfl rfl) (r_pick rfl rfl) rfl ?_
     refine q_val wn (r_pick rfl rfl) rfl ?_
     refine q_end (e_go hK15 ?_)
     refine c_cond rfl (fun h5 => ?_) (fun h5 => ?_)
     · refine c_seq fun _ hK17 => ?_
       refine c_region ?_
       refine l_val wn (r_build [.int .i64 0, .int .i64 0, .int .i64 0, .int .i64 0, .int .i64 0, .int .i64 0, .int .i64 0] pl35 inf35 rfl rfl) rfl ?_
       refine l_stn 2 wn rfl rfl rfl inf35 rfl rfl rfl ?_
       refine l_val wn (r_assign rfl) rfl ?_
       refine l_val wn (r_assign rfl) rfl ?_
       refine l_nil (e_go hK17 ?_)
       refine c_ret (e_then_r (e_in_r (e_then_r (e_loop3_r (e_in_r (e_then_r (e_ret3 (.inl rfl) Try.results18 (rv_cell 2 rfl rfl agg35 inf35 rfl) (rv_tmp rfl) (rv_tmp rfl) fun w1 hM => ?_)))))))
       have he : Sh.read z l = (Sum.zero, 0, 8) := Sh.read_bad h1 hI1.2.1 hs1 (.inr ((Sh.apart_pos (by omega) hs2).2 (Ne.symm h5)))
       rw [he]
       exact ret_ok rfl hM
     refine c_skip (e_go hK14 ?_)
     refine c_seq fun _ hK18 => ?_
     refine c_region ?_
     refine l_val wn (r_fa rfl fld27_2) rfl ?_
     refine l_val wn (r_lb 3 rfl rfl rfl flat25) rfl ?_
     refine l_val wn (r_assign rfl) rfl ?_
     refine l_nil (e_go hK18 ?_)
     refine c_seq fun _ hK19 => ?_
     refine c_seq fun _ hK20 => ?_
     refine c_region ?_
     refine l_val wn (r_fa rfl fld61_0) rfl ?_
     refine l_val wn (r_lb 0 rfl rfl rfl flat3) rfl ?_
     refine l_val wn (r_eql rfl rfl) rfl ?_
     refine l_nil (e_go hK20 ?_)
     refine c_cond rfl (fun h6 => ?_) (fun h6 => ?_)
     · refine c_region ?_
       refine l_val wn (r_fa rfl fld27_3) rfl ?_
       refine l_val wn (r_lb 3 rfl rfl rfl flat25) rfl ?_
       refine l_val wn (r_assign rfl) rfl ?_
       refine l_nil (e_go hK19 ?_)
       refine c_seq fun _ hK21 => ?_
       refine c_seq fun _ hK22 => ?_
       refine c_region ?_
       refine l_val wn (r_fa rfl fld61_0) rfl ?_
       refine l_val wn (r_lb 0 rfl rfl rfl flat3) rfl ?_
       refine l_val wn (r_eql rfl rfl) rfl ?_
       refine l_nil (e_go hK22 ?_)
       refine c_false rfl (decide_eq_false (by omega)) ?_
       refine c_skip (e_go hK21 ?_)
       refine c_seq fun _ hK23 => ?_
       refine c_region ?_
       refine l_val wn (r_move rfl) rfl ?_
       refine l_val wn (r_len rfl Try.underlying25) rfl ?_
       refine l_val wn (r_move rfl) rfl ?_
       refine l_nil (e_go hK23 ?_)
       refine c_block ?_
       have hbk : Sh.bucketsOf z s1 = z.coarse := (by unfold Sh.bucketsOf; rw [if_pos h6])
       obtain ⟨hb1, hb2⟩ := Sh.bucketsOf_ok (Sh.ok_of h1) s1
       rw [hbk] at hb1 hb2
       refine c_loop1 (fun (i : Nat) => [(1, .slice lA l.length lc), (2, .pointer (some ⟨b2, 0, none⟩)), (4, .pointer (some ⟨b4, 0, none⟩)), (8, .pointer (some ⟨b8, 0, none⟩)), (9, .int .i64 (c + ((Sh.bIn (z.coarse.take i) s1.frm s1.to).length : Int))), (11, .pointer (some ⟨b11, 0, none⟩)), (23, .slice lA l.length lc), (24, .int .i64 (l.length : Int)), (25, .int .i64 (k : Int)), (77, .slice z3A z.coarse.length z3c), (78, .int .i64 (z.coarse.length : Int)), (79, .int .i64 (i : Int))]) (fun (i : Nat) => [.blk b11 [.int .i64 s1.tier, .int .i64 s1.frm, .int .i64 s1.to] 61, .blk b8 [.int .i64 ((Agg.join u (Roll.of (z.coarse.take i) s1.frm s1.to)).count), .int .i64 ((Agg.join u (Roll.of (z.coarse.take i) s1.frm s1.to)).total), .int .i64 ((Agg.join u (Roll.of (z.coarse.take i) s1.frm s1.to)).min), .int .i64 ((Agg.join u (Roll.of (z.coarse.take i) s1.frm s1.to)).max), .int .i64 ((Agg.join u (Roll.of (z.coarse.take i) s1.frm s1.to)).first), .int .i64 ((Agg.join u (Roll.of (z.coarse.take i) s1.frm s1.to)).last), .int .i64 ((Agg.join u (Roll.of (z.coarse.take i) s1.frm s1.to)).rise)] 35, .blk b4 [.int .i64 0, .int .i64 0, .int .i64 0, .int .i64 0, .int .i64 0, .int .i64 0, .int .i64 0] 35, .blk b2 [.slice z0A z.series.length z0c, .slice z1A z.raw.length z1c, .slice z2A z.fine.length z2c, .slice z3A z.coarse.length z3c, .int .i64 z.rawFrom, .int .i64 z.fineFrom, .int .i64 z.fineTo, .int .i64 z.coarseFrom, .int .i64 z.coarseTo] 27, slP 2 labelE (.slice z0A z.series.length z0c) z.series, slP 2 sampleE (.slice z1A z.raw.length z1c) z.raw, slP 8 bucketE (.slice z2A z.fine.length z2c) z.fine, slP 8 bucketE (.slice z3A z.coarse.length z3c) z.coarse, slP 3 partE (.slice lA l.length lc) l]) (fun (i : Nat) => i ≤ z.coarse.length) (fun (i : Nat) => z.coarse.length - i) 0 (sc rfl (sc rfl (sc rfl (sc rfl (sc (ji (by first | omega | (simp [Roll.inT, Sh.bIn]; done) | (rw [hst2, List.length_append]; simp only [List.length_cons, List.length_nil]; omega) | (rw [hst2]; done) | (rw [hst2]; omega))) (sc rfl (sc rfl (sc rfl (sc rfl (sc rfl (sc rfl (sc (ji (by first | omega | (simp [Roll.inT, Sh.bIn]; done) | (rw [hst2, List.length_append]; simp only [List.length_cons, List.length_nil]; omega) | (rw [hst2]; done) | (rw [hst2]; omega))) sn)))))))))))) (fun _ h => by rw [show (Roll.of (List.take 0 z.coarse) s1.frm s1.to) = Sum.zero from rfl, Sh.join_zero hI1.2.2.2]; exact h) ?_ (fun i hI2 => ?_)
       · omega
       have hli := Nat.le_trans (Sh.bIn_len (z.coarse.take i) s1.frm s1.to) (List.length_take_le' i z.coarse)
       refine c_seq fun _ hK24 => ?_
       refine c_region ?_
       refine l_val wn (r_lss rfl rfl) rfl ?_
       refine l_nil (e_go hK24 ?_)
       refine c_seq fun _ hK25 => ?_
       refine c_cond rfl (fun h7 => ?_) (fun h7 => ?_)
       · refine c_skip (e_go hK25 ?_)
         refine c_seq fun _ hK26 => ?_
         refine c_block ?_
         refine c_seq fun _ hK27 => ?_
         refine c_region ?_
         obtain ⟨ad2, hd2⟩ := hz3A (ne_nil (i := i) (by first | omega | decide | (simp only [List.length_cons, List.length_nil, List.length_append, List.length_take, List.length_set]; omega)))
         refine l_val wn (r_ia (i := i) rfl hd2 rfl (by omega) (by first | omega | decide | (simp only [List.length_cons, List.length_nil, List.length_append, List.length_take, List.length_set]; omega)) Try.underlying25 inf78) rfl ?_
         obtain ⟨s3, hs3⟩ : ∃ x, z.coarse[i]? = some x := ⟨_, List.getElem?_eq_getElem (by first | omega | decide | (simp only [List.length_cons, List.length_nil, List.length_append, List.length_take, List.length_set]; omega))⟩
         refine l_val wn (r_pln 7 [.int .i64 s3.at_, .int .i64 s3.sum.count, .int .i64 s3.sum.total, .int .i64 s3.sum.min, .int .i64 s3.sum.max, .int .i64 s3.sum.first, .int .i64 s3.sum.last, .int .i64 s3.sum.rise] rfl rfl hd2 hs3 rfl rfl agg78 inf78) rfl ?_
         refine l_alloc wn inf78 rfl fun b16 => ?_
         refine l_stn 0 wn rfl rfl rfl inf78 rfl rfl rfl ?_
         refine l_nil (e_go hK27 ?_)
         refine c_seq fun _ hK28 => ?_
         refine c_region ?_
         refine l_val wn (r_fa rfl fld78_0) rfl ?_
         refine l_val wn (r_lb 0 rfl rfl rfl flat3) rfl ?_
         refine l_val wn (r_fa rfl fld61_1) rfl ?_
         refine l_val wn (r_lb 1 rfl rfl rfl flat3) rfl ?_
         refine l_val wn (r_geq rfl rfl) rfl ?_
         refine l_val wn (r_move rfl) rfl ?_
         refine l_case (t := 88) rfl (fun h8 => ?_) (fun h8 => ?_)
         · refine l_val (wg rfl rfl rfl) (r_fa rfl fld78_0) rfl ?_
           refine l_val (wg rfl rfl rfl) (r_lb 0 rfl rfl rfl flat3) rfl ?_
           refine l_val (wg rfl rfl rfl) (r_fa rfl fld61_2) rfl ?_
           refine l_val (wg rfl rfl rfl) (r_lb 1 rfl rfl rfl flat3) rfl ?_
           refine l_val (wg rfl rfl rfl) (r_lss rfl rfl) rfl ?_
           refine l_val wn (r_pick rfl rfl) rfl ?_
           refine l_nil (e_go hK28 ?_)
           refine c_cond rfl (fun h9 => ?_) (fun h9 => ?_)
           · refine c_seq fun _ hK29 => ?_
             refine c_region ?_
             refine l_val wn (r_lbn 2 [.int .i64 ((Agg.join u (Roll.of (z.coarse.take i) s1.frm s1.to)).count), .int .i64 ((Agg.join u (Roll.of (z.coarse.take i) s1.frm s1.to)).total), .int .i64 ((Agg.join u (Roll.of (z.coarse.take i) s1.frm s1.to)).min), .int .i64 ((Agg.join u (Roll.of (z.coarse.take i) s1.frm s1.to)).max), .int .i64 ((Agg.join u (Roll.of (z.coarse.take i) s1.frm s1.to)).first), .int .i64 ((Agg.join u (Roll.of (z.coarse.take i) s1.frm s1.to)).last), .int .i64 ((Agg.join u (Roll.of (z.coarse.take i) s1.frm s1.to)).rise)] rfl rfl rfl rfl agg35 inf35) rfl ?_
             refine l_val wn (r_fa rfl fld78_1) rfl ?_
             refine l_val wn (r_lbn 0 [.int .i64 s3.sum.count, .int .i64 s3.sum.total, .int .i64 s3.sum.min, .int .i64 s3.sum.max, .int .i64 s3.sum.first, .int .i64 s3.sum.last, .int .i64 s3.sum.rise] rfl rfl rfl rfl agg35 inf35) rfl ?_
             refine l_callF wn rfl Try.call46 rfl (fun w1 hM => c_refJoin (Agg.join u (Roll.of (z.coarse.take i) s1.frm s1.to)) s3.sum w1) ?_
             refine l_stn 2 wn rfl rfl rfl inf35 rfl rfl rfl ?_
             refine l_nil (e_go hK29 ?_)
             refine c_region ?_
             refine l_val wn (r_move rfl) rfl ?_
             refine l_val wn (r_addn rfl rfl (by omega)) rfl ?_
             refine l_val wn (r_assign rfl) rfl ?_
             refine l_nil (e_in_n (e_go hK26 ?_))
             refine c_region ?_
             refine l_val wn (r_addn rfl rfl (by omega)) rfl ?_
             refine l_val wn (r_move rfl) rfl ?_
             have hst := (Sh.of_next hI1.2.2.2 (by omega) hb1 hb2 hs3 s1.frm s1.to).trans (if_pos (by omega))
             have hst2 := (Sh.bIn_succ (a := s1.frm) (b := s1.to) hs3).trans (if_pos (by omega))
             refine l_nil (e_round1 (i + 1) (sc rfl (sc rfl (sc rfl (sc rfl (sc (ji (by first | omega | (simp [Roll.inT, Sh.bIn]; done) | (rw [hst2, List.length_append]; simp only [List.length_cons, List.length_nil]; omega) | (rw [hst2]; done) | (rw [hst2]; omega))) (sc rfl (sc rfl (sc rfl (sc rfl (sc rfl (sc rfl (sc (ji (by first | omega | (simp [Roll.inT, Sh.bIn]; done) | (rw [hst2, List.length_append]; simp only [List.length_cons, List.length_nil]; omega) | (rw [hst2]; done) | (rw [hst2]; omega))) sn)))))))))))) (fun _ h => by rw [hst]; exact (h.sel [1, 2, 3, 4, 5, 6, 7, 8, 9] (by decide) rfl)) ?_ ?_)
             · omega
             omega
           refine c_skip (e_in_n (e_go hK26 ?_))
           refine c_region ?_
           refine l_val wn (r_addn rfl rfl (by omega)) rfl ?_
           refine l_val wn (r_move rfl) rfl ?_
           have hst := (Sh.of_next hI1.2.2.2 (by omega) hb1 hb2 hs3 s1.frm s1.to).trans (if_neg (by omega))
           have hst2 := (Sh.bIn_succ (a := s1.frm) (b := s1.to) hs3).trans (if_neg (by omega))
           refine l_nil (e_round1 (i + 1) (sc rfl (sc rfl (sc rfl (sc rfl (sc (ji (by first | omega | (simp [Roll.inT, Sh.bIn]; done) | (rw [hst2, List.length_append]; simp only [List.length_cons, List.length_nil]; omega) | (rw [hst2]; done) | (rw [hst2]; omega))) (sc rfl (sc rfl (sc rfl (sc rfl (sc rfl (sc rfl (sc (ji (by first | omega | (simp [Roll.inT, Sh.bIn]; done) | (rw [hst2, List.length_append]; simp only [List.length_cons, List.length_nil]; omega) | (rw [hst2]; done) | (rw [hst2]; omega))) sn)))))))))))) (fun _ h => by rw [hst]; exact (h.sel [1, 2, 3, 4, 5, 6, 7, 8, 9] (by decide) rfl)) ?_ ?_)
           · omega
           omega
         refine l_skip (wg rfl rfl rfl) rfl ?_
         refine l_skip (wg rfl rfl rfl) rfl ?_
         refine l_skip (wg rfl rfl rfl) rfl ?_
         refine l_skip (wg rfl rfl rfl) rfl ?_
         refine l_skip (wg rfl rfl rfl) rfl ?_
         refine l_val wn (r_pick rfl rfl) rfl ?_
         refine l_nil (e_go hK28 ?_)
         refine c_false rfl rfl ?_
         refine c_skip (e_in_n (e_go hK26 ?_))
         refine c_region ?_
         refine l_val wn (r_addn rfl rfl (by omega)) rfl ?_
         refine l_val wn (r_move rfl) rfl ?_
         have hst := (Sh.of_next hI1.2.2.2 (by omega) hb1 hb2 hs3 s1.frm s1.to).trans (if_neg (by omega))
         have hst2 := (Sh.bIn_succ (a := s1.frm) (b := s1.to) hs3).trans (if_neg (by omega))
         refine l_nil (e_round1 (i + 1) (sc rfl (sc rfl (sc rfl (sc rfl (sc (ji (by first | omega | (simp [Roll.inT, Sh.bIn]; done) | (rw [hst2, List.length_append]; simp only [List.length_cons, List.length_nil]; omega) | (rw [hst2]; done) | (rw [hst2]; omega))) (sc rfl (sc rfl (sc rfl (sc rfl (sc rfl (sc rfl (sc (ji (by first | omega | (simp [Roll.inT, Sh.bIn]; done) | (rw [hst2, List.length_append]; simp only [List.length_cons, List.length_nil]; omega) | (rw [hst2]; done) | (rw [hst2]; omega))) sn)))))))))))) (fun _ h => by rw [hst]; exact (h.sel [1, 2, 3, 4, 5, 6, 7, 8, 9] (by decide) rfl)) ?_ ?_)
         · omega
         omega
       have hk1 : z.coarse.take i = z.coarse := List.take_of_length_le (by omega)
       rw [hk1]
       refine c_exit (e_then_x (e_loop1_x (e_in_hit (e_in_n (e_go hK12 ?_)))))
       refine c_region ?_
       refine l_val wn (r_addn rfl rfl (by omega)) rfl ?_
       refine l_val wn (r_move rfl) rfl ?_
       refine l_nil (e_round3 (k + 1) (Agg.join u (Roll.of z.coarse s1.frm s1.to)) (c + ((Sh.bIn z.coarse s1.frm s1.to).length : Int)) (sc rfl (sc rfl (sc rfl (sc rfl (sc rfl (sc rfl (sc rfl (sc (ji (by first | omega | (simp [Roll.inT, Sh.bIn]; done) | (rw [hst2, List.length_append]; simp only [List.length_cons, List.length_nil]; omega) | (rw [hst2]; done) | (rw [hst2]; omega))) sn)))))))) (fun _ h => (h.sel [1, 2, 3, 4, 5, 6, 7, 8] (by decide) rfl)) ?_ ?_)
       · have hbk : Sh.bucketsOf z s1 = z.coarse := (by unfold Sh.bucketsOf; rw [if_pos h6])
         have hps : Sh.partSum z s1 = _ ∧ Sh.partCost z s1 = _ := ⟨(Sh.bucketsOf_sum (Classical.not_not.1 h3)).symm, (Sh.bucketsOf_cost (Classical.not_not.1 h3)).symm⟩
         rw [hbk] at hps
         have hgd := Sh.partSum_good (Sh.ok_of h1) (Classical.not_not.1 h3)
         have hcr := Sh.partCost_rng (Sh.ok_of h1) s1
         rw [hps.1] at hgd
         rw [hps.2] at hcr
         exact ⟨by omega, Sh.read_next hI1.2.1 hs1 (Classical.not_not.1 h3) (fun q => h5 (Ne.symm ((Sh.apart_pos (by omega) hs2).1 q))) hps.1 hps.2, by omega, (hI1.2.2.2.join hgd (by omega)).mono (by omega)⟩
       omega
     refine c_skip (e_go hK19 ?_)
     refine c_seq fun _ hK30 => ?_
     refine c_seq fun _ hK31 => ?_
     refine c_region ?_
     refine l_val wn (r_fa rfl fld61_0) rfl ?_
     refine l_val wn (r_lb 0 rfl rfl rfl flat3) rfl ?_
     refine l_val wn (r_eql rfl rfl) rfl ?_
     refine l_nil (e_go hK31 ?_)
     refine c_cond rfl (fun h10 => ?_) (fun h10 => ?_)
     · refine c_seq fun _ hK32 => ?_
       refine c_region ?_
       refine l_nilRow (bucketE : Bucket → List Value) 78 8 ?_
       refine l_val wn (r_assign rfl) rfl ?_
       refine l_nil (e_go hK32 ?_)
       refine c_seq fun _ hK33 => ?_
       refine c_region ?_
       refine l_val wn (r_fa rfl fld27_1) rfl ?_
       refine l_val wn (r_lb 4 rfl rfl rfl flat24) rfl ?_
       refine l_val wn (r_len rfl Try.underlying24) rfl ?_
       refine l_val wn (r_move rfl) rfl ?_
       refine l_nil (e_go hK33 ?_)
       refine c_block ?_
       refine c_loop2 (fun (j : Nat) (vr : Value) => [(1, .slice lA l.length lc), (2, .pointer (some ⟨b2, 0, none⟩)), (4, .pointer (some ⟨b4, 0, none⟩)), (8, .pointer (some ⟨b8, 0, none⟩)), (9, .int .i64 c), (11, .pointer (some ⟨b11, 0, none⟩)), (12, vr), (23, .slice lA l.length lc), (24, .int .i64 (l.length : Int)), (25, .int .i64 (k : Int)), (61, .slice z1A z.raw.length z1c), (62, .int .i64 (z.raw.length : Int)), (63, .int .i64 (j : Int))]) (fun (j : Nat) (vr : Value) => [Row vr 78 8 bucketE (Sh.rawB (z.raw.take j)), .blk b11 [.int .i64 s1.tier, .int .i64 s1.frm, .int .i64 s1.to] 61, .blk b8 [.int .i64 u.count, .int .i64 u.total, .int .i64 u.min, .int .i64 u.max, .int .i64 u.first, .int .i64 u.last, .int .i64 u.rise] 35, .blk b4 [.int .i64 0, .int .i64 0, .int .i64 0, .int .i64 0, .int .i64 0, .int .i64 0, .int .i64 0] 35, .blk b2 [.slice z0A z.series.length z0c, .slice z1A z.raw.length z1c, .slice z2A z.fine.length z2c, .slice z3A z.coarse.length z3c, .int .i64 z.rawFrom, .int .i64 z.fineFrom, .int .i64 z.fineTo, .int .i64 z.coarseFrom, .int .i64 z.coarseTo] 27, slP 2 labelE (.slice z0A z.series.length z0c) z.series, slP 2 sampleE (.slice z1A z.raw.length z1c) z.raw, slP 8 bucketE (.slice z2A z.fine.length z2c) z.fine, slP 8 bucketE (.slice z3A z.coarse.length z3c) z.coarse, slP 3 partE (.slice lA l.length lc) l]) (fun (j : Nat) (vr : Value) => j ≤ z.raw.length) (fun (j : Nat) (vr : Value) => z.raw.length - j) 0 (.slice none 0 0) (sc rfl (sc rfl (sc rfl (sc rfl (sc rfl (sc rfl (sc rfl (sc rfl (sc rfl (sc rfl (sc rfl (sc rfl (sc (ji (by first | omega | (simp [Roll.inT, Sh.bIn]; done) | (rw [hst2, List.length_append]; simp only [List.length_cons, List.length_nil]; omega) | (rw [hst2]; done) | (rw [hst2]; omega))) sn))))))))))))) (fun _ h => h) ?_ (fun j vr hI3 => ?_)
       · omega
       have hlj : (Sh.rawB (z.raw.take j)).length ≤ z.raw.length := by rw [Sh.rawB_len]; exact List.length_take_le' j z.raw
       refine c_open 0 (l := (Sh.rawB (z.raw.take j))) rfl fun A1 cp1 hv1 hc1 hm1 hA1 => ?_
       subst hv1
       refine c_seq fun _ hK34 => ?_
       refine c_region ?_
       refine l_val wn (r_lss rfl rfl) rfl ?_
       refine l_nil (e_go hK34 ?_)
       refine c_seq fun _ hK35 => ?_
       refine c_cond rfl (fun h11 => ?_) (fun h11 => ?_)
       · refine c_skip (e_go hK35 ?_)
         refine c_seq fun _ hK36 => ?_
         refine c_block ?_
         refine c_seq fun _ hK37 => ?_
         refine c_region ?_
         obtain ⟨ad3, hd3⟩ := hz1A (ne_nil (i := j) (by first | omega | decide | (simp only [List.length_cons, List.length_nil, List.length_append, List.length_take, List.length_set]; omega)))
         refine l_val wn (r_ia (i := j) rfl hd3 rfl (by omega) (by first | omega | decide | (simp only [List.length_cons, List.length_nil, List.length_append, List.length_take, List.length_set]; omega)) Try.underlying24 inf39) rfl ?_
         obtain ⟨s4, hs4⟩ : ∃ x, z.raw[j]? = some x := ⟨_, List.getElem?_eq_getElem (by first | omega | decide | (simp only [List.length_cons, List.length_nil, List.length_append, List.length_take, List.length_set]; omega))⟩
         refine l_val wn (r_pln 6 [.int .i64 s4.time, .int .i64 s4.value] rfl rfl hd3 hs4 rfl rfl agg39 inf39) rfl ?_
         refine l_alloc wn inf39 rfl fun b14 => ?_
         refine l_stn 0 wn rfl rfl rfl inf39 rfl rfl rfl ?_
         refine l_nil (e_go hK37 ?_)
         refine c_nodes (Mem w ⟨no, P0⟩ [.blk b14 [.int .i64 s4.time, .int .i64 s4.value] 39, .blk b11 [.int .i64 s1.tier, .int .i64 s1.frm, .int .i64 s1.to] 61, .blk b8 [.int .i64 u.count, .int .i64 u.total, .int .i64 u.min, .int .i64 u.max, .int .i64 u.first, .int .i64 u.last, .int .i64 u.rise] 35, .blk b4 [.int .i64 0, .int .i64 0, .int .i64 0, .int .i64 0, .int .i64 0, .int .i64 0, .int .i64 0] 35, .blk b2 [.slice z0A z.series.length z0c, .slice z1A z.raw.length z1c, .slice z2A z.fine.length z2c, .slice z3A z.coarse.length z3c, .int .i64 z.rawFrom, .int .i64 z.fineFrom, .int .i64 z.fineTo, .int .i64 z.coarseFrom, .int .i64 z.coarseTo] 27, slP 2 labelE (.slice z0A z.series.length z0c) z.series, slP 2 sampleE (.slice z1A z.raw.length z1c) z.raw, slP 8 bucketE (.slice z2A z.fine.length z2c) z.fine, slP 8 bucketE (.slice z3A z.coarse.length z3c) z.coarse, slP 3 partE (.slice lA l.length lc) l]) mix (fun _ h => h.drew) rfl ?_
         refine n_run (f := 6) [0, 1, 2, 3] rfl rfl (by kernel_rfl) (by kernel_rfl) (fun _ h => (h.sel [0, 2, 3, 4, 5, 6, 7, 8, 9, 10] (by decide) rfl)) fun KS hKS => ?_
         refine s_val wn (r_move rfl) rfl ?_
         refine s_val wn (r_fa rfl fld39_0) rfl ?_
         refine s_val wn (r_lb 0 rfl rfl rfl flat3) rfl ?_
         refine s_val wn (r_lbn 0 [.int .i64 s4.time, .int .i64 s4.value] rfl rfl rfl rfl agg39 inf39) rfl ?_
         refine s_end hKS ?_
         refine n_step1 (f := 5) (i := 4) rfl (by kernel_rfl) ?_
         refine n_one (i := 4) rfl fun KN hKN => ?_
         refine l_bsL sampleE ([s4] : List Sample) wn Try.underlying24 inf39 rfl rfl rfl rfl (by decide) (by decide) rfl fun b71 => ?_
         refine l_nil (hKN _ _ (fun _ h => (h.sel [1, 3, 4, 5, 6, 7, 8, 9, 10, 11] (by decide) rfl)) ?_)
         refine n_step1 (f := 4) (i := 5) rfl (by kernel_rfl) ?_
         refine n_one (i := 5) rfl fun KN hKN => ?_
         refine l_callF wn rfl Try.call45 rfl (fun w1 hM => c_refOf _ ([s4] : List Sample) w1 (RowSl encSample hM 0 rfl) (by simp) (fun x hx => by obtain rfl := List.mem_singleton.1 hx; have := (Sh.ok_of h1).rawR.rng _ (List.mem_of_getElem? (by assumption)); omega)) ?_
         refine l_nil (hKN _ _ (fun _ h => (h.sel [1, 3, 4, 5, 6, 7, 8, 9, 10, 11] (by decide) rfl)) ?_)
         refine n_run (f := 3) [6] rfl rfl (by kernel_rfl) (by kernel_rfl) (fun _ h => (h.sel [1, 3, 4, 5, 6, 7, 8, 9, 10, 11] (by decide) rfl)) fun KS hKS => ?_
         refine s_val wn (r_build [.int .i64 s4.time, .int .i64 ((Agg.of ([s4] : List Sample)).count), .int .i64 ((Agg.of ([s4] : List Sample)).total), .int .i64 ((Agg.of ([s4] : List Sample)).min), .int .i64 ((Agg.of ([s4] : List Sample)).max), .int .i64 ((Agg.of ([s4] : List Sample)).first), .int .i64 ((Agg.of ([s4] : List Sample)).last), .int .i64 ((Agg.of ([s4] : List Sample)).rise)] pl78 inf78 rfl rfl) rfl ?_
         refine s_end hKS ?_
         refine n_step1 (f := 2) (i := 7) rfl (by kernel_rfl) ?_
         refine n_one (i := 7) rfl fun KN hKN => ?_
         refine l_bsL bucketE ([(⟨s4.time, (Agg.of ([s4] : List Sample))⟩ : Bucket)] : List Bucket) wn Try.underlying25 inf78 rfl rfl rfl rfl (by decide) (by decide) rfl fun b74 => ?_
         refine l_nil (hKN _ _ (fun _ h => (h.sel [2, 4, 5, 6, 7, 8, 9, 10, 11, 12] (by decide) rfl)) ?_)
         refine n_step1 (f := 1) (i := 8) rfl (by kernel_rfl) ?_
         refine n_one (i := 8) rfl fun KN hKN => ?_
         refine l_app 3 (Sh.rawB (z.raw.take j)) ([(⟨s4.time, (Agg.of ([s4] : List Sample))⟩ : Bucket)] : List Bucket) encBucket wn rfl rfl rfl (fun _ hM => (RowSl encBucket hM 0 rfl)) Try.underlying25 inf78 rfl rfl (by simp only [List.length_append, List.length_cons, List.length_nil]; omega) rfl fun A2 cp2 hc2 hm2 hA2 => ?_
         refine l_nil (hKN _ _ (fun _ h => (h.sel [2, 4, 5, 6, 7, 8, 9, 10, 11, 12] (by decide) rfl)) ?_)
         refine n_run (f := 0) [9] rfl rfl (by kernel_rfl) (by kernel_rfl) (fun _ h => (h.sel [2, 4, 5, 6, 7, 8, 9, 10, 11, 12] (by decide) rfl)) fun KS hKS => ?_
         refine s_val wn (r_assign rfl) rfl ?_
         refine s_end hKS ?_
         refine n_done (by kernel_rfl) (e_in_n (e_go hK36 ?_))
         refine c_region ?_
         refine l_val wn (r_addn rfl rfl (by omega)) rfl ?_
         refine l_val wn (r_move rfl) rfl ?_
         refine l_nil (e_round2 (j + 1) (.slice A2 (((Sh.rawB (z.raw.take j)) ++ ([(⟨s4.time, (Agg.of ([s4] : List Sample))⟩ : Bucket)] : List Bucket)).length) cp2) (sc rfl (sc rfl (sc rfl (sc rfl (sc rfl (sc rfl (sc rfl (sc rfl (sc rfl (sc rfl (sc rfl (sc rfl (sc (ji (by first | omega | (simp [Roll.inT, Sh.bIn]; done) | (rw [hst2, List.length_append]; simp only [List.length_cons, List.length_nil]; omega) | (rw [hst2]; done) | (rw [hst2]; omega))) sn))))))))))))) (fun _ h => by rw [Sh.rawB_succ hs4]; exact (h.sel [3, 4, 5, 6, 7, 8, 9, 10, 11, 12] (by decide) rfl)) ?_ ?_)
         · omega
         omega
       have hk2 : z.raw.take j = z.raw := List.take_of_length_le (by omega)
       rw [hk2]
       rw [hk2] at hA1
       refine c_exit (e_then_x (e_loop2_x (e_in_hit (e_go hK30 ?_))))
       refine c_seq fun _ hK38 => ?_
       refine c_region ?_
       refine l_val wn (r_move rfl) rfl ?_
       refine l_val wn (r_len rfl Try.underlying25) rfl ?_
       refine l_val wn (r_move rfl) rfl ?_
       refine l_nil (e_go hK38 ?_)
       refine c_block ?_
       have hbk : Sh.bucketsOf z s1 = (Sh.rawB z.raw) := (by unfold Sh.bucketsOf; rw [if_neg h6, if_pos h10])
       obtain ⟨hb1, hb2⟩ := Sh.bucketsOf_ok (Sh.ok_of h1) s1
       rw [hbk] at hb1 hb2
       refine c_loop1 (fun (i : Nat) => [(1, .slice lA l.length lc), (2, .pointer (some ⟨b2, 0, none⟩)), (4, .pointer (some ⟨b4, 0, none⟩)), (8, .pointer (some ⟨b8, 0, none⟩)), (9, .int .i64 (c + ((Sh.bIn ((Sh.rawB z.raw).take i) s1.frm s1.to).length : Int))), (11, .pointer (some ⟨b11, 0, none⟩)), (23, .slice lA l.length lc), (24, .int .i64 (l.length : Int)), (25, .int .i64 (k : Int)), (77, .slice A1 ((Sh.rawB z.raw).length) cp1), (78, .int .i64 ((Sh.rawB z.raw).length : Int)), (79, .int .i64 (i : Int))]) (fun (i : Nat) => [Row (.slice A1 ((Sh.rawB z.raw).length) cp1) 78 8 bucketE (Sh.rawB z.raw), .blk b11 [.int .i64 s1.tier, .int .i64 s1.frm, .int .i64 s1.to] 61, .blk b8 [.int .i64 ((Agg.join u (Roll.of ((Sh.rawB z.raw).take i) s1.frm s1.to)).count), .int .i64 ((Agg.join u (Roll.of ((Sh.rawB z.raw).take i) s1.frm s1.to)).total), .int .i64 ((Agg.join u (Roll.of ((Sh.rawB z.raw).take i) s1.frm s1.to)).min), .int .i64 ((Agg.join u (Roll.of ((Sh.rawB z.raw).take i) s1.frm s1.to)).max), .int .i64 ((Agg.join u (Roll.of ((Sh.rawB z.raw).take i) s1.frm s1.to)).first), .int .i64 ((Agg.join u (Roll.of ((Sh.rawB z.raw).take i) s1.frm s1.to)).last), .int .i64 ((Agg.join u (Roll.of ((Sh.rawB z.raw).take i) s1.frm s1.to)).rise)] 35, .blk b4 [.int .i64 0, .int .i64 0, .int .i64 0, .int .i64 0, .int .i64 0, .int .i64 0, .int .i64 0] 35, .blk b2 [.slice z0A z.series.length z0c, .slice z1A z.raw.length z1c, .slice z2A z.fine.length z2c, .slice z3A z.coarse.length z3c, .int .i64 z.rawFrom, .int .i64 z.fineFrom, .int .i64 z.fineTo, .int .i64 z.coarseFrom, .int .i64 z.coarseTo] 27, slP 2 labelE (.slice z0A z.series.length z0c) z.series, slP 2 sampleE (.slice z1A z.raw.length z1c) z.raw, slP 8 bucketE (.slice z2A z.fine.length z2c) z.fine, slP 8 bucketE (.slice z3A z.coarse.length z3c) z.coarse, slP 3 partE (.slice lA l.length lc) l]) (fun (i : Nat) => i ≤ (Sh.rawB z.raw).length) (fun (i : Nat) => (Sh.rawB z.raw).length - i) 0 (sc rfl (sc rfl (sc rfl (sc rfl (sc (ji (by first | omega | (simp [Roll.inT, Sh.bIn]; done) | (rw [hst2, List.length_append]; simp only [List.length_cons, List.length_nil]; omega) | (rw [hst2]; done) | (rw [hst2]; omega))) (sc rfl (sc rfl (sc rfl (sc rfl (sc rfl (sc rfl (sc (ji (by first | omega | (simp [Roll.inT, Sh.bIn]; done) | (rw [hst2, List.length_append]; simp only [List.length_cons, List.length_nil]; omega) | (rw [hst2]; done) | (rw [hst2]; omega))) sn)))))))))))) (fun _ h => by rw [show (Roll.of (List.take 0 (Sh.rawB z.raw)) s1.frm s1.to) = Sum.zero from rfl, Sh.join_zero hI1.2.2.2]; exact h) ?_ (fun i hI4 => ?_)
       · omega
       have hli := Nat.le_trans (Sh.bIn_len ((Sh.rawB z.raw).take i) s1.frm s1.to) (List.length_take_le' i (Sh.rawB z.raw))
       refine c_seq fun _ hK39 => ?_
       refine c_region ?_
       refine l_val wn (r_lss rfl rfl) rfl ?_
       refine l_nil (e_go hK39 ?_)
       refine c_seq fun _ hK40 => ?_
       refine c_cond rfl (fun h12 => ?_) (fun h12 => ?_)
       · refine c_skip (e_go hK40 ?_)
         refine c_seq fun _ hK41 => ?_
         refine c_block ?_
         refine c_seq fun _ hK42 => ?_
         refine c_region ?_
         obtain ⟨ad4, hd4⟩ := hA1 (ne_nil (i := i) (by first | omega | decide | (simp only [List.length_cons, List.length_nil, List.length_append, List.length_take, List.length_set]; omega)))
         refine l_val wn (r_ia (i := i) rfl hd4 rfl (by omega) (by first | omega | decide | (simp only [List.length_cons, List.length_nil, List.length_append, List.length_take, List.length_set]; omega)) Try.underlying25 inf78) rfl ?_
         obtain ⟨s5, hs5⟩ : ∃ x, (Sh.rawB z.raw)[i]? = some x := ⟨_, List.getElem?_eq_getElem (by first | omega | decide | (simp only [List.length_cons, List.length_nil, List.length_append, List.length_take, List.length_set]; omega))⟩
         refine l_val wn (r_rln 0 [.int .i64 s5.at_, .int .i64 s5.sum.count, .int .i64 s5.sum.total, .int .i64 s5.sum.min, .int .i64 s5.sum.max, .int .i64 s5.sum.first, .int .i64 s5.sum.last, .int .i64 s5.sum.rise] encBucket rfl rfl hd4 hs5 rfl rfl agg78 inf78) rfl ?_
         refine l_alloc wn inf78 rfl fun b16 => ?_
         refine l_stn 0 wn rfl rfl rfl inf78 rfl rfl rfl ?_
         refine l_nil (e_go hK42 ?_)
         refine c_seq fun _ hK43 => ?_
         refine c_region ?_
         refine l_val wn (r_fa rfl fld78_0) rfl ?_
         refine l_val wn (r_lb 0 rfl rfl rfl flat3) rfl ?_
         refine l_val wn (r_fa rfl fld61_1) rfl ?_
         refine l_val wn (r_lb 2 rfl rfl rfl flat3) rfl ?_
         refine l_val wn (r_geq rfl rfl) rfl ?_
         refine l_val wn (r_move rfl) rfl ?_
         refine l_case (t := 88) rfl (fun h13 => ?_) (fun h13 => ?_)
         · refine l_val (wg rfl rfl rfl) (r_fa rfl fld78_0) rfl ?_
           refine l_val (wg rfl rfl rfl) (r_lb 0 rfl rfl rfl flat3) rfl ?_
           refine l_val (wg rfl rfl rfl) (r_fa rfl fld61_2) rfl ?_
           refine l_val (wg rfl rfl rfl) (r_lb 2 rfl rfl rfl flat3) rfl ?_
           refine l_val (wg rfl rfl rfl) (r_lss rfl rfl) rfl ?_
           refine l_val wn (r_pick rfl rfl) rfl ?_
           refine l_nil (e_go hK43 ?_)
           refine c_cond rfl (fun h14 => ?_) (fun h14 => ?_)
           · refine c_seq fun _ hK44 => ?_
             refine c_region ?_
             refine l_val wn (r_lbn 3 [.int .i64 ((Agg.join u (Roll.of ((Sh.rawB z.raw).take i) s1.frm s1.to)).count), .int .i64 ((Agg.join u (Roll.of ((Sh.rawB z.raw).take i) s1.frm s1.to)).total), .int .i64 ((Agg.join u (Roll.of ((Sh.rawB z.raw).take i) s1.frm s1.to)).min), .int .i64 ((Agg.join u (Roll.of ((Sh.rawB z.raw).take i) s1.frm s1.to)).max), .int .i64 ((Agg.join u (Roll.of ((Sh.rawB z.raw).take i) s1.frm s1.to)).first), .int .i64 ((Agg.join u (Roll.of ((Sh.rawB z.raw).take i) s1.frm s1.to)).last), .int .i64 ((Agg.join u (Roll.of ((Sh.rawB z.raw).take i) s1.frm s1.to)).rise)] rfl rfl rfl rfl agg35 inf35) rfl ?_
             refine l_val wn (r_fa rfl fld78_1) rfl ?_
             refine l_val wn (r_lbn 0 [.int .i64 s5.sum.count, .int .i64 s5.sum.total, .int .i64 s5.sum.min, .int .i64 s5.sum.max, .int .i64 s5.sum.first, .int .i64 s5.sum.last, .int .i64 s5.sum.rise] rfl rfl rfl rfl agg35 inf35) rfl ?_
             refine l_callF wn rfl Try.call46 rfl (fun w1 hM => c_refJoin (Agg.join u (Roll.of ((Sh.rawB z.raw).take i) s1.frm s1.to)) s5.sum w1) ?_
             refine l_stn 3 wn rfl rfl rfl inf35 rfl rfl rfl ?_
             refine l_nil (e_go hK44 ?_)
             refine c_region ?_
             refine l_val wn (r_move rfl) rfl ?_
             refine l_val wn (r_addn rfl rfl (by omega)) rfl ?_
             refine l_val wn (r_assign rfl) rfl ?_
             refine l_nil (e_in_n (e_go hK41 ?_))
             refine c_region ?_
             refine l_val wn (r_addn rfl rfl (by omega)) rfl ?_
             refine l_val wn (r_move rfl) rfl ?_
             have hst := (Sh.of_next hI1.2.2.2 (by omega) hb1 hb2 hs5 s1.frm s1.to).trans (if_pos (by omega))
             have hst2 := (Sh.bIn_succ (a := s1.frm) (b := s1.to) hs5).trans (if_pos (by omega))
             refine l_nil (e_round1 (i + 1) (sc rfl (sc rfl (sc rfl (sc rfl (sc (ji (by first | omega | (simp [Roll.inT, Sh.bIn]; done) | (rw [hst2, List.length_append]; simp only [List.length_cons, List.length_nil]; omega) | (rw [hst2]; done) | (rw [hst2]; omega))) (sc rfl (sc rfl (sc rfl (sc rfl (sc rfl (sc rfl (sc (ji (by first | omega | (simp [Roll.inT, Sh.bIn]; done) | (rw [hst2, List.length_append]; simp only [List.length_cons, List.length_nil]; omega) | (rw [hst2]; done) | (rw [hst2]; omega))) sn)))))))))))) (fun _ h => by rw [hst]; exact (h.sel [1, 2, 3, 4, 5, 6, 7, 8, 9, 10] (by decide) rfl)) ?_ ?_)
             · omega
             omega
           refine c_skip (e_in_n (e_go hK41 ?_))
           refine c_region ?_
           refine l_val wn (r_addn rfl rfl (by omega)) rfl ?_
           refine l_val wn (r_move rfl) rfl ?_
           have hst := (Sh.of_next hI1.2.2.2 (by omega) hb1 hb2 hs5 s1.frm s1.to).trans (if_neg (by omega))
           have hst2 := (Sh.bIn_succ (a := s1.frm) (b := s1.to) hs5).trans (if_neg (by omega))
           refine l_nil (e_round1 (i + 1) (sc rfl (sc rfl (sc rfl (sc rfl (sc (ji (by first | omega | (simp [Roll.inT, Sh.bIn]; done) | (rw [hst2, List.length_append]; simp only [List.length_cons, List.length_nil]; omega) | (rw [hst2]; done) | (rw [hst2]; omega))) (sc rfl (sc rfl (sc rfl (sc rfl (sc rfl (sc rfl (sc (ji (by first | omega | (simp [Roll.inT, Sh.bIn]; done) | (rw [hst2, List.length_append]; simp only [List.length_cons, List.length_nil]; omega) | (rw [hst2]; done) | (rw [hst2]; omega))) sn)))))))))))) (fun _ h => by rw [hst]; exact (h.sel [1, 2, 3, 4, 5, 6, 7, 8, 9, 10] (by decide) rfl)) ?_ ?_)
           · omega
           omega
         refine l_skip (wg rfl rfl rfl) rfl ?_
         refine l_skip (wg rfl rfl rfl) rfl ?_
         refine l_skip (wg rfl rfl rfl) rfl ?_
         refine l_skip (wg rfl rfl rfl) rfl ?_
         refine l_skip (wg rfl rfl rfl) rfl ?_
         refine l_val wn (r_pick rfl rfl) rfl ?_
         refine l_nil (e_go hK43 ?_)
         refine c_false rfl rfl ?_
         refine c_skip (e_in_n (e_go hK41 ?_))
         refine c_region ?_
         refine l_val wn (r_addn rfl rfl (by omega)) rfl ?_
         refine l_val wn (r_move rfl) rfl ?_
         have hst := (Sh.of_next hI1.2.2.2 (by omega) hb1 hb2 hs5 s1.frm s1.to).trans (if_neg (by omega))
         have hst2 := (Sh.bIn_succ (a := s1.frm) (b := s1.to) hs5).trans (if_neg (by omega))
         refine l_nil (e_round1 (i + 1) (sc rfl (sc rfl (sc rfl (sc rfl (sc (ji (by first | omega | (simp [Roll.inT, Sh.bIn]; done) | (rw [hst2, List.length_append]; simp only [List.length_cons, List.length_nil]; omega) | (rw [hst2]; done) | (rw [hst2]; omega))) (sc rfl (sc rfl (sc rfl (sc rfl (sc rfl (sc rfl (sc (ji (by first | omega | (simp [Roll.inT, Sh.bIn]; done) | (rw [hst2, List.length_append]; simp only [List.length_cons, List.length_nil]; omega) | (rw [hst2]; done) | (rw [hst2]; omega))) sn)))))))))))) (fun _ h => by rw [hst]; exact (h.sel [1, 2, 3, 4, 5, 6, 7, 8, 9, 10] (by decide) rfl)) ?_ ?_)
         · omega
         omega
       have hk3 : (Sh.rawB z.raw).take i = (Sh.rawB z.raw) := List.take_of_length_le (by omega)
       rw [hk3]
       refine c_exit (e_then_x (e_loop1_x (e_in_hit (e_in_n (e_go hK12 ?_)))))
       refine c_region ?_
       refine l_val wn (r_addn rfl rfl (by omega)) rfl ?_
       refine l_val wn (r_move rfl) rfl ?_
       refine l_nil (e_round3 (k + 1) (Agg.join u (Roll.of (Sh.rawB z.raw) s1.frm s1.to)) (c + ((Sh.bIn (Sh.rawB z.raw) s1.frm s1.to).length : Int)) (sc rfl (sc rfl (sc rfl (sc rfl (sc rfl (sc rfl (sc rfl (sc (ji (by first | omega | (simp [Roll.inT, Sh.bIn]; done) | (rw [hst2, List.length_append]; simp only [List.length_cons, List.length_nil]; omega) | (rw [hst2]; done) | (rw [hst2]; omega))) sn)))))))) (fun _ h => (h.sel [2, 3, 4, 5, 6, 7, 8, 9] (by decide) rfl)) ?_ ?_)
       · have hbk : Sh.bucketsOf z s1 = (Sh.rawB z.raw) := (by unfold Sh.bucketsOf; rw [if_neg h6, if_pos h10])
         have hps : Sh.partSum z s1 = _ ∧ Sh.partCost z s1 = _ := ⟨(Sh.bucketsOf_sum (Classical.not_not.1 h3)).symm, (Sh.bucketsOf_cost (Classical.not_not.1 h3)).symm⟩
         rw [hbk] at hps
         have hgd := Sh.partSum_good (Sh.ok_of h1) (Classical.not_not.1 h3)
         have hcr := Sh.partCost_rng (Sh.ok_of h1) s1
         rw [hps.1] at hgd
         rw [hps.2] at hcr
         exact ⟨by omega, Sh.read_next hI1.2.1 hs1 (Classical.not_not.1 h3) (fun q => h5 (Ne.symm ((Sh.apart_pos (by omega) hs2).1 q))) hps.1 hps.2, by omega, (hI1.2.2.2.join hgd (by omega)).mono (by omega)⟩
       omega
     refine c_skip (e_go hK30 ?_)
     refine c_seq fun _ hK45 => ?_
     refine c_region ?_
     refine l_val wn (r_move rfl) rfl ?_
     refine l_val wn (r_len rfl Try.underlying25) rfl ?_
     refine l_val wn (r_move rfl) rfl ?_
     refine l_nil (e_go hK45 ?_)
     refine c_block ?_
     have hbk : Sh.bucketsOf z s1 = z.fine := (by unfold Sh.bucketsOf; rw [if_neg h6, if_neg h10])
     obtain ⟨hb1, hb2⟩ := Sh.bucketsOf_ok (Sh.ok_of h1) s1
     rw [hbk] at hb1 hb2
     refine c_loop1 (fun (i : Nat) => [(1, .slice lA l.length lc), (2, .pointer (some ⟨b2, 0, none⟩)), (4, .pointer (some ⟨b4, 0, none⟩)), (8, .pointer (some ⟨b8, 0, none⟩)), (9, .int .i64 (c + ((Sh.bIn (z.fine.take i) s1.frm s1.to).length : Int))), (11, .pointer (some ⟨b11, 0, none⟩)), (23, .slice lA l.length lc), (24, .int .i64 (l.length : Int)), (25, .int .i64 (k : Int)), (77, .slice z2A z.fine.length z2c), (78, .int .i64 (z.fine.length : Int)), (79, .int .i64 (i : Int))]) (fun (i : Nat) => [.blk b11 [.int .i64 s1.tier, .int .i64 s1.frm, .int .i64 s1.to] 61, .blk b8 [.int .i64 ((Agg.join u (Roll.of (z.fine.take i) s1.frm s1.to)).count), .int .i64 ((Agg.join u (Roll.of (z.fine.take i) s1.frm s1.to)).total), .int .i64 ((Agg.join u (Roll.of (z.fine.take i) s1.frm s1.to)).min), .int .i64 ((Agg.join u (Roll.of (z.fine.take i) s1.frm s1.to)).max), .int .i64 ((Agg.join u (Roll.of (z.fine.take i) s1.frm s1.to)).first), .int .i64 ((Agg.join u (Roll.of (z.fine.take i) s1.frm s1.to)).last), .int .i64 ((Agg.join u (Roll.of (z.fine.take i) s1.frm s1.to)).rise)] 35, .blk b4 [.int .i64 0, .int .i64 0, .int .i64 0, .int .i64 0, .int .i64 0, .int .i64 0, .int .i64 0] 35, .blk b2 [.slice z0A z.series.length z0c, .slice z1A z.raw.length z1c, .slice z2A z.fine.length z2c, .slice z3A z.coarse.length z3c, .int .i64 z.rawFrom, .int .i64 z.fineFrom, .int .i64 z.fineTo, .int .i64 z.coarseFrom, .int .i64 z.coarseTo] 27, slP 2 labelE (.slice z0A z.series.length z0c) z.series, slP 2 sampleE (.slice z1A z.raw.length z1c) z.raw, slP 8 bucketE (.slice z2A z.fine.length z2c) z.fine, slP 8 bucketE (.slice z3A z.coarse.length z3c) z.coarse, slP 3 partE (.slice lA l.length lc) l]) (fun (i : Nat) => i ≤ z.fine.length) (fun (i : Nat) => z.fine.length - i) 0 (sc rfl (sc rfl (sc rfl (sc rfl (sc (ji (by first | omega | (simp [Roll.inT, Sh.bIn]; done) | (rw [hst2, List.length_append]; simp only [List.length_cons, List.length_nil]; omega) | (rw [hst2]; done) | (rw [hst2]; omega))) (sc rfl (sc rfl (sc rfl (sc rfl (sc rfl (sc rfl (sc (ji (by first | omega | (simp [Roll.inT, Sh.bIn]; done) | (rw [hst2, List.length_append]; simp only [List.length_cons, List.length_nil]; omega) | (rw [hst2]; done) | (rw [hst2]; omega))) sn)))))))))))) (fun _ h => by rw [show (Roll.of (List.take 0 z.fine) s1.frm s1.to) = Sum.zero from rfl, Sh.join_zero hI1.2.2.2]; exact h) ?_ (fun i hI5 => ?_)
     · omega
     have hli := Nat.le_trans (Sh.bIn_len (z.fine.take i) s1.frm s1.to) (List.length_take_le' i z.fine)
     refine c_seq fun _ hK46 => ?_
     refine c_region ?_
     refine l_val wn (r_lss rfl rfl) rfl ?_
     refine l_nil (e_go hK46 ?_)
     refine c_seq fun _ hK47 => ?_
     refine c_cond rfl (fun h15 => ?_) (fun h15 => ?_)
     · refine c_skip (e_go hK47 ?_)
       refine c_seq fun _ hK48 => ?_
       refine c_block ?_
       refine c_seq fun _ hK49 => ?_
       refine c_region ?_
       obtain ⟨ad5, hd5⟩ := hz2A (ne_nil (i := i) (by first | omega | decide | (simp only [List.length_cons, List.length_nil, List.length_append, List.length_take, List.length_set]; omega)))
       refine l_val wn (r_ia (i := i) rfl hd5 rfl (by omega) (by first | omega | decide | (simp only [List.length_cons, List.length_nil, List.length_append, List.length_take, List.length_set]; omega)) Try.underlying25 inf78) rfl ?_
       obtain ⟨s6, hs6⟩ : ∃ x, z.fine[i]? = some x := ⟨_, List.getElem?_eq_getElem (by first | omega | decide | (simp only [List.length_cons, List.length_nil, List.length_append, List.length_take, List.length_set]; omega))⟩
       refine l_val wn (r_pln 6 [.int .i64 s6.at_, .int .i64 s6.sum.count, .int .i64 s6.sum.total, .int .i64 s6.sum.min, .int .i64 s6.sum.max, .int .i64 s6.sum.first, .int .i64 s6.sum.last, .int .i64 s6.sum.rise] rfl rfl hd5 hs6 rfl rfl agg78 inf78) rfl ?_
       refine l_alloc wn inf78 rfl fun b16 => ?_
       refine l_stn 0 wn rfl rfl rfl inf78 rfl rfl rfl ?_
       refine l_nil (e_go hK49 ?_)
       refine c_seq fun _ hK50 => ?_
       refine c_region ?_
       refine l_val wn (r_fa rfl fld78_0) rfl ?_
       refine l_val wn (r_lb 0 rfl rfl rfl flat3) rfl ?_
       refine l_val wn (r_fa rfl fld61_1) rfl ?_
       refine l_val wn (r_lb 1 rfl rfl rfl flat3) rfl ?_
       refine l_val wn (r_geq rfl rfl) rfl ?_
       refine l_val wn (r_move rfl) rfl ?_
       refine l_case (t := 88) rfl (fun h16 => ?_) (fun h16 => ?_)
       · refine l_val (wg rfl rfl rfl) (r_fa rfl fld78_0) rfl ?_
         refine l_val (wg rfl rfl rfl) (r_lb 0 rfl rfl rfl flat3) rfl ?_
         refine l_val (wg rfl rfl rfl) (r_fa rfl fld61_2) rfl ?_
         refine l_val (wg rfl rfl rfl) (r_lb 1 rfl rfl rfl flat3) rfl ?_
         refine l_val (wg rfl rfl rfl) (r_lss rfl rfl) rfl ?_
         refine l_val wn (r_pick rfl rfl) rfl ?_
         refine l_nil (e_go hK50 ?_)
         refine c_cond rfl (fun h17 => ?_) (fun h17 => ?_)
         · refine c_seq fun _ hK51 => ?_
           refine c_region ?_
           refine l_val wn (r_lbn 2 [.int .i64 ((Agg.join u (Roll.of (z.fine.take i) s1.frm s1.to)).count), .int .i64 ((Agg.join u (Roll.of (z.fine.take i) s1.frm s1.to)).total), .int .i64 ((Agg.join u (Roll.of (z.fine.take i) s1.frm s1.to)).min), .int .i64 ((Agg.join u (Roll.of (z.fine.take i) s1.frm s1.to)).max), .int .i64 ((Agg.join u (Roll.of (z.fine.take i) s1.frm s1.to)).first), .int .i64 ((Agg.join u (Roll.of (z.fine.take i) s1.frm s1.to)).last), .int .i64 ((Agg.join u (Roll.of (z.fine.take i) s1.frm s1.to)).rise)] rfl rfl rfl rfl agg35 inf35) rfl ?_
           refine l_val wn (r_fa rfl fld78_1) rfl ?_
           refine l_val wn (r_lbn 0 [.int .i64 s6.sum.count, .int .i64 s6.sum.total, .int .i64 s6.sum.min, .int .i64 s6.sum.max, .int .i64 s6.sum.first, .int .i64 s6.sum.last, .int .i64 s6.sum.rise] rfl rfl rfl rfl agg35 inf35) rfl ?_
           refine l_callF wn rfl Try.call46 rfl (fun w1 hM => c_refJoin (Agg.join u (Roll.of (z.fine.take i) s1.frm s1.to)) s6.sum w1) ?_
           refine l_stn 2 wn rfl rfl rfl inf35 rfl rfl rfl ?_
           refine l_nil (e_go hK51 ?_)
           refine c_region ?_
           refine l_val wn (r_move rfl) rfl ?_
           refine l_val wn (r_addn rfl rfl (by omega)) rfl ?_
           refine l_val wn (r_assign rfl) rfl ?_
           refine l_nil (e_in_n (e_go hK48 ?_))
           refine c_region ?_
           refine l_val wn (r_addn rfl rfl (by omega)) rfl ?_
           refine l_val wn (r_move rfl) rfl ?_
           have hst := (Sh.of_next hI1.2.2.2 (by omega) hb1 hb2 hs6 s1.frm s1.to).trans (if_pos (by omega))
           have hst2 := (Sh.bIn_succ (a := s1.frm) (b := s1.to) hs6).trans (if_pos (by omega))
           refine l_nil (e_round1 (i + 1) (sc rfl (sc rfl (sc rfl (sc rfl (sc (ji (by first | omega | (simp [Roll.inT, Sh.bIn]; done) | (rw [hst2, List.length_append]; simp only [List.length_cons, List.length_nil]; omega) | (rw [hst2]; done) | (rw [hst2]; omega))) (sc rfl (sc rfl (sc rfl (sc rfl (sc rfl (sc rfl (sc (ji (by first | omega | (simp [Roll.inT, Sh.bIn]; done) | (rw [hst2, List.length_append]; simp only [List.length_cons, List.length_nil]; omega) | (rw [hst2]; done) | (rw [hst2]; omega))) sn)))))))))))) (fun _ h => by rw [hst]; exact (h.sel [1, 2, 3, 4, 5, 6, 7, 8, 9] (by decide) rfl)) ?_ ?_)
           · omega
           omega
         refine c_skip (e_in_n (e_go hK48 ?_))
         refine c_region ?_
         refine l_val wn (r_addn rfl rfl (by omega)) rfl ?_
         refine l_val wn (r_move rfl) rfl ?_
         have hst := (Sh.of_next hI1.2.2.2 (by omega) hb1 hb2 hs6 s1.frm s1.to).trans (if_neg (by omega))
         have hst2 := (Sh.bIn_succ (a := s1.frm) (b := s1.to) hs6).trans (if_neg (by omega))
         refine l_nil (e_round1 (i + 1) (sc rfl (sc rfl (sc rfl (sc rfl (sc (ji (by first | omega | (simp [Roll.inT, Sh.bIn]; done) | (rw [hst2, List.length_append]; simp only [List.length_cons, List.length_nil]; omega) | (rw [hst2]; done) | (rw [hst2]; omega))) (sc rfl (sc rfl (sc rfl (sc rfl (sc rfl (sc rfl (sc (ji (by first | omega | (simp [Roll.inT, Sh.bIn]; done) | (rw [hst2, List.length_append]; simp only [List.length_cons, List.length_nil]; omega) | (rw [hst2]; done) | (rw [hst2]; omega))) sn)))))))))))) (fun _ h => by rw [hst]; exact (h.sel [1, 2, 3, 4, 5, 6, 7, 8, 9] (by decide) rfl)) ?_ ?_)
         · omega
         omega
       refine l_skip (wg rfl rfl rfl) rfl ?_
       refine l_skip (wg rfl rfl rfl) rfl ?_
       refine l_skip (wg rfl rfl rfl) rfl ?_
       refine l_skip (wg rfl rfl rfl) rfl ?_
       refine l_skip (wg rfl rfl rfl) rfl ?_
       refine l_val wn (r_pick rfl rfl) rfl ?_
       refine l_nil (e_go hK50 ?_)
       refine c_false rfl rfl ?_
       refine c_skip (e_in_n (e_go hK48 ?_))
       refine c_region ?_
       refine l_val wn (r_addn rfl rfl (by omega)) rfl ?_
       refine l_val wn (r_move rfl) rfl ?_
       have hst := (Sh.of_next hI1.2.2.2 (by omega) hb1 hb2 hs6 s1.frm s1.to).trans (if_neg (by omega))
       have hst2 := (Sh.bIn_succ (a := s1.frm) (b := s1.to) hs6).trans (if_neg (by omega))
       refine l_nil (e_round1 (i + 1) (sc rfl (sc rfl (sc rfl (sc rfl (sc (ji (by first | omega | (simp [Roll.inT, Sh.bIn]; done) | (rw [hst2, List.length_append]; simp only [List.length_cons, List.length_nil]; omega) | (rw [hst2]; done) | (rw [hst2]; omega))) (sc rfl (sc rfl (sc rfl (sc rfl (sc rfl (sc rfl (sc (ji (by first | omega | (simp [Roll.inT, Sh.bIn]; done) | (rw [hst2, List.length_append]; simp only [List.length_cons, List.length_nil]; omega) | (rw [hst2]; done) | (rw [hst2]; omega))) sn)))))))))))) (fun _ h => by rw [hst]; exact (h.sel [1, 2, 3, 4, 5, 6, 7, 8, 9] (by decide) rfl)) ?_ ?_)
       · omega
       omega
     have hk4 : z.fine.take i = z.fine := List.take_of_length_le (by omega)
     rw [hk4]
     refine c_exit (e_then_x (e_loop1_x (e_in_hit (e_in_n (e_go hK12 ?_)))))
     refine c_region ?_
     refine l_val wn (r_addn rfl rfl (by omega)) rfl ?_
     refine l_val wn (r_move rfl) rfl ?_
     refine l_nil (e_round3 (k + 1) (Agg.join u (Roll.of z.fine s1.frm s1.to)) (c + ((Sh.bIn z.fine s1.frm s1.to).length : Int)) (sc rfl (sc rfl (sc rfl (sc rfl (sc rfl (sc rfl (sc rfl (sc (ji (by first | omega | (simp [Roll.inT, Sh.bIn]; done) | (rw [hst2, List.length_append]; simp only [List.length_cons, List.length_nil]; omega) | (rw [hst2]; done) | (rw [hst2]; omega))) sn)))))))) (fun _ h => (h.sel [1, 2, 3, 4, 5, 6, 7, 8] (by decide) rfl)) ?_ ?_)
     · have hbk : Sh.bucketsOf z s1 = z.fine := (by unfold Sh.bucketsOf; rw [if_neg h6, if_neg h10])
       have hps : Sh.partSum z s1 = _ ∧ Sh.partCost z s1 = _ := ⟨(Sh.bucketsOf_sum (Classical.not_not.1 h3)).symm, (Sh.bucketsOf_cost (Classical.not_not.1 h3)).symm⟩
       rw [hbk] at hps
       have hgd := Sh.partSum_good (Sh.ok_of h1) (Classical.not_not.1 h3)
       have hcr := Sh.partCost_rng (Sh.ok_of h1) s1
       rw [hps.1] at hgd
       rw [hps.2] at hcr
       exact ⟨by omega, Sh.read_next hI1.2.1 hs1 (Classical.not_not.1 h3) (fun q => h5 (Ne.symm ((Sh.apart_pos (by omega) hs2).1 q))) hps.1 hps.2, by omega, (hI1.2.2.2.join hgd (by omega)).mono (by omega)⟩
     omega
   refine q_skip (wg rfl rfl rfl) rfl ?_
   refine q_skip (wg rfl rfl rfl) rfl ?_
   refine q_skip (wg rfl rfl rfl) rfl ?_
   refine q_skip (wg rfl rfl rfl) rfl ?_
   refine q_skip (wg rfl rfl rfl) rfl ?_
   refine q_skip (wg rfl rfl rfl) rfl ?_
   refine q_skip (wg rfl rfl rfl) rfl ?_
   refine q_skip (wg rfl rfl rfl) rfl ?_
   refine q_skip (wg rfl rfl rfl) rfl ?_
   refine q_val (wg rfl rfl rfl) (r_pick rfl rfl) rfl ?_
   refine q_val wn (r_pick rfl rfl) rfl ?_
   refine q_end (e_go hK15 ?_)
   refine c_false rfl rfl ?_
   refine c_skip (e_go hK14 ?_)
   refine c_seq fun _ hK52 => ?_
   refine c_region ?_
   refine l_val wn (r_fa rfl fld27_2) rfl ?_
   refine l_val wn (r_lb 3 rfl rfl rfl flat25) rfl ?_
   refine l_val wn (r_assign rfl) rfl ?_
   refine l_nil (e_go hK52 ?_)
   refine c_seq fun _ hK53 => ?_
   refine c_seq fun _ hK54 => ?_
   refine c_region ?_
   refine l_val wn (r_fa rfl fld61_0) rfl ?_
   refine l_val wn (r_lb 0 rfl rfl rfl flat3) rfl ?_
   refine l_val wn (r_eql rfl rfl) rfl ?_
   refine l_nil (e_go hK54 ?_)
   refine c_cond rfl (fun h18 => ?_) (fun h18 => ?_)
   · refine c_region ?_
     refine l_val wn (r_fa rfl fld27_3) rfl ?_
     refine l_val wn (r_lb 3 rfl rfl rfl flat25) rfl ?_
     refine l_val wn (r_assign rfl) rfl ?_
     refine l_nil (e_go hK53 ?_)
     refine c_seq fun _ hK55 => ?_
     refine c_seq fun _ hK56 => ?_
     refine c_region ?_
     refine l_val wn (r_fa rfl fld61_0) rfl ?_
     refine l_val wn (r_lb 0 rfl rfl rfl flat3) rfl ?_
     refine l_val wn (r_eql rfl rfl) rfl ?_
     refine l_nil (e_go hK56 ?_)
     refine c_false rfl (decide_eq_false (by omega)) ?_
     refine c_skip (e_go hK55 ?_)
     refine c_seq fun _ hK57 => ?_
     refine c_region ?_
     refine l_val wn (r_move rfl) rfl ?_
     refine l_val wn (r_len rfl Try.underlying25) rfl ?_
     refine l_val wn (r_move rfl) rfl ?_
     refine l_nil (e_go hK57 ?_)
     refine c_block ?_
     have hbk : Sh.bucketsOf z s1 = z.coarse := (by unfold Sh.bucketsOf; rw [if_pos h18])
     obtain ⟨hb1, hb2⟩ := Sh.bucketsOf_ok (Sh.ok_of h1) s1
     rw [hbk] at hb1 hb2
     refine c_loop1 (fun (i : Nat) => [(1, .slice lA l.length lc), (2, .pointer (some ⟨b2, 0, none⟩)), (4, .pointer (some ⟨b4, 0, none⟩)), (8, .pointer (some ⟨b8, 0, none⟩)), (9, .int .i64 (c + ((Sh.bIn (z.coarse.take i) s1.frm s1.to).length : Int))), (11, .pointer (some ⟨b11, 0, none⟩)), (23, .slice lA l.length lc), (24, .int .i64 (l.length : Int)), (25, .int .i64 (k : Int)), (77, .slice z3A z.coarse.length z3c), (78, .int .i64 (z.coarse.length : Int)), (79, .int .i64 (i : Int))]) (fun (i : Nat) => [.blk b11 [.int .i64 s1.tier, .int .i64 s1.frm, .int .i64 s1.to] 61, .blk b8 [.int .i64 ((Agg.join u (Roll.of (z.coarse.take i) s1.frm s1.to)).count), .int .i64 ((Agg.join u (Roll.of (z.coarse.take i) s1.frm s1.to)).total), .int .i64 ((Agg.join u (Roll.of (z.coarse.take i) s1.frm s1.to)).min), .int .i64 ((Agg.join u (Roll.of (z.coarse.take i) s1.frm s1.to)).max), .int .i64 ((Agg.join u (Roll.of (z.coarse.take i) s1.frm s1.to)).first), .int .i64 ((Agg.join u (Roll.of (z.coarse.take i) s1.frm s1.to)).last), .int .i64 ((Agg.join u (Roll.of (z.coarse.take i) s1.frm s1.to)).rise)] 35, .blk b4 [.int .i64 0, .int .i64 0, .int .i64 0, .int .i64 0, .int .i64 0, .int .i64 0, .int .i64 0] 35, .blk b2 [.slice z0A z.series.length z0c, .slice z1A z.raw.length z1c, .slice z2A z.fine.length z2c, .slice z3A z.coarse.length z3c, .int .i64 z.rawFrom, .int .i64 z.fineFrom, .int .i64 z.fineTo, .int .i64 z.coarseFrom, .int .i64 z.coarseTo] 27, slP 2 labelE (.slice z0A z.series.length z0c) z.series, slP 2 sampleE (.slice z1A z.raw.length z1c) z.raw, slP 8 bucketE (.slice z2A z.fine.length z2c) z.fine, slP 8 bucketE (.slice z3A z.coarse.length z3c) z.coarse, slP 3 partE (.slice lA l.length lc) l]) (fun (i : Nat) => i ≤ z.coarse.length) (fun (i : Nat) => z.coarse.length - i) 0 (sc rfl (sc rfl (sc rfl (sc rfl (sc (ji (by first | omega | (simp [Roll.inT, Sh.bIn]; done) | (rw [hst2, List.length_append]; simp only [List.length_cons, List.length_nil]; omega) | (rw [hst2]; done) | (rw [hst2]; omega))) (sc rfl (sc rfl (sc rfl (sc rfl (sc rfl (sc rfl (sc (ji (by first | omega | (simp [Roll.inT, Sh.bIn]; done) | (rw [hst2, List.length_append]; simp only [List.length_cons, List.length_nil]; omega) | (rw [hst2]; done) | (rw [hst2]; omega))) sn)))))))))))) (fun _ h => by rw [show (Roll.of (List.take 0 z.coarse) s1.frm s1.to) = Sum.zero from rfl, Sh.join_zero hI1.2.2.2]; exact h) ?_ (fun i hI6 => ?_)
     · omega
     have hli := Nat.le_trans (Sh.bIn_len (z.coarse.take i) s1.frm s1.to) (List.length_take_le' i z.coarse)
     refine c_seq fun _ hK58 => ?_
     refine c_region ?_
     refine l_val wn (r_lss rfl rfl) rfl ?_
     refine l_nil (e_go hK58 ?_)
     refine c_seq fun _ hK59 => ?_
     refine c_cond rfl (fun h19 => ?_) (fun h19 => ?_)
     · refine c_skip (e_go hK59 ?_)
       refine c_seq fun _ hK60 => ?_
       refine c_block ?_
       refine c_seq fun _ hK61 => ?_
       refine c_region ?_
       obtain ⟨ad6, hd6⟩ := hz3A (ne_nil (i := i) (by first | omega | decide | (simp only [List.length_cons, List.length_nil, List.length_append, List.length_take, List.length_set]; omega)))
       refine l_val wn (r_ia (i := i) rfl hd6 rfl (by omega) (by first | omega | decide | (simp only [List.length_cons, List.length_nil, List.length_append, List.length_take, List.length_set]; omega)) Try.underlying25 inf78) rfl ?_
       obtain ⟨s7, hs7⟩ : ∃ x, z.coarse[i]? = some x := ⟨_, List.getElem?_eq_getElem (by first | omega | decide | (simp only [List.length_cons, List.length_nil, List.length_append, List.length_take, List.length_set]; omega))⟩
       refine l_val wn (r_pln 7 [.int .i64 s7.at_, .int .i64 s7.sum.count, .int .i64 s7.sum.total, .int .i64 s7.sum.min, .int .i64 s7.sum.max, .int .i64 s7.sum.first, .int .i64 s7.sum.last, .int .i64 s7.sum.rise] rfl rfl hd6 hs7 rfl rfl agg78 inf78) rfl ?_
       refine l_alloc wn inf78 rfl fun b16 => ?_
       refine l_stn 0 wn rfl rfl rfl inf78 rfl rfl rfl ?_
       refine l_nil (e_go hK61 ?_)
       refine c_seq fun _ hK62 => ?_
       refine c_region ?_
       refine l_val wn (r_fa rfl fld78_0) rfl ?_
       refine l_val wn (r_lb 0 rfl rfl rfl flat3) rfl ?_
       refine l_val wn (r_fa rfl fld61_1) rfl ?_
       refine l_val wn (r_lb 1 rfl rfl rfl flat3) rfl ?_
       refine l_val wn (r_geq rfl rfl) rfl ?_
       refine l_val wn (r_move rfl) rfl ?_
       refine l_case (t := 88) rfl (fun h20 => ?_) (fun h20 => ?_)
       · refine l_val (wg rfl rfl rfl) (r_fa rfl fld78_0) rfl ?_
         refine l_val (wg rfl rfl rfl) (r_lb 0 rfl rfl rfl flat3) rfl ?_
         refine l_val (wg rfl rfl rfl) (r_fa rfl fld61_2) rfl ?_
         refine l_val (wg rfl rfl rfl) (r_lb 1 rfl rfl rfl flat3) rfl ?_
         refine l_val (wg rfl rfl rfl) (r_lss rfl rfl) rfl ?_
         refine l_val wn (r_pick rfl rfl) rfl ?_
         refine l_nil (e_go hK62 ?_)
         refine c_cond rfl (fun h21 => ?_) (fun h21 => ?_)
         · refine c_seq fun _ hK63 => ?_
           refine c_region ?_
           refine l_val wn (r_lbn 2 [.int .i64 ((Agg.join u (Roll.of (z.coarse.take i) s1.frm s1.to)).count), .int .i64 ((Agg.join u (Roll.of (z.coarse.take i) s1.frm s1.to)).total), .int .i64 ((Agg.join u (Roll.of (z.coarse.take i) s1.frm s1.to)).min), .int .i64 ((Agg.join u (Roll.of (z.coarse.take i) s1.frm s1.to)).max), .int .i64 ((Agg.join u (Roll.of (z.coarse.take i) s1.frm s1.to)).first), .int .i64 ((Agg.join u (Roll.of (z.coarse.take i) s1.frm s1.to)).last), .int .i64 ((Agg.join u (Roll.of (z.coarse.take i) s1.frm s1.to)).rise)] rfl rfl rfl rfl agg35 inf35) rfl ?_
           refine l_val wn (r_fa rfl fld78_1) rfl ?_
           refine l_val wn (r_lbn 0 [.int .i64 s7.sum.count, .int .i64 s7.sum.total, .int .i64 s7.sum.min, .int .i64 s7.sum.max, .int .i64 s7.sum.first, .int .i64 s7.sum.last, .int .i64 s7.sum.rise] rfl rfl rfl rfl agg35 inf35) rfl ?_
           refine l_callF wn rfl Try.call46 rfl (fun w1 hM => c_refJoin (Agg.join u (Roll.of (z.coarse.take i) s1.frm s1.to)) s7.sum w1) ?_
           refine l_stn 2 wn rfl rfl rfl inf35 rfl rfl rfl ?_
           refine l_nil (e_go hK63 ?_)
           refine c_region ?_
           refine l_val wn (r_move rfl) rfl ?_
           refine l_val wn (r_addn rfl rfl (by omega)) rfl ?_
           refine l_val wn (r_assign rfl) rfl ?_
           refine l_nil (e_in_n (e_go hK60 ?_))
           refine c_region ?_
           refine l_val wn (r_addn rfl rfl (by omega)) rfl ?_
           refine l_val wn (r_move rfl) rfl ?_
           have hst := (Sh.of_next hI1.2.2.2 (by omega) hb1 hb2 hs7 s1.frm s1.to).trans (if_pos (by omega))
           have hst2 := (Sh.bIn_succ (a := s1.frm) (b := s1.to) hs7).trans (if_pos (by omega))
           refine l_nil (e_round1 (i + 1) (sc rfl (sc rfl (sc rfl (sc rfl (sc (ji (by first | omega | (simp [Roll.inT, Sh.bIn]; done) | (rw [hst2, List.length_append]; simp only [List.length_cons, List.length_nil]; omega) | (rw [hst2]; done) | (rw [hst2]; omega))) (sc rfl (sc rfl (sc rfl (sc rfl (sc rfl (sc rfl (sc (ji (by first | omega | (simp [Roll.inT, Sh.bIn]; done) | (rw [hst2, List.length_append]; simp only [List.length_cons, List.length_nil]; omega) | (rw [hst2]; done) | (rw [hst2]; omega))) sn)))))))))))) (fun _ h => by rw [hst]; exact (h.sel [1, 2, 3, 4, 5, 6, 7, 8, 9] (by decide) rfl)) ?_ ?_)
           · omega
           omega
         refine c_skip (e_in_n (e_go hK60 ?_))
         refine c_region ?_
         refine l_val wn (r_addn rfl rfl (by omega)) rfl ?_
         refine l_val wn (r_move rfl) rfl ?_
         have hst := (Sh.of_next hI1.2.2.2 (by omega) hb1 hb2 hs7 s1.frm s1.to).trans (if_neg (by omega))
         have hst2 := (Sh.bIn_succ (a := s1.frm) (b := s1.to) hs7).trans (if_neg (by omega))
         refine l_nil (e_round1 (i + 1) (sc rfl (sc rfl (sc rfl (sc rfl (sc (ji (by first | omega | (simp [Roll.inT, Sh.bIn]; done) | (rw [hst2, List.length_append]; simp only [List.length_cons, List.length_nil]; omega) | (rw [hst2]; done) | (rw [hst2]; omega))) (sc rfl (sc rfl (sc rfl (sc rfl (sc rfl (sc rfl (sc (ji (by first | omega | (simp [Roll.inT, Sh.bIn]; done) | (rw [hst2, List.length_append]; simp only [List.length_cons, List.length_nil]; omega) | (rw [hst2]; done) | (rw [hst2]; omega))) sn)))))))))))) (fun _ h => by rw [hst]; exact (h.sel [1, 2, 3, 4, 5, 6, 7, 8, 9] (by decide) rfl)) ?_ ?_)
         · omega
         omega
       refine l_skip (wg rfl rfl rfl) rfl ?_
       refine l_skip (wg rfl rfl rfl) rfl ?_
       refine l_skip (wg rfl rfl rfl) rfl ?_
       refine l_skip (wg rfl rfl rfl) rfl ?_
       refine l_skip (wg rfl rfl rfl) rfl ?_
       refine l_val wn (r_pick rfl rfl) rfl ?_
       refine l_nil (e_go hK62 ?_)
       refine c_false rfl rfl ?_
       refine c_skip (e_in_n (e_go hK60 ?_))
       refine c_region ?_
       refine l_val wn (r_addn rfl rfl (by omega)) rfl ?_
       refine l_val wn (r_move rfl) rfl ?_
       have hst := (Sh.of_next hI1.2.2.2 (by omega) hb1 hb2 hs7 s1.frm s1.to).trans (if_neg (by omega))
       have hst2 := (Sh.bIn_succ (a := s1.frm) (b := s1.to) hs7).trans (if_neg (by omega))
       refine l_nil (e_round1 (i + 1) (sc rfl (sc rfl (sc rfl (sc rfl (sc (ji (by first | omega | (simp [Roll.inT, Sh.bIn]; done) | (rw [hst2, List.length_append]; simp only [List.length_cons, List.length_nil]; omega) | (rw [hst2]; done) | (rw [hst2]; omega))) (sc rfl (sc rfl (sc rfl (sc rfl (sc rfl (sc rfl (sc (ji (by first | omega | (simp [Roll.inT, Sh.bIn]; done) | (rw [hst2, List.length_append]; simp only [List.length_cons, List.length_nil]; omega) | (rw [hst2]; done) | (rw [hst2]; omega))) sn)))))))))))) (fun _ h => by rw [hst]; exact (h.sel [1, 2, 3, 4, 5, 6, 7, 8, 9] (by decide) rfl)) ?_ ?_)
       · omega
       omega
     have hk5 : z.coarse.take i = z.coarse := List.take_of_length_le (by omega)
     rw [hk5]
     refine c_exit (e_then_x (e_loop1_x (e_in_hit (e_in_n (e_go hK12 ?_)))))
     refine c_region ?_
     refine l_val wn (r_addn rfl rfl (by omega)) rfl ?_
     refine l_val wn (r_move rfl) rfl ?_
     refine l_nil (e_round3 (k + 1) (Agg.join u (Roll.of z.coarse s1.frm s1.to)) (c + ((Sh.bIn z.coarse s1.frm s1.to).length : Int)) (sc rfl (sc rfl (sc rfl (sc rfl (sc rfl (sc rfl (sc rfl (sc (ji (by first | omega | (simp [Roll.inT, Sh.bIn]; done) | (rw [hst2, List.length_append]; simp only [List.length_cons, List.length_nil]; omega) | (rw [hst2]; done) | (rw [hst2]; omega))) sn)))))))) (fun _ h => (h.sel [1, 2, 3, 4, 5, 6, 7, 8] (by decide) rfl)) ?_ ?_)
     · have hbk : Sh.bucketsOf z s1 = z.coarse := (by unfold Sh.bucketsOf; rw [if_pos h18])
       have hps : Sh.partSum z s1 = _ ∧ Sh.partCost z s1 = _ := ⟨(Sh.bucketsOf_sum (Classical.not_not.1 h3)).symm, (Sh.bucketsOf_cost (Classical.not_not.1 h3)).symm⟩
       rw [hbk] at hps
       have hgd := Sh.partSum_good (Sh.ok_of h1) (Classical.not_not.1 h3)
       have hcr := Sh.partCost_rng (Sh.ok_of h1) s1
       rw [hps.1] at hgd
       rw [hps.2] at hcr
       exact ⟨by omega, Sh.read_next hI1.2.1 hs1 (Classical.not_not.1 h3) (Sh.apart_zero (by omega)) hps.1 hps.2, by omega, (hI1.2.2.2.join hgd (by omega)).mono (by omega)⟩
     omega
   refine c_skip (e_go hK53 ?_)
   refine c_seq fun _ hK64 => ?_
   refine c_seq fun _ hK65 => ?_
   refine c_region ?_
   refine l_val wn (r_fa rfl fld61_0) rfl ?_
   refine l_val wn (r_lb 0 rfl rfl rfl flat3) rfl ?_
   refine l_val wn (r_eql rfl rfl) rfl ?_
   refine l_nil (e_go hK65 ?_)
   refine c_cond rfl (fun h22 => ?_) (fun h22 => ?_)
   · refine c_seq fun _ hK66 => ?_
     refine c_region ?_
     refine l_nilRow (bucketE : Bucket → List Value) 78 8 ?_
     refine l_val wn (r_assign rfl) rfl ?_
     refine l_nil (e_go hK66 ?_)
     refine c_seq fun _ hK67 => ?_
     refine c_region ?_
     refine l_val wn (r_fa rfl fld27_1) rfl ?_
     refine l_val wn (r_lb 4 rfl rfl rfl flat24) rfl ?_
     refine l_val wn (r_len rfl Try.underlying24) rfl ?_
     refine l_val wn (r_move rfl) rfl ?_
     refine l_nil (e_go hK67 ?_)
     refine c_block ?_
     refine c_loop2 (fun (j : Nat) (vr : Value) => [(1, .slice lA l.length lc), (2, .pointer (some ⟨b2, 0, none⟩)), (4, .pointer (some ⟨b4, 0, none⟩)), (8, .pointer (some ⟨b8, 0, none⟩)), (9, .int .i64 c), (11, .pointer (some ⟨b11, 0, none⟩)), (12, vr), (23, .slice lA l.length lc), (24, .int .i64 (l.length : Int)), (25, .int .i64 (k : Int)), (61, .slice z1A z.raw.length z1c), (62, .int .i64 (z.raw.length : Int)), (63, .int .i64 (j : Int))]) (fun (j : Nat) (vr : Value) => [Row vr 78 8 bucketE (Sh.rawB (z.raw.take j)), .blk b11 [.int .i64 s1.tier, .int .i64 s1.frm, .int .i64 s1.to] 61, .blk b8 [.int .i64 u.count, .int .i64 u.total, .int .i64 u.min, .int .i64 u.max, .int .i64 u.first, .int .i64 u.last, .int .i64 u.rise] 35, .blk b4 [.int .i64 0, .int .i64 0, .int .i64 0, .int .i64 0, .int .i64 0, .int .i64 0, .int .i64 0] 35, .blk b2 [.slice z0A z.series.length z0c, .slice z1A z.raw.length z1c, .slice z2A z.fine.length z2c, .slice z3A z.coarse.length z3c, .int .i64 z.rawFrom, .int .i64 z.fineFrom, .int .i64 z.fineTo, .int .i64 z.coarseFrom, .int .i64 z.coarseTo] 27, slP 2 labelE (.slice z0A z.series.length z0c) z.series, slP 2 sampleE (.slice z1A z.raw.length z1c) z.raw, slP 8 bucketE (.slice z2A z.fine.length z2c) z.fine, slP 8 bucketE (.slice z3A z.coarse.length z3c) z.coarse, slP 3 partE (.slice lA l.length lc) l]) (fun (j : Nat) (vr : Value) => j ≤ z.raw.length) (fun (j : Nat) (vr : Value) => z.raw.length - j) 0 (.slice none 0 0) (sc rfl (sc rfl (sc rfl (sc rfl (sc rfl (sc rfl (sc rfl (sc rfl (sc rfl (sc rfl (sc rfl (sc rfl (sc (ji (by first | omega | (simp [Roll.inT, Sh.bIn]; done) | (rw [hst2, List.length_append]; simp only [List.length_cons, List.length_nil]; omega) | (rw [hst2]; done) | (rw [hst2]; omega))) sn))))))))))))) (fun _ h => h) ?_ (fun j vr hI7 => ?_)
     · omega
     have hlj : (Sh.rawB (z.raw.take j)).length ≤ z.raw.length := by rw [Sh.rawB_len]; exact List.length_take_le' j z.raw
     refine c_open 0 (l := (Sh.rawB (z.raw.take j))) rfl fun A3 cp3 hv2 hc3 hm3 hA3 => ?_
     subst hv2
     refine c_seq fun _ hK68 => ?_
     refine c_region ?_
     refine l_val wn (r_lss rfl rfl) rfl ?_
     refine l_nil (e_go hK68 ?_)
     refine c_seq fun _ hK69 => ?_
     refine c_cond rfl (fun h23 => ?_) (fun h23 => ?_)
     · refine c_skip (e_go hK69 ?_)
       refine c_seq fun _ hK70 => ?_
       refine c_block ?_
       refine c_seq fun _ hK71 => ?_
       refine c_region ?_
       obtain ⟨ad7, hd7⟩ := hz1A (ne_nil (i := j) (by first | omega | decide | (simp only [List.length_cons, List.length_nil, List.length_append, List.length_take, List.length_set]; omega)))
       refine l_val wn (r_ia (i := j) rfl hd7 rfl (by omega) (by first | omega | decide | (simp only [List.length_cons, List.length_nil, List.length_append, List.length_take, List.length_set]; omega)) Try.underlying24 inf39) rfl ?_
       obtain ⟨s8, hs8⟩ : ∃ x, z.raw[j]? = some x := ⟨_, List.getElem?_eq_getElem (by first | omega | decide | (simp only [List.length_cons, List.length_nil, List.length_append, List.length_take, List.length_set]; omega))⟩
       refine l_val wn (r_pln 6 [.int .i64 s8.time, .int .i64 s8.value] rfl rfl hd7 hs8 rfl rfl agg39 inf39) rfl ?_
       refine l_alloc wn inf39 rfl fun b14 => ?_
       refine l_stn 0 wn rfl rfl rfl inf39 rfl rfl rfl ?_
       refine l_nil (e_go hK71 ?_)
       refine c_nodes (Mem w ⟨no, P0⟩ [.blk b14 [.int .i64 s8.time, .int .i64 s8.value] 39, .blk b11 [.int .i64 s1.tier, .int .i64 s1.frm, .int .i64 s1.to] 61, .blk b8 [.int .i64 u.count, .int .i64 u.total, .int .i64 u.min, .int .i64 u.max, .int .i64 u.first, .int .i64 u.last, .int .i64 u.rise] 35, .blk b4 [.int .i64 0, .int .i64 0, .int .i64 0, .int .i64 0, .int .i64 0, .int .i64 0, .int .i64 0] 35, .blk b2 [.slice z0A z.series.length z0c, .slice z1A z.raw.length z1c, .slice z2A z.fine.length z2c, .slice z3A z.coarse.length z3c, .int .i64 z.rawFrom, .int .i64 z.fineFrom, .int .i64 z.fineTo, .int .i64 z.coarseFrom, .int .i64 z.coarseTo] 27, slP 2 labelE (.slice z0A z.series.length z0c) z.series, slP 2 sampleE (.slice z1A z.raw.length z1c) z.raw, slP 8 bucketE (.slice z2A z.fine.length z2c) z.fine, slP 8 bucketE (.slice z3A z.coarse.length z3c) z.coarse, slP 3 partE (.slice lA l.length lc) l]) mix (fun _ h => h.drew) rfl ?_
       refine n_run (f := 6) [0, 1, 2, 3] rfl rfl (by kernel_rfl) (by kernel_rfl) (fun _ h => (h.sel [0, 2, 3, 4, 5, 6, 7, 8, 9, 10] (by decide) rfl)) fun KS hKS => ?_
       refine s_val wn (r_move rfl) rfl ?_
       refine s_val wn (r_fa rfl fld39_0) rfl ?_
       refine s_val wn (r_lb 0 rfl rfl rfl flat3) rfl ?_
       refine s_val wn (r_lbn 0 [.int .i64 s8.time, .int .i64 s8.value] rfl rfl rfl rfl agg39 inf39) rfl ?_
       refine s_end hKS ?_
       refine n_step1 (f := 5) (i := 4) rfl (by kernel_rfl) ?_
       refine n_one (i := 4) rfl fun KN hKN => ?_
       refine l_bsL sampleE ([s8] : List Sample) wn Try.underlying24 inf39 rfl rfl rfl rfl (by decide) (by decide) rfl fun b71 => ?_
       refine l_nil (hKN _ _ (fun _ h => (h.sel [1, 3, 4, 5, 6, 7, 8, 9, 10, 11] (by decide) rfl)) ?_)
       refine n_step1 (f := 4) (i := 5) rfl (by kernel_rfl) ?_
       refine n_one (i := 5) rfl fun KN hKN => ?_
       refine l_callF wn rfl Try.call45 rfl (fun w1 hM => c_refOf _ ([s8] : List Sample) w1 (RowSl encSample hM 0 rfl) (by simp) (fun x hx => by obtain rfl := List.mem_singleton.1 hx; have := (Sh.ok_of h1).rawR.rng _ (List.mem_of_getElem? (by assumption)); omega)) ?_
       refine l_nil (hKN _ _ (fun _ h => (h.sel [1, 3, 4, 5, 6, 7, 8, 9, 10, 11] (by decide) rfl)) ?_)
       refine n_run (f := 3) [6] rfl rfl (by kernel_rfl) (by kernel_rfl) (fun _ h => (h.sel [1, 3, 4, 5, 6, 7, 8, 9, 10, 11] (by decide) rfl)) fun KS hKS => ?_
       refine s_val wn (r_build [.int .i64 s8.time, .int .i64 ((Agg.of ([s8] : List Sample)).count), .int .i64 ((Agg.of ([s8] : List Sample)).total), .int .i64 ((Agg.of ([s8] : List Sample)).min), .int .i64 ((Agg.of ([s8] : List Sample)).max), .int .i64 ((Agg.of ([s8] : List Sample)).first), .int .i64 ((Agg.of ([s8] : List Sample)).last), .int .i64 ((Agg.of ([s8] : List Sample)).rise)] pl78 inf78 rfl rfl) rfl ?_
       refine s_end hKS ?_
       refine n_step1 (f := 2) (i := 7) rfl (by kernel_rfl) ?_
       refine n_one (i := 7) rfl fun KN hKN => ?_
       refine l_bsL bucketE ([(⟨s8.time, (Agg.of ([s8] : List Sample))⟩ : Bucket)] : List Bucket) wn Try.underlying25 inf78 rfl rfl rfl rfl (by decide) (by decide) rfl fun b74 => ?_
       refine l_nil (hKN _ _ (fun _ h => (h.sel [2, 4, 5, 6, 7, 8, 9, 10, 11, 12] (by decide) rfl)) ?_)
       refine n_step1 (f := 1) (i := 8) rfl (by kernel_rfl) ?_
       refine n_one (i := 8) rfl fun KN hKN => ?_
       refine l_app 3 (Sh.rawB (z.raw.take j)) ([(⟨s8.time, (Agg.of ([s8] : List Sample))⟩ : Bucket)] : List Bucket) encBucket wn rfl rfl rfl (fun _ hM => (RowSl encBucket hM 0 rfl)) Try.underlying25 inf78 rfl rfl (by simp only [List.length_append, List.length_cons, List.length_nil]; omega) rfl fun A4 cp4 hc4 hm4 hA4 => ?_
       refine l_nil (hKN _ _ (fun _ h => (h.sel [2, 4, 5, 6, 7, 8, 9, 10, 11, 12] (by decide) rfl)) ?_)
       refine n_run (f := 0) [9] rfl rfl (by kernel_rfl) (by kernel_rfl) (fun _ h => (h.sel [2, 4, 5, 6, 7, 8, 9, 10, 11, 12] (by decide) rfl)) fun KS hKS => ?_
       refine s_val wn (r_assign rfl) rfl ?_
       refine s_end hKS ?_
       refine n_done (by kernel_rfl) (e_in_n (e_go hK70 ?_))
       refine c_region ?_
       refine l_val wn (r_addn rfl rfl (by omega)) rfl ?_
       refine l_val wn (r_move rfl) rfl ?_
       refine l_nil (e_round2 (j + 1) (.slice A4 (((Sh.rawB (z.raw.take j)) ++ ([(⟨s8.time, (Agg.of ([s8] : List Sample))⟩ : Bucket)] : List Bucket)).length) cp4) (sc rfl (sc rfl (sc rfl (sc rfl (sc rfl (sc rfl (sc rfl (sc rfl (sc rfl (sc rfl (sc rfl (sc rfl (sc (ji (by first | omega | (simp [Roll.inT, Sh.bIn]; done) | (rw [hst2, List.length_append]; simp only [List.length_cons, List.length_nil]; omega) | (rw [hst2]; done) | (rw [hst2]; omega))) sn))))))))))))) (fun _ h => by rw [Sh.rawB_succ hs8]; exact (h.sel [3, 4, 5, 6, 7, 8, 9, 10, 11, 12] (by decide) rfl)) ?_ ?_)
       · omega
       omega
     have hk6 : z.raw.take j = z.raw := List.take_of_length_le (by omega)
     rw [hk6]
     rw [hk6] at hA3
     refine c_exit (e_then_x (e_loop2_x (e_in_hit (e_go hK64 ?_))))
     refine c_seq fun _ hK72 => ?_
     refine c_region ?_
     refine l_val wn (r_move rfl) rfl ?_
     refine l_val wn (r_len rfl Try.underlying25) rfl ?_
     refine l_val wn (r_move rfl) rfl ?_
     refine l_nil (e_go hK72 ?_)
     refine c_block ?_
     have hbk : Sh.bucketsOf z s1 = (Sh.rawB z.raw) := (by unfold Sh.bucketsOf; rw [if_neg h18, if_pos h22])
     obtain ⟨hb1, hb2⟩ := Sh.bucketsOf_ok (Sh.ok_of h1) s1
     rw [hbk] at hb1 hb2
     refine c_loop1 (fun (i : Nat) => [(1, .slice lA l.length lc), (2, .pointer (some ⟨b2, 0, none⟩)), (4, .pointer (some ⟨b4, 0, none⟩)), (8, .pointer (some ⟨b8, 0, none⟩)), (9, .int .i64 (c + ((Sh.bIn ((Sh.rawB z.raw).take i) s1.frm s1.to).length : Int))), (11, .pointer (some ⟨b11, 0, none⟩)), (23, .slice lA l.length lc), (24, .int .i64 (l.length : Int)), (25, .int .i64 (k : Int)), (77, .slice A3 ((Sh.rawB z.raw).length) cp3), (78, .int .i64 ((Sh.rawB z.raw).length : Int)), (79, .int .i64 (i : Int))]) (fun (i : Nat) => [Row (.slice A3 ((Sh.rawB z.raw).length) cp3) 78 8 bucketE (Sh.rawB z.raw), .blk b11 [.int .i64 s1.tier, .int .i64 s1.frm, .int .i64 s1.to] 61, .blk b8 [.int .i64 ((Agg.join u (Roll.of ((Sh.rawB z.raw).take i) s1.frm s1.to)).count), .int .i64 ((Agg.join u (Roll.of ((Sh.rawB z.raw).take i) s1.frm s1.to)).total), .int .i64 ((Agg.join u (Roll.of ((Sh.rawB z.raw).take i) s1.frm s1.to)).min), .int .i64 ((Agg.join u (Roll.of ((Sh.rawB z.raw).take i) s1.frm s1.to)).max), .int .i64 ((Agg.join u (Roll.of ((Sh.rawB z.raw).take i) s1.frm s1.to)).first), .int .i64 ((Agg.join u (Roll.of ((Sh.rawB z.raw).take i) s1.frm s1.to)).last), .int .i64 ((Agg.join u (Roll.of ((Sh.rawB z.raw).take i) s1.frm s1.to)).rise)] 35, .blk b4 [.int .i64 0, .int .i64 0, .int .i64 0, .int .i64 0, .int .i64 0, .int .i64 0, .int .i64 0] 35, .blk b2 [.slice z0A z.series.length z0c, .slice z1A z.raw.length z1c, .slice z2A z.fine.length z2c, .slice z3A z.coarse.length z3c, .int .i64 z.rawFrom, .int .i64 z.fineFrom, .int .i64 z.fineTo, .int .i64 z.coarseFrom, .int .i64 z.coarseTo] 27, slP 2 labelE (.slice z0A z.series.length z0c) z.series, slP 2 sampleE (.slice z1A z.raw.length z1c) z.raw, slP 8 bucketE (.slice z2A z.fine.length z2c) z.fine, slP 8 bucketE (.slice z3A z.coarse.length z3c) z.coarse, slP 3 partE (.slice lA l.length lc) l]) (fun (i : Nat) => i ≤ (Sh.rawB z.raw).length) (fun (i : Nat) => (Sh.rawB z.raw).length - i) 0 (sc rfl (sc rfl (sc rfl (sc rfl (sc (ji (by first | omega | (simp [Roll.inT, Sh.bIn]; done) | (rw [hst2, List.length_append]; simp only [List.length_cons, List.length_nil]; omega) | (rw [hst2]; done) | (rw [hst2]; omega))) (sc rfl (sc rfl (sc rfl (sc rfl (sc rfl (sc rfl (sc (ji (by first | omega | (simp [Roll.inT, Sh.bIn]; done) | (rw [hst2, List.length_append]; simp only [List.length_cons, List.length_nil]; omega) | (rw [hst2]; done) | (rw [hst2]; omega))) sn)))))))))))) (fun _ h => by rw [show (Roll.of (List.take 0 (Sh.rawB z.raw)) s1.frm s1.to) = Sum.zero from rfl, Sh.join_zero hI1.2.2.2]; exact h) ?_ (fun i hI8 => ?_)
     · omega
     have hli := Nat.le_trans (Sh.bIn_len ((Sh.rawB z.raw).take i) s1.frm s1.to) (List.length_take_le' i (Sh.rawB z.raw))
     refine c_seq fun _ hK73 => ?_
     refine c_region ?_
     refine l_val wn (r_lss rfl rfl) rfl ?_
     refine l_nil (e_go hK73 ?_)
     refine c_seq fun _ hK74 => ?_
     refine c_cond rfl (fun h24 => ?_) (fun h24 => ?_)
     · refine c_skip (e_go hK74 ?_)
       refine c_seq fun _ hK75 => ?_
       refine c_block ?_
       refine c_seq fun _ hK76 => ?_
       refine c_region ?_
       obtain ⟨ad8, hd8⟩ := hA3 (ne_nil (i := i) (by first | omega | decide | (simp only [List.length_cons, List.length_nil, List.length_append, List.length_take, List.length_set]; omega)))
       refine l_val wn (r_ia (i := i) rfl hd8 rfl (by omega) (by first | omega | decide | (simp only [List.length_cons, List.length_nil, List.length_append, List.length_take, List.length_set]; omega)) Try.underlying25 inf78) rfl ?_
       obtain ⟨s9, hs9⟩ : ∃ x, (Sh.rawB z.raw)[i]? = some x := ⟨_, List.getElem?_eq_getElem (by first | omega | decide | (simp only [List.length_cons, List.length_nil, List.length_append, List.length_take, List.length_set]; omega))⟩
       refine l_val wn (r_rln 0 [.int .i64 s9.at_, .int .i64 s9.sum.count, .int .i64 s9.sum.total, .int .i64 s9.sum.min, .int .i64 s9.sum.max, .int .i64 s9.sum.first, .int .i64 s9.sum.last, .int .i64 s9.sum.rise] encBucket rfl rfl hd8 hs9 rfl rfl agg78 inf78) rfl ?_
       refine l_alloc wn inf78 rfl fun b16 => ?_
       refine l_stn 0 wn rfl rfl rfl inf78 rfl rfl rfl ?_
       refine l_nil (e_go hK76 ?_)
       refine c_seq fun _ hK77 => ?_
       refine c_region ?_
       refine l_val wn (r_fa rfl fld78_0) rfl ?_
       refine l_val wn (r_lb 0 rfl rfl rfl flat3) rfl ?_
       refine l_val wn (r_fa rfl fld61_1) rfl ?_
       refine l_val wn (r_lb 2 rfl rfl rfl flat3) rfl ?_
       refine l_val wn (r_geq rfl rfl) rfl ?_
       refine l_val wn (r_move rfl) rfl ?_
       refine l_case (t := 88) rfl (fun h25 => ?_) (fun h25 => ?_)
       · refine l_val (wg rfl rfl rfl) (r_fa rfl fld78_0) rfl ?_
         refine l_val (wg rfl rfl rfl) (r_lb 0 rfl rfl rfl flat3) rfl ?_
         refine l_val (wg rfl rfl rfl) (r_fa rfl fld61_2) rfl ?_
         refine l_val (wg rfl rfl rfl) (r_lb 2 rfl rfl rfl flat3) rfl ?_
         refine l_val (wg rfl rfl rfl) (r_lss rfl rfl) rfl ?_
         refine l_val wn (r_pick rfl rfl) rfl ?_
         refine l_nil (e_go hK77 ?_)
         refine c_cond rfl (fun h26 => ?_) (fun h26 => ?_)
         · refine c_seq fun _ hK78 => ?_
           refine c_region ?_
           refine l_val wn (r_lbn 3 [.int .i64 ((Agg.join u (Roll.of ((Sh.rawB z.raw).take i) s1.frm s1.to)).count), .int .i64 ((Agg.join u (Roll.of ((Sh.rawB z.raw).take i) s1.frm s1.to)).total), .int .i64 ((Agg.join u (Roll.of ((Sh.rawB z.raw).take i) s1.frm s1.to)).min), .int .i64 ((Agg.join u (Roll.of ((Sh.rawB z.raw).take i) s1.frm s1.to)).max), .int .i64 ((Agg.join u (Roll.of ((Sh.rawB z.raw).take i) s1.frm s1.to)).first), .int .i64 ((Agg.join u (Roll.of ((Sh.rawB z.raw).take i) s1.frm s1.to)).last), .int .i64 ((Agg.join u (Roll.of ((Sh.rawB z.raw).take i) s1.frm s1.to)).rise)] rfl rfl rfl rfl agg35 inf35) rfl ?_
           refine l_val wn (r_fa rfl fld78_1) rfl ?_
           refine l_val wn (r_lbn 0 [.int .i64 s9.sum.count, .int .i64 s9.sum.total, .int .i64 s9.sum.min, .int .i64 s9.sum.max, .int .i64 s9.sum.first, .int .i64 s9.sum.last, .int .i64 s9.sum.rise] rfl rfl rfl rfl agg35 inf35) rfl ?_
           refine l_callF wn rfl Try.call46 rfl (fun w1 hM => c_refJoin (Agg.join u (Roll.of ((Sh.rawB z.raw).take i) s1.frm s1.to)) s9.sum w1) ?_
           refine l_stn 3 wn rfl rfl rfl inf35 rfl rfl rfl ?_
           refine l_nil (e_go hK78 ?_)
           refine c_region ?_
           refine l_val wn (r_move rfl) rfl ?_
           refine l_val wn (r_addn rfl rfl (by omega)) rfl ?_
           refine l_val wn (r_assign rfl) rfl ?_
           refine l_nil (e_in_n (e_go hK75 ?_))
           refine c_region ?_
           refine l_val wn (r_addn rfl rfl (by omega)) rfl ?_
           refine l_val wn (r_move rfl) rfl ?_
           have hst := (Sh.of_next hI1.2.2.2 (by omega) hb1 hb2 hs9 s1.frm s1.to).trans (if_pos (by omega))
           have hst2 := (Sh.bIn_succ (a := s1.frm) (b := s1.to) hs9).trans (if_pos (by omega))
           refine l_nil (e_round1 (i + 1) (sc rfl (sc rfl (sc rfl (sc rfl (sc (ji (by first | omega | (simp [Roll.inT, Sh.bIn]; done) | (rw [hst2, List.length_append]; simp only [List.length_cons, List.length_nil]; omega) | (rw [hst2]; done) | (rw [hst2]; omega))) (sc rfl (sc rfl (sc rfl (sc rfl (sc rfl (sc rfl (sc (ji (by first | omega | (simp [Roll.inT, Sh.bIn]; done) | (rw [hst2, List.length_append]; simp only [List.length_cons, List.length_nil]; omega) | (rw [hst2]; done) | (rw [hst2]; omega))) sn)))))))))))) (fun _ h => by rw [hst]; exact (h.sel [1, 2, 3, 4, 5, 6, 7, 8, 9, 10] (by decide) rfl)) ?_ ?_)
           · omega
           omega
         refine c_skip (e_in_n (e_go hK75 ?_))
         refine c_region ?_
         refine l_val wn (r_addn rfl rfl (by omega)) rfl ?_
         refine l_val wn (r_move rfl) rfl ?_
         have hst := (Sh.of_next hI1.2.2.2 (by omega) hb1 hb2 hs9 s1.frm s1.to).trans (if_neg (by omega))
         have hst2 := (Sh.bIn_succ (a := s1.frm) (b := s1.to) hs9).trans (if_neg (by omega))
         refine l_nil (e_round1 (i + 1) (sc rfl (sc rfl (sc rfl (sc rfl (sc (ji (by first | omega | (simp [Roll.inT, Sh.bIn]; done) | (rw [hst2, List.length_append]; simp only [List.length_cons, List.length_nil]; omega) | (rw [hst2]; done) | (rw [hst2]; omega))) (sc rfl (sc rfl (sc rfl (sc rfl (sc rfl (sc rfl (sc (ji (by first | omega | (simp [Roll.inT, Sh.bIn]; done) | (rw [hst2, List.length_append]; simp only [List.length_cons, List.length_nil]; omega) | (rw [hst2]; done) | (rw [hst2]; omega))) sn)))))))))))) (fun _ h => by rw [hst]; exact (h.sel [1, 2, 3, 4, 5, 6, 7, 8, 9, 10] (by decide) rfl)) ?_ ?_)
         · omega
         omega
       refine l_skip (wg rfl rfl rfl) rfl ?_
       refine l_skip (wg rfl rfl rfl) rfl ?_
       refine l_skip (wg rfl rfl rfl) rfl ?_
       refine l_skip (wg rfl rfl rfl) rfl ?_
       refine l_skip (wg rfl rfl rfl) rfl ?_
       refine l_val wn (r_pick rfl rfl) rfl ?_
       refine l_nil (e_go hK77 ?_)
       refine c_false rfl rfl ?_
       refine c_skip (e_in_n (e_go hK75 ?_))
       refine c_region ?_
       refine l_val wn (r_addn rfl rfl (by omega)) rfl ?_
       refine l_val wn (r_move rfl) rfl ?_
       have hst := (Sh.of_next hI1.2.2.2 (by omega) hb1 hb2 hs9 s1.frm s1.to).trans (if_neg (by omega))
       have hst2 := (Sh.bIn_succ (a := s1.frm) (b := s1.to) hs9).trans (if_neg (by omega))
       refine l_nil (e_round1 (i + 1) (sc rfl (sc rfl (sc rfl (sc rfl (sc (ji (by first | omega | (simp [Roll.inT, Sh.bIn]; done) | (rw [hst2, List.length_append]; simp only [List.length_cons, List.length_nil]; omega) | (rw [hst2]; done) | (rw [hst2]; omega))) (sc rfl (sc rfl (sc rfl (sc rfl (sc rfl (sc rfl (sc (ji (by first | omega | (simp [Roll.inT, Sh.bIn]; done) | (rw [hst2, List.length_append]; simp only [List.length_cons, List.length_nil]; omega) | (rw [hst2]; done) | (rw [hst2]; omega))) sn)))))))))))) (fun _ h => by rw [hst]; exact (h.sel [1, 2, 3, 4, 5, 6, 7, 8, 9, 10] (by decide) rfl)) ?_ ?_)
       · omega
       omega
     have hk7 : (Sh.rawB z.raw).take i = (Sh.rawB z.raw) := List.take_of_length_le (by omega)
     rw [hk7]
     refine c_exit (e_then_x (e_loop1_x (e_in_hit (e_in_n (e_go hK12 ?_)))))
     refine c_region ?_
     refine l_val wn (r_addn rfl rfl (by omega)) rfl ?_
     refine l_val wn (r_move rfl) rfl ?_
     refine l_nil (e_round3 (k + 1) (Agg.join u (Roll.of (Sh.rawB z.raw) s1.frm s1.to)) (c + ((Sh.bIn (Sh.rawB z.raw) s1.frm s1.to).length : Int)) (sc rfl (sc rfl (sc rfl (sc rfl (sc rfl (sc rfl (sc rfl (sc (ji (by first | omega | (simp [Roll.inT, Sh.bIn]; done) | (rw [hst2, List.length_append]; simp only [List.length_cons, List.length_nil]; omega) | (rw [hst2]; done) | (rw [hst2]; omega))) sn)))))))) (fun _ h => (h.sel [2, 3, 4, 5, 6, 7, 8, 9] (by decide) rfl)) ?_ ?_)
     · have hbk : Sh.bucketsOf z s1 = (Sh.rawB z.raw) := (by unfold Sh.bucketsOf; rw [if_neg h18, if_pos h22])
       have hps : Sh.partSum z s1 = _ ∧ Sh.partCost z s1 = _ := ⟨(Sh.bucketsOf_sum (Classical.not_not.1 h3)).symm, (Sh.bucketsOf_cost (Classical.not_not.1 h3)).symm⟩
       rw [hbk] at hps
       have hgd := Sh.partSum_good (Sh.ok_of h1) (Classical.not_not.1 h3)
       have hcr := Sh.partCost_rng (Sh.ok_of h1) s1
       rw [hps.1] at hgd
       rw [hps.2] at hcr
       exact ⟨by omega, Sh.read_next hI1.2.1 hs1 (Classical.not_not.1 h3) (Sh.apart_zero (by omega)) hps.1 hps.2, by omega, (hI1.2.2.2.join hgd (by omega)).mono (by omega)⟩
     omega
   refine c_skip (e_go hK64 ?_)
   refine c_seq fun _ hK79 => ?_
   refine c_region ?_
   refine l_val wn (r_move rfl) rfl ?_
   refine l_val wn (r_len rfl Try.underlying25) rfl ?_
   refine l_val wn (r_move rfl) rfl ?_
   refine l_nil (e_go hK79 ?_)
   refine c_block ?_
   have hbk : Sh.bucketsOf z s1 = z.fine := (by unfold Sh.bucketsOf; rw [if_neg h18, if_neg h22])
   obtain ⟨hb1, hb2⟩ := Sh.bucketsOf_ok (Sh.ok_of h1) s1
   rw [hbk] at hb1 hb2
   refine c_loop1 (fun (i : Nat) => [(1, .slice lA l.length lc), (2, .pointer (some ⟨b2, 0, none⟩)), (4, .pointer (some ⟨b4, 0, none⟩)), (8, .pointer (some ⟨b8, 0, none⟩)), (9, .int .i64 (c + ((Sh.bIn (z.fine.take i) s1.frm s1.to).length : Int))), (11, .pointer (some ⟨b11, 0, none⟩)), (23, .slice lA l.length lc), (24, .int .i64 (l.length : Int)), (25, .int .i64 (k : Int)), (77, .slice z2A z.fine.length z2c), (78, .int .i64 (z.fine.length : Int)), (79, .int .i64 (i : Int))]) (fun (i : Nat) => [.blk b11 [.int .i64 s1.tier, .int .i64 s1.frm, .int .i64 s1.to] 61, .blk b8 [.int .i64 ((Agg.join u (Roll.of (z.fine.take i) s1.frm s1.to)).count), .int .i64 ((Agg.join u (Roll.of (z.fine.take i) s1.frm s1.to)).total), .int .i64 ((Agg.join u (Roll.of (z.fine.take i) s1.frm s1.to)).min), .int .i64 ((Agg.join u (Roll.of (z.fine.take i) s1.frm s1.to)).max), .int .i64 ((Agg.join u (Roll.of (z.fine.take i) s1.frm s1.to)).first), .int .i64 ((Agg.join u (Roll.of (z.fine.take i) s1.frm s1.to)).last), .int .i64 ((Agg.join u (Roll.of (z.fine.take i) s1.frm s1.to)).rise)] 35, .blk b4 [.int .i64 0, .int .i64 0, .int .i64 0, .int .i64 0, .int .i64 0, .int .i64 0, .int .i64 0] 35, .blk b2 [.slice z0A z.series.length z0c, .slice z1A z.raw.length z1c, .slice z2A z.fine.length z2c, .slice z3A z.coarse.length z3c, .int .i64 z.rawFrom, .int .i64 z.fineFrom, .int .i64 z.fineTo, .int .i64 z.coarseFrom, .int .i64 z.coarseTo] 27, slP 2 labelE (.slice z0A z.series.length z0c) z.series, slP 2 sampleE (.slice z1A z.raw.length z1c) z.raw, slP 8 bucketE (.slice z2A z.fine.length z2c) z.fine, slP 8 bucketE (.slice z3A z.coarse.length z3c) z.coarse, slP 3 partE (.slice lA l.length lc) l]) (fun (i : Nat) => i ≤ z.fine.length) (fun (i : Nat) => z.fine.length - i) 0 (sc rfl (sc rfl (sc rfl (sc rfl (sc (ji (by first | omega | (simp [Roll.inT, Sh.bIn]; done) | (rw [hst2, List.length_append]; simp only [List.length_cons, List.length_nil]; omega) | (rw [hst2]; done) | (rw [hst2]; omega))) (sc rfl (sc rfl (sc rfl (sc rfl (sc rfl (sc rfl (sc (ji (by first | omega | (simp [Roll.inT, Sh.bIn]; done) | (rw [hst2, List.length_append]; simp only [List.length_cons, List.length_nil]; omega) | (rw [hst2]; done) | (rw [hst2]; omega))) sn)))))))))))) (fun _ h => by rw [show (Roll.of (List.take 0 z.fine) s1.frm s1.to) = Sum.zero from rfl, Sh.join_zero hI1.2.2.2]; exact h) ?_ (fun i hI9 => ?_)
   · omega
   have hli := Nat.le_trans (Sh.bIn_len (z.fine.take i) s1.frm s1.to) (List.length_take_le' i z.fine)
   refine c_seq fun _ hK80 => ?_
   refine c_region ?_
   refine l_val wn (r_lss rfl rfl) rfl ?_
   refine l_nil (e_go hK80 ?_)
   refine c_seq fun _ hK81 => ?_
   refine c_cond rfl (fun h27 => ?_) (fun h27 => ?_)
   · refine c_skip (e_go hK81 ?_)
     refine c_seq fun _ hK82 => ?_
     refine c_block ?_
     refine c_seq fun _ hK83 => ?_
     refine c_region ?_
     obtain ⟨ad9, hd9⟩ := hz2A (ne_nil (i := i) (by first | omega | decide | (simp only [List.length_cons, List.length_nil, List.length_append, List.length_take, List.length_set]; omega)))
     refine l_val wn (r_ia (i := i) rfl hd9 rfl (by omega) (by first | omega | decide | (simp only [List.length_cons, List.length_nil, List.length_append, List.length_take, List.length_set]; omega)) Try.underlying25 inf78) rfl ?_
     obtain ⟨s10, hs10⟩ : ∃ x, z.fine[i]? = some x := ⟨_, List.getElem?_eq_getElem (by first | omega | decide | (simp only [List.length_cons, List.length_nil, List.length_append, List.length_take, List.length_set]; omega))⟩
     refine l_val wn (r_pln 6 [.int .i64 s10.at_, .int .i64 s10.sum.count, .int .i64 s10.sum.total, .int .i64 s10.sum.min, .int .i64 s10.sum.max, .int .i64 s10.sum.first, .int .i64 s10.sum.last, .int .i64 s10.sum.rise] rfl rfl hd9 hs10 rfl rfl agg78 inf78) rfl ?_
     refine l_alloc wn inf78 rfl fun b16 => ?_
     refine l_stn 0 wn rfl rfl rfl inf78 rfl rfl rfl ?_
     refine l_nil (e_go hK83 ?_)
     refine c_seq fun _ hK84 => ?_
     refine c_region ?_
     refine l_val wn (r_fa rfl fld78_0) rfl ?_
     refine l_val wn (r_lb 0 rfl rfl rfl flat3) rfl ?_
     refine l_val wn (r_fa rfl fld61_1) rfl ?_
     refine l_val wn (r_lb 1 rfl rfl rfl flat3) rfl ?_
     refine l_val wn (r_geq rfl rfl) rfl ?_
     refine l_val wn (r_move rfl) rfl ?_
     refine l_case (t := 88) rfl (fun h28 => ?_) (fun h28 => ?_)
     · refine l_val (wg rfl rfl rfl) (r_fa rfl fld78_0) rfl ?_
       refine l_val (wg rfl rfl rfl) (r_lb 0 rfl rfl rfl flat3) rfl ?_
       refine l_val (wg rfl rfl rfl) (r_fa rfl fld61_2) rfl ?_
       refine l_val (wg rfl rfl rfl) (r_lb 1 rfl rfl rfl flat3) rfl ?_
       refine l_val (wg rfl rfl rfl) (r_lss rfl rfl) rfl ?_
       refine l_val wn (r_pick rfl rfl) rfl ?_
       refine l_nil (e_go hK84 ?_)
       refine c_cond rfl (fun h29 => ?_) (fun h29 => ?_)
       · refine c_seq fun _ hK85 => ?_
         refine c_region ?_
         refine l_val wn (r_lbn 2 [.int .i64 ((Agg.join u (Roll.of (z.fine.take i) s1.frm s1.to)).count), .int .i64 ((Agg.join u (Roll.of (z.fine.take i) s1.frm s1.to)).total), .int .i64 ((Agg.join u (Roll.of (z.fine.take i) s1.frm s1.to)).min), .int .i64 ((Agg.join u (Roll.of (z.fine.take i) s1.frm s1.to)).max), .int .i64 ((Agg.join u (Roll.of (z.fine.take i) s1.frm s1.to)).first), .int .i64 ((Agg.join u (Roll.of (z.fine.take i) s1.frm s1.to)).last), .int .i64 ((Agg.join u (Roll.of (z.fine.take i) s1.frm s1.to)).rise)] rfl rfl rfl rfl agg35 inf35) rfl ?_
         refine l_val wn (r_fa rfl fld78_1) rfl ?_
         refine l_val wn (r_lbn 0 [.int .i64 s10.sum.count, .int .i64 s10.sum.total, .int .i64 s10.sum.min, .int .i64 s10.sum.max, .int .i64 s10.sum.first, .int .i64 s10.sum.last, .int .i64 s10.sum.rise] rfl rfl rfl rfl agg35 inf35) rfl ?_
         refine l_callF wn rfl Try.call46 rfl (fun w1 hM => c_refJoin (Agg.join u (Roll.of (z.fine.take i) s1.frm s1.to)) s10.sum w1) ?_
         refine l_stn 2 wn rfl rfl rfl inf35 rfl rfl rfl ?_
         refine l_nil (e_go hK85 ?_)
         refine c_region ?_
         refine l_val wn (r_move rfl) rfl ?_
         refine l_val wn (r_addn rfl rfl (by omega)) rfl ?_
         refine l_val wn (r_assign rfl) rfl ?_
         refine l_nil (e_in_n (e_go hK82 ?_))
         refine c_region ?_
         refine l_val wn (r_addn rfl rfl (by omega)) rfl ?_
         refine l_val wn (r_move rfl) rfl ?_
         have hst := (Sh.of_next hI1.2.2.2 (by omega) hb1 hb2 hs10 s1.frm s1.to).trans (if_pos (by omega))
         have hst2 := (Sh.bIn_succ (a := s1.frm) (b := s1.to) hs10).trans (if_pos (by omega))
         refine l_nil (e_round1 (i + 1) (sc rfl (sc rfl (sc rfl (sc rfl (sc (ji (by first | omega | (simp [Roll.inT, Sh.bIn]; done) | (rw [hst2, List.length_append]; simp only [List.length_cons, List.length_nil]; omega) | (rw [hst2]; done) | (rw [hst2]; omega))) (sc rfl (sc rfl (sc rfl (sc rfl (sc rfl (sc rfl (sc (ji (by first | omega | (simp [Roll.inT, Sh.bIn]; done) | (rw [hst2, List.length_append]; simp only [List.length_cons, List.length_nil]; omega) | (rw [hst2]; done) | (rw [hst2]; omega))) sn)))))))))))) (fun _ h => by rw [hst]; exact (h.sel [1, 2, 3, 4, 5, 6, 7, 8, 9] (by decide) rfl)) ?_ ?_)
         · omega
         omega
       refine c_skip (e_in_n (e_go hK82 ?_))
       refine c_region ?_
       refine l_val wn (r_addn rfl rfl (by omega)) rfl ?_
       refine l_val wn (r_move rfl) rfl ?_
       have hst := (Sh.of_next hI1.2.2.2 (by omega) hb1 hb2 hs10 s1.frm s1.to).trans (if_neg (by omega))
       have hst2 := (Sh.bIn_succ (a := s1.frm) (b := s1.to) hs10).trans (if_neg (by omega))
       refine l_nil (e_round1 (i + 1) (sc rfl (sc rfl (sc rfl (sc rfl (sc (ji (by first | omega | (simp [Roll.inT, Sh.bIn]; done) | (rw [hst2, List.length_append]; simp only [List.length_cons, List.length_nil]; omega) | (rw [hst2]; done) | (rw [hst2]; omega))) (sc rfl (sc rfl (sc rfl (sc rfl (sc rfl (sc rfl (sc (ji (by first | omega | (simp [Roll.inT, Sh.bIn]; done) | (rw [hst2, List.length_append]; simp only [List.length_cons, List.length_nil]; omega) | (rw [hst2]; done) | (rw [hst2]; omega))) sn)))))))))))) (fun _ h => by rw [hst]; exact (h.sel [1, 2, 3, 4, 5, 6, 7, 8, 9] (by decide) rfl)) ?_ ?_)
       · omega
       omega
     refine l_skip (wg rfl rfl rfl) rfl ?_
     refine l_skip (wg rfl rfl rfl) rfl ?_
     refine l_skip (wg rfl rfl rfl) rfl ?_
     refine l_skip (wg rfl rfl rfl) rfl ?_
     refine l_skip (wg rfl rfl rfl) rfl ?_
     refine l_val wn (r_pick rfl rfl) rfl ?_
     refine l_nil (e_go hK84 ?_)
     refine c_false rfl rfl ?_
     refine c_skip (e_in_n (e_go hK82 ?_))
     refine c_region ?_
     refine l_val wn (r_addn rfl rfl (by omega)) rfl ?_
     refine l_val wn (r_move rfl) rfl ?_
     have hst := (Sh.of_next hI1.2.2.2 (by omega) hb1 hb2 hs10 s1.frm s1.to).trans (if_neg (by omega))
     have hst2 := (Sh.bIn_succ (a := s1.frm) (b := s1.to) hs10).trans (if_neg (by omega))
     refine l_nil (e_round1 (i + 1) (sc rfl (sc rfl (sc rfl (sc rfl (sc (ji (by first | omega | (simp [Roll.inT, Sh.bIn]; done) | (rw [hst2, List.length_append]; simp only [List.length_cons, List.length_nil]; omega) | (rw [hst2]; done) | (rw [hst2]; omega))) (sc rfl (sc rfl (sc rfl (sc rfl (sc rfl (sc rfl (sc (ji (by first | omega | (simp [Roll.inT, Sh.bIn]; done) | (rw [hst2, List.length_append]; simp only [List.length_cons, List.length_nil]; omega) | (rw [hst2]; done) | (rw [hst2]; omega))) sn)))))))))))) (fun _ h => by rw [hst]; exact (h.sel [1, 2, 3, 4, 5, 6, 7, 8, 9] (by decide) rfl)) ?_ ?_)
     · omega
     omega
   have hk8 : z.fine.take i = z.fine := List.take_of_length_le (by omega)
   rw [hk8]
   refine c_exit (e_then_x (e_loop1_x (e_in_hit (e_in_n (e_go hK12 ?_)))))
   refine c_region ?_
   refine l_val wn (r_addn rfl rfl (by omega)) rfl ?_
   refine l_val wn (r_move rfl) rfl ?_
   refine l_nil (e_round3 (k + 1) (Agg.join u (Roll.of z.fine s1.frm s1.to)) (c + ((Sh.bIn z.fine s1.frm s1.to).length : Int)) (sc rfl (sc rfl (sc rfl (sc rfl (sc rfl (sc rfl (sc rfl (sc (ji (by first | omega | (simp [Roll.inT, Sh.bIn]; done) | (rw [hst2, List.length_append]; simp only [List.length_cons, List.length_nil]; omega) | (rw [hst2]; done) | (rw [hst2]; omega))) sn)))))))) (fun _ h => (h.sel [1, 2, 3, 4, 5, 6, 7, 8] (by decide) rfl)) ?_ ?_)
   · have hbk : Sh.bucketsOf z s1 = z.fine := (by unfold Sh.bucketsOf; rw [if_neg h18, if_neg h22])
     have hps : Sh.partSum z s1 = _ ∧ Sh.partCost z s1 = _ := ⟨(Sh.bucketsOf_sum (Classical.not_not.1 h3)).symm, (Sh.bucketsOf_cost (Classical.not_not.1 h3)).symm⟩
     rw [hbk] at hps
     have hgd := Sh.partSum_good (Sh.ok_of h1) (Classical.not_not.1 h3)
     have hcr := Sh.partCost_rng (Sh.ok_of h1) s1
     rw [hps.1] at hgd
     rw [hps.2] at hcr
     exact ⟨by omega, Sh.read_next hI1.2.1 hs1 (Classical.not_not.1 h3) (Sh.apart_zero (by omega)) hps.1 hps.2, by omega, (hI1.2.2.2.join hgd (by omega)).mono (by omega)⟩
   omega
 refine c_exit (e_then_x (e_loop3_x (e_in_hit (e_go hK8 ?_))))
 refine c_seq fun _ hK86 => ?_
 refine c_region ?_
 refine l_val wn (r_lbn 0 [.int .i64 u.count, .int .i64 u.total, .int .i64 u.min, .int .i64 u.max, .int .i64 u.first, .int .i64 u.last, .int .i64 u.rise] rfl rfl rfl rfl agg35 inf35) rfl ?_
 refine l_val wn (r_move rfl) rfl ?_
 refine l_stn 1 wn rfl rfl rfl inf35 rfl rfl rfl ?_
 refine l_val wn (r_assign rfl) rfl ?_
 refine l_val wn (r_assign rfl) rfl ?_
 refine l_nil (e_go hK86 ?_)
 refine c_ret (e_ret3 (.inl rfl) Try.results18 (rv_cell 1 rfl rfl agg35 inf35 rfl) (rv_tmp rfl) (rv_tmp rfl) fun w1 hM => ?_)
 have he : Sh.read z l = (u, c, 0) := Sh.read_ok h1 hI1.2.1 (by omega)
 rw [he]
 exact ret_ok rfl hM

theorem c_SameParts (av : Value) (a : List Part) (bv : Value) (b : List Part) (w : World) (ha : FlatSl (In w) 3 partE av a w) (hb : FlatSl (In w) 3 partE bv b w)  :
    Calls Try.prog 16 #[av, bv] w (Ret w (.bool (decide (a = b)))) := by
 obtain ⟨aA, ac, rfl, hac, ham, haA⟩ := ha.form
 obtain ⟨bA, bc, rfl, hbc, hbm, hbA⟩ := hb.form
 refine fstart (N := 26) (vals := [.slice aA a.length ac, .slice bA b.length bc]) (S := Mem w no [slO (In w) 3 partE (.slice aA a.length ac) a, slO (In w) 3 partE (.slice bA b.length bc) b]) Try.func16 rfl rfl rfl (Mem.ofDats (dc (dl ha) (dc (dl hb) dn))) ?_
 refine c_seq fun _ hK1 => ?_
 refine c_region ?_
 refine l_val wn (r_assign rfl) rfl ?_
 refine l_nil (e_go hK1 ?_)
 refine c_seq fun _ hK2 => ?_
 refine c_seq fun _ hK3 => ?_
 refine c_region ?_
 refine l_val wn (r_move rfl) rfl ?_
 refine l_val wn (r_len rfl Try.underlying28) rfl ?_
 refine l_val wn (r_move rfl) rfl ?_
 refine l_val wn (r_len rfl Try.underlying28) rfl ?_
 refine l_val wn (r_neq rfl rfl) rfl ?_
 refine l_nil (e_go hK3 ?_)
 refine c_cond rfl (fun h1 => ?_) (fun h1 => ?_)
 · refine c_seq fun _ hK4 => ?_
   refine c_region ?_
   refine l_val wn (r_assign rfl) rfl ?_
   refine l_nil (e_go hK4 ?_)
   refine c_ret (e_then_r (e_ret1 (.inl rfl) Try.results16 (rv_tmp rfl) fun w1 hM => ?_))
   exact ret_ok (by rw [decide_eq_false (fun e => h1 (by rw [e]))]) hM
 refine c_skip (e_go hK2 ?_)
 refine c_seq fun _ hK5 => ?_
 refine c_seq fun _ hK6 => ?_
 refine c_region ?_
 refine l_val wn (r_move rfl) rfl ?_
 refine l_val wn (r_len rfl Try.underlying28) rfl ?_
 refine l_val wn (r_move rfl) rfl ?_
 refine l_nil (e_go hK6 ?_)
 refine c_block ?_
 refine c_loop1 (fun (k : Nat) => [(0, .slice aA a.length ac), (1, .slice bA b.length bc), (12, .int .i64 (a.length : Int)), (13, .int .i64 (k : Int))]) (fun (k : Nat) => [slO (In w) 3 partE (.slice aA a.length ac) a, slO (In w) 3 partE (.slice bA b.length bc) b]) (fun (k : Nat) => k ≤ a.length ∧ a.take k = b.take k) (fun (k : Nat) => a.length - k) 0 (sc rfl (sc rfl (sc rfl (sc (ji (by omega)) sn)))) (fun _ h => h) ?_ (fun k hI1 => ?_)
 · simp
 refine c_seq fun _ hK7 => ?_
 refine c_region ?_
 refine l_val wn (r_lss rfl rfl) rfl ?_
 refine l_nil (e_go hK7 ?_)
 refine c_seq fun _ hK8 => ?_
 refine c_cond rfl (fun h2 => ?_) (fun h2 => ?_)
 · refine c_skip (e_go hK8 ?_)
   refine c_seq fun _ hK9 => ?_
   refine c_block ?_
   refine c_seq fun _ hK10 => ?_
   refine c_region ?_
   refine l_val wn (r_move rfl) rfl ?_
   refine l_val wn (r_assign rfl) rfl ?_
   refine l_nil (e_go hK10 ?_)
   refine c_seq fun _ hK11 => ?_
   refine c_quiet mix (by kernel_rfl) (fun _ h => h.drew) ?_
   refine q_val wn (r_move rfl) rfl ?_
   refine q_val wn (r_move rfl) rfl ?_
   obtain ⟨ad1, hd1⟩ := haA (ne_nil (i := k) (by first | omega | decide | (simp only [List.length_cons, List.length_nil, List.length_append, List.length_take, List.length_set]; omega)))
   refine q_val wn (r_ia (i := k) rfl hd1 rfl (by omega) (by first | omega | decide | (simp only [List.length_cons, List.length_nil, List.length_append, List.length_take, List.length_set]; omega)) Try.underlying28 inf61) rfl ?_
   obtain ⟨s1, hs1⟩ : ∃ x, a[k]? = some x := ⟨_, List.getElem?_eq_getElem (by first | omega | decide | (simp only [List.length_cons, List.length_nil, List.length_append, List.length_take, List.length_set]; omega))⟩
   refine q_val wn (r_eln 0 [.int .i64 s1.tier, .int .i64 s1.frm, .int .i64 s1.to] rfl rfl hd1 hs1 rfl rfl agg61 inf61) rfl ?_
   refine q_val wn (r_move rfl) rfl ?_
   refine q_val wn (r_move rfl) rfl ?_
   obtain ⟨ad2, hd2⟩ := hbA (ne_nil (i := k) (by first | omega | decide | (simp only [List.length_cons, List.length_nil, List.length_append, List.length_take, List.length_set]; omega)))
   refine q_val wn (r_ia (i := k) rfl hd2 rfl (by omega) (by first | omega | decide | (simp only [List.length_cons, List.length_nil, List.length_append, List.length_take, List.length_set]; omega)) Try.underlying28 inf61) rfl ?_
   obtain ⟨s2, hs2⟩ : ∃ x, b[k]? = some x := ⟨_, List.getElem?_eq_getElem (by first | omega | decide | (simp only [List.length_cons, List.length_nil, List.length_append, List.length_take, List.length_set]; omega))⟩
   refine q_val wn (r_eln 1 [.int .i64 s2.tier, .int .i64 s2.frm, .int .i64 s2.to] rfl rfl hd2 hs2 rfl rfl agg61 inf61) rfl ?_
   refine q_val wn (r_neqS (a := s1) (b := s2) rfl rfl eqv61) rfl ?_
   refine q_end (e_go hK11 ?_)
   refine c_cond rfl (fun h3 => ?_) (fun h3 => ?_)
   · refine c_seq fun _ hK12 => ?_
     refine c_region ?_
     refine l_val wn (r_assign rfl) rfl ?_
     refine l_nil (e_go hK12 ?_)
     refine c_ret (e_in_r (e_then_r (e_loop1_r (e_in_r (e_then_r (e_ret1 (.inl rfl) Try.results16 (rv_tmp rfl) fun w1 hM => ?_))))))
     exact ret_ok (by rw [decide_eq_false (fun e => h3 (Option.some.inj (hs1.symm.trans (by rw [e]; exact hs2))))]) hM
   refine c_skip (e_in_n (e_go hK9 ?_))
   refine c_region ?_
   refine l_val wn (r_addn rfl rfl (by omega)) rfl ?_
   refine l_val wn (r_move rfl) rfl ?_
   refine l_nil (e_round1 (k + 1) (sc rfl (sc rfl (sc rfl (sc (ji (by omega)) sn)))) (fun _ h => h) ?_ ?_)
   · exact ⟨by omega, same_step hI1.2 hs1 hs2 (Classical.not_not.1 h3)⟩
   omega
 refine c_exit (e_then_x (e_loop1_x (e_in_hit (e_go hK5 ?_))))
 refine c_seq fun _ hK13 => ?_
 refine c_region ?_
 refine l_val wn (r_assign rfl) rfl ?_
 refine l_nil (e_go hK13 ?_)
 refine c_ret (e_ret1 (.inl rfl) Try.results16 (rv_tmp rfl) fun w1 hM => ?_)
 exact ret_ok (by rw [decide_eq_true (same_done (by omega) (by omega) hI1.2)]) hM

end Go.Proofs.Ytnbkennlmnnbeaa
