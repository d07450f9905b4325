/-
  Walks: what each function hands back.
-/
import Derived.Test.YtnbkennlmnnbeaaWplan
namespace Go.Proofs.Ytnbkennlmnnbeaa
open Ex
set_option linter.unusedVariables false
set_option linter.unusedSimpArgs false
set_option maxHeartbeats 4000000 in
theorem c_choose (z0 : Value) (z1 : Value) (z2 : Value) (z3 : Value) (z : Shelf) (f : Int) (t : Int) (P0 : Nat → Prop) (w : World) (hP0 : ∀ b, P0 b → b < w.heap.size) (hz0 : FlatSl P0 2 labelE z0 z.series w) (hz1 : FlatSl P0 2 sampleE z1 z.raw w) (hz2 : FlatSl P0 8 bucketE z2 z.fine w) (hz3 : FlatSl P0 8 bucketE z3 z.coarse w)  :
    Calls Try.prog 14 #[.agg (List.toArray [z0, z1, z2, z3, .int .i64 z.rawFrom, .int .i64 z.fineFrom, .int .i64 z.fineTo, .int .i64 z.coarseFrom, .int .i64 z.coarseTo]), .int .i64 f, .int .i64 t] w (RetLT w 61 3 partE (Sh.choose z f t).1 (fun r => .tuple [r, .int .i64 (Sh.choose z f t).2].toArray)) := by
 obtain ⟨z0A, z0c, rfl, hz0c, hz0m, hz0A⟩ := hz0.form
 obtain ⟨z1A, z1c, rfl, hz1c, hz1m, hz1A⟩ := hz1.form
 obtain ⟨z2A, z2c, rfl, hz2c, hz2m, hz2A⟩ := hz2.form
 obtain ⟨z3A, z3c, rfl, hz3c, hz3m, hz3A⟩ := hz3.form
 refine fstart (N := 99) (vals := [.agg (List.toArray [.slice z0A z.series.length z0c, .slice z1A z.raw.length z1c, .slice z2A z.fine.length z2c, .slice z3A z.coarse.length z3c, .int .i64 z.rawFrom, .int .i64 z.fineFrom, .int .i64 z.fineTo, .int .i64 z.coarseFrom, .int .i64 z.coarseTo]), .int .i64 f, .int .i64 t]) (S := Mem w ⟨no, P0⟩ [slP 2 labelE (.slice z0A z.series.length z0c) z.series, slP 2 sampleE (.slice z1A z.raw.length z1c) z.raw, slP 8 bucketE (.slice z2A z.fine.length z2c) z.fine, slP 8 bucketE (.slice z3A z.coarse.length z3c) z.coarse]) Try.func14 rfl rfl rfl (Mem.ofDatsP hP0 (dc (dlp hz0) (dc (dlp hz1) (dc (dlp hz2) (dc (dlp hz3) dn))))) ?_
 refine c_seq fun _ hK1 => ?_
 refine c_region ?_
 refine l_box wn rfl rfl fun b3 => ?_
 refine l_nilRow (partE : Part → List Value) 61 3 ?_
 refine l_val wn (r_assign rfl) rfl ?_
 refine l_val wn (r_assign rfl) rfl ?_
 refine l_nil (e_go hK1 ?_)
 refine c_seq fun _ hK2 => ?_
 refine c_seq fun _ hK3 => ?_
 refine c_region ?_
 refine l_val wn (r_lbn 1 [.slice z0A z.series.length z0c, .slice z1A z.raw.length z1c, .slice z2A z.fine.length z2c, .slice z3A z.coarse.length z3c, .int .i64 z.rawFrom, .int .i64 z.fineFrom, .int .i64 z.fineTo, .int .i64 z.coarseFrom, .int .i64 z.coarseTo] rfl rfl rfl rfl agg27 inf27) rfl ?_
 refine l_callF wn rfl Try.call19 rfl (fun w1 hM => c_shWrong _ _ _ _ z (In w1) w1 (fun _ h => h) (hM.slp 2 rfl) (hM.slp 3 rfl) (hM.slp 4 rfl) (hM.slp 5 rfl)) ?_
 refine l_val wn (r_assign rfl) rfl ?_
 refine l_nil (e_go hK3 ?_)
 refine c_seq fun _ hK4 => ?_
 refine c_region ?_
 refine l_val wn (r_move rfl) rfl ?_
 refine l_val wn (r_neq rfl rfl) rfl ?_
 refine l_nil (e_go hK4 ?_)
 refine c_cond rfl (fun h1 => ?_) (fun h1 => ?_)
 · refine c_seq fun _ hK5 => ?_
   refine c_region ?_
   refine l_val wn (r_move rfl) rfl ?_
   refine l_nilRow (partE : Part → List Value) 61 3 ?_
   refine l_val wn (r_assign rfl) rfl ?_
   refine l_val wn (r_assign rfl) rfl ?_
   refine l_nil (e_go hK5 ?_)
   refine c_ret (e_then_r (e_ret2 (.inl rfl) Try.results14 (rv_tmp rfl) (rv_tmp rfl) fun w1 hM => ?_))
   have he : Sh.choose z f t = (([] : List Part), (Sh.wrong z)) := Sh.choose_wrong h1
   exact hM.retLT 0 rfl (by rw [he]) (by rw [he])
 have hs2 : Roll.step 2 = 60 := rfl
 have hs1_ : Roll.step 1 = 10 := rfl
 have hs0 : Roll.step 0 = 0 := rfl
 refine c_skip (e_go hK2 ?_)
 refine c_seq fun _ hK6 => ?_
 refine c_cut [(1, .int .i64 f), (2, .int .i64 t), (3, .pointer (some ⟨b3, 0, none⟩)), (31, .bool (decide ((f < 0) ∨ ((t < f) ∨ (1000000 < t)))))] (Mem w ⟨no, P0⟩ [Row (.slice none 0 0) 61 3 partE ([] : List Part), .blk b3 [.slice z0A z.series.length z0c, .slice z1A z.raw.length z1c, .slice z2A z.fine.length z2c, .slice z3A z.coarse.length z3c, .int .i64 z.rawFrom, .int .i64 z.fineFrom, .int .i64 z.fineTo, .int .i64 z.coarseFrom, .int .i64 z.coarseTo] 27, slP 2 labelE (.slice z0A z.series.length z0c) z.series, slP 2 sampleE (.slice z1A z.raw.length z1c) z.raw, slP 8 bucketE (.slice z2A z.fine.length z2c) z.fine, slP 8 bucketE (.slice z3A z.coarse.length z3c) z.coarse]) (fun _ hK7 => ?_) ?_
 · refine c_region ?_
   refine l_val wn (r_move rfl) rfl ?_
   refine l_val wn (r_lss rfl rfl) rfl ?_
   refine l_val wn (r_move rfl) rfl ?_
   refine l_case (t := 23) rfl (fun h2 => ?_) (fun h2 => ?_)
   · refine l_skip (wg rfl rfl rfl) rfl ?_
     refine l_skip (wg rfl rfl rfl) rfl ?_
     refine l_skip (wg rfl rfl rfl) rfl ?_
     refine l_val wn (r_pick rfl rfl) rfl ?_
     refine l_val wn (r_move rfl) rfl ?_
     refine l_skip (wg rfl rfl rfl) rfl ?_
     refine l_skip (wg rfl rfl rfl) rfl ?_
     refine l_val wn (r_pick rfl rfl) rfl ?_
     refine l_nil (e_cut hK7 (sc rfl (sc rfl (sc rfl (sc (jt (Or.inl h2)) sn)))) (fun _ h => h))
   refine l_val (wg rfl rfl rfl) (r_move rfl) rfl ?_
   refine l_val (wg rfl rfl rfl) (r_move rfl) rfl ?_
   refine l_val (wg rfl rfl rfl) (r_gtr rfl rfl) rfl ?_
   refine l_val wn (r_pick rfl rfl) rfl ?_
   refine l_val wn (r_move rfl) rfl ?_
   refine l_case (t := 28) rfl (fun h3 => ?_) (fun h3 => ?_)
   · refine l_skip (wg rfl rfl rfl) rfl ?_
     refine l_skip (wg rfl rfl rfl) rfl ?_
     refine l_val wn (r_pick rfl rfl) rfl ?_
     refine l_nil (e_cut hK7 (sc rfl (sc rfl (sc rfl (sc (jt (Or.inr (Or.inl h3))) sn)))) (fun _ h => h))
   refine l_val (wg rfl rfl rfl) (r_move rfl) rfl ?_
   refine l_val (wg rfl rfl rfl) (r_gtr rfl rfl) rfl ?_
   refine l_val wn (r_pick rfl rfl) rfl ?_
   refine l_nil (e_cut hK7 (sc rfl (sc rfl (sc rfl (sc (jp (iff_or_right h2 (iff_or_right h3 Iff.rfl))) sn)))) (fun _ h => h))
 refine c_cond rfl (fun h4 => ?_) (fun h4 => ?_)
 · refine c_seq fun _ hK8 => ?_
   refine c_region ?_
   refine l_nilRow (partE : Part → List Value) 61 3 ?_
   refine l_val wn (r_assign rfl) rfl ?_
   refine l_val wn (r_assign rfl) rfl ?_
   refine l_nil (e_go hK8 ?_)
   refine c_ret (e_then_r (e_ret2 (.inl rfl) Try.results14 (rv_tmp rfl) (rv_tmp rfl) fun w1 hM => ?_))
   have he : Sh.choose z f t = (([] : List Part), 3) := Sh.choose_range h1 (by omega)
   exact hM.retLT 0 rfl (by rw [he]) (by rw [he])
 refine c_skip (e_go hK6 ?_)
 refine c_seq fun _ hK9 => ?_
 refine c_region ?_
 refine l_nilRow (partE : Part → List Value) 61 3 ?_
 refine l_val wn (r_assign rfl) rfl ?_
 refine l_nil (e_go hK9 ?_)
 refine c_seq fun _ hK10 => ?_
 refine c_block ?_
 refine c_loop3 (fun (g : Int) (out : List Part) (vr : Value) => [(1, .int .i64 g), (2, .int .i64 t), (3, .pointer (some ⟨b3, 0, none⟩)), (9, vr)]) (fun (g : Int) (out : List Part) (vr : Value) => [Row vr 61 3 partE out, Row (.slice none 0 0) 61 3 partE ([] : List Part), .blk b3 [.slice z0A z.series.length z0c, .slice z1A z.raw.length z1c, .slice z2A z.fine.length z2c, .slice z3A z.coarse.length z3c, .int .i64 z.rawFrom, .int .i64 z.fineFrom, .int .i64 z.fineTo, .int .i64 z.coarseFrom, .int .i64 z.coarseTo] 27, slP 2 labelE (.slice z0A z.series.length z0c) z.series, slP 2 sampleE (.slice z1A z.raw.length z1c) z.raw, slP 8 bucketE (.slice z2A z.fine.length z2c) z.fine, slP 8 bucketE (.slice z3A z.coarse.length z3c) z.coarse]) (fun (g : Int) (out : List Part) (vr : Value) => (Sh.chooseL z f t [] = Sh.chooseL z g t out) ∧ 0 ≤ g ∧ g ≤ t ∧ (out.length : Int) ≤ g) (fun (g : Int) (out : List Part) (vr : Value) => (t - g).toNat) f [] (.slice none 0 0) (sc rfl (sc rfl (sc rfl (sc rfl sn)))) (fun _ h => h) ?_ (fun g out vr hI1 => ?_)
 · exact ⟨rfl, by omega, by omega, by simp; omega⟩
 refine c_open 0 (l := out) rfl fun A1 cp1 hv1 hc1 hm1 hA1 => ?_
 subst hv1
 refine c_seq fun _ hK11 => ?_
 refine c_seq fun _ hK12 => ?_
 refine c_region ?_
 refine l_val wn (r_move rfl) rfl ?_
 refine l_val wn (r_move rfl) rfl ?_
 refine l_val wn (r_lss rfl rfl) rfl ?_
 refine l_nil (e_go hK12 ?_)
 refine c_cond rfl (fun h5 => ?_) (fun h5 => ?_)
 · refine c_skip (e_go hK11 ?_)
   refine c_block ?_
   refine c_seq fun _ hK13 => ?_
   refine c_region ?_
   refine l_val wn (r_build [.int .i64 (-1), .int .i64 0, .int .i64 0] pl61 inf61 rfl rfl) rfl ?_
   refine l_alloc wn inf61 rfl fun b10 => ?_
   refine l_stn 0 wn rfl rfl rfl inf61 rfl rfl rfl ?_
   refine l_nil (e_go hK13 ?_)
   refine c_seq fun _ hK14 => ?_
   refine c_seq fun _ hK15 => ?_
   refine c_region ?_
   refine l_bsL intE ([2, 1, 0] : List Int) wn Try.underlying62 inf3 rfl rfl rfl rfl (by decide) (by decide) rfl fun b36 => ?_
   refine l_val wn (r_len rfl Try.underlying62) rfl ?_
   refine l_val wn (r_move rfl) rfl ?_
   refine l_nil (e_go hK15 ?_)
   refine c_block ?_
   refine c_enter ?_
   refine c_round fun _ hK16 => ?_
   refine c_seq fun _ hK17 => ?_
   refine c_region ?_
   refine l_val wn (r_lss rfl rfl) rfl ?_
   refine l_nil (e_go hK17 ?_)
   refine c_seq fun _ hK18 => ?_
   refine c_true rfl (decide_eq_true (by decide)) ?_
   refine c_skip (e_go hK18 ?_)
   refine c_seq fun _ hK19 => ?_
   refine c_block ?_
   refine c_seq fun _ hK20 => ?_
   refine c_region ?_
   refine l_val wn (r_ia (i := 0) rfl rfl rfl (by omega) (by first | omega | decide) Try.underlying62 inf3) rfl ?_
   refine l_val wn (r_rl 0 encInt rfl rfl rfl (show ([2, 1, 0] : List Int)[0]? = some 2 from rfl) rfl flat3) rfl ?_
   refine l_val wn (r_assign rfl) rfl ?_
   refine l_nil (e_go hK20 ?_)
   refine c_seq fun _ hK21 => ?_
   refine c_region ?_
   refine l_val wn (r_move rfl) rfl ?_
   refine l_val wn (r_move rfl) rfl ?_
   refine l_callF wn rfl Try.call39 rfl (fun w1 hM => c_Step 2 w1) ?_
   refine l_val wn (r_addn rfl rfl (by omega)) rfl ?_
   refine l_val wn (r_assign rfl) rfl ?_
   refine l_nil (e_go hK21 ?_)
   refine c_seq fun _ hK22 => ?_
   refine c_seq fun _ hK23 => ?_
   refine c_region ?_
   refine l_val wn (r_move rfl) rfl ?_
   refine l_val wn (r_eql rfl rfl) rfl ?_
   refine l_nil (e_go hK23 ?_)
   refine c_false rfl (decide_eq_false (by decide)) ?_
   refine c_skip (e_go hK22 ?_)
   refine c_seq fun _ hK24 => ?_
   refine c_region ?_
   refine l_val wn (r_move rfl) rfl ?_
   refine l_val wn (r_move rfl) rfl ?_
   refine l_val wn (r_move rfl) rfl ?_
   refine l_val wn (r_build [.int .i64 2, .int .i64 g, .int .i64 (g + (Roll.step 2))] pl61 inf61 rfl rfl) rfl ?_
   refine l_alloc wn inf61 rfl fun b14 => ?_
   refine l_stn 0 wn rfl rfl rfl inf61 rfl rfl rfl ?_
   refine l_nil (e_go hK24 ?_)
   refine c_cut [(1, .int .i64 g), (2, .int .i64 t), (3, .pointer (some ⟨b3, 0, none⟩)), (9, .slice A1 out.length cp1), (10, .pointer (some ⟨b10, 0, none⟩)), (14, .pointer (some ⟨b14, 0, none⟩)), (36, .slice (some ⟨b36, 0, none⟩) 3 3), (37, .int .i64 3), (38, .int .i64 0), (65, .bool (decide (((g + (Roll.step 2)) ≤ t) ∧ (Sh.may z (⟨2, g, (g + (Roll.step 2))⟩ : Part)))))] (Mem w ⟨no, P0⟩ [.blk b14 [.int .i64 2, .int .i64 g, .int .i64 (g + (Roll.step 2))] 61, Row (.slice (some ⟨b36, 0, none⟩) 3 3) 3 1 intE ([2, 1, 0] : List Int), .blk b10 [.int .i64 (-1), .int .i64 0, .int .i64 0] 61, Row (.slice A1 out.length cp1) 61 3 partE out, Row (.slice none 0 0) 61 3 partE ([] : List Part), .blk b3 [.slice z0A z.series.length z0c, .slice z1A z.raw.length z1c, .slice z2A z.fine.length z2c, .slice z3A z.coarse.length z3c, .int .i64 z.rawFrom, .int .i64 z.fineFrom, .int .i64 z.fineTo, .int .i64 z.coarseFrom, .int .i64 z.coarseTo] 27, slP 2 labelE (.slice z0A z.series.length z0c) z.series, slP 2 sampleE (.slice z1A z.raw.length z1c) z.raw, slP 8 bucketE (.slice z2A z.fine.length z2c) z.fine, slP 8 bucketE (.slice z3A z.coarse.length z3c) z.coarse]) (fun _ hK25 => ?_) ?_
   · refine c_region ?_
     refine l_val wn (r_move rfl) rfl ?_
     refine l_val wn (r_move rfl) rfl ?_
     refine l_val wn (r_leq rfl rfl) rfl ?_
     refine l_val wn (r_move rfl) rfl ?_
     refine l_case (t := 62) rfl (fun h6 => ?_) (fun h6 => ?_)
     · refine l_val (wg rfl rfl rfl) (r_lbn 0 [.int .i64 2, .int .i64 g, .int .i64 (g + (Roll.step 2))] rfl rfl rfl rfl agg61 inf61) rfl ?_
       refine l_callF (wg rfl rfl rfl) rfl Try.call37 rfl (fun w1 hM => c_may b3 _ _ _ _ z (⟨2, g, (g + (Roll.step 2))⟩ : Part) w1 (hM.blk (i := 5) rfl)) ?_
       refine l_val wn (r_pick rfl rfl) rfl ?_
       refine l_nil (e_cut hK25 (sc rfl (sc rfl (sc rfl (sc rfl (sc rfl (sc rfl (sc rfl (sc rfl (sc rfl (sc (jp (iff_and_right h6 Iff.rfl)) sn)))))))))) (fun _ h => h))
     refine l_skip (wg rfl rfl rfl) rfl ?_
     refine l_skip (wg rfl rfl rfl) rfl ?_
     refine l_val wn (r_pick rfl rfl) rfl ?_
     refine l_nil (e_cut hK25 (sc rfl (sc rfl (sc rfl (sc rfl (sc rfl (sc rfl (sc rfl (sc rfl (sc rfl (sc (jf (fun g => h6 g.1)) sn)))))))))) (fun _ h => h))
   refine c_cond rfl (fun h7 => ?_) (fun h7 => ?_)
   · refine c_seq fun _ hK26 => ?_
     refine c_region ?_
     refine l_val wn (r_lbn 0 [.int .i64 2, .int .i64 g, .int .i64 (g + (Roll.step 2))] rfl rfl rfl rfl agg61 inf61) rfl ?_
     refine l_stn 2 wn rfl rfl rfl inf61 rfl rfl rfl ?_
     refine l_nil (e_go hK26 ?_)
     refine c_exit (e_in_miss rfl (e_then_x (e_then_x (e_in_hit (e_go hK14 ?_)))))
     refine c_seq fun _ hK27 => ?_
     refine c_seq fun _ hK28 => ?_
     refine c_region ?_
     refine l_val wn (r_fa rfl fld61_0) rfl ?_
     refine l_val wn (r_lb 2 rfl rfl rfl flat3) rfl ?_
     refine l_val wn (r_lss rfl rfl) rfl ?_
     refine l_nil (e_go hK28 ?_)
     refine c_false rfl (decide_eq_false (by decide)) ?_
     refine c_skip (e_go hK27 ?_)
     refine c_seq fun _ hK29 => ?_
     refine c_seq fun _ hK30 => ?_
     refine c_region ?_
     refine l_val wn (r_move rfl) rfl ?_
     refine l_val wn (r_len rfl Try.underlying28) rfl ?_
     refine l_val wn (r_subn rfl rfl (by omega)) rfl ?_
     refine l_val wn (r_assign rfl) rfl ?_
     refine l_nil (e_go hK30 ?_)
     refine c_seq fun _ hK31 => ?_
     refine c_quiet mix (by kernel_rfl) (fun _ h => h.drew) ?_
     refine q_val wn (r_move rfl) rfl ?_
     refine q_val wn (r_geq rfl rfl) rfl ?_
     refine q_val wn (r_move rfl) rfl ?_
     refine q_case (t := 76) rfl (fun h8 => ?_) (fun h8 => ?_)
     · refine q_val (wg rfl rfl rfl) (r_move rfl) rfl ?_
       refine q_val (wg rfl rfl rfl) (r_move rfl) rfl ?_
       obtain ⟨ad1, hd1⟩ := hA1 (ne_nil (i := (out.length - 1)) (by first | omega | decide))
       refine q_val (wg rfl rfl rfl) (r_ia (i := (out.length - 1)) rfl hd1 rfl (by omega) (by first | omega | decide) Try.underlying28 inf61) rfl ?_
       refine q_val (wg rfl rfl rfl) (r_fe rfl fld61_0) rfl ?_
       obtain ⟨s1, hs1⟩ : ∃ x, out[(out.length - 1)]? = some x := ⟨_, List.getElem?_eq_getElem (by first | omega | decide)⟩
       refine q_val (wg rfl rfl rfl) (r_rl 3 encPart rfl rfl hd1 hs1 rfl flat3) rfl ?_
       refine q_val (wg rfl rfl rfl) (r_fa rfl fld61_0) rfl ?_
       refine q_val (wg rfl rfl rfl) (r_lb 2 rfl rfl rfl flat3) rfl ?_
       refine q_val (wg rfl rfl rfl) (r_eql rfl rfl) rfl ?_
       refine q_val wn (r_pick rfl rfl) rfl ?_
       refine q_end (e_go hK31 ?_)
       refine c_cond rfl (fun h9 => ?_) (fun h9 => ?_)
       · refine c_region ?_
         refine l_val wn (r_move rfl) rfl ?_
         refine l_val wn (r_move rfl) rfl ?_
         refine l_val wn (r_fa rfl fld61_2) rfl ?_
         refine l_val wn (r_lb 2 rfl rfl rfl flat3) rfl ?_
         refine l_val wn (r_ia (i := (out.length - 1)) rfl hd1 rfl (by omega) (by first | omega | decide) Try.underlying28 inf61) rfl ?_
         refine l_val wn (r_fe rfl fld61_2) rfl ?_
         refine l_rst 3 (vs := [.int .i64 (g + (Roll.step 2))]) (⟨s1.tier, s1.frm, (g + (Roll.step 2))⟩ : Part) encPart wn rfl rfl rfl rfl hd1 hs1 inf3 rfl rfl rfl rfl ?_
         refine l_nil (e_go hK29 ?_)
         refine c_region ?_
         refine l_val wn (r_fa rfl fld61_2) rfl ?_
         refine l_val wn (r_lb 2 rfl rfl rfl flat3) rfl ?_
         refine l_val wn (r_assign rfl) rfl ?_
         refine l_nil (e_in_n (e_round3 (g + (Roll.step 2)) (out.set (out.length - 1) (⟨s1.tier, s1.frm, (g + (Roll.step 2))⟩ : Part)) (.slice A1 out.length cp1) (sc rfl (sc rfl (sc rfl (sc rfl sn)))) (fun _ h => (h.sel [3, 4, 5, 6, 7, 8, 9] (by decide) rfl)) ?_ ?_))
         · have hp : Sh.pick z g t = (⟨2, g, (g + (Roll.step 2))⟩ : Part) := Sh.pick_2 (z := z) (f := g) (t := t) h7.1 h7.2
           have hpt : ¬ (Sh.pick z g t).tier < 0 := by rw [hp]; dsimp only; omega
           have hto := Sh.pick_to hpt
           have hnx := hI1.1.trans (Sh.chooseL_next (out := out) (by omega) hpt)
           have hpl := Sh.push_len out (Sh.pick z g t)
           rw [hp] at hto hnx hpl
           have hpu : Sh.push out _ = _ := Sh.push_last (p := (⟨2, g, (g + (Roll.step 2))⟩ : Part)) hs1 h9
           rw [hpu] at hnx hpl
           try dsimp only at hto
           try dsimp only at hnx
           try dsimp only at hpl
           exact ⟨hnx, by omega, by omega, by omega⟩
         have hp : Sh.pick z g t = (⟨2, g, (g + (Roll.step 2))⟩ : Part) := Sh.pick_2 (z := z) (f := g) (t := t) h7.1 h7.2
         have hpt : ¬ (Sh.pick z g t).tier < 0 := by rw [hp]; dsimp only; omega
         have hto := Sh.pick_to hpt
         rw [hp] at hto
         try dsimp only at hto
         omega
       refine c_region ?_
       refine l_val wn (r_move rfl) rfl ?_
       refine l_val wn (r_lbn 2 [.int .i64 2, .int .i64 g, .int .i64 (g + (Roll.step 2))] rfl rfl rfl rfl agg61 inf61) rfl ?_
       refine l_bsL partE ([(⟨2, g, (g + (Roll.step 2))⟩ : Part)] : List Part) wn Try.underlying28 inf61 rfl rfl rfl rfl (by decide) (by decide) rfl fun b94 => ?_
       refine l_app 4 out ([(⟨2, g, (g + (Roll.step 2))⟩ : Part)] : List Part) encPart wn rfl rfl rfl (fun _ hM => (RowSl encPart hM 0 rfl)) Try.underlying28 inf61 rfl rfl (by first | omega | (simp only [List.length_append, List.length_cons, List.length_nil]; omega)) rfl fun A2 cp2 hc2 hm2 hA2 => ?_
       refine l_val wn (r_assign rfl) rfl ?_
       refine l_nil (e_go hK29 ?_)
       refine c_region ?_
       refine l_val wn (r_fa rfl fld61_2) rfl ?_
       refine l_val wn (r_lb 3 rfl rfl rfl flat3) rfl ?_
       refine l_val wn (r_assign rfl) rfl ?_
       refine l_nil (e_in_n (e_round3 (g + (Roll.step 2)) (out ++ ([(⟨2, g, (g + (Roll.step 2))⟩ : Part)] : List Part)) (.slice A2 ((out ++ ([(⟨2, g, (g + (Roll.step 2))⟩ : Part)] : List Part)).length) cp2) (sc rfl (sc rfl (sc rfl (sc rfl sn)))) (fun _ h => (h.sel [4, 5, 6, 7, 8, 9, 10] (by decide) rfl)) ?_ ?_))
       · have hp : Sh.pick z g t = (⟨2, g, (g + (Roll.step 2))⟩ : Part) := Sh.pick_2 (z := z) (f := g) (t := t) h7.1 h7.2
         have hpt : ¬ (Sh.pick z g t).tier < 0 := by rw [hp]; dsimp only; omega
         have hto := Sh.pick_to hpt
         have hnx := hI1.1.trans (Sh.chooseL_next (out := out) (by omega) hpt)
         have hpl := Sh.push_len out (Sh.pick z g t)
         rw [hp] at hto hnx hpl
         have hpu : Sh.push out _ = _ := Sh.push_new (p := (⟨2, g, (g + (Roll.step 2))⟩ : Part)) hs1 h9
         rw [hpu] at hnx hpl
         try dsimp only at hto
         try dsimp only at hnx
         try dsimp only at hpl
         exact ⟨hnx, by omega, by omega, by omega⟩
       have hp : Sh.pick z g t = (⟨2, g, (g + (Roll.step 2))⟩ : Part) := Sh.pick_2 (z := z) (f := g) (t := t) h7.1 h7.2
       have hpt : ¬ (Sh.pick z g t).tier < 0 := by rw [hp]; dsimp only; omega
       have hto := Sh.pick_to hpt
       rw [hp] at hto
       try dsimp only at hto
       omega
     refine q_skip (wg rfl rfl rfl) rfl ?_
     refine q_skip (wg rfl rfl rfl) rfl ?_
     refine q_skip (wg rfl rfl rfl) rfl ?_
     refine q_skip (wg rfl rfl rfl) rfl ?_
     refine q_skip (wg rfl rfl rfl) rfl ?_
     refine q_skip (wg rfl rfl rfl) rfl ?_
     refine q_skip (wg rfl rfl rfl) rfl ?_
     refine q_skip (wg rfl rfl rfl) rfl ?_
     refine q_val wn (r_pick rfl rfl) rfl ?_
     refine q_end (e_go hK31 ?_)
     refine c_false rfl rfl ?_
     refine c_region ?_
     refine l_val wn (r_move rfl) rfl ?_
     refine l_val wn (r_lbn 2 [.int .i64 2, .int .i64 g, .int .i64 (g + (Roll.step 2))] rfl rfl rfl rfl agg61 inf61) rfl ?_
     refine l_bsL partE ([(⟨2, g, (g + (Roll.step 2))⟩ : Part)] : List Part) wn Try.underlying28 inf61 rfl rfl rfl rfl (by decide) (by decide) rfl fun b94 => ?_
     refine l_app 4 out ([(⟨2, g, (g + (Roll.step 2))⟩ : Part)] : List Part) encPart wn rfl rfl rfl (fun _ hM => (RowSl encPart hM 0 rfl)) Try.underlying28 inf61 rfl rfl (by first | omega | (simp only [List.length_append, List.length_cons, List.length_nil]; omega)) rfl fun A3 cp3 hc3 hm3 hA3 => ?_
     refine l_val wn (r_assign rfl) rfl ?_
     refine l_nil (e_go hK29 ?_)
     refine c_region ?_
     refine l_val wn (r_fa rfl fld61_2) rfl ?_
     refine l_val wn (r_lb 3 rfl rfl rfl flat3) rfl ?_
     refine l_val wn (r_assign rfl) rfl ?_
     refine l_nil (e_in_n (e_round3 (g + (Roll.step 2)) (out ++ ([(⟨2, g, (g + (Roll.step 2))⟩ : Part)] : List Part)) (.slice A3 ((out ++ ([(⟨2, g, (g + (Roll.step 2))⟩ : Part)] : List Part)).length) cp3) (sc rfl (sc rfl (sc rfl (sc rfl sn)))) (fun _ h => (h.sel [4, 5, 6, 7, 8, 9, 10] (by decide) rfl)) ?_ ?_))
     · have hp : Sh.pick z g t = (⟨2, g, (g + (Roll.step 2))⟩ : Part) := Sh.pick_2 (z := z) (f := g) (t := t) h7.1 h7.2
       have hpt : ¬ (Sh.pick z g t).tier < 0 := by rw [hp]; dsimp only; omega
       have hto := Sh.pick_to hpt
       have hnx := hI1.1.trans (Sh.chooseL_next (out := out) (by omega) hpt)
       have hpl := Sh.push_len out (Sh.pick z g t)
       rw [hp] at hto hnx hpl
       have hpu : Sh.push out _ = _ := Sh.push_nil (p := (⟨2, g, (g + (Roll.step 2))⟩ : Part)) (by omega)
       rw [hpu] at hnx hpl
       try dsimp only at hto
       try dsimp only at hnx
       try dsimp only at hpl
       exact ⟨hnx, by omega, by omega, by omega⟩
     have hp : Sh.pick z g t = (⟨2, g, (g + (Roll.step 2))⟩ : Part) := Sh.pick_2 (z := z) (f := g) (t := t) h7.1 h7.2
     have hpt : ¬ (Sh.pick z g t).tier < 0 := by rw [hp]; dsimp only; omega
     have hto := Sh.pick_to hpt
     rw [hp] at hto
     try dsimp only at hto
     omega
   refine c_skip (e_in_n (e_go hK19 ?_))
   refine c_region ?_
   refine l_val wn (r_addn rfl rfl (by omega)) rfl ?_
   refine l_val wn (r_move rfl) rfl ?_
   refine l_nil (e_goL hK16 ?_)
   refine c_round fun _ hK32 => ?_
   refine c_seq fun _ hK33 => ?_
   refine c_region ?_
   refine l_val wn (r_lss rfl rfl) rfl ?_
   refine l_nil (e_go hK33 ?_)
   refine c_seq fun _ hK34 => ?_
   refine c_true rfl (decide_eq_true (by decide)) ?_
   refine c_skip (e_go hK34 ?_)
   refine c_seq fun _ hK35 => ?_
   refine c_block ?_
   refine c_seq fun _ hK36 => ?_
   refine c_region ?_
   refine l_val wn (r_ia (i := 1) rfl rfl rfl (by omega) (by first | omega | decide) Try.underlying62 inf3) rfl ?_
   refine l_val wn (r_rl 1 encInt rfl rfl rfl (show ([2, 1, 0] : List Int)[1]? = some 1 from rfl) rfl flat3) rfl ?_
   refine l_val wn (r_assign rfl) rfl ?_
   refine l_nil (e_go hK36 ?_)
   refine c_seq fun _ hK37 => ?_
   refine c_region ?_
   refine l_val wn (r_move rfl) rfl ?_
   refine l_val wn (r_move rfl) rfl ?_
   refine l_callF wn rfl Try.call39 rfl (fun w1 hM => c_Step 1 w1) ?_
   refine l_val wn (r_addn rfl rfl (by omega)) rfl ?_
   refine l_val wn (r_assign rfl) rfl ?_
   refine l_nil (e_go hK37 ?_)
   refine c_seq fun _ hK38 => ?_
   refine c_seq fun _ hK39 => ?_
   refine c_region ?_
   refine l_val wn (r_move rfl) rfl ?_
   refine l_val wn (r_eql rfl rfl) rfl ?_
   refine l_nil (e_go hK39 ?_)
   refine c_false rfl (decide_eq_false (by decide)) ?_
   refine c_skip (e_go hK38 ?_)
   refine c_seq fun _ hK40 => ?_
   refine c_region ?_
   refine l_val wn (r_move rfl) rfl ?_
   refine l_val wn (r_move rfl) rfl ?_
   refine l_val wn (r_move rfl) rfl ?_
   refine l_val wn (r_build [.int .i64 1, .int .i64 g, .int .i64 (g + (Roll.step 1))] pl61 inf61 rfl rfl) rfl ?_
   refine l_alloc wn inf61 rfl fun b14_1 => ?_
   refine l_stn 0 wn rfl rfl rfl inf61 rfl rfl rfl ?_
   refine l_nil (e_go hK40 ?_)
   refine c_cut [(1, .int .i64 g), (2, .int .i64 t), (3, .pointer (some ⟨b3, 0, none⟩)), (9, .slice A1 out.length cp1), (10, .pointer (some ⟨b10, 0, none⟩)), (14, .pointer (some ⟨b14_1, 0, none⟩)), (36, .slice (some ⟨b36, 0, none⟩) 3 3), (37, .int .i64 3), (38, .int .i64 1), (65, .bool (decide (((g + (Roll.step 1)) ≤ t) ∧ (Sh.may z (⟨1, g, (g + (Roll.step 1))⟩ : Part)))))] (Mem w ⟨no, P0⟩ [.blk b14_1 [.int .i64 1, .int .i64 g, .int .i64 (g + (Roll.step 1))] 61, .blk b14 [.int .i64 2, .int .i64 g, .int .i64 (g + (Roll.step 2))] 61, Row (.slice (some ⟨b36, 0, none⟩) 3 3) 3 1 intE ([2, 1, 0] : List Int), .blk b10 [.int .i64 (-1), .int .i64 0, .int .i64 0] 61, Row (.slice A1 out.length cp1) 61 3 partE out, Row (.slice none 0 0) 61 3 partE ([] : List Part), .blk b3 [.slice z0A z.series.length z0c, .slice z1A z.raw.length z1c, .slice z2A z.fine.length z2c, .slice z3A z.coarse.length z3c, .int .i64 z.rawFrom, .int .i64 z.fineFrom, .int .i64 z.fineTo, .int .i64 z.coarseFrom, .int .i64 z.coarseTo] 27, slP 2 labelE (.slice z0A z.series.length z0c) z.series, slP 2 sampleE (.slice z1A z.raw.length z1c) z.raw, slP 8 bucketE (.slice z2A z.fine.length z2c) z.fine, slP 8 bucketE (.slice z3A z.coarse.length z3c) z.coarse]) (fun _ hK41 => ?_) ?_
   · refine c_region ?_
     refine l_val wn (r_move rfl) rfl ?_
     refine l_val wn (r_move rfl) rfl ?_
     refine l_val wn (r_leq rfl rfl) rfl ?_
     refine l_val wn (r_move rfl) rfl ?_
     refine l_case (t := 62) rfl (fun h10 => ?_) (fun h10 => ?_)
     · refine l_val (wg rfl rfl rfl) (r_lbn 0 [.int .i64 1, .int .i64 g, .int .i64 (g + (Roll.step 1))] rfl rfl rfl rfl agg61 inf61) rfl ?_
       refine l_callF (wg rfl rfl rfl) rfl Try.call37 rfl (fun w1 hM => c_may b3 _ _ _ _ z (⟨1, g, (g + (Roll.step 1))⟩ : Part) w1 (hM.blk (i := 6) rfl)) ?_
       refine l_val wn (r_pick rfl rfl) rfl ?_
       refine l_nil (e_cut hK41 (sc rfl (sc rfl (sc rfl (sc rfl (sc rfl (sc rfl (sc rfl (sc rfl (sc rfl (sc (jp (iff_and_right h10 Iff.rfl)) sn)))))))))) (fun _ h => h))
     refine l_skip (wg rfl rfl rfl) rfl ?_
     refine l_skip (wg rfl rfl rfl) rfl ?_
     refine l_val wn (r_pick rfl rfl) rfl ?_
     refine l_nil (e_cut hK41 (sc rfl (sc rfl (sc rfl (sc rfl (sc rfl (sc rfl (sc rfl (sc rfl (sc rfl (sc (jf (fun g => h10 g.1)) sn)))))))))) (fun _ h => h))
   refine c_cond rfl (fun h11 => ?_) (fun h11 => ?_)
   · refine c_seq fun _ hK42 => ?_
     refine c_region ?_
     refine l_val wn (r_lbn 0 [.int .i64 1, .int .i64 g, .int .i64 (g + (Roll.step 1))] rfl rfl rfl rfl agg61 inf61) rfl ?_
     refine l_stn 3 wn rfl rfl rfl inf61 rfl rfl rfl ?_
     refine l_nil (e_go hK42 ?_)
     refine c_exit (e_in_miss rfl (e_then_x (e_then_x (e_in_hit (e_go hK14 ?_)))))
     refine c_seq fun _ hK43 => ?_
     refine c_seq fun _ hK44 => ?_
     refine c_region ?_
     refine l_val wn (r_fa rfl fld61_0) rfl ?_
     refine l_val wn (r_lb 3 rfl rfl rfl flat3) rfl ?_
     refine l_val wn (r_lss rfl rfl) rfl ?_
     refine l_nil (e_go hK44 ?_)
     refine c_false rfl (decide_eq_false (by decide)) ?_
     refine c_skip (e_go hK43 ?_)
     refine c_seq fun _ hK45 => ?_
     refine c_seq fun _ hK46 => ?_
     refine c_region ?_
     refine l_val wn (r_move rfl) rfl ?_
     refine l_val wn (r_len rfl Try.underlying28) rfl ?_
     refine l_val wn (r_subn rfl rfl (by omega)) rfl ?_
     refine l_val wn (r_assign rfl) rfl ?_
     refine l_nil (e_go hK46 ?_)
     refine c_seq fun _ hK47 => ?_
     refine c_quiet mix (by kernel_rfl) (fun _ h => h.drew) ?_
     refine q_val wn (r_move rfl) rfl ?_
     refine q_val wn (r_geq rfl rfl) rfl ?_
     refine q_val wn (r_move rfl) rfl ?_
     refine q_case (t := 76) rfl (fun h12 => ?_) (fun h12 => ?_)
     · refine q_val (wg rfl rfl rfl) (r_move rfl) rfl ?_
       refine q_val (wg rfl rfl rfl) (r_move rfl) rfl ?_
       obtain ⟨ad2, hd2⟩ := hA1 (ne_nil (i := (out.length - 1)) (by first | omega | decide))
       refine q_val (wg rfl rfl rfl) (r_ia (i := (out.length - 1)) rfl hd2 rfl (by omega) (by first | omega | decide) Try.underlying28 inf61) rfl ?_
       refine q_val (wg rfl rfl rfl) (r_fe rfl fld61_0) rfl ?_
       obtain ⟨s2, hs2⟩ : ∃ x, out[(out.length - 1)]? = some x := ⟨_, List.getElem?_eq_getElem (by first | omega | decide)⟩
       refine q_val (wg rfl rfl rfl) (r_rl 4 encPart rfl rfl hd2 hs2 rfl flat3) rfl ?_
       refine q_val (wg rfl rfl rfl) (r_fa rfl fld61_0) rfl ?_
       refine q_val (wg rfl rfl rfl) (r_lb 3 rfl rfl rfl flat3) rfl ?_
       refine q_val (wg rfl rfl rfl) (r_eql rfl rfl) rfl ?_
       refine q_val wn (r_pick rfl rfl) rfl ?_
       refine q_end (e_go hK47 ?_)
       refine c_cond rfl (fun h13 => ?_) (fun h13 => ?_)
       · refine c_region ?_
         refine l_val wn (r_move rfl) rfl ?_
         refine l_val wn (r_move rfl) rfl ?_
         refine l_val wn (r_fa rfl fld61_2) rfl ?_
         refine l_val wn (r_lb 3 rfl rfl rfl flat3) rfl ?_
         refine l_val wn (r_ia (i := (out.length - 1)) rfl hd2 rfl (by omega) (by first | omega | decide) Try.underlying28 inf61) rfl ?_
         refine l_val wn (r_fe rfl fld61_2) rfl ?_
         refine l_rst 4 (vs := [.int .i64 (g + (Roll.step 1))]) (⟨s2.tier, s2.frm, (g + (Roll.step 1))⟩ : Part) encPart wn rfl rfl rfl rfl hd2 hs2 inf3 rfl rfl rfl rfl ?_
         refine l_nil (e_go hK45 ?_)
         refine c_region ?_
         refine l_val wn (r_fa rfl fld61_2) rfl ?_
         refine l_val wn (r_lb 3 rfl rfl rfl flat3) rfl ?_
         refine l_val wn (r_assign rfl) rfl ?_
         refine l_nil (e_in_n (e_round3 (g + (Roll.step 1)) (out.set (out.length - 1) (⟨s2.tier, s2.frm, (g + (Roll.step 1))⟩ : Part)) (.slice A1 out.length cp1) (sc rfl (sc rfl (sc rfl (sc rfl sn)))) (fun _ h => (h.sel [4, 5, 6, 7, 8, 9, 10] (by decide) rfl)) ?_ ?_))
         · have hp : Sh.pick z g t = (⟨1, g, (g + (Roll.step 1))⟩ : Part) := Sh.pick_1 (z := z) (f := g) (t := t) h7 h11.1 h11.2
           have hpt : ¬ (Sh.pick z g t).tier < 0 := by rw [hp]; dsimp only; omega
           have hto := Sh.pick_to hpt
           have hnx := hI1.1.trans (Sh.chooseL_next (out := out) (by omega) hpt)
           have hpl := Sh.push_len out (Sh.pick z g t)
           rw [hp] at hto hnx hpl
           have hpu : Sh.push out _ = _ := Sh.push_last (p := (⟨1, g, (g + (Roll.step 1))⟩ : Part)) hs2 h13
           rw [hpu] at hnx hpl
           try dsimp only at hto
           try dsimp only at hnx
           try dsimp only at hpl
           exact ⟨hnx, by omega, by omega, by omega⟩
         have hp : Sh.pick z g t = (⟨1, g, (g + (Roll.step 1))⟩ : Part) := Sh.pick_1 (z := z) (f := g) (t := t) h7 h11.1 h11.2
         have hpt : ¬ (Sh.pick z g t).tier < 0 := by rw [hp]; dsimp only; omega
         have hto := Sh.pick_to hpt
         rw [hp] at hto
         try dsimp only at hto
         omega
       refine c_region ?_
       refine l_val wn (r_move rfl) rfl ?_
       refine l_val wn (r_lbn 3 [.int .i64 1, .int .i64 g, .int .i64 (g + (Roll.step 1))] rfl rfl rfl rfl agg61 inf61) rfl ?_
       refine l_bsL partE ([(⟨1, g, (g + (Roll.step 1))⟩ : Part)] : List Part) wn Try.underlying28 inf61 rfl rfl rfl rfl (by decide) (by decide) rfl fun b94 => ?_
       refine l_app 5 out ([(⟨1, g, (g + (Roll.step 1))⟩ : Part)] : List Part) encPart wn rfl rfl rfl (fun _ hM => (RowSl encPart hM 0 rfl)) Try.underlying28 inf61 rfl rfl (by first | omega | (simp only [List.length_append, List.length_cons, List.length_nil]; omega)) rfl fun A4 cp4 hc4 hm4 hA4 => ?_
       refine l_val wn (r_assign rfl) rfl ?_
       refine l_nil (e_go hK45 ?_)
       refine c_region ?_
       refine l_val wn (r_fa rfl fld61_2) rfl ?_
       refine l_val wn (r_lb 4 rfl rfl rfl flat3) rfl ?_
       refine l_val wn (r_assign rfl) rfl ?_
       refine l_nil (e_in_n (e_round3 (g + (Roll.step 1)) (out ++ ([(⟨1, g, (g + (Roll.step 1))⟩ : Part)] : List Part)) (.slice A4 ((out ++ ([(⟨1, g, (g + (Roll.step 1))⟩ : Part)] : List Part)).length) cp4) (sc rfl (sc rfl (sc rfl (sc rfl sn)))) (fun _ h => (h.sel [5, 6, 7, 8, 9, 10, 11] (by decide) rfl)) ?_ ?_))
       · have hp : Sh.pick z g t = (⟨1, g, (g + (Roll.step 1))⟩ : Part) := Sh.pick_1 (z := z) (f := g) (t := t) h7 h11.1 h11.2
         have hpt : ¬ (Sh.pick z g t).tier < 0 := by rw [hp]; dsimp only; omega
         have hto := Sh.pick_to hpt
         have hnx := hI1.1.trans (Sh.chooseL_next (out := out) (by omega) hpt)
         have hpl := Sh.push_len out (Sh.pick z g t)
         rw [hp] at hto hnx hpl
         have hpu : Sh.push out _ = _ := Sh.push_new (p := (⟨1, g, (g + (Roll.step 1))⟩ : Part)) hs2 h13
         rw [hpu] at hnx hpl
         try dsimp only at hto
         try dsimp only at hnx
         try dsimp only at hpl
         exact ⟨hnx, by omega, by omega, by omega⟩
       have hp : Sh.pick z g t = (⟨1, g, (g + (Roll.step 1))⟩ : Part) := Sh.pick_1 (z := z) (f := g) (t := t) h7 h11.1 h11.2
       have hpt : ¬ (Sh.pick z g t).tier < 0 := by rw [hp]; dsimp only; omega
       have hto := Sh.pick_to hpt
       rw [hp] at hto
       try dsimp only at hto
       omega
     refine q_skip (wg rfl rfl rfl) rfl ?_
     refine q_skip (wg rfl rfl rfl) rfl ?_
     refine q_skip (wg rfl rfl rfl) rfl ?_
     refine q_skip (wg rfl rfl rfl) rfl ?_
     refine q_skip (wg rfl rfl rfl) rfl ?_
     refine q_skip (wg rfl rfl rfl) rfl ?_
     refine q_skip (wg rfl rfl rfl) rfl ?_
     refine q_skip (wg rfl rfl rfl) rfl ?_
     refine q_val wn (r_pick rfl rfl) rfl ?_
     refine q_end (e_go hK47 ?_)
     refine c_false rfl rfl ?_
     refine c_region ?_
     refine l_val wn (r_move rfl) rfl ?_
     refine l_val wn (r_lbn 3 [.int .i64 1, .int .i64 g, .int .i64 (g + (Roll.step 1))] rfl rfl rfl rfl agg61 inf61) rfl ?_
     refine l_bsL partE ([(⟨1, g, (g + (Roll.step 1))⟩ : Part)] : List Part) wn Try.underlying28 inf61 rfl rfl rfl rfl (by decide) (by decide) rfl fun b94 => ?_
     refine l_app 5 out ([(⟨1, g, (g + (Roll.step 1))⟩ : Part)] : List Part) encPart wn rfl rfl rfl (fun _ hM => (RowSl encPart hM 0 rfl)) Try.underlying28 inf61 rfl rfl (by first | omega | (simp only [List.length_append, List.length_cons, List.length_nil]; omega)) rfl fun A5 cp5 hc5 hm5 hA5 => ?_
     refine l_val wn (r_assign rfl) rfl ?_
     refine l_nil (e_go hK45 ?_)
     refine c_region ?_
     refine l_val wn (r_fa rfl fld61_2) rfl ?_
     refine l_val wn (r_lb 4 rfl rfl rfl flat3) rfl ?_
     refine l_val wn (r_assign rfl) rfl ?_
     refine l_nil (e_in_n (e_round3 (g + (Roll.step 1)) (out ++ ([(⟨1, g, (g + (Roll.step 1))⟩ : Part)] : List Part)) (.slice A5 ((out ++ ([(⟨1, g, (g + (Roll.step 1))⟩ : Part)] : List Part)).length) cp5) (sc rfl (sc rfl (sc rfl (sc rfl sn)))) (fun _ h => (h.sel [5, 6, 7, 8, 9, 10, 11] (by decide) rfl)) ?_ ?_))
     · have hp : Sh.pick z g t = (⟨1, g, (g + (Roll.step 1))⟩ : Part) := Sh.pick_1 (z := z) (f := g) (t := t) h7 h11.1 h11.2
       have hpt : ¬ (Sh.pick z g t).tier < 0 := by rw [hp]; dsimp only; omega
       have hto := Sh.pick_to hpt
       have hnx := hI1.1.trans (Sh.chooseL_next (out := out) (by omega) hpt)
       have hpl := Sh.push_len out (Sh.pick z g t)
       rw [hp] at hto hnx hpl
       have hpu : Sh.push out _ = _ := Sh.push_nil (p := (⟨1, g, (g + (Roll.step 1))⟩ : Part)) (by omega)
       rw [hpu] at hnx hpl
       try dsimp only at hto
       try dsimp only at hnx
       try dsimp only at hpl
       exact ⟨hnx, by omega, by omega, by omega⟩
     have hp : Sh.pick z g t = (⟨1, g, (g + (Roll.step 1))⟩ : Part) := Sh.pick_1 (z := z) (f := g) (t := t) h7 h11.1 h11.2
     have hpt : ¬ (Sh.pick z g t).tier < 0 := by rw [hp]; dsimp only; omega
     have hto := Sh.pick_to hpt
     rw [hp] at hto
     try dsimp only at hto
     omega
   refine c_skip (e_in_n (e_go hK35 ?_))
   refine c_region ?_
   refine l_val wn (r_addn rfl rfl (by omega)) rfl ?_
   refine l_val wn (r_move rfl) rfl ?_
   refine l_nil (e_goL hK32 ?_)
   refine c_round fun _ hK48 => ?_
   refine c_seq fun _ hK49 => ?_
   refine c_region ?_
   refine l_val wn (r_lss rfl rfl) rfl ?_
   refine l_nil (e_go hK49 ?_)
   refine c_seq fun _ hK50 => ?_
   refine c_true rfl (decide_eq_true (by decide)) ?_
   refine c_skip (e_go hK50 ?_)
   refine c_seq fun _ hK51 => ?_
   refine c_block ?_
   refine c_seq fun _ hK52 => ?_
   refine c_region ?_
   refine l_val wn (r_ia (i := 2) rfl rfl rfl (by omega) (by first | omega | decide) Try.underlying62 inf3) rfl ?_
   refine l_val wn (r_rl 2 encInt rfl rfl rfl (show ([2, 1, 0] : List Int)[2]? = some 0 from rfl) rfl flat3) rfl ?_
   refine l_val wn (r_assign rfl) rfl ?_
   refine l_nil (e_go hK52 ?_)
   refine c_seq fun _ hK53 => ?_
   refine c_region ?_
   refine l_val wn (r_move rfl) rfl ?_
   refine l_val wn (r_move rfl) rfl ?_
   refine l_callF wn rfl Try.call39 rfl (fun w1 hM => c_Step 0 w1) ?_
   refine l_val wn (r_addn rfl rfl (by omega)) rfl ?_
   refine l_val wn (r_assign rfl) rfl ?_
   refine l_nil (e_go hK53 ?_)
   refine c_seq fun _ hK54 => ?_
   refine c_seq fun _ hK55 => ?_
   refine c_region ?_
   refine l_val wn (r_move rfl) rfl ?_
   refine l_val wn (r_eql rfl rfl) rfl ?_
   refine l_nil (e_go hK55 ?_)
   refine c_true rfl (decide_eq_true (by decide)) ?_
   refine c_region ?_
   refine l_val wn (r_move rfl) rfl ?_
   refine l_val wn (r_move rfl) rfl ?_
   refine l_val wn (r_remn rfl rfl (by omega) (by omega)) rfl ?_
   refine l_val wn (r_subn rfl rfl (by omega)) rfl ?_
   refine l_val wn (r_addn rfl rfl (by omega)) rfl ?_
   refine l_val wn (r_move rfl) rfl ?_
   refine l_val wn (rv_i (show _ = (Sh.mn (g - g % 10 + 10) t) from rfl) (r_min rfl rfl)) rfl ?_
   refine l_val wn (r_assign rfl) rfl ?_
   refine l_nil (e_go hK54 ?_)
   refine c_seq fun _ hK56 => ?_
   refine c_region ?_
   refine l_val wn (r_move rfl) rfl ?_
   refine l_val wn (r_move rfl) rfl ?_
   refine l_val wn (r_move rfl) rfl ?_
   refine l_val wn (r_build [.int .i64 0, .int .i64 g, .int .i64 (Sh.mn (g - g % 10 + 10) t)] pl61 inf61 rfl rfl) rfl ?_
   refine l_alloc wn inf61 rfl fun b14_2 => ?_
   refine l_stn 0 wn rfl rfl rfl inf61 rfl rfl rfl ?_
   refine l_nil (e_go hK56 ?_)
   refine c_cut [(1, .int .i64 g), (2, .int .i64 t), (3, .pointer (some ⟨b3, 0, none⟩)), (9, .slice A1 out.length cp1), (10, .pointer (some ⟨b10, 0, none⟩)), (14, .pointer (some ⟨b14_2, 0, none⟩)), (36, .slice (some ⟨b36, 0, none⟩) 3 3), (37, .int .i64 3), (38, .int .i64 2), (65, .bool (decide (((Sh.mn (g - g % 10 + 10) t) ≤ t) ∧ (Sh.may z (⟨0, g, (Sh.mn (g - g % 10 + 10) t)⟩ : Part)))))] (Mem w ⟨no, P0⟩ [.blk b14_2 [.int .i64 0, .int .i64 g, .int .i64 (Sh.mn (g - g % 10 + 10) t)] 61, .blk b14_1 [.int .i64 1, .int .i64 g, .int .i64 (g + (Roll.step 1))] 61, .blk b14 [.int .i64 2, .int .i64 g, .int .i64 (g + (Roll.step 2))] 61, Row (.slice (some ⟨b36, 0, none⟩) 3 3) 3 1 intE ([2, 1, 0] : List Int), .blk b10 [.int .i64 (-1), .int .i64 0, .int .i64 0] 61, Row (.slice A1 out.length cp1) 61 3 partE out, Row (.slice none 0 0) 61 3 partE ([] : List Part), .blk b3 [.slice z0A z.series.length z0c, .slice z1A z.raw.length z1c, .slice z2A z.fine.length z2c, .slice z3A z.coarse.length z3c, .int .i64 z.rawFrom, .int .i64 z.fineFrom, .int .i64 z.fineTo, .int .i64 z.coarseFrom, .int .i64 z.coarseTo] 27, slP 2 labelE (.slice z0A z.series.length z0c) z.series, slP 2 sampleE (.slice z1A z.raw.length z1c) z.raw, slP 8 bucketE (.slice z2A z.fine.length z2c) z.fine, slP 8 bucketE (.slice z3A z.coarse.length z3c) z.coarse]) (fun _ hK57 => ?_) ?_
   · refine c_region ?_
     refine l_val wn (r_move rfl) rfl ?_
     refine l_val wn (r_move rfl) rfl ?_
     refine l_val wn (r_leq rfl rfl) rfl ?_
     refine l_val wn (r_move rfl) rfl ?_
     refine l_case (t := 62) rfl (fun h14 => ?_) (fun h14 => ?_)
     · refine l_val (wg rfl rfl rfl) (r_lbn 0 [.int .i64 0, .int .i64 g, .int .i64 (Sh.mn (g - g % 10 + 10) t)] rfl rfl rfl rfl agg61 inf61) rfl ?_
       refine l_callF (wg rfl rfl rfl) rfl Try.call37 rfl (fun w1 hM => c_may b3 _ _ _ _ z (⟨0, g, (Sh.mn (g - g % 10 + 10) t)⟩ : Part) w1 (hM.blk (i := 7) rfl)) ?_
       refine l_val wn (r_pick rfl rfl) rfl ?_
       refine l_nil (e_cut hK57 (sc rfl (sc rfl (sc rfl (sc rfl (sc rfl (sc rfl (sc rfl (sc rfl (sc rfl (sc (jp (iff_and_right h14 Iff.rfl)) sn)))))))))) (fun _ h => h))
     refine l_skip (wg rfl rfl rfl) rfl ?_
     refine l_skip (wg rfl rfl rfl) rfl ?_
     refine l_val wn (r_pick rfl rfl) rfl ?_
     refine l_nil (e_cut hK57 (sc rfl (sc rfl (sc rfl (sc rfl (sc rfl (sc rfl (sc rfl (sc rfl (sc rfl (sc (jf (fun g => h14 g.1)) sn)))))))))) (fun _ h => h))
   refine c_cond rfl (fun h15 => ?_) (fun h15 => ?_)
   · refine c_seq fun _ hK58 => ?_
     refine c_region ?_
     refine l_val wn (r_lbn 0 [.int .i64 0, .int .i64 g, .int .i64 (Sh.mn (g - g % 10 + 10) t)] rfl rfl rfl rfl agg61 inf61) rfl ?_
     refine l_stn 4 wn rfl rfl rfl inf61 rfl rfl rfl ?_
     refine l_nil (e_go hK58 ?_)
     refine c_exit (e_in_miss rfl (e_then_x (e_then_x (e_in_hit (e_go hK14 ?_)))))
     refine c_seq fun _ hK59 => ?_
     refine c_seq fun _ hK60 => ?_
     refine c_region ?_
     refine l_val wn (r_fa rfl fld61_0) rfl ?_
     refine l_val wn (r_lb 4 rfl rfl rfl flat3) rfl ?_
     refine l_val wn (r_lss rfl rfl) rfl ?_
     refine l_nil (e_go hK60 ?_)
     refine c_false rfl (decide_eq_false (by decide)) ?_
     refine c_skip (e_go hK59 ?_)
     refine c_seq fun _ hK61 => ?_
     refine c_seq fun _ hK62 => ?_
     refine c_region ?_
     refine l_val wn (r_move rfl) rfl ?_
     refine l_val wn (r_len rfl Try.underlying28) rfl ?_
     refine l_val wn (r_subn rfl rfl (by omega)) rfl ?_
     refine l_val wn (r_assign rfl) rfl ?_
     refine l_nil (e_go hK62 ?_)
     refine c_seq fun _ hK63 => ?_
     refine c_quiet mix (by kernel_rfl) (fun _ h => h.drew) ?_
     refine q_val wn (r_move rfl) rfl ?_
     refine q_val wn (r_geq rfl rfl) rfl ?_
     refine q_val wn (r_move rfl) rfl ?_
     refine q_case (t := 76) rfl (fun h16 => ?_) (fun h16 => ?_)
     · refine q_val (wg rfl rfl rfl) (r_move rfl) rfl ?_
       refine q_val (wg rfl rfl rfl) (r_move rfl) rfl ?_
       obtain ⟨ad3, hd3⟩ := hA1 (ne_nil (i := (out.length - 1)) (by first | omega | decide))
       refine q_val (wg rfl rfl rfl) (r_ia (i := (out.length - 1)) rfl hd3 rfl (by omega) (by first | omega | decide) Try.underlying28 inf61) rfl ?_
       refine q_val (wg rfl rfl rfl) (r_fe rfl fld61_0) rfl ?_
       obtain ⟨s3, hs3⟩ : ∃ x, out[(out.length - 1)]? = some x := ⟨_, List.getElem?_eq_getElem (by first | omega | decide)⟩
       refine q_val (wg rfl rfl rfl) (r_rl 5 encPart rfl rfl hd3 hs3 rfl flat3) rfl ?_
       refine q_val (wg rfl rfl rfl) (r_fa rfl fld61_0) rfl ?_
       refine q_val (wg rfl rfl rfl) (r_lb 4 rfl rfl rfl flat3) rfl ?_
       refine q_val (wg rfl rfl rfl) (r_eql rfl rfl) rfl ?_
       refine q_val wn (r_pick rfl rfl) rfl ?_
       refine q_end (e_go hK63 ?_)
       refine c_cond rfl (fun h17 => ?_) (fun h17 => ?_)
       · refine c_region ?_
         refine l_val wn (r_move rfl) rfl ?_
         refine l_val wn (r_move rfl) rfl ?_
         refine l_val wn (r_fa rfl fld61_2) rfl ?_
         refine l_val wn (r_lb 4 rfl rfl rfl flat3) rfl ?_
         refine l_val wn (r_ia (i := (out.length - 1)) rfl hd3 rfl (by omega) (by first | omega | decide) Try.underlying28 inf61) rfl ?_
         refine l_val wn (r_fe rfl fld61_2) rfl ?_
         refine l_rst 5 (vs := [.int .i64 (Sh.mn (g - g % 10 + 10) t)]) (⟨s3.tier, s3.frm, (Sh.mn (g - g % 10 + 10) t)⟩ : Part) encPart wn rfl rfl rfl rfl hd3 hs3 inf3 rfl rfl rfl rfl ?_
         refine l_nil (e_go hK61 ?_)
         refine c_region ?_
         refine l_val wn (r_fa rfl fld61_2) rfl ?_
         refine l_val wn (r_lb 4 rfl rfl rfl flat3) rfl ?_
         refine l_val wn (r_assign rfl) rfl ?_
         refine l_nil (e_in_n (e_round3 (Sh.mn (g - g % 10 + 10) t) (out.set (out.length - 1) (⟨s3.tier, s3.frm, (Sh.mn (g - g % 10 + 10) t)⟩ : Part)) (.slice A1 out.length cp1) (sc rfl (sc rfl (sc rfl (sc rfl sn)))) (fun _ h => (h.sel [5, 6, 7, 8, 9, 10, 11] (by decide) rfl)) ?_ ?_))
         · have hp := Sh.pick_0 (z := z) (f := g) (t := t) h7 h11 h15.1 h15.2
           have hpt : ¬ (Sh.pick z g t).tier < 0 := by rw [hp]; dsimp only; omega
           have hto := Sh.pick_to hpt
           have hnx := hI1.1.trans (Sh.chooseL_next (out := out) (by omega) hpt)
           have hpl := Sh.push_len out (Sh.pick z g t)
           rw [hp] at hto hnx hpl
           have hpu : Sh.push out _ = _ := Sh.push_last (p := (⟨0, g, (Sh.mn (g - g % 10 + 10) t)⟩ : Part)) hs3 h17
           rw [hpu] at hnx hpl
           try dsimp only at hto
           try dsimp only at hnx
           try dsimp only at hpl
           exact ⟨hnx, by omega, by omega, by omega⟩
         have hp := Sh.pick_0 (z := z) (f := g) (t := t) h7 h11 h15.1 h15.2
         have hpt : ¬ (Sh.pick z g t).tier < 0 := by rw [hp]; dsimp only; omega
         have hto := Sh.pick_to hpt
         rw [hp] at hto
         try dsimp only at hto
         omega
       refine c_region ?_
       refine l_val wn (r_move rfl) rfl ?_
       refine l_val wn (r_lbn 4 [.int .i64 0, .int .i64 g, .int .i64 (Sh.mn (g - g % 10 + 10) t)] rfl rfl rfl rfl agg61 inf61) rfl ?_
       refine l_bsL partE ([(⟨0, g, (Sh.mn (g - g % 10 + 10) t)⟩ : Part)] : List Part) wn Try.underlying28 inf61 rfl rfl rfl rfl (by decide) (by decide) rfl fun b94 => ?_
       refine l_app 6 out ([(⟨0, g, (Sh.mn (g - g % 10 + 10) t)⟩ : Part)] : List Part) encPart wn rfl rfl rfl (fun _ hM => (RowSl encPart hM 0 rfl)) Try.underlying28 inf61 rfl rfl (by first | omega | (simp only [List.length_append, List.length_cons, List.length_nil]; omega)) rfl fun A6 cp6 hc6 hm6 hA6 => ?_
       refine l_val wn (r_assign rfl) rfl ?_
       refine l_nil (e_go hK61 ?_)
       refine c_region ?_
       refine l_val wn (r_fa rfl fld61_2) rfl ?_
       refine l_val wn (r_lb 5 rfl rfl rfl flat3) rfl ?_
       refine l_val wn (r_assign rfl) rfl ?_
       refine l_nil (e_in_n (e_round3 (Sh.mn (g - g % 10 + 10) t) (out ++ ([(⟨0, g, (Sh.mn (g - g % 10 + 10) t)⟩ : Part)] : List Part)) (.slice A6 ((out ++ ([(⟨0, g, (Sh.mn (g - g % 10 + 10) t)⟩ : Part)] : List Part)).length) cp6) (sc rfl (sc rfl (sc rfl (sc rfl sn)))) (fun _ h => (h.sel [6, 7, 8, 9, 10, 11, 12] (by decide) rfl)) ?_ ?_))
       · have hp := Sh.pick_0 (z := z) (f := g) (t := t) h7 h11 h15.1 h15.2
         have hpt : ¬ (Sh.pick z g t).tier < 0 := by rw [hp]; dsimp only; omega
         have hto := Sh.pick_to hpt
         have hnx := hI1.1.trans (Sh.chooseL_next (out := out) (by omega) hpt)
         have hpl := Sh.push_len out (Sh.pick z g t)
         rw [hp] at hto hnx hpl
         have hpu : Sh.push out _ = _ := Sh.push_new (p := (⟨0, g, (Sh.mn (g - g % 10 + 10) t)⟩ : Part)) hs3 h17
         rw [hpu] at hnx hpl
         try dsimp only at hto
         try dsimp only at hnx
         try dsimp only at hpl
         exact ⟨hnx, by omega, by omega, by omega⟩
       have hp := Sh.pick_0 (z := z) (f := g) (t := t) h7 h11 h15.1 h15.2
       have hpt : ¬ (Sh.pick z g t).tier < 0 := by rw [hp]; dsimp only; omega
       have hto := Sh.pick_to hpt
       rw [hp] at hto
       try dsimp only at hto
       omega
     refine q_skip (wg rfl rfl rfl) rfl ?_
     refine q_skip (wg rfl rfl rfl) rfl ?_
     refine q_skip (wg rfl rfl rfl) rfl ?_
     refine q_skip (wg rfl rfl rfl) rfl ?_
     refine q_skip (wg rfl rfl rfl) rfl ?_
     refine q_skip (wg rfl rfl rfl) rfl ?_
     refine q_skip (wg rfl rfl rfl) rfl ?_
     refine q_skip (wg rfl rfl rfl) rfl ?_
     refine q_val wn (r_pick rfl rfl) rfl ?_
     refine q_end (e_go hK63 ?_)
     refine c_false rfl rfl ?_
     refine c_region ?_
     refine l_val wn (r_move rfl) rfl ?_
     refine l_val wn (r_lbn 4 [.int .i64 0, .int .i64 g, .int .i64 (Sh.mn (g - g % 10 + 10) t)] rfl rfl rfl rfl agg61 inf61) rfl ?_
     refine l_bsL partE ([(⟨0, g, (Sh.mn (g - g % 10 + 10) t)⟩ : Part)] : List Part) wn Try.underlying28 inf61 rfl rfl rfl rfl (by decide) (by decide) rfl fun b94 => ?_
     refine l_app 6 out ([(⟨0, g, (Sh.mn (g - g % 10 + 10) t)⟩ : Part)] : List Part) encPart wn rfl rfl rfl (fun _ hM => (RowSl encPart hM 0 rfl)) Try.underlying28 inf61 rfl rfl (by first | omega | (simp only [List.length_append, List.length_cons, List.length_nil]; omega)) rfl fun A7 cp7 hc7 hm7 hA7 => ?_
     refine l_val wn (r_assign rfl) rfl ?_
     refine l_nil (e_go hK61 ?_)
     refine c_region ?_
     refine l_val wn (r_fa rfl fld61_2) rfl ?_
     refine l_val wn (r_lb 5 rfl rfl rfl flat3) rfl ?_
     refine l_val wn (r_assign rfl) rfl ?_
     refine l_nil (e_in_n (e_round3 (Sh.mn (g - g % 10 + 10) t) (out ++ ([(⟨0, g, (Sh.mn (g - g % 10 + 10) t)⟩ : Part)] : List Part)) (.slice A7 ((out ++ ([(⟨0, g, (Sh.mn (g - g % 10 + 10) t)⟩ : Part)] : List Part)).length) cp7) (sc rfl (sc rfl (sc rfl (sc rfl sn)))) (fun _ h => (h.sel [6, 7, 8, 9, 10, 11, 12] (by decide) rfl)) ?_ ?_))
     · have hp := Sh.pick_0 (z := z) (f := g) (t := t) h7 h11 h15.1 h15.2
       have hpt : ¬ (Sh.pick z g t).tier < 0 := by rw [hp]; dsimp only; omega
       have hto := Sh.pick_to hpt
       have hnx := hI1.1.trans (Sh.chooseL_next (out := out) (by omega) hpt)
       have hpl := Sh.push_len out (Sh.pick z g t)
       rw [hp] at hto hnx hpl
       have hpu : Sh.push out _ = _ := Sh.push_nil (p := (⟨0, g, (Sh.mn (g - g % 10 + 10) t)⟩ : Part)) (by omega)
       rw [hpu] at hnx hpl
       try dsimp only at hto
       try dsimp only at hnx
       try dsimp only at hpl
       exact ⟨hnx, by omega, by omega, by omega⟩
     have hp := Sh.pick_0 (z := z) (f := g) (t := t) h7 h11 h15.1 h15.2
     have hpt : ¬ (Sh.pick z g t).tier < 0 := by rw [hp]; dsimp only; omega
     have hto := Sh.pick_to hpt
     rw [hp] at hto
     try dsimp only at hto
     omega
   refine c_skip (e_in_n (e_go hK51 ?_))
   refine c_region ?_
   refine l_val wn (r_addn rfl rfl (by omega)) rfl ?_
   refine l_val wn (r_move rfl) rfl ?_
   refine l_nil (e_goL hK48 ?_)
   refine c_round fun _ hK64 => ?_
   refine c_seq fun _ hK65 => ?_
   refine c_region ?_
   refine l_val wn (r_lss rfl rfl) rfl ?_
   refine l_nil (e_go hK65 ?_)
   refine c_seq fun _ hK66 => ?_
   refine c_false rfl (decide_eq_false (by decide)) ?_
   refine c_exit (e_then_x (e_then_x (e_in_hit (e_go hK14 ?_))))
   refine c_seq fun _ hK67 => ?_
   refine c_seq fun _ hK68 => ?_
   refine c_region ?_
   refine l_val wn (r_fa rfl fld61_0) rfl ?_
   refine l_val wn (r_lb 4 rfl rfl rfl flat3) rfl ?_
   refine l_val wn (r_lss rfl rfl) rfl ?_
   refine l_nil (e_go hK68 ?_)
   refine c_true rfl (decide_eq_true (by decide)) ?_
   refine c_seq fun _ hK69 => ?_
   refine c_region ?_
   refine l_nilRow (partE : Part → List Value) 61 3 ?_
   refine l_val wn (r_assign rfl) rfl ?_
   refine l_val wn (r_assign rfl) rfl ?_
   refine l_nil (e_go hK69 ?_)
   refine c_ret (e_then_r (e_in_r (e_loop3_r (e_in_r (e_then_r (e_ret2 (.inl rfl) Try.results14 (rv_tmp rfl) (rv_tmp rfl) fun w1 hM => ?_))))))
   have hp := Sh.pick_no (z := z) (f := g) (t := t) h7 h11 h15
   have he : Sh.choose z f t = (([] : List Part), 10) := Sh.choose_gone h1 (by omega) hI1.1 (by omega) (by rw [hp]; decide)
   exact hM.retLT 0 rfl (by rw [he]) (by rw [he])
 refine c_exit (e_then_x (e_loop3_x (e_in_hit (e_go hK10 ?_))))
 refine c_seq fun _ hK70 => ?_
 refine c_region ?_
 refine l_val wn (r_move rfl) rfl ?_
 refine l_val wn (r_assign rfl) rfl ?_
 refine l_val wn (r_assign rfl) rfl ?_
 refine l_nil (e_go hK70 ?_)
 refine c_ret (e_ret2 (.inl rfl) Try.results14 (rv_tmp rfl) (rv_tmp rfl) fun w1 hM => ?_)
 have he : Sh.choose z f t = (out, 0) := Sh.choose_end h1 (by omega) hI1.1 (by omega)
 exact hM.retLT 0 rfl (by rw [he]) (by rw [he])

set_option maxHeartbeats 4000000 in
theorem c_refChoose (z0 : Value) (z1 : Value) (z2 : Value) (z3 : Value) (z : Shelf) (f : Int) (t : Int) (P0 : Nat → Prop) (w : World) (hP0 : ∀ b, P0 b → b < w.heap.size) (hz0 : FlatSl P0 2 labelE z0 z.series w) (hz1 : FlatSl P0 2 sampleE z1 z.raw w) (hz2 : FlatSl P0 8 bucketE z2 z.fine w) (hz3 : FlatSl P0 8 bucketE z3 z.coarse w) (hok : ∀ x ∈ z.series, x.key.size ≤ 9223372036854775807 ∧ x.val.size ≤ 9223372036854775807) :
    Calls Try.prog 15 #[.agg (List.toArray [z0, z1, z2, z3, .int .i64 z.rawFrom, .int .i64 z.fineFrom, .int .i64 z.fineTo, .int .i64 z.coarseFrom, .int .i64 z.coarseTo]), .int .i64 f, .int .i64 t] w (RetLT w 61 3 partE (Sh.choose z f t).1 (fun r => .tuple [r, .int .i64 (Sh.choose z f t).2].toArray)) := by
 obtain ⟨z0A, z0c, rfl, hz0c, hz0m, hz0A⟩ := hz0.form
 obtain ⟨z1A, z1c, rfl, hz1c, hz1m, hz1A⟩ := hz1.form
 obtain ⟨z2A, z2c, rfl, hz2c, hz2m, hz2A⟩ := hz2.form
 obtain ⟨z3A, z3c, rfl, hz3c, hz3m, hz3A⟩ := hz3.form
 refine fstart (N := 107) (vals := [.agg (List.toArray [.slice z0A z.series.length z0c, .slice z1A z.raw.length z1c, .slice z2A z.fine.length z2c, .slice z3A z.coarse.length z3c, .int .i64 z.rawFrom, .int .i64 z.fineFrom, .int .i64 z.fineTo, .int .i64 z.coarseFrom, .int .i64 z.coarseTo]), .int .i64 f, .int .i64 t]) (S := Mem w ⟨no, P0⟩ [slP 2 labelE (.slice z0A z.series.length z0c) z.series, slP 2 sampleE (.slice z1A z.raw.length z1c) z.raw, slP 8 bucketE (.slice z2A z.fine.length z2c) z.fine, slP 8 bucketE (.slice z3A z.coarse.length z3c) z.coarse]) Try.func15 rfl rfl rfl (Mem.ofDatsP hP0 (dc (dlp hz0) (dc (dlp hz1) (dc (dlp hz2) (dc (dlp hz3) dn))))) ?_
 refine c_seq fun _ hK1 => ?_
 refine c_region ?_
 refine l_box wn rfl rfl fun b3 => ?_
 refine l_nilRow (partE : Part → List Value) 61 3 ?_
 refine l_val wn (r_assign rfl) rfl ?_
 refine l_val wn (r_assign rfl) rfl ?_
 refine l_nil (e_go hK1 ?_)
 refine c_seq fun _ hK2 => ?_
 refine c_seq fun _ hK3 => ?_
 refine c_region ?_
 refine l_val wn (r_lbn 1 [.slice z0A z.series.length z0c, .slice z1A z.raw.length z1c, .slice z2A z.fine.length z2c, .slice z3A z.coarse.length z3c, .int .i64 z.rawFrom, .int .i64 z.fineFrom, .int .i64 z.fineTo, .int .i64 z.coarseFrom, .int .i64 z.coarseTo] rfl rfl rfl rfl agg27 inf27) rfl ?_
 refine l_callF wn rfl Try.call20 rfl (fun w1 hM => c_refShWrong _ _ _ _ z (In w1) w1 (fun _ h => h) (hM.slp 2 rfl) (hM.slp 3 rfl) (hM.slp 4 rfl) (hM.slp 5 rfl) (by exact hok)) ?_
 refine l_val wn (r_assign rfl) rfl ?_
 refine l_nil (e_go hK3 ?_)
 refine c_seq fun _ hK4 => ?_
 refine c_region ?_
 refine l_val wn (r_move rfl) rfl ?_
 refine l_val wn (r_neq rfl rfl) rfl ?_
 refine l_nil (e_go hK4 ?_)
 refine c_cond rfl (fun h1 => ?_) (fun h1 => ?_)
 · refine c_seq fun _ hK5 => ?_
   refine c_region ?_
   refine l_val wn (r_move rfl) rfl ?_
   refine l_nilRow (partE : Part → List Value) 61 3 ?_
   refine l_val wn (r_assign rfl) rfl ?_
   refine l_val wn (r_assign rfl) rfl ?_
   refine l_nil (e_go hK5 ?_)
   refine c_ret (e_then_r (e_ret2 (.inl rfl) Try.results15 (rv_tmp rfl) (rv_tmp rfl) fun w1 hM => ?_))
   have he : Sh.choose z f t = (([] : List Part), (Sh.wrong z)) := Sh.choose_wrong h1
   exact hM.retLT 0 rfl (by rw [he]) (by rw [he])
 have hs2 : Roll.step 2 = 60 := rfl
 have hs1_ : Roll.step 1 = 10 := rfl
 have hs0 : Roll.step 0 = 0 := rfl
 refine c_skip (e_go hK2 ?_)
 refine c_seq fun _ hK6 => ?_
 refine c_cut [(1, .int .i64 f), (2, .int .i64 t), (3, .pointer (some ⟨b3, 0, none⟩)), (28, .bool (decide ((f < 0) ∨ ((t < f) ∨ (1000000 < t)))))] (Mem w ⟨no, P0⟩ [Row (.slice none 0 0) 61 3 partE ([] : List Part), .blk b3 [.slice z0A z.series.length z0c, .slice z1A z.raw.length z1c, .slice z2A z.fine.length z2c, .slice z3A z.coarse.length z3c, .int .i64 z.rawFrom, .int .i64 z.fineFrom, .int .i64 z.fineTo, .int .i64 z.coarseFrom, .int .i64 z.coarseTo] 27, slP 2 labelE (.slice z0A z.series.length z0c) z.series, slP 2 sampleE (.slice z1A z.raw.length z1c) z.raw, slP 8 bucketE (.slice z2A z.fine.length z2c) z.fine, slP 8 bucketE (.slice z3A z.coarse.length z3c) z.coarse]) (fun _ hK7 => ?_) ?_
 · refine c_region ?_
   refine l_val wn (r_move rfl) rfl ?_
   refine l_val wn (r_lss rfl rfl) rfl ?_
   refine l_val wn (r_move rfl) rfl ?_
   refine l_case (t := 20) rfl (fun h2 => ?_) (fun h2 => ?_)
   · refine l_skip (wg rfl rfl rfl) rfl ?_
     refine l_skip (wg rfl rfl rfl) rfl ?_
     refine l_skip (wg rfl rfl rfl) rfl ?_
     refine l_val wn (r_pick rfl rfl) rfl ?_
     refine l_val wn (r_move rfl) rfl ?_
     refine l_skip (wg rfl rfl rfl) rfl ?_
     refine l_skip (wg rfl rfl rfl) rfl ?_
     refine l_val wn (r_pick rfl rfl) rfl ?_
     refine l_nil (e_cut hK7 (sc rfl (sc rfl (sc rfl (sc (jt (Or.inl h2)) sn)))) (fun _ h => h))
   refine l_val (wg rfl rfl rfl) (r_move rfl) rfl ?_
   refine l_val (wg rfl rfl rfl) (r_move rfl) rfl ?_
   refine l_val (wg rfl rfl rfl) (r_gtr rfl rfl) rfl ?_
   refine l_val wn (r_pick rfl rfl) rfl ?_
   refine l_val wn (r_move rfl) rfl ?_
   refine l_case (t := 25) rfl (fun h3 => ?_) (fun h3 => ?_)
   · refine l_skip (wg rfl rfl rfl) rfl ?_
     refine l_skip (wg rfl rfl rfl) rfl ?_
     refine l_val wn (r_pick rfl rfl) rfl ?_
     refine l_nil (e_cut hK7 (sc rfl (sc rfl (sc rfl (sc (jt (Or.inr (Or.inl h3))) sn)))) (fun _ h => h))
   refine l_val (wg rfl rfl rfl) (r_move rfl) rfl ?_
   refine l_val (wg rfl rfl rfl) (r_gtr rfl rfl) rfl ?_
   refine l_val wn (r_pick rfl rfl) rfl ?_
   refine l_nil (e_cut hK7 (sc rfl (sc rfl (sc rfl (sc (jp (iff_or_right h2 (iff_or_right h3 Iff.rfl))) sn)))) (fun _ h => h))
 refine c_cond rfl (fun h4 => ?_) (fun h4 => ?_)
 · refine c_seq fun _ hK8 => ?_
   refine c_region ?_
   refine l_nilRow (partE : Part → List Value) 61 3 ?_
   refine l_val wn (r_assign rfl) rfl ?_
   refine l_val wn (r_assign rfl) rfl ?_
   refine l_nil (e_go hK8 ?_)
   refine c_ret (e_then_r (e_ret2 (.inl rfl) Try.results15 (rv_tmp rfl) (rv_tmp rfl) fun w1 hM => ?_))
   have he : Sh.choose z f t = (([] : List Part), 3) := Sh.choose_range h1 (by omega)
   exact hM.retLT 0 rfl (by rw [he]) (by rw [he])
 refine c_skip (e_go hK6 ?_)
 refine c_seq fun _ hK9 => ?_
 refine c_region ?_
 refine l_nilRow (partE : Part → List Value) 61 3 ?_
 refine l_val wn (r_assign rfl) rfl ?_
 refine l_nil (e_go hK9 ?_)
 refine c_seq fun _ hK10 => ?_
 refine c_region ?_
 refine l_val wn (r_move rfl) rfl ?_
 refine l_val wn (r_assign rfl) rfl ?_
 refine l_nil (e_go hK10 ?_)
 refine c_seq fun _ hK11 => ?_
 refine c_block ?_
 refine c_loop3 (fun (g : Int) (out : List Part) (vr : Value) => [(2, .int .i64 t), (3, .pointer (some ⟨b3, 0, none⟩)), (9, vr), (10, .int .i64 g)]) (fun (g : Int) (out : List Part) (vr : Value) => [Row vr 61 3 partE out, Row (.slice none 0 0) 61 3 partE ([] : List Part), .blk b3 [.slice z0A z.series.length z0c, .slice z1A z.raw.length z1c, .slice z2A z.fine.length z2c, .slice z3A z.coarse.length z3c, .int .i64 z.rawFrom, .int .i64 z.fineFrom, .int .i64 z.fineTo, .int .i64 z.coarseFrom, .int .i64 z.coarseTo] 27, slP 2 labelE (.slice z0A z.series.length z0c) z.series, slP 2 sampleE (.slice z1A z.raw.length z1c) z.raw, slP 8 bucketE (.slice z2A z.fine.length z2c) z.fine, slP 8 bucketE (.slice z3A z.coarse.length z3c) z.coarse]) (fun (g : Int) (out : List Part) (vr : Value) => (Sh.chooseL z f t [] = Sh.chooseL z g t out) ∧ 0 ≤ g ∧ g ≤ t ∧ (out.length : Int) ≤ g) (fun (g : Int) (out : List Part) (vr : Value) => (t - g).toNat) f [] (.slice none 0 0) (sc rfl (sc rfl (sc rfl (sc rfl sn)))) (fun _ h => h) ?_ (fun g out vr hI1 => ?_)
 · exact ⟨rfl, by omega, by omega, by simp; omega⟩
 refine c_open 0 (l := out) rfl fun A1 cp1 hv1 hc1 hm1 hA1 => ?_
 subst hv1
 refine c_seq fun _ hK12 => ?_
 refine c_seq fun _ hK13 => ?_
 refine c_region ?_
 refine l_val wn (r_move rfl) rfl ?_
 refine l_val wn (r_move rfl) rfl ?_
 refine l_val wn (r_lss rfl rfl) rfl ?_
 refine l_nil (e_go hK13 ?_)
 refine c_cond rfl (fun h5 => ?_) (fun h5 => ?_)
 · refine c_skip (e_go hK12 ?_)
   refine c_block ?_
   refine c_seq fun _ hK14 => ?_
   refine c_region ?_
   refine l_alloc wn inf61 rfl fun b11 => ?_
   refine l_nil (e_go hK14 ?_)
   refine c_seq fun _ hK15 => ?_
   refine c_block ?_
   refine c_cut [(2, .int .i64 t), (3, .pointer (some ⟨b3, 0, none⟩)), (9, .slice A1 out.length cp1), (10, .int .i64 g), (11, .pointer (some ⟨b11, 0, none⟩)), (45, .bool (decide (((g + 60) ≤ t) ∧ (Sh.may z (⟨2, g, (g + 60)⟩ : Part)))))] (Mem w ⟨no, P0⟩ [.blk b11 [.int .i64 0, .int .i64 0, .int .i64 0] 61, Row (.slice A1 out.length cp1) 61 3 partE out, Row (.slice none 0 0) 61 3 partE ([] : List Part), .blk b3 [.slice z0A z.series.length z0c, .slice z1A z.raw.length z1c, .slice z2A z.fine.length z2c, .slice z3A z.coarse.length z3c, .int .i64 z.rawFrom, .int .i64 z.fineFrom, .int .i64 z.fineTo, .int .i64 z.coarseFrom, .int .i64 z.coarseTo] 27, slP 2 labelE (.slice z0A z.series.length z0c) z.series, slP 2 sampleE (.slice z1A z.raw.length z1c) z.raw, slP 8 bucketE (.slice z2A z.fine.length z2c) z.fine, slP 8 bucketE (.slice z3A z.coarse.length z3c) z.coarse]) (fun _ hK16 => ?_) ?_
   · refine c_region ?_
     refine l_val wn (r_move rfl) rfl ?_
     refine l_val wn (r_addn rfl rfl (by omega)) rfl ?_
     refine l_val wn (r_move rfl) rfl ?_
     refine l_val wn (r_leq rfl rfl) rfl ?_
     refine l_val wn (r_move rfl) rfl ?_
     refine l_case (t := 50) rfl (fun h6 => ?_) (fun h6 => ?_)
     · refine l_val (wg rfl rfl rfl) (r_lbn 3 [.slice z0A z.series.length z0c, .slice z1A z.raw.length z1c, .slice z2A z.fine.length z2c, .slice z3A z.coarse.length z3c, .int .i64 z.rawFrom, .int .i64 z.fineFrom, .int .i64 z.fineTo, .int .i64 z.coarseFrom, .int .i64 z.coarseTo] rfl rfl rfl rfl agg27 inf27) rfl ?_
       refine l_val (wg rfl rfl rfl) (r_move rfl) rfl ?_
       refine l_val (wg rfl rfl rfl) (r_move rfl) rfl ?_
       refine l_val (wg rfl rfl rfl) (r_addn rfl rfl (by omega)) rfl ?_
       refine l_val (wg rfl rfl rfl) (r_build [.int .i64 2, .int .i64 g, .int .i64 (g + 60)] pl61 inf61 rfl rfl) rfl ?_
       refine l_callF (wg rfl rfl rfl) rfl Try.call38 rfl (fun w1 hM => c_refMay _ _ _ _ z (⟨2, g, (g + 60)⟩ : Part) (In w1) w1 (fun _ h => h) (hM.slp 4 rfl) (hM.slp 5 rfl) (hM.slp 6 rfl) (hM.slp 7 rfl)) ?_
       refine l_val wn (r_pick rfl rfl) rfl ?_
       refine l_val wn (r_assign rfl) rfl ?_
       refine l_nil (e_cut hK16 (sc rfl (sc rfl (sc rfl (sc rfl (sc rfl (sc (jp (iff_and_right h6 Iff.rfl)) sn)))))) (fun _ h => h))
     refine l_skip (wg rfl rfl rfl) rfl ?_
     refine l_skip (wg rfl rfl rfl) rfl ?_
     refine l_skip (wg rfl rfl rfl) rfl ?_
     refine l_skip (wg rfl rfl rfl) rfl ?_
     refine l_skip (wg rfl rfl rfl) rfl ?_
     refine l_skip (wg rfl rfl rfl) rfl ?_
     refine l_val wn (r_pick rfl rfl) rfl ?_
     refine l_val wn (r_assign rfl) rfl ?_
     refine l_nil (e_cut hK16 (sc rfl (sc rfl (sc rfl (sc rfl (sc rfl (sc (jf (fun g => h6 g.1)) sn)))))) (fun _ h => h))
   refine c_cond rfl (fun h7 => ?_) (fun h7 => ?_)
   · refine c_region ?_
     refine l_val wn (r_move rfl) rfl ?_
     refine l_val wn (r_move rfl) rfl ?_
     refine l_val wn (r_addn rfl rfl (by omega)) rfl ?_
     refine l_val wn (r_build [.int .i64 2, .int .i64 g, .int .i64 (g + 60)] pl61 inf61 rfl rfl) rfl ?_
     refine l_stn 0 wn rfl rfl rfl inf61 rfl rfl rfl ?_
     refine l_nil (e_in_n (e_go hK15 ?_))
     refine c_seq fun _ hK17 => ?_
     refine c_region ?_
     refine l_val wn (r_fa rfl fld61_2) rfl ?_
     refine l_val wn (r_lb 0 rfl rfl rfl flat3) rfl ?_
     refine l_val wn (r_assign rfl) rfl ?_
     refine l_nil (e_go hK17 ?_)
     refine c_seq fun _ hK18 => ?_
     refine c_seq fun _ hK19 => ?_
     refine c_region ?_
     refine l_val wn (r_move rfl) rfl ?_
     refine l_val wn (r_len rfl Try.underlying28) rfl ?_
     refine l_val wn (r_assign rfl) rfl ?_
     refine l_nil (e_go hK19 ?_)
     refine c_seq fun _ hK20 => ?_
     refine c_quiet mix (by kernel_rfl) (fun _ h => h.drew) ?_
     refine q_val wn (r_move rfl) rfl ?_
     refine q_val wn (r_gtr rfl rfl) rfl ?_
     refine q_val wn (r_move rfl) rfl ?_
     refine q_case (t := 85) rfl (fun h8 => ?_) (fun h8 => ?_)
     · refine q_val (wg rfl rfl rfl) (r_move rfl) rfl ?_
       refine q_val (wg rfl rfl rfl) (r_move rfl) rfl ?_
       refine q_val (wg rfl rfl rfl) (r_subn rfl rfl (by omega)) rfl ?_
       obtain ⟨ad1, hd1⟩ := hA1 (ne_nil (i := (out.length - 1)) (by first | omega | decide))
       refine q_val (wg rfl rfl rfl) (r_ia (i := (out.length - 1)) rfl hd1 rfl (by omega) (by first | omega | decide) Try.underlying28 inf61) rfl ?_
       refine q_val (wg rfl rfl rfl) (r_fe rfl fld61_0) rfl ?_
       obtain ⟨s1, hs1⟩ : ∃ x, out[(out.length - 1)]? = some x := ⟨_, List.getElem?_eq_getElem (by first | omega | decide)⟩
       refine q_val (wg rfl rfl rfl) (r_rl 1 encPart rfl rfl hd1 hs1 rfl flat3) rfl ?_
       refine q_val (wg rfl rfl rfl) (r_fa rfl fld61_0) rfl ?_
       refine q_val (wg rfl rfl rfl) (r_lb 0 rfl rfl rfl flat3) rfl ?_
       refine q_val (wg rfl rfl rfl) (r_eql rfl rfl) rfl ?_
       refine q_val wn (r_pick rfl rfl) rfl ?_
       refine q_end (e_go hK20 ?_)
       refine c_cond rfl (fun h9 => ?_) (fun h9 => ?_)
       · refine c_seq fun _ hK21 => ?_
         refine c_region ?_
         refine l_val wn (r_move rfl) rfl ?_
         refine l_val wn (r_move rfl) rfl ?_
         refine l_val wn (r_subn rfl rfl (by omega)) rfl ?_
         refine l_val wn (r_move rfl) rfl ?_
         refine l_val wn (r_ia (i := (out.length - 1)) rfl hd1 rfl (by omega) (by first | omega | decide) Try.underlying28 inf61) rfl ?_
         refine l_val wn (r_fe rfl fld61_2) rfl ?_
         refine l_rst 1 (vs := [.int .i64 (g + 60)]) (⟨s1.tier, s1.frm, (g + 60)⟩ : Part) encPart wn rfl rfl rfl rfl hd1 hs1 inf3 rfl rfl rfl rfl ?_
         refine l_nil (e_go hK21 ?_)
         refine c_exit (e_then_x (e_in_hit (e_round3 (g + 60) (out.set (out.length - 1) (⟨s1.tier, s1.frm, (g + 60)⟩ : Part)) (.slice A1 out.length cp1) (sc rfl (sc rfl (sc rfl (sc rfl sn)))) (fun _ h => (h.sel [1, 2, 3, 4, 5, 6, 7] (by decide) rfl)) ?_ ?_)))
         · have hp : Sh.pick z g t = (⟨2, g, (g + 60)⟩ : Part) := Sh.pick_2 (z := z) (f := g) (t := t) h7.1 h7.2
           have hpt : ¬ (Sh.pick z g t).tier < 0 := by rw [hp]; dsimp only; omega
           have hto := Sh.pick_to hpt
           have hnx := hI1.1.trans (Sh.chooseL_next (out := out) (by omega) hpt)
           have hpl := Sh.push_len out (Sh.pick z g t)
           rw [hp] at hto hnx hpl
           have hpu : Sh.push out _ = _ := Sh.push_last (p := (⟨2, g, (g + 60)⟩ : Part)) hs1 h9
           rw [hpu] at hnx hpl
           try dsimp only at hto
           try dsimp only at hnx
           try dsimp only at hpl
           exact ⟨hnx, by omega, by omega, by omega⟩
         have hp : Sh.pick z g t = (⟨2, g, (g + 60)⟩ : Part) := Sh.pick_2 (z := z) (f := g) (t := t) h7.1 h7.2
         have hpt : ¬ (Sh.pick z g t).tier < 0 := by rw [hp]; dsimp only; omega
         have hto := Sh.pick_to hpt
         rw [hp] at hto
         try dsimp only at hto
         omega
       refine c_skip (e_go hK18 ?_)
       refine c_region ?_
       refine l_val wn (r_move rfl) rfl ?_
       refine l_val wn (r_lbn 0 [.int .i64 2, .int .i64 g, .int .i64 (g + 60)] rfl rfl rfl rfl agg61 inf61) rfl ?_
       refine l_bsL partE ([(⟨2, g, (g + 60)⟩ : Part)] : List Part) wn Try.underlying28 inf61 rfl rfl rfl rfl (by decide) (by decide) rfl fun b104 => ?_
       refine l_app 2 out ([(⟨2, g, (g + 60)⟩ : Part)] : List Part) encPart wn rfl rfl rfl (fun _ hM => (RowSl encPart hM 0 rfl)) Try.underlying28 inf61 rfl rfl (by first | omega | (simp only [List.length_append, List.length_cons, List.length_nil]; omega)) rfl fun A2 cp2 hc2 hm2 hA2 => ?_
       refine l_val wn (r_assign rfl) rfl ?_
       refine l_nil (e_in_n (e_round3 (g + 60) (out ++ ([(⟨2, g, (g + 60)⟩ : Part)] : List Part)) (.slice A2 ((out ++ ([(⟨2, g, (g + 60)⟩ : Part)] : List Part)).length) cp2) (sc rfl (sc rfl (sc rfl (sc rfl sn)))) (fun _ h => (h.sel [2, 3, 4, 5, 6, 7, 8] (by decide) rfl)) ?_ ?_))
       · have hp : Sh.pick z g t = (⟨2, g, (g + 60)⟩ : Part) := Sh.pick_2 (z := z) (f := g) (t := t) h7.1 h7.2
         have hpt : ¬ (Sh.pick z g t).tier < 0 := by rw [hp]; dsimp only; omega
         have hto := Sh.pick_to hpt
         have hnx := hI1.1.trans (Sh.chooseL_next (out := out) (by omega) hpt)
         have hpl := Sh.push_len out (Sh.pick z g t)
         rw [hp] at hto hnx hpl
         have hpu : Sh.push out _ = _ := Sh.push_new (p := (⟨2, g, (g + 60)⟩ : Part)) hs1 h9
         rw [hpu] at hnx hpl
         try dsimp only at hto
         try dsimp only at hnx
         try dsimp only at hpl
         exact ⟨hnx, by omega, by omega, by omega⟩
       have hp : Sh.pick z g t = (⟨2, g, (g + 60)⟩ : Part) := Sh.pick_2 (z := z) (f := g) (t := t) h7.1 h7.2
       have hpt : ¬ (Sh.pick z g t).tier < 0 := by rw [hp]; dsimp only; omega
       have hto := Sh.pick_to hpt
       rw [hp] at hto
       try dsimp only at hto
       omega
     refine q_skip (wg rfl rfl rfl) rfl ?_
     refine q_skip (wg rfl rfl rfl) rfl ?_
     refine q_skip (wg rfl rfl rfl) rfl ?_
     refine q_skip (wg rfl rfl rfl) rfl ?_
     refine q_skip (wg rfl rfl rfl) rfl ?_
     refine q_skip (wg rfl rfl rfl) rfl ?_
     refine q_skip (wg rfl rfl rfl) rfl ?_
     refine q_skip (wg rfl rfl rfl) rfl ?_
     refine q_skip (wg rfl rfl rfl) rfl ?_
     refine q_val wn (r_pick rfl rfl) rfl ?_
     refine q_end (e_go hK20 ?_)
     refine c_false rfl rfl ?_
     refine c_skip (e_go hK18 ?_)
     refine c_region ?_
     refine l_val wn (r_move rfl) rfl ?_
     refine l_val wn (r_lbn 0 [.int .i64 2, .int .i64 g, .int .i64 (g + 60)] rfl rfl rfl rfl agg61 inf61) rfl ?_
     refine l_bsL partE ([(⟨2, g, (g + 60)⟩ : Part)] : List Part) wn Try.underlying28 inf61 rfl rfl rfl rfl (by decide) (by decide) rfl fun b104 => ?_
     refine l_app 2 out ([(⟨2, g, (g + 60)⟩ : Part)] : List Part) encPart wn rfl rfl rfl (fun _ hM => (RowSl encPart hM 0 rfl)) Try.underlying28 inf61 rfl rfl (by first | omega | (simp only [List.length_append, List.length_cons, List.length_nil]; omega)) rfl fun A3 cp3 hc3 hm3 hA3 => ?_
     refine l_val wn (r_assign rfl) rfl ?_
     refine l_nil (e_in_n (e_round3 (g + 60) (out ++ ([(⟨2, g, (g + 60)⟩ : Part)] : List Part)) (.slice A3 ((out ++ ([(⟨2, g, (g + 60)⟩ : Part)] : List Part)).length) cp3) (sc rfl (sc rfl (sc rfl (sc rfl sn)))) (fun _ h => (h.sel [2, 3, 4, 5, 6, 7, 8] (by decide) rfl)) ?_ ?_))
     · have hp : Sh.pick z g t = (⟨2, g, (g + 60)⟩ : Part) := Sh.pick_2 (z := z) (f := g) (t := t) h7.1 h7.2
       have hpt : ¬ (Sh.pick z g t).tier < 0 := by rw [hp]; dsimp only; omega
       have hto := Sh.pick_to hpt
       have hnx := hI1.1.trans (Sh.chooseL_next (out := out) (by omega) hpt)
       have hpl := Sh.push_len out (Sh.pick z g t)
       rw [hp] at hto hnx hpl
       have hpu : Sh.push out _ = _ := Sh.push_nil (p := (⟨2, g, (g + 60)⟩ : Part)) (by omega)
       rw [hpu] at hnx hpl
       try dsimp only at hto
       try dsimp only at hnx
       try dsimp only at hpl
       exact ⟨hnx, by omega, by omega, by omega⟩
     have hp : Sh.pick z g t = (⟨2, g, (g + 60)⟩ : Part) := Sh.pick_2 (z := z) (f := g) (t := t) h7.1 h7.2
     have hpt : ¬ (Sh.pick z g t).tier < 0 := by rw [hp]; dsimp only; omega
     have hto := Sh.pick_to hpt
     rw [hp] at hto
     try dsimp only at hto
     omega
   refine c_cut [(2, .int .i64 t), (3, .pointer (some ⟨b3, 0, none⟩)), (9, .slice A1 out.length cp1), (10, .int .i64 g), (11, .pointer (some ⟨b11, 0, none⟩)), (62, .bool (decide (((g + 10) ≤ t) ∧ (Sh.may z (⟨1, g, (g + 10)⟩ : Part)))))] (Mem w ⟨no, P0⟩ [.blk b11 [.int .i64 0, .int .i64 0, .int .i64 0] 61, Row (.slice A1 out.length cp1) 61 3 partE out, Row (.slice none 0 0) 61 3 partE ([] : List Part), .blk b3 [.slice z0A z.series.length z0c, .slice z1A z.raw.length z1c, .slice z2A z.fine.length z2c, .slice z3A z.coarse.length z3c, .int .i64 z.rawFrom, .int .i64 z.fineFrom, .int .i64 z.fineTo, .int .i64 z.coarseFrom, .int .i64 z.coarseTo] 27, slP 2 labelE (.slice z0A z.series.length z0c) z.series, slP 2 sampleE (.slice z1A z.raw.length z1c) z.raw, slP 8 bucketE (.slice z2A z.fine.length z2c) z.fine, slP 8 bucketE (.slice z3A z.coarse.length z3c) z.coarse]) (fun _ hK22 => ?_) ?_
   · refine c_region ?_
     refine l_val wn (r_move rfl) rfl ?_
     refine l_val wn (r_addn rfl rfl (by omega)) rfl ?_
     refine l_val wn (r_move rfl) rfl ?_
     refine l_val wn (r_leq rfl rfl) rfl ?_
     refine l_val wn (r_move rfl) rfl ?_
     refine l_case (t := 67) rfl (fun h10 => ?_) (fun h10 => ?_)
     · refine l_val (wg rfl rfl rfl) (r_lbn 3 [.slice z0A z.series.length z0c, .slice z1A z.raw.length z1c, .slice z2A z.fine.length z2c, .slice z3A z.coarse.length z3c, .int .i64 z.rawFrom, .int .i64 z.fineFrom, .int .i64 z.fineTo, .int .i64 z.coarseFrom, .int .i64 z.coarseTo] rfl rfl rfl rfl agg27 inf27) rfl ?_
       refine l_val (wg rfl rfl rfl) (r_move rfl) rfl ?_
       refine l_val (wg rfl rfl rfl) (r_move rfl) rfl ?_
       refine l_val (wg rfl rfl rfl) (r_addn rfl rfl (by omega)) rfl ?_
       refine l_val (wg rfl rfl rfl) (r_build [.int .i64 1, .int .i64 g, .int .i64 (g + 10)] pl61 inf61 rfl rfl) rfl ?_
       refine l_callF (wg rfl rfl rfl) rfl Try.call38 rfl (fun w1 hM => c_refMay _ _ _ _ z (⟨1, g, (g + 10)⟩ : Part) (In w1) w1 (fun _ h => h) (hM.slp 4 rfl) (hM.slp 5 rfl) (hM.slp 6 rfl) (hM.slp 7 rfl)) ?_
       refine l_val wn (r_pick rfl rfl) rfl ?_
       refine l_val wn (r_assign rfl) rfl ?_
       refine l_nil (e_cut hK22 (sc rfl (sc rfl (sc rfl (sc rfl (sc rfl (sc (jp (iff_and_right h10 Iff.rfl)) sn)))))) (fun _ h => h))
     refine l_skip (wg rfl rfl rfl) rfl ?_
     refine l_skip (wg rfl rfl rfl) rfl ?_
     refine l_skip (wg rfl rfl rfl) rfl ?_
     refine l_skip (wg rfl rfl rfl) rfl ?_
     refine l_skip (wg rfl rfl rfl) rfl ?_
     refine l_skip (wg rfl rfl rfl) rfl ?_
     refine l_val wn (r_pick rfl rfl) rfl ?_
     refine l_val wn (r_assign rfl) rfl ?_
     refine l_nil (e_cut hK22 (sc rfl (sc rfl (sc rfl (sc rfl (sc rfl (sc (jf (fun g => h10 g.1)) sn)))))) (fun _ h => h))
   refine c_cond rfl (fun h11 => ?_) (fun h11 => ?_)
   · refine c_region ?_
     refine l_val wn (r_move rfl) rfl ?_
     refine l_val wn (r_move rfl) rfl ?_
     refine l_val wn (r_addn rfl rfl (by omega)) rfl ?_
     refine l_val wn (r_build [.int .i64 1, .int .i64 g, .int .i64 (g + 10)] pl61 inf61 rfl rfl) rfl ?_
     refine l_stn 0 wn rfl rfl rfl inf61 rfl rfl rfl ?_
     refine l_nil (e_in_n (e_go hK15 ?_))
     refine c_seq fun _ hK23 => ?_
     refine c_region ?_
     refine l_val wn (r_fa rfl fld61_2) rfl ?_
     refine l_val wn (r_lb 0 rfl rfl rfl flat3) rfl ?_
     refine l_val wn (r_assign rfl) rfl ?_
     refine l_nil (e_go hK23 ?_)
     refine c_seq fun _ hK24 => ?_
     refine c_seq fun _ hK25 => ?_
     refine c_region ?_
     refine l_val wn (r_move rfl) rfl ?_
     refine l_val wn (r_len rfl Try.underlying28) rfl ?_
     refine l_val wn (r_assign rfl) rfl ?_
     refine l_nil (e_go hK25 ?_)
     refine c_seq fun _ hK26 => ?_
     refine c_quiet mix (by kernel_rfl) (fun _ h => h.drew) ?_
     refine q_val wn (r_move rfl) rfl ?_
     refine q_val wn (r_gtr rfl rfl) rfl ?_
     refine q_val wn (r_move rfl) rfl ?_
     refine q_case (t := 85) rfl (fun h12 => ?_) (fun h12 => ?_)
     · refine q_val (wg rfl rfl rfl) (r_move rfl) rfl ?_
       refine q_val (wg rfl rfl rfl) (r_move rfl) rfl ?_
       refine q_val (wg rfl rfl rfl) (r_subn rfl rfl (by omega)) rfl ?_
       obtain ⟨ad2, hd2⟩ := hA1 (ne_nil (i := (out.length - 1)) (by first | omega | decide))
       refine q_val (wg rfl rfl rfl) (r_ia (i := (out.length - 1)) rfl hd2 rfl (by omega) (by first | omega | decide) Try.underlying28 inf61) rfl ?_
       refine q_val (wg rfl rfl rfl) (r_fe rfl fld61_0) rfl ?_
       obtain ⟨s2, hs2⟩ : ∃ x, out[(out.length - 1)]? = some x := ⟨_, List.getElem?_eq_getElem (by first | omega | decide)⟩
       refine q_val (wg rfl rfl rfl) (r_rl 1 encPart rfl rfl hd2 hs2 rfl flat3) rfl ?_
       refine q_val (wg rfl rfl rfl) (r_fa rfl fld61_0) rfl ?_
       refine q_val (wg rfl rfl rfl) (r_lb 0 rfl rfl rfl flat3) rfl ?_
       refine q_val (wg rfl rfl rfl) (r_eql rfl rfl) rfl ?_
       refine q_val wn (r_pick rfl rfl) rfl ?_
       refine q_end (e_go hK26 ?_)
       refine c_cond rfl (fun h13 => ?_) (fun h13 => ?_)
       · refine c_seq fun _ hK27 => ?_
         refine c_region ?_
         refine l_val wn (r_move rfl) rfl ?_
         refine l_val wn (r_move rfl) rfl ?_
         refine l_val wn (r_subn rfl rfl (by omega)) rfl ?_
         refine l_val wn (r_move rfl) rfl ?_
         refine l_val wn (r_ia (i := (out.length - 1)) rfl hd2 rfl (by omega) (by first | omega | decide) Try.underlying28 inf61) rfl ?_
         refine l_val wn (r_fe rfl fld61_2) rfl ?_
         refine l_rst 1 (vs := [.int .i64 (g + 10)]) (⟨s2.tier, s2.frm, (g + 10)⟩ : Part) encPart wn rfl rfl rfl rfl hd2 hs2 inf3 rfl rfl rfl rfl ?_
         refine l_nil (e_go hK27 ?_)
         refine c_exit (e_then_x (e_in_hit (e_round3 (g + 10) (out.set (out.length - 1) (⟨s2.tier, s2.frm, (g + 10)⟩ : Part)) (.slice A1 out.length cp1) (sc rfl (sc rfl (sc rfl (sc rfl sn)))) (fun _ h => (h.sel [1, 2, 3, 4, 5, 6, 7] (by decide) rfl)) ?_ ?_)))
         · have hp : Sh.pick z g t = (⟨1, g, (g + 10)⟩ : Part) := Sh.pick_1 (z := z) (f := g) (t := t) h7 h11.1 h11.2
           have hpt : ¬ (Sh.pick z g t).tier < 0 := by rw [hp]; dsimp only; omega
           have hto := Sh.pick_to hpt
           have hnx := hI1.1.trans (Sh.chooseL_next (out := out) (by omega) hpt)
           have hpl := Sh.push_len out (Sh.pick z g t)
           rw [hp] at hto hnx hpl
           have hpu : Sh.push out _ = _ := Sh.push_last (p := (⟨1, g, (g + 10)⟩ : Part)) hs2 h13
           rw [hpu] at hnx hpl
           try dsimp only at hto
           try dsimp only at hnx
           try dsimp only at hpl
           exact ⟨hnx, by omega, by omega, by omega⟩
         have hp : Sh.pick z g t = (⟨1, g, (g + 10)⟩ : Part) := Sh.pick_1 (z := z) (f := g) (t := t) h7 h11.1 h11.2
         have hpt : ¬ (Sh.pick z g t).tier < 0 := by rw [hp]; dsimp only; omega
         have hto := Sh.pick_to hpt
         rw [hp] at hto
         try dsimp only at hto
         omega
       refine c_skip (e_go hK24 ?_)
       refine c_region ?_
       refine l_val wn (r_move rfl) rfl ?_
       refine l_val wn (r_lbn 0 [.int .i64 1, .int .i64 g, .int .i64 (g + 10)] rfl rfl rfl rfl agg61 inf61) rfl ?_
       refine l_bsL partE ([(⟨1, g, (g + 10)⟩ : Part)] : List Part) wn Try.underlying28 inf61 rfl rfl rfl rfl (by decide) (by decide) rfl fun b104 => ?_
       refine l_app 2 out ([(⟨1, g, (g + 10)⟩ : Part)] : List Part) encPart wn rfl rfl rfl (fun _ hM => (RowSl encPart hM 0 rfl)) Try.underlying28 inf61 rfl rfl (by first | omega | (simp only [List.length_append, List.length_cons, List.length_nil]; omega)) rfl fun A4 cp4 hc4 hm4 hA4 => ?_
       refine l_val wn (r_assign rfl) rfl ?_
       refine l_nil (e_in_n (e_round3 (g + 10) (out ++ ([(⟨1, g, (g + 10)⟩ : Part)] : List Part)) (.slice A4 ((out ++ ([(⟨1, g, (g + 10)⟩ : Part)] : List Part)).length) cp4) (sc rfl (sc rfl (sc rfl (sc rfl sn)))) (fun _ h => (h.sel [2, 3, 4, 5, 6, 7, 8] (by decide) rfl)) ?_ ?_))
       · have hp : Sh.pick z g t = (⟨1, g, (g + 10)⟩ : Part) := Sh.pick_1 (z := z) (f := g) (t := t) h7 h11.1 h11.2
         have hpt : ¬ (Sh.pick z g t).tier < 0 := by rw [hp]; dsimp only; omega
         have hto := Sh.pick_to hpt
         have hnx := hI1.1.trans (Sh.chooseL_next (out := out) (by omega) hpt)
         have hpl := Sh.push_len out (Sh.pick z g t)
         rw [hp] at hto hnx hpl
         have hpu : Sh.push out _ = _ := Sh.push_new (p := (⟨1, g, (g + 10)⟩ : Part)) hs2 h13
         rw [hpu] at hnx hpl
         try dsimp only at hto
         try dsimp only at hnx
         try dsimp only at hpl
         exact ⟨hnx, by omega, by omega, by omega⟩
       have hp : Sh.pick z g t = (⟨1, g, (g + 10)⟩ : Part) := Sh.pick_1 (z := z) (f := g) (t := t) h7 h11.1 h11.2
       have hpt : ¬ (Sh.pick z g t).tier < 0 := by rw [hp]; dsimp only; omega
       have hto := Sh.pick_to hpt
       rw [hp] at hto
       try dsimp only at hto
       omega
     refine q_skip (wg rfl rfl rfl) rfl ?_
     refine q_skip (wg rfl rfl rfl) rfl ?_
     refine q_skip (wg rfl rfl rfl) rfl ?_
     refine q_skip (wg rfl rfl rfl) rfl ?_
     refine q_skip (wg rfl rfl rfl) rfl ?_
     refine q_skip (wg rfl rfl rfl) rfl ?_
     refine q_skip (wg rfl rfl rfl) rfl ?_
     refine q_skip (wg rfl rfl rfl) rfl ?_
     refine q_skip (wg rfl rfl rfl) rfl ?_
     refine q_val wn (r_pick rfl rfl) rfl ?_
     refine q_end (e_go hK26 ?_)
     refine c_false rfl rfl ?_
     refine c_skip (e_go hK24 ?_)
     refine c_region ?_
     refine l_val wn (r_move rfl) rfl ?_
     refine l_val wn (r_lbn 0 [.int .i64 1, .int .i64 g, .int .i64 (g + 10)] rfl rfl rfl rfl agg61 inf61) rfl ?_
     refine l_bsL partE ([(⟨1, g, (g + 10)⟩ : Part)] : List Part) wn Try.underlying28 inf61 rfl rfl rfl rfl (by decide) (by decide) rfl fun b104 => ?_
     refine l_app 2 out ([(⟨1, g, (g + 10)⟩ : Part)] : List Part) encPart wn rfl rfl rfl (fun _ hM => (RowSl encPart hM 0 rfl)) Try.underlying28 inf61 rfl rfl (by first | omega | (simp only [List.length_append, List.length_cons, List.length_nil]; omega)) rfl fun A5 cp5 hc5 hm5 hA5 => ?_
     refine l_val wn (r_assign rfl) rfl ?_
     refine l_nil (e_in_n (e_round3 (g + 10) (out ++ ([(⟨1, g, (g + 10)⟩ : Part)] : List Part)) (.slice A5 ((out ++ ([(⟨1, g, (g + 10)⟩ : Part)] : List Part)).length) cp5) (sc rfl (sc rfl (sc rfl (sc rfl sn)))) (fun _ h => (h.sel [2, 3, 4, 5, 6, 7, 8] (by decide) rfl)) ?_ ?_))
     · have hp : Sh.pick z g t = (⟨1, g, (g + 10)⟩ : Part) := Sh.pick_1 (z := z) (f := g) (t := t) h7 h11.1 h11.2
       have hpt : ¬ (Sh.pick z g t).tier < 0 := by rw [hp]; dsimp only; omega
       have hto := Sh.pick_to hpt
       have hnx := hI1.1.trans (Sh.chooseL_next (out := out) (by omega) hpt)
       have hpl := Sh.push_len out (Sh.pick z g t)
       rw [hp] at hto hnx hpl
       have hpu : Sh.push out _ = _ := Sh.push_nil (p := (⟨1, g, (g + 10)⟩ : Part)) (by omega)
       rw [hpu] at hnx hpl
       try dsimp only at hto
       try dsimp only at hnx
       try dsimp only at hpl
       exact ⟨hnx, by omega, by omega, by omega⟩
     have hp : Sh.pick z g t = (⟨1, g, (g + 10)⟩ : Part) := Sh.pick_1 (z := z) (f := g) (t := t) h7 h11.1 h11.2
     have hpt : ¬ (Sh.pick z g t).tier < 0 := by rw [hp]; dsimp only; omega
     have hto := Sh.pick_to hpt
     rw [hp] at hto
     try dsimp only at hto
     omega
   refine c_seq fun _ hK28 => ?_
   refine c_region ?_
   refine l_val wn (r_move rfl) rfl ?_
   refine l_val wn (r_move rfl) rfl ?_
   refine l_val wn (r_move rfl) rfl ?_
   refine l_val wn (r_quon rfl rfl (by omega) (by omega)) rfl ?_
   refine l_val wn (r_muln rfl rfl (by omega)) rfl ?_
   refine l_val wn (r_addn rfl rfl (by omega)) rfl ?_
   refine l_callF wn rfl Try.call40 rfl (fun w1 hM => c_least t (((g / 10) * 10) + 10) w1) ?_
   refine l_val wn (r_build [.int .i64 0, .int .i64 g, .int .i64 (Sh.mn t (((g / 10) * 10) + 10))] pl61 inf61 rfl rfl) rfl ?_
   refine l_stn 0 wn rfl rfl rfl inf61 rfl rfl rfl ?_
   refine l_nil (e_go hK28 ?_)
   refine c_seq fun _ hK29 => ?_
   refine c_region ?_
   refine l_val wn (r_lbn 3 [.slice z0A z.series.length z0c, .slice z1A z.raw.length z1c, .slice z2A z.fine.length z2c, .slice z3A z.coarse.length z3c, .int .i64 z.rawFrom, .int .i64 z.fineFrom, .int .i64 z.fineTo, .int .i64 z.coarseFrom, .int .i64 z.coarseTo] rfl rfl rfl rfl agg27 inf27) rfl ?_
   refine l_val wn (r_lbn 0 [.int .i64 0, .int .i64 g, .int .i64 (Sh.mn t (((g / 10) * 10) + 10))] rfl rfl rfl rfl agg61 inf61) rfl ?_
   refine l_callF wn rfl Try.call38 rfl (fun w1 hM => c_refMay _ _ _ _ z (⟨0, g, (Sh.mn t (((g / 10) * 10) + 10))⟩ : Part) (In w1) w1 (fun _ h => h) (hM.slp 4 rfl) (hM.slp 5 rfl) (hM.slp 6 rfl) (hM.slp 7 rfl)) ?_
   refine l_val wn (r_not rfl) rfl ?_
   refine l_nil (e_go hK29 ?_)
   refine c_cond rfl (fun h14 => ?_) (fun h14 => ?_)
   · refine c_seq fun _ hK30 => ?_
     refine c_region ?_
     refine l_nilRow (partE : Part → List Value) 61 3 ?_
     refine l_val wn (r_assign rfl) rfl ?_
     refine l_val wn (r_assign rfl) rfl ?_
     refine l_nil (e_go hK30 ?_)
     refine c_ret (e_in_r (e_then_r (e_in_r (e_loop3_r (e_in_r (e_then_r (e_ret2 (.inl rfl) Try.results15 (rv_tmp rfl) (rv_tmp rfl) fun w1 hM => ?_)))))))
     have hmn := Sh.mn_ref g t
     rw [hmn] at h14
     have hp := Sh.pick_no (z := z) (f := g) (t := t) h7 h11 (fun q => h14 q.2)
     have he : Sh.choose z f t = (([] : List Part), 10) := Sh.choose_gone h1 (by omega) hI1.1 (by omega) (by rw [hp]; decide)
     exact hM.retLT 0 rfl (by rw [he]) (by rw [he])
   refine c_skip (e_in_n (e_go hK15 ?_))
   refine c_seq fun _ hK31 => ?_
   refine c_region ?_
   refine l_val wn (r_fa rfl fld61_2) rfl ?_
   refine l_val wn (r_lb 0 rfl rfl rfl flat3) rfl ?_
   refine l_val wn (r_assign rfl) rfl ?_
   refine l_nil (e_go hK31 ?_)
   refine c_seq fun _ hK32 => ?_
   refine c_seq fun _ hK33 => ?_
   refine c_region ?_
   refine l_val wn (r_move rfl) rfl ?_
   refine l_val wn (r_len rfl Try.underlying28) rfl ?_
   refine l_val wn (r_assign rfl) rfl ?_
   refine l_nil (e_go hK33 ?_)
   refine c_seq fun _ hK34 => ?_
   refine c_quiet mix (by kernel_rfl) (fun _ h => h.drew) ?_
   refine q_val wn (r_move rfl) rfl ?_
   refine q_val wn (r_gtr rfl rfl) rfl ?_
   refine q_val wn (r_move rfl) rfl ?_
   refine q_case (t := 85) rfl (fun h15 => ?_) (fun h15 => ?_)
   · refine q_val (wg rfl rfl rfl) (r_move rfl) rfl ?_
     refine q_val (wg rfl rfl rfl) (r_move rfl) rfl ?_
     refine q_val (wg rfl rfl rfl) (r_subn rfl rfl (by omega)) rfl ?_
     obtain ⟨ad3, hd3⟩ := hA1 (ne_nil (i := (out.length - 1)) (by first | omega | decide))
     refine q_val (wg rfl rfl rfl) (r_ia (i := (out.length - 1)) rfl hd3 rfl (by omega) (by first | omega | decide) Try.underlying28 inf61) rfl ?_
     refine q_val (wg rfl rfl rfl) (r_fe rfl fld61_0) rfl ?_
     obtain ⟨s3, hs3⟩ : ∃ x, out[(out.length - 1)]? = some x := ⟨_, List.getElem?_eq_getElem (by first | omega | decide)⟩
     refine q_val (wg rfl rfl rfl) (r_rl 1 encPart rfl rfl hd3 hs3 rfl flat3) rfl ?_
     refine q_val (wg rfl rfl rfl) (r_fa rfl fld61_0) rfl ?_
     refine q_val (wg rfl rfl rfl) (r_lb 0 rfl rfl rfl flat3) rfl ?_
     refine q_val (wg rfl rfl rfl) (r_eql rfl rfl) rfl ?_
     refine q_val wn (r_pick rfl rfl) rfl ?_
     refine q_end (e_go hK34 ?_)
     refine c_cond rfl (fun h16 => ?_) (fun h16 => ?_)
     · refine c_seq fun _ hK35 => ?_
       refine c_region ?_
       refine l_val wn (r_move rfl) rfl ?_
       refine l_val wn (r_move rfl) rfl ?_
       refine l_val wn (r_subn rfl rfl (by omega)) rfl ?_
       refine l_val wn (r_move rfl) rfl ?_
       refine l_val wn (r_ia (i := (out.length - 1)) rfl hd3 rfl (by omega) (by first | omega | decide) Try.underlying28 inf61) rfl ?_
       refine l_val wn (r_fe rfl fld61_2) rfl ?_
       refine l_rst 1 (vs := [.int .i64 (Sh.mn t (((g / 10) * 10) + 10))]) (⟨s3.tier, s3.frm, (Sh.mn t (((g / 10) * 10) + 10))⟩ : Part) encPart wn rfl rfl rfl rfl hd3 hs3 inf3 rfl rfl rfl rfl ?_
       refine l_nil (e_go hK35 ?_)
       refine c_exit (e_then_x (e_in_hit (e_round3 (Sh.mn t (((g / 10) * 10) + 10)) (out.set (out.length - 1) (⟨s3.tier, s3.frm, (Sh.mn t (((g / 10) * 10) + 10))⟩ : Part)) (.slice A1 out.length cp1) (sc rfl (sc rfl (sc rfl (sc rfl sn)))) (fun _ h => (h.sel [1, 2, 3, 4, 5, 6, 7] (by decide) rfl)) ?_ ?_)))
       · have hmn := Sh.mn_ref g t
         rw [hmn] at h14
         have hp : Sh.pick z g t = (⟨0, g, (Sh.mn t (((g / 10) * 10) + 10))⟩ : Part) := (Sh.pick_0 (z := z) (f := g) (t := t) h7 h11 (Sh.mn_le _ _) (Classical.not_not.1 h14)).trans (by rw [hmn])
         have hpt : ¬ (Sh.pick z g t).tier < 0 := by rw [hp]; dsimp only; omega
         have hto := Sh.pick_to hpt
         have hnx := hI1.1.trans (Sh.chooseL_next (out := out) (by omega) hpt)
         have hpl := Sh.push_len out (Sh.pick z g t)
         rw [hp] at hto hnx hpl
         have hpu : Sh.push out _ = _ := Sh.push_last (p := (⟨0, g, (Sh.mn t (((g / 10) * 10) + 10))⟩ : Part)) hs3 h16
         rw [hpu] at hnx hpl
         try dsimp only at hto
         try dsimp only at hnx
         try dsimp only at hpl
         exact ⟨hnx, by omega, by omega, by omega⟩
       have hmn := Sh.mn_ref g t
       rw [hmn] at h14
       have hp : Sh.pick z g t = (⟨0, g, (Sh.mn t (((g / 10) * 10) + 10))⟩ : Part) := (Sh.pick_0 (z := z) (f := g) (t := t) h7 h11 (Sh.mn_le _ _) (Classical.not_not.1 h14)).trans (by rw [hmn])
       have hpt : ¬ (Sh.pick z g t).tier < 0 := by rw [hp]; dsimp only; omega
       have hto := Sh.pick_to hpt
       rw [hp] at hto
       try dsimp only at hto
       omega
     refine c_skip (e_go hK32 ?_)
     refine c_region ?_
     refine l_val wn (r_move rfl) rfl ?_
     refine l_val wn (r_lbn 0 [.int .i64 0, .int .i64 g, .int .i64 (Sh.mn t (((g / 10) * 10) + 10))] rfl rfl rfl rfl agg61 inf61) rfl ?_
     refine l_bsL partE ([(⟨0, g, (Sh.mn t (((g / 10) * 10) + 10))⟩ : Part)] : List Part) wn Try.underlying28 inf61 rfl rfl rfl rfl (by decide) (by decide) rfl fun b104 => ?_
     refine l_app 2 out ([(⟨0, g, (Sh.mn t (((g / 10) * 10) + 10))⟩ : Part)] : List Part) encPart wn rfl rfl rfl (fun _ hM => (RowSl encPart hM 0 rfl)) Try.underlying28 inf61 rfl rfl (by first | omega | (simp only [List.length_append, List.length_cons, List.length_nil]; omega)) rfl fun A6 cp6 hc6 hm6 hA6 => ?_
     refine l_val wn (r_assign rfl) rfl ?_
     refine l_nil (e_in_n (e_round3 (Sh.mn t (((g / 10) * 10) + 10)) (out ++ ([(⟨0, g, (Sh.mn t (((g / 10) * 10) + 10))⟩ : Part)] : List Part)) (.slice A6 ((out ++ ([(⟨0, g, (Sh.mn t (((g / 10) * 10) + 10))⟩ : Part)] : List Part)).length) cp6) (sc rfl (sc rfl (sc rfl (sc rfl sn)))) (fun _ h => (h.sel [2, 3, 4, 5, 6, 7, 8] (by decide) rfl)) ?_ ?_))
     · have hmn := Sh.mn_ref g t
       rw [hmn] at h14
       have hp : Sh.pick z g t = (⟨0, g, (Sh.mn t (((g / 10) * 10) + 10))⟩ : Part) := (Sh.pick_0 (z := z) (f := g) (t := t) h7 h11 (Sh.mn_le _ _) (Classical.not_not.1 h14)).trans (by rw [hmn])
       have hpt : ¬ (Sh.pick z g t).tier < 0 := by rw [hp]; dsimp only; omega
       have hto := Sh.pick_to hpt
       have hnx := hI1.1.trans (Sh.chooseL_next (out := out) (by omega) hpt)
       have hpl := Sh.push_len out (Sh.pick z g t)
       rw [hp] at hto hnx hpl
       have hpu : Sh.push out _ = _ := Sh.push_new (p := (⟨0, g, (Sh.mn t (((g / 10) * 10) + 10))⟩ : Part)) hs3 h16
       rw [hpu] at hnx hpl
       try dsimp only at hto
       try dsimp only at hnx
       try dsimp only at hpl
       exact ⟨hnx, by omega, by omega, by omega⟩
     have hmn := Sh.mn_ref g t
     rw [hmn] at h14
     have hp : Sh.pick z g t = (⟨0, g, (Sh.mn t (((g / 10) * 10) + 10))⟩ : Part) := (Sh.pick_0 (z := z) (f := g) (t := t) h7 h11 (Sh.mn_le _ _) (Classical.not_not.1 h14)).trans (by rw [hmn])
     have hpt : ¬ (Sh.pick z g t).tier < 0 := by rw [hp]; dsimp only; omega
     have hto := Sh.pick_to hpt
     rw [hp] at hto
     try dsimp only at hto
     omega
   refine q_skip (wg rfl rfl rfl) rfl ?_
   refine q_skip (wg rfl rfl rfl) rfl ?_
   refine q_skip (wg rfl rfl rfl) rfl ?_
   refine q_skip (wg rfl rfl rfl) rfl ?_
   refine q_skip (wg rfl rfl rfl) rfl ?_
   refine q_skip (wg rfl rfl rfl) rfl ?_
   refine q_skip (wg rfl rfl rfl) rfl ?_
   refine q_skip (wg rfl rfl rfl) rfl ?_
   refine q_skip (wg rfl rfl rfl) rfl ?_
   refine q_val wn (r_pick rfl rfl) rfl ?_
   refine q_end (e_go hK34 ?_)
   refine c_false rfl rfl ?_
   refine c_skip (e_go hK32 ?_)
   refine c_region ?_
   refine l_val wn (r_move rfl) rfl ?_
   refine l_val wn (r_lbn 0 [.int .i64 0, .int .i64 g, .int .i64 (Sh.mn t (((g / 10) * 10) + 10))] rfl rfl rfl rfl agg61 inf61) rfl ?_
   refine l_bsL partE ([(⟨0, g, (Sh.mn t (((g / 10) * 10) + 10))⟩ : Part)] : List Part) wn Try.underlying28 inf61 rfl rfl rfl rfl (by decide) (by decide) rfl fun b104 => ?_
   refine l_app 2 out ([(⟨0, g, (Sh.mn t (((g / 10) * 10) + 10))⟩ : Part)] : List Part) encPart wn rfl rfl rfl (fun _ hM => (RowSl encPart hM 0 rfl)) Try.underlying28 inf61 rfl rfl (by first | omega | (simp only [List.length_append, List.length_cons, List.length_nil]; omega)) rfl fun A7 cp7 hc7 hm7 hA7 => ?_
   refine l_val wn (r_assign rfl) rfl ?_
   refine l_nil (e_in_n (e_round3 (Sh.mn t (((g / 10) * 10) + 10)) (out ++ ([(⟨0, g, (Sh.mn t (((g / 10) * 10) + 10))⟩ : Part)] : List Part)) (.slice A7 ((out ++ ([(⟨0, g, (Sh.mn t (((g / 10) * 10) + 10))⟩ : Part)] : List Part)).length) cp7) (sc rfl (sc rfl (sc rfl (sc rfl sn)))) (fun _ h => (h.sel [2, 3, 4, 5, 6, 7, 8] (by decide) rfl)) ?_ ?_))
   · have hmn := Sh.mn_ref g t
     rw [hmn] at h14
     have hp : Sh.pick z g t = (⟨0, g, (Sh.mn t (((g / 10) * 10) + 10))⟩ : Part) := (Sh.pick_0 (z := z) (f := g) (t := t) h7 h11 (Sh.mn_le _ _) (Classical.not_not.1 h14)).trans (by rw [hmn])
     have hpt : ¬ (Sh.pick z g t).tier < 0 := by rw [hp]; dsimp only; omega
     have hto := Sh.pick_to hpt
     have hnx := hI1.1.trans (Sh.chooseL_next (out := out) (by omega) hpt)
     have hpl := Sh.push_len out (Sh.pick z g t)
     rw [hp] at hto hnx hpl
     have hpu : Sh.push out _ = _ := Sh.push_nil (p := (⟨0, g, (Sh.mn t (((g / 10) * 10) + 10))⟩ : Part)) (by omega)
     rw [hpu] at hnx hpl
     try dsimp only at hto
     try dsimp only at hnx
     try dsimp only at hpl
     exact ⟨hnx, by omega, by omega, by omega⟩
   have hmn := Sh.mn_ref g t
   rw [hmn] at h14
   have hp : Sh.pick z g t = (⟨0, g, (Sh.mn t (((g / 10) * 10) + 10))⟩ : Part) := (Sh.pick_0 (z := z) (f := g) (t := t) h7 h11 (Sh.mn_le _ _) (Classical.not_not.1 h14)).trans (by rw [hmn])
   have hpt : ¬ (Sh.pick z g t).tier < 0 := by rw [hp]; dsimp only; omega
   have hto := Sh.pick_to hpt
   rw [hp] at hto
   try dsimp only at hto
   omega
 refine c_exit (e_then_x (e_loop3_x (e_in_hit (e_go hK11 ?_))))
 refine c_seq fun _ hK36 => ?_
 refine c_region ?_
 refine l_val wn (r_move rfl) rfl ?_
 refine l_val wn (r_assign rfl) rfl ?_
 refine l_val wn (r_assign rfl) rfl ?_
 refine l_nil (e_go hK36 ?_)
 refine c_ret (e_ret2 (.inl rfl) Try.results15 (rv_tmp rfl) (rv_tmp rfl) fun w1 hM => ?_)
 have he : Sh.choose z f t = (out, 0) := Sh.choose_end h1 (by omega) hI1.1 (by omega)
 exact hM.retLT 0 rfl (by rw [he]) (by rw [he])

end Go.Proofs.Ytnbkennlmnnbeaa
