/-
  Walks: what each function hands back.
-/
import Derived.Test.YtnbkennlmnnbeaaWshref2
namespace Go.Proofs.Ytnbkennlmnnbeaa
open Ex
set_option linter.unusedVariables false
set_option linter.unusedSimpArgs false
set_option maxHeartbeats 1000000 in
theorem law_ShelfTells (z0 : Value) (z1 : Value) (z2 : Value) (z3 : Value) (z : Shelf) (x : Sample) (tier : Int) (to : Int) (P0 : Nat → Prop) (w : World) (hP0 : ∀ b, P0 b → b < w.heap.size) (hz0 : FlatSl P0 2 labelE z0 z.series w) (hz1 : FlatSl P0 2 sampleE z1 z.raw w) (hz2 : FlatSl P0 8 bucketE z2 z.fine w) (hz3 : FlatSl P0 8 bucketE z3 z.coarse w) (hl1 : z.series.length ≤ 1048576) (hok : ∀ x ∈ z.series, x.key.size ≤ 9223372036854775807 ∧ x.val.size ≤ 9223372036854775807) :
    Calls Try.prog 4 #[.agg (List.toArray [z0, z1, z2, z3, .int .i64 z.rawFrom, .int .i64 z.fineFrom, .int .i64 z.fineTo, .int .i64 z.coarseFrom, .int .i64 z.coarseTo]), .agg (sampleE x).toArray, .int .i64 tier, .int .i64 to] w (Ret w (.bool true)) := by
  obtain ⟨z0A, z0c, rfl, hz0c, hz0m, hz0A⟩ := hz0.form
  obtain ⟨z1A, z1c, rfl, hz1c, hz1m, hz1A⟩ := hz1.form
  obtain ⟨z2A, z2c, rfl, hz2c, hz2m, hz2A⟩ := hz2.form
  obtain ⟨z3A, z3c, rfl, hz3c, hz3m, hz3A⟩ := hz3.form
  refine fstart (N := 92) (vals := [.agg (List.toArray [.slice z0A z.series.length z0c, .slice z1A z.raw.length z1c, .slice z2A z.fine.length z2c, .slice z3A z.coarse.length z3c, .int .i64 z.rawFrom, .int .i64 z.fineFrom, .int .i64 z.fineTo, .int .i64 z.coarseFrom, .int .i64 z.coarseTo]), .agg (sampleE x).toArray, .int .i64 tier, .int .i64 to]) (S := Mem w ⟨no, P0⟩ [slP 2 labelE (.slice z0A z.series.length z0c) z.series, slP 2 sampleE (.slice z1A z.raw.length z1c) z.raw, slP 8 bucketE (.slice z2A z.fine.length z2c) z.fine, slP 8 bucketE (.slice z3A z.coarse.length z3c) z.coarse]) Try.func4 rfl rfl rfl (Mem.ofDatsP hP0 (dc (dlp hz0) (dc (dlp hz1) (dc (dlp hz2) (dc (dlp hz3) dn))))) ?_
  refine c_seq fun K1 hK1 => ?_
  refine c_region ?_
  refine l_box wn rfl rfl fun b4 => ?_
  refine l_box wn rfl rfl fun b5 => ?_
  refine l_val wn (r_assign rfl) rfl ?_
  refine l_nil (e_go hK1 ?_)
  refine c_seq fun K2 hK2 => ?_
  refine c_seq fun K3 hK3 => ?_
  refine c_nodes (Mem w ⟨no, P0⟩ [.blk b5 [.int .i64 x.time, .int .i64 x.value] 39, .blk b4 [.slice z0A z.series.length z0c, .slice z1A z.raw.length z1c, .slice z2A z.fine.length z2c, .slice z3A z.coarse.length z3c, .int .i64 z.rawFrom, .int .i64 z.fineFrom, .int .i64 z.fineTo, .int .i64 z.coarseFrom, .int .i64 z.coarseTo] 27, slP 2 labelE (.slice z0A z.series.length z0c) z.series, slP 2 sampleE (.slice z1A z.raw.length z1c) z.raw, slP 8 bucketE (.slice z2A z.fine.length z2c) z.fine, slP 8 bucketE (.slice z3A z.coarse.length z3c) z.coarse]) mix (fun _ h => h.drew) rfl ?_
  refine n_run (f := 13) [0, 2] rfl rfl (by kernel_rfl) (by kernel_rfl) (fun _ h => h) fun KS hKS => ?_
  refine s_val wn (r_lbn 1 [.slice z0A z.series.length z0c, .slice z1A z.raw.length z1c, .slice z2A z.fine.length z2c, .slice z3A z.coarse.length z3c, .int .i64 z.rawFrom, .int .i64 z.fineFrom, .int .i64 z.fineTo, .int .i64 z.coarseFrom, .int .i64 z.coarseTo] rfl rfl rfl rfl agg27 inf27) rfl ?_
  refine s_val wn (r_lbn 1 [.slice z0A z.series.length z0c, .slice z1A z.raw.length z1c, .slice z2A z.fine.length z2c, .slice z3A z.coarse.length z3c, .int .i64 z.rawFrom, .int .i64 z.fineFrom, .int .i64 z.fineTo, .int .i64 z.coarseFrom, .int .i64 z.coarseTo] rfl rfl rfl rfl agg27 inf27) rfl ?_
  refine s_end hKS ?_
  refine n_step1 (f := 12) (i := 1) rfl (by kernel_rfl) ?_
  refine n_one (i := 1) rfl fun KN hKN => ?_
  refine l_callF wn rfl Try.call19 rfl (fun w1 hM => c_shWrong _ _ _ _ z (In w1) w1 (fun _ h => h) (hM.slp 2 rfl) (hM.slp 3 rfl) (hM.slp 4 rfl) (hM.slp 5 rfl)) ?_
  refine l_nil (hKN _ _ (fun _ h => h) ?_)
  refine n_step1 (f := 11) (i := 3) rfl (by kernel_rfl) ?_
  refine n_one (i := 3) rfl fun KN hKN => ?_
  refine l_callF wn rfl Try.call20 rfl (fun w1 hM => c_refShWrong _ _ _ _ z (In w1) w1 (fun _ h => h) (hM.slp 2 rfl) (hM.slp 3 rfl) (hM.slp 4 rfl) (hM.slp 5 rfl) (by exact hok)) ?_
  refine l_nil (hKN _ _ (fun _ h => h) ?_)
  refine n_run (f := 4) [4, 5, 6, 7, 9, 10, 11] rfl rfl (by kernel_rfl) (by kernel_rfl) (fun _ h => h) fun KS hKS => ?_
  refine s_val wn (r_neq rfl rfl) rfl ?_
  refine s_val wn (r_move rfl) rfl ?_
  refine s_litf (t := 18) rfl (fun h => h rfl) ?_
  refine s_val (wg rfl rfl rfl) (r_fa rfl fld27_0) rfl ?_
  refine s_val (wg rfl rfl rfl) (r_lb 1 rfl rfl rfl flat23) rfl ?_
  refine s_val (wg rfl rfl rfl) (r_fa rfl fld27_0) rfl ?_
  refine s_val (wg rfl rfl rfl) (r_lb 1 rfl rfl rfl flat23) rfl ?_
  refine s_val (wg rfl rfl rfl) (r_build [.slice z0A z.series.length z0c, .slice none 0 0, .slice none 0 0, .slice none 0 0, .int .i64 0, .int .i64 0, .int .i64 0, .int .i64 0, .int .i64 0] pl27 inf27 rfl rfl) rfl ?_
  refine s_end hKS ?_
  refine n_step1 (f := 3) (i := 8) rfl (by kernel_rfl) ?_
  refine n_one (i := 8) rfl fun KN hKN => ?_
  refine l_callSh (fun u => u) (⟨z.series, [], [], [], 0, 0, 0, 0, 0⟩ : Shelf) (wg rfl rfl rfl) rfl Try.call22 rfl (fun w1 Pb hM pp => c_new _ z.series Pb w1 pp.lt (pp.sl 2 rfl) (by first | omega | simp)) fun A1 cp1 A2 cp2 A3 cp3 A4 cp4 hb1 hA1 hA2 hA3 hA4 => ?_
  refine l_nil (hKN _ _ (fun _ h => (h.sel [4, 5, 6, 7, 8, 9] (by decide) rfl)) ?_)
  refine n_step1 (f := 2) (i := 12) rfl (by kernel_rfl) ?_
  refine n_one (i := 12) rfl fun KN hKN => ?_
  refine l_callF (wg rfl rfl rfl) rfl Try.call21 rfl (fun w1 hM => c_shSame _ _ _ _ (⟨z.series, [], [], [], 0, 0, 0, 0, 0⟩ : Shelf) _ _ _ _ (⟨z.series, ([] : List Sample), ([] : List Bucket), ([] : List Bucket), 0, 0, 0, 0, 0⟩ : Shelf) (In w1) w1 (fun _ h => h) (hM.slp 0 rfl) (hM.slp 1 rfl) (hM.slp 2 rfl) (hM.slp 3 rfl) (hM.slp 6 rfl) (FlatSl.nil_ _ 2 sampleE _) (FlatSl.nil_ _ 8 bucketE _) (FlatSl.nil_ _ 8 bucketE _)) ?_
  refine l_nil (hKN _ _ (fun _ h => (h.sel [4, 5, 6, 7, 8, 9] (by decide) rfl)) ?_)
  refine n_run (f := 0) [13, 14] rfl rfl (by kernel_rfl) (by kernel_rfl) (fun _ h => (h.sel [4, 5, 6, 7, 8, 9] (by decide) rfl)) fun KS hKS => ?_
  refine s_val (wg rfl rfl rfl) (r_not rfl) rfl ?_
  refine s_val wn (r_pick rfl rfl) rfl ?_
  refine s_end hKS ?_
  refine n_done (by kernel_rfl) (e_go hK3 ?_)
  refine c_cond rfl (fun h1 => ?_) (fun h1 => ?_)
  ·
    refine c_seq fun K4 hK4 => ?_
    refine c_region ?_
    refine l_val wn (r_assign rfl) rfl ?_
    refine l_nil (e_go hK4 ?_)
    refine c_ret (e_then_r (e_ret1 (.inl rfl) Try.results4 (rv_tmp rfl) fun w1 hM => ?_))
    exact absurd h1 (by simp)
  ·
    refine c_skip (e_go hK2 ?_)
    refine c_seq fun K5 hK5 => ?_
    refine c_region ?_
    refine l_val wn (r_lbn 5 [.slice z0A z.series.length z0c, .slice z1A z.raw.length z1c, .slice z2A z.fine.length z2c, .slice z3A z.coarse.length z3c, .int .i64 z.rawFrom, .int .i64 z.fineFrom, .int .i64 z.fineTo, .int .i64 z.coarseFrom, .int .i64 z.coarseTo] rfl rfl rfl rfl agg27 inf27) rfl ?_
    refine l_val wn (r_lbn 4 [.int .i64 x.time, .int .i64 x.value] rfl rfl rfl rfl agg39 inf39) rfl ?_
    refine l_callSh (fun u => .tuple (List.toArray [u, .int .i64 ((Sh.append z x).2)])) ((Sh.append z x).1) wn rfl Try.call23 rfl (fun w1 Pb hM pp => c_append _ _ _ _ z x Pb w1 pp.lt (pp.sl 6 rfl) (pp.sl 7 rfl) (pp.sl 8 rfl) (pp.sl 9 rfl)) fun A5 cp5 A6 cp6 A7 cp7 A8 cp8 hb2 hA5 hA6 hA7 hA8 => ?_
    refine l_val wn (r_move rfl) rfl ?_
    refine l_val wn (r_extract rfl rfl) rfl ?_
    refine l_val wn (r_extract rfl rfl) rfl ?_
    refine l_alloc wn inf27 rfl fun b9 => ?_
    refine l_stn 0 wn rfl rfl rfl inf27 rfl rfl rfl ?_
    refine l_val wn (r_assign rfl) rfl ?_
    refine l_nil (e_go hK5 ?_)
    refine c_seq fun K6 hK6 => ?_
    refine c_region ?_
    refine l_val wn (r_lbn 10 [.slice z0A z.series.length z0c, .slice z1A z.raw.length z1c, .slice z2A z.fine.length z2c, .slice z3A z.coarse.length z3c, .int .i64 z.rawFrom, .int .i64 z.fineFrom, .int .i64 z.fineTo, .int .i64 z.coarseFrom, .int .i64 z.coarseTo] rfl rfl rfl rfl agg27 inf27) rfl ?_
    refine l_val wn (r_lbn 9 [.int .i64 x.time, .int .i64 x.value] rfl rfl rfl rfl agg39 inf39) rfl ?_
    refine l_callSh (fun u => .tuple (List.toArray [u, .int .i64 ((Sh.append z x).2)])) ((Sh.append z x).1) wn rfl Try.call24 rfl (fun w1 Pb hM pp => c_refAppend _ _ _ _ z x Pb w1 pp.lt (pp.sl 11 rfl) (pp.sl 12 rfl) (pp.sl 13 rfl) (pp.sl 14 rfl) (by exact hok)) fun A9 cp9 A10 cp10 A11 cp11 A12 cp12 hb3 hA9 hA10 hA11 hA12 => ?_
    refine l_val wn (r_move rfl) rfl ?_
    refine l_val wn (r_extract rfl rfl) rfl ?_
    refine l_val wn (r_extract rfl rfl) rfl ?_
    refine l_alloc wn inf27 rfl fun b11 => ?_
    refine l_stn 0 wn rfl rfl rfl inf27 rfl rfl rfl ?_
    refine l_val wn (r_assign rfl) rfl ?_
    refine l_nil (e_go hK6 ?_)
    refine c_seq fun K7 hK7 => ?_
    refine c_seq fun K8 hK8 => ?_
    refine c_region ?_
    refine l_val wn (r_move rfl) rfl ?_
    refine l_val wn (r_move rfl) rfl ?_
    refine l_val wn (r_neq rfl rfl) rfl ?_
    refine l_val wn (r_move rfl) rfl ?_
    refine l_litf (t := 43) rfl (fun h => h rfl) ?_
    refine l_val (wg rfl rfl rfl) (r_lbn 5 [.slice A5 (((Sh.append z x).1).series.length) cp5, .slice A6 (((Sh.append z x).1).raw.length) cp6, .slice A7 (((Sh.append z x).1).fine.length) cp7, .slice A8 (((Sh.append z x).1).coarse.length) cp8, .int .i64 (((Sh.append z x).1).rawFrom), .int .i64 (((Sh.append z x).1).fineFrom), .int .i64 (((Sh.append z x).1).fineTo), .int .i64 (((Sh.append z x).1).coarseFrom), .int .i64 (((Sh.append z x).1).coarseTo)] rfl rfl rfl rfl agg27 inf27) rfl ?_
    refine l_val (wg rfl rfl rfl) (r_lbn 0 [.slice A9 (((Sh.append z x).1).series.length) cp9, .slice A10 (((Sh.append z x).1).raw.length) cp10, .slice A11 (((Sh.append z x).1).fine.length) cp11, .slice A12 (((Sh.append z x).1).coarse.length) cp12, .int .i64 (((Sh.append z x).1).rawFrom), .int .i64 (((Sh.append z x).1).fineFrom), .int .i64 (((Sh.append z x).1).fineTo), .int .i64 (((Sh.append z x).1).coarseFrom), .int .i64 (((Sh.append z x).1).coarseTo)] rfl rfl rfl rfl agg27 inf27) rfl ?_
    refine l_callF (wg rfl rfl rfl) rfl Try.call21 rfl (fun w1 hM => c_shSame _ _ _ _ (⟨(((Sh.append z x).1).series), (((Sh.append z x).1).raw), (((Sh.append z x).1).fine), (((Sh.append z x).1).coarse), ((Sh.append z x).1).rawFrom, ((Sh.append z x).1).fineFrom, ((Sh.append z x).1).fineTo, ((Sh.append z x).1).coarseFrom, ((Sh.append z x).1).coarseTo⟩ : Shelf) _ _ _ _ (⟨(((Sh.append z x).1).series), (((Sh.append z x).1).raw), (((Sh.append z x).1).fine), (((Sh.append z x).1).coarse), ((Sh.append z x).1).rawFrom, ((Sh.append z x).1).fineFrom, ((Sh.append z x).1).fineTo, ((Sh.append z x).1).coarseFrom, ((Sh.append z x).1).coarseTo⟩ : Shelf) (In w1) w1 (fun _ h => h) (hM.slp 6 rfl) (hM.slp 7 rfl) (hM.slp 8 rfl) (hM.slp 9 rfl) (hM.slp 1 rfl) (hM.slp 2 rfl) (hM.slp 3 rfl) (hM.slp 4 rfl)) ?_
    refine l_val (wg rfl rfl rfl) (r_not rfl) rfl ?_
    refine l_val wn (r_pick rfl rfl) rfl ?_
    refine l_nil (e_go hK8 ?_)
    refine c_false rfl (decide_eq_false (fun h => h rfl)) ?_
    refine c_skip (e_go hK7 ?_)
    refine c_seq fun K9 hK9 => ?_
    refine c_region ?_
    refine l_val wn (r_lbn 15 [.slice z0A z.series.length z0c, .slice z1A z.raw.length z1c, .slice z2A z.fine.length z2c, .slice z3A z.coarse.length z3c, .int .i64 z.rawFrom, .int .i64 z.fineFrom, .int .i64 z.fineTo, .int .i64 z.coarseFrom, .int .i64 z.coarseTo] rfl rfl rfl rfl agg27 inf27) rfl ?_
    refine l_val wn (r_move rfl) rfl ?_
    refine l_callSh (fun u => .tuple (List.toArray [u, .int .i64 ((Sh.roll z to).2)])) ((Sh.roll z to).1) wn rfl Try.call25 rfl (fun w1 Pb hM pp => c_roll _ _ _ _ z to Pb w1 pp.lt (pp.sl 16 rfl) (pp.sl 17 rfl) (pp.sl 18 rfl) (pp.sl 19 rfl)) fun A13 cp13 A14 cp14 A15 cp15 A16 cp16 hb4 hA13 hA14 hA15 hA16 => ?_
    refine l_val wn (r_move rfl) rfl ?_
    refine l_val wn (r_extract rfl rfl) rfl ?_
    refine l_val wn (r_extract rfl rfl) rfl ?_
    refine l_stn 9 wn rfl rfl rfl inf27 rfl rfl rfl ?_
    refine l_val wn (r_assign rfl) rfl ?_
    refine l_nil (e_go hK9 ?_)
    refine c_seq fun K10 hK10 => ?_
    refine c_region ?_
    refine l_val wn (r_lbn 19 [.slice z0A z.series.length z0c, .slice z1A z.raw.length z1c, .slice z2A z.fine.length z2c, .slice z3A z.coarse.length z3c, .int .i64 z.rawFrom, .int .i64 z.fineFrom, .int .i64 z.fineTo, .int .i64 z.coarseFrom, .int .i64 z.coarseTo] rfl rfl rfl rfl agg27 inf27) rfl ?_
    refine l_val wn (r_move rfl) rfl ?_
    refine l_callSh (fun u => .tuple (List.toArray [u, .int .i64 ((Sh.roll z to).2)])) ((Sh.roll z to).1) wn rfl Try.call26 rfl (fun w1 Pb hM pp => c_refRoll _ _ _ _ z to Pb w1 pp.lt (pp.sl 20 rfl) (pp.sl 21 rfl) (pp.sl 22 rfl) (pp.sl 23 rfl) (by exact hok)) fun A17 cp17 A18 cp18 A19 cp19 A20 cp20 hb5 hA17 hA18 hA19 hA20 => ?_
    refine l_val wn (r_move rfl) rfl ?_
    refine l_val wn (r_extract rfl rfl) rfl ?_
    refine l_val wn (r_extract rfl rfl) rfl ?_
    refine l_stn 8 wn rfl rfl rfl inf27 rfl rfl rfl ?_
    refine l_val wn (r_assign rfl) rfl ?_
    refine l_nil (e_go hK10 ?_)
    refine c_seq fun K11 hK11 => ?_
    refine c_seq fun K12 hK12 => ?_
    refine c_region ?_
    refine l_val wn (r_move rfl) rfl ?_
    refine l_val wn (r_move rfl) rfl ?_
    refine l_val wn (r_neq rfl rfl) rfl ?_
    refine l_val wn (r_move rfl) rfl ?_
    refine l_litf (t := 64) rfl (fun h => h rfl) ?_
    refine l_val (wg rfl rfl rfl) (r_lbn 13 [.slice A13 (((Sh.roll z to).1).series.length) cp13, .slice A14 (((Sh.roll z to).1).raw.length) cp14, .slice A15 (((Sh.roll z to).1).fine.length) cp15, .slice A16 (((Sh.roll z to).1).coarse.length) cp16, .int .i64 (((Sh.roll z to).1).rawFrom), .int .i64 (((Sh.roll z to).1).fineFrom), .int .i64 (((Sh.roll z to).1).fineTo), .int .i64 (((Sh.roll z to).1).coarseFrom), .int .i64 (((Sh.roll z to).1).coarseTo)] rfl rfl rfl rfl agg27 inf27) rfl ?_
    refine l_val (wg rfl rfl rfl) (r_lbn 8 [.slice A17 (((Sh.roll z to).1).series.length) cp17, .slice A18 (((Sh.roll z to).1).raw.length) cp18, .slice A19 (((Sh.roll z to).1).fine.length) cp19, .slice A20 (((Sh.roll z to).1).coarse.length) cp20, .int .i64 (((Sh.roll z to).1).rawFrom), .int .i64 (((Sh.roll z to).1).fineFrom), .int .i64 (((Sh.roll z to).1).fineTo), .int .i64 (((Sh.roll z to).1).coarseFrom), .int .i64 (((Sh.roll z to).1).coarseTo)] rfl rfl rfl rfl agg27 inf27) rfl ?_
    refine l_callF (wg rfl rfl rfl) rfl Try.call21 rfl (fun w1 hM => c_shSame _ _ _ _ (⟨(((Sh.roll z to).1).series), (((Sh.roll z to).1).raw), (((Sh.roll z to).1).fine), (((Sh.roll z to).1).coarse), ((Sh.roll z to).1).rawFrom, ((Sh.roll z to).1).fineFrom, ((Sh.roll z to).1).fineTo, ((Sh.roll z to).1).coarseFrom, ((Sh.roll z to).1).coarseTo⟩ : Shelf) _ _ _ _ (⟨(((Sh.roll z to).1).series), (((Sh.roll z to).1).raw), (((Sh.roll z to).1).fine), (((Sh.roll z to).1).coarse), ((Sh.roll z to).1).rawFrom, ((Sh.roll z to).1).fineFrom, ((Sh.roll z to).1).fineTo, ((Sh.roll z to).1).coarseFrom, ((Sh.roll z to).1).coarseTo⟩ : Shelf) (In w1) w1 (fun _ h => h) (hM.slp 4 rfl) (hM.slp 5 rfl) (hM.slp 6 rfl) (hM.slp 7 rfl) (hM.slp 0 rfl) (hM.slp 1 rfl) (hM.slp 2 rfl) (hM.slp 3 rfl)) ?_
    refine l_val (wg rfl rfl rfl) (r_not rfl) rfl ?_
    refine l_val wn (r_pick rfl rfl) rfl ?_
    refine l_nil (e_go hK12 ?_)
    refine c_false rfl (decide_eq_false (fun h => h rfl)) ?_
    refine c_skip (e_go hK11 ?_)
    refine c_seq fun K13 hK13 => ?_
    refine c_region ?_
    refine l_val wn (r_lbn 23 [.slice z0A z.series.length z0c, .slice z1A z.raw.length z1c, .slice z2A z.fine.length z2c, .slice z3A z.coarse.length z3c, .int .i64 z.rawFrom, .int .i64 z.fineFrom, .int .i64 z.fineTo, .int .i64 z.coarseFrom, .int .i64 z.coarseTo] rfl rfl rfl rfl agg27 inf27) rfl ?_
    refine l_val wn (r_move rfl) rfl ?_
    refine l_val wn (r_move rfl) rfl ?_
    refine l_callSh (fun u => .tuple (List.toArray [u, .int .i64 ((Sh.forget z tier to).2)])) ((Sh.forget z tier to).1) wn rfl Try.call27 rfl (fun w1 Pb hM pp => c_forget _ _ _ _ z tier to Pb w1 pp.lt (pp.sl 24 rfl) (pp.sl 25 rfl) (pp.sl 26 rfl) (pp.sl 27 rfl)) fun A21 cp21 A22 cp22 A23 cp23 A24 cp24 hb6 hA21 hA22 hA23 hA24 => ?_
    refine l_val wn (r_move rfl) rfl ?_
    refine l_val wn (r_extract rfl rfl) rfl ?_
    refine l_val wn (r_extract rfl rfl) rfl ?_
    refine l_stn 17 wn rfl rfl rfl inf27 rfl rfl rfl ?_
    refine l_val wn (r_assign rfl) rfl ?_
    refine l_nil (e_go hK13 ?_)
    refine c_seq fun K14 hK14 => ?_
    refine c_region ?_
    refine l_val wn (r_lbn 27 [.slice z0A z.series.length z0c, .slice z1A z.raw.length z1c, .slice z2A z.fine.length z2c, .slice z3A z.coarse.length z3c, .int .i64 z.rawFrom, .int .i64 z.fineFrom, .int .i64 z.fineTo, .int .i64 z.coarseFrom, .int .i64 z.coarseTo] rfl rfl rfl rfl agg27 inf27) rfl ?_
    refine l_val wn (r_move rfl) rfl ?_
    refine l_val wn (r_move rfl) rfl ?_
    refine l_callSh (fun u => .tuple (List.toArray [u, .int .i64 ((Sh.forget z tier to).2)])) ((Sh.forget z tier to).1) wn rfl Try.call28 rfl (fun w1 Pb hM pp => c_refForget _ _ _ _ z tier to Pb w1 pp.lt (pp.sl 28 rfl) (pp.sl 29 rfl) (pp.sl 30 rfl) (pp.sl 31 rfl) (by exact hok)) fun A25 cp25 A26 cp26 A27 cp27 A28 cp28 hb7 hA25 hA26 hA27 hA28 => ?_
    refine l_val wn (r_move rfl) rfl ?_
    refine l_val wn (r_extract rfl rfl) rfl ?_
    refine l_val wn (r_extract rfl rfl) rfl ?_
    refine l_stn 16 wn rfl rfl rfl inf27 rfl rfl rfl ?_
    refine l_val wn (r_assign rfl) rfl ?_
    refine l_nil (e_go hK14 ?_)
    refine c_seq fun K15 hK15 => ?_
    refine c_region ?_
    refine l_val wn (r_move rfl) rfl ?_
    refine l_val wn (r_move rfl) rfl ?_
    refine l_val wn (r_eql rfl rfl) rfl ?_
    refine l_val wn (r_move rfl) rfl ?_
    refine l_litt (t := 87) rfl rfl ?_
    refine l_val (wg rfl rfl rfl) (r_lbn 21 [.slice A21 (((Sh.forget z tier to).1).series.length) cp21, .slice A22 (((Sh.forget z tier to).1).raw.length) cp22, .slice A23 (((Sh.forget z tier to).1).fine.length) cp23, .slice A24 (((Sh.forget z tier to).1).coarse.length) cp24, .int .i64 (((Sh.forget z tier to).1).rawFrom), .int .i64 (((Sh.forget z tier to).1).fineFrom), .int .i64 (((Sh.forget z tier to).1).fineTo), .int .i64 (((Sh.forget z tier to).1).coarseFrom), .int .i64 (((Sh.forget z tier to).1).coarseTo)] rfl rfl rfl rfl agg27 inf27) rfl ?_
    refine l_val (wg rfl rfl rfl) (r_lbn 16 [.slice A25 (((Sh.forget z tier to).1).series.length) cp25, .slice A26 (((Sh.forget z tier to).1).raw.length) cp26, .slice A27 (((Sh.forget z tier to).1).fine.length) cp27, .slice A28 (((Sh.forget z tier to).1).coarse.length) cp28, .int .i64 (((Sh.forget z tier to).1).rawFrom), .int .i64 (((Sh.forget z tier to).1).fineFrom), .int .i64 (((Sh.forget z tier to).1).fineTo), .int .i64 (((Sh.forget z tier to).1).coarseFrom), .int .i64 (((Sh.forget z tier to).1).coarseTo)] rfl rfl rfl rfl agg27 inf27) rfl ?_
    refine l_callF (wg rfl rfl rfl) rfl Try.call21 rfl (fun w1 hM => c_shSame _ _ _ _ (⟨(((Sh.forget z tier to).1).series), (((Sh.forget z tier to).1).raw), (((Sh.forget z tier to).1).fine), (((Sh.forget z tier to).1).coarse), ((Sh.forget z tier to).1).rawFrom, ((Sh.forget z tier to).1).fineFrom, ((Sh.forget z tier to).1).fineTo, ((Sh.forget z tier to).1).coarseFrom, ((Sh.forget z tier to).1).coarseTo⟩ : Shelf) _ _ _ _ (⟨(((Sh.forget z tier to).1).series), (((Sh.forget z tier to).1).raw), (((Sh.forget z tier to).1).fine), (((Sh.forget z tier to).1).coarse), ((Sh.forget z tier to).1).rawFrom, ((Sh.forget z tier to).1).fineFrom, ((Sh.forget z tier to).1).fineTo, ((Sh.forget z tier to).1).coarseFrom, ((Sh.forget z tier to).1).coarseTo⟩ : Shelf) (In w1) w1 (fun _ h => h) (hM.slp 4 rfl) (hM.slp 5 rfl) (hM.slp 6 rfl) (hM.slp 7 rfl) (hM.slp 0 rfl) (hM.slp 1 rfl) (hM.slp 2 rfl) (hM.slp 3 rfl)) ?_
    refine l_val wn (r_pick rfl rfl) rfl ?_
    refine l_val wn (r_assign rfl) rfl ?_
    refine l_nil (e_go hK15 ?_)
    refine c_ret (e_ret1 (.inl rfl) Try.results4 (rv_tmp rfl) fun w1 hM => ?_)
    exact ret_ok (by first | rfl | (rw [decide_eq_true]; rfl)) hM

end Go.Proofs.Ytnbkennlmnnbeaa
