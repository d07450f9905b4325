/-
  Walks: what each function hands back.
-/
import Derived.Test.YtnbkennlmnnbeaaLShelfTwice
namespace Go.Proofs.Ytnbkennlmnnbeaa
open Ex
set_option linter.unusedVariables false
set_option linter.unusedSimpArgs false
set_option maxHeartbeats 1000000 in
theorem law_ShelfRight (z0 : Value) (z1 : Value) (z2 : Value) (z3 : Value) (z : Shelf) (x : Sample) (tier : Int) (to : Int) (P0 : Nat → Prop) (w : World) (hP0 : ∀ b, P0 b → b < w.heap.size) (hz0 : FlatSl P0 2 labelE z0 z.series w) (hz1 : FlatSl P0 2 sampleE z1 z.raw w) (hz2 : FlatSl P0 8 bucketE z2 z.fine w) (hz3 : FlatSl P0 8 bucketE z3 z.coarse w)  :
    Calls Try.prog 5 #[.agg (List.toArray [z0, z1, z2, z3, .int .i64 z.rawFrom, .int .i64 z.fineFrom, .int .i64 z.fineTo, .int .i64 z.coarseFrom, .int .i64 z.coarseTo]), .agg (sampleE x).toArray, .int .i64 tier, .int .i64 to] w (Ret w (.bool true)) := by
  obtain ⟨z0A, z0c, rfl, hz0c, hz0m, hz0A⟩ := hz0.form
  obtain ⟨z1A, z1c, rfl, hz1c, hz1m, hz1A⟩ := hz1.form
  obtain ⟨z2A, z2c, rfl, hz2c, hz2m, hz2A⟩ := hz2.form
  obtain ⟨z3A, z3c, rfl, hz3c, hz3m, hz3A⟩ := hz3.form
  refine fstart (N := 98) (vals := [.agg (List.toArray [.slice z0A z.series.length z0c, .slice z1A z.raw.length z1c, .slice z2A z.fine.length z2c, .slice z3A z.coarse.length z3c, .int .i64 z.rawFrom, .int .i64 z.fineFrom, .int .i64 z.fineTo, .int .i64 z.coarseFrom, .int .i64 z.coarseTo]), .agg (sampleE x).toArray, .int .i64 tier, .int .i64 to]) (S := Mem w ⟨no, P0⟩ [slP 2 labelE (.slice z0A z.series.length z0c) z.series, slP 2 sampleE (.slice z1A z.raw.length z1c) z.raw, slP 8 bucketE (.slice z2A z.fine.length z2c) z.fine, slP 8 bucketE (.slice z3A z.coarse.length z3c) z.coarse]) Try.func5 rfl rfl rfl (Mem.ofDatsP hP0 (dc (dlp hz0) (dc (dlp hz1) (dc (dlp hz2) (dc (dlp hz3) dn))))) ?_
  refine c_seq fun K1 hK1 => ?_
  refine c_region ?_
  refine l_box wn rfl rfl fun b4 => ?_
  refine l_box wn rfl rfl fun b5 => ?_
  refine l_val wn (r_assign rfl) rfl ?_
  refine l_nil (e_go hK1 ?_)
  refine c_seq fun K2 hK2 => ?_
  refine c_seq fun K3 hK3 => ?_
  refine c_region ?_
  refine l_callF wn rfl Try.call29 rfl (fun w1 hM => c_alive7  w1) ?_
  refine l_val wn (r_notb rfl) rfl ?_
  refine l_nil (e_go hK3 ?_)
  refine c_false rfl rfl ?_
  refine c_skip (e_go hK2 ?_)
  refine c_seq fun K4 hK4 => ?_
  refine c_seq fun K5 hK5 => ?_
  refine c_region ?_
  refine l_val wn (r_lbn 1 [.slice z0A z.series.length z0c, .slice z1A z.raw.length z1c, .slice z2A z.fine.length z2c, .slice z3A z.coarse.length z3c, .int .i64 z.rawFrom, .int .i64 z.fineFrom, .int .i64 z.fineTo, .int .i64 z.coarseFrom, .int .i64 z.coarseTo] rfl rfl rfl rfl agg27 inf27) rfl ?_
  refine l_callF wn rfl Try.call19 rfl (fun w1 hM => c_shWrong _ _ _ _ z (In w1) w1 (fun _ h => h) (hM.slp 2 rfl) (hM.slp 3 rfl) (hM.slp 4 rfl) (hM.slp 5 rfl)) ?_
  refine l_val wn (r_neq rfl rfl) rfl ?_
  refine l_nil (e_go hK5 ?_)
  refine c_cond rfl (fun h1 => ?_) (fun h1 => ?_)
  ·
    refine c_seq fun K6 hK6 => ?_
    refine c_region ?_
    refine l_val wn (r_assign rfl) rfl ?_
    refine l_nil (e_go hK6 ?_)
    refine c_ret (e_then_r (e_ret1 (.inl rfl) Try.results5 (rv_tmp rfl) fun w1 hM => ?_))
    exact ret_ok rfl hM
  ·
    refine c_skip (e_go hK4 ?_)
    refine c_seq fun K7 hK7 => ?_
    refine c_region ?_
    refine l_val wn (r_lbn 1 [.slice z0A z.series.length z0c, .slice z1A z.raw.length z1c, .slice z2A z.fine.length z2c, .slice z3A z.coarse.length z3c, .int .i64 z.rawFrom, .int .i64 z.fineFrom, .int .i64 z.fineTo, .int .i64 z.coarseFrom, .int .i64 z.coarseTo] rfl rfl rfl rfl agg27 inf27) rfl ?_
    refine l_val wn (r_lbn 0 [.int .i64 x.time, .int .i64 x.value] rfl rfl rfl rfl agg39 inf39) rfl ?_
    refine l_callSh (fun u => .tuple (List.toArray [u, .int .i64 ((Sh.append z x).2)])) ((Sh.append z x).1) wn rfl Try.call23 rfl (fun w1 Pb hM pp => c_append _ _ _ _ z x Pb w1 pp.lt (pp.sl 2 rfl) (pp.sl 3 rfl) (pp.sl 4 rfl) (pp.sl 5 rfl)) fun A1 cp1 A2 cp2 A3 cp3 A4 cp4 hb1 hA1 hA2 hA3 hA4 => ?_
    refine l_val wn (r_move rfl) rfl ?_
    refine l_val wn (r_extract rfl rfl) rfl ?_
    refine l_val wn (r_extract rfl rfl) rfl ?_
    refine l_alloc wn inf27 rfl fun b9 => ?_
    refine l_stn 0 wn rfl rfl rfl inf27 rfl rfl rfl ?_
    refine l_val wn (r_assign rfl) rfl ?_
    refine l_nil (e_go hK7 ?_)
    refine c_seq fun K8 hK8 => ?_
    refine c_region ?_
    refine l_val wn (r_lbn 6 [.slice z0A z.series.length z0c, .slice z1A z.raw.length z1c, .slice z2A z.fine.length z2c, .slice z3A z.coarse.length z3c, .int .i64 z.rawFrom, .int .i64 z.fineFrom, .int .i64 z.fineTo, .int .i64 z.coarseFrom, .int .i64 z.coarseTo] rfl rfl rfl rfl agg27 inf27) rfl ?_
    refine l_val wn (r_move rfl) rfl ?_
    refine l_callSh (fun u => .tuple (List.toArray [u, .int .i64 ((Sh.roll z to).2)])) ((Sh.roll z to).1) wn rfl Try.call25 rfl (fun w1 Pb hM pp => c_roll _ _ _ _ z to Pb w1 pp.lt (pp.sl 7 rfl) (pp.sl 8 rfl) (pp.sl 9 rfl) (pp.sl 10 rfl)) fun A5 cp5 A6 cp6 A7 cp7 A8 cp8 hb2 hA5 hA6 hA7 hA8 => ?_
    refine l_val wn (r_move rfl) rfl ?_
    refine l_val wn (r_extract rfl rfl) rfl ?_
    refine l_val wn (r_extract rfl rfl) rfl ?_
    refine l_alloc wn inf27 rfl fun b11 => ?_
    refine l_stn 0 wn rfl rfl rfl inf27 rfl rfl rfl ?_
    refine l_val wn (r_assign rfl) rfl ?_
    refine l_nil (e_go hK8 ?_)
    refine c_seq fun K9 hK9 => ?_
    refine c_region ?_
    refine l_val wn (r_lbn 11 [.slice z0A z.series.length z0c, .slice z1A z.raw.length z1c, .slice z2A z.fine.length z2c, .slice z3A z.coarse.length z3c, .int .i64 z.rawFrom, .int .i64 z.fineFrom, .int .i64 z.fineTo, .int .i64 z.coarseFrom, .int .i64 z.coarseTo] rfl rfl rfl rfl agg27 inf27) rfl ?_
    refine l_val wn (r_move rfl) rfl ?_
    refine l_val wn (r_move rfl) rfl ?_
    refine l_callSh (fun u => .tuple (List.toArray [u, .int .i64 ((Sh.forget z tier to).2)])) ((Sh.forget z tier to).1) wn rfl Try.call27 rfl (fun w1 Pb hM pp => c_forget _ _ _ _ z tier to Pb w1 pp.lt (pp.sl 12 rfl) (pp.sl 13 rfl) (pp.sl 14 rfl) (pp.sl 15 rfl)) fun A9 cp9 A10 cp10 A11 cp11 A12 cp12 hb3 hA9 hA10 hA11 hA12 => ?_
    refine l_val wn (r_move rfl) rfl ?_
    refine l_val wn (r_extract rfl rfl) rfl ?_
    refine l_val wn (r_extract rfl rfl) rfl ?_
    refine l_alloc wn inf27 rfl fun b13 => ?_
    refine l_stn 0 wn rfl rfl rfl inf27 rfl rfl rfl ?_
    refine l_val wn (r_assign rfl) rfl ?_
    refine l_nil (e_go hK9 ?_)
    refine c_cut [] (Mem w ⟨no, P0⟩ [.blk b13 [.slice A9 (((Sh.forget z tier to).1).series.length) cp9, .slice A10 (((Sh.forget z tier to).1).raw.length) cp10, .slice A11 (((Sh.forget z tier to).1).fine.length) cp11, .slice A12 (((Sh.forget z tier to).1).coarse.length) cp12, .int .i64 (((Sh.forget z tier to).1).rawFrom), .int .i64 (((Sh.forget z tier to).1).fineFrom), .int .i64 (((Sh.forget z tier to).1).fineTo), .int .i64 (((Sh.forget z tier to).1).coarseFrom), .int .i64 (((Sh.forget z tier to).1).coarseTo)] 27, slP 2 labelE (.slice A9 (((Sh.forget z tier to).1).series.length) cp9) (((Sh.forget z tier to).1).series), slP 2 sampleE (.slice A10 (((Sh.forget z tier to).1).raw.length) cp10) (((Sh.forget z tier to).1).raw), slP 8 bucketE (.slice A11 (((Sh.forget z tier to).1).fine.length) cp11) (((Sh.forget z tier to).1).fine), slP 8 bucketE (.slice A12 (((Sh.forget z tier to).1).coarse.length) cp12) (((Sh.forget z tier to).1).coarse), .blk b11 [.slice A5 (((Sh.roll z to).1).series.length) cp5, .slice A6 (((Sh.roll z to).1).raw.length) cp6, .slice A7 (((Sh.roll z to).1).fine.length) cp7, .slice A8 (((Sh.roll z to).1).coarse.length) cp8, .int .i64 (((Sh.roll z to).1).rawFrom), .int .i64 (((Sh.roll z to).1).fineFrom), .int .i64 (((Sh.roll z to).1).fineTo), .int .i64 (((Sh.roll z to).1).coarseFrom), .int .i64 (((Sh.roll z to).1).coarseTo)] 27, slP 2 labelE (.slice A5 (((Sh.roll z to).1).series.length) cp5) (((Sh.roll z to).1).series), slP 2 sampleE (.slice A6 (((Sh.roll z to).1).raw.length) cp6) (((Sh.roll z to).1).raw), slP 8 bucketE (.slice A7 (((Sh.roll z to).1).fine.length) cp7) (((Sh.roll z to).1).fine), slP 8 bucketE (.slice A8 (((Sh.roll z to).1).coarse.length) cp8) (((Sh.roll z to).1).coarse), .blk b9 [.slice A1 (((Sh.append z x).1).series.length) cp1, .slice A2 (((Sh.append z x).1).raw.length) cp2, .slice A3 (((Sh.append z x).1).fine.length) cp3, .slice A4 (((Sh.append z x).1).coarse.length) cp4, .int .i64 (((Sh.append z x).1).rawFrom), .int .i64 (((Sh.append z x).1).fineFrom), .int .i64 (((Sh.append z x).1).fineTo), .int .i64 (((Sh.append z x).1).coarseFrom), .int .i64 (((Sh.append z x).1).coarseTo)] 27, slP 2 labelE (.slice A1 (((Sh.append z x).1).series.length) cp1) (((Sh.append z x).1).series), slP 2 sampleE (.slice A2 (((Sh.append z x).1).raw.length) cp2) (((Sh.append z x).1).raw), slP 8 bucketE (.slice A3 (((Sh.append z x).1).fine.length) cp3) (((Sh.append z x).1).fine), slP 8 bucketE (.slice A4 (((Sh.append z x).1).coarse.length) cp4) (((Sh.append z x).1).coarse), .blk b5 [.int .i64 x.time, .int .i64 x.value] 39, .blk b4 [.slice z0A z.series.length z0c, .slice z1A z.raw.length z1c, .slice z2A z.fine.length z2c, .slice z3A z.coarse.length z3c, .int .i64 z.rawFrom, .int .i64 z.fineFrom, .int .i64 z.fineTo, .int .i64 z.coarseFrom, .int .i64 z.coarseTo] 27, slP 2 labelE (.slice z0A z.series.length z0c) z.series, slP 2 sampleE (.slice z1A z.raw.length z1c) z.raw, slP 8 bucketE (.slice z2A z.fine.length z2c) z.fine, slP 8 bucketE (.slice z3A z.coarse.length z3c) z.coarse]) (fun K10 hK10 => ?_) ?_
    ·
      refine c_seq fun K11 hK11 => ?_
      refine c_region ?_
      refine l_val wn (r_lbn 10 [.slice A1 (((Sh.append z x).1).series.length) cp1, .slice A2 (((Sh.append z x).1).raw.length) cp2, .slice A3 (((Sh.append z x).1).fine.length) cp3, .slice A4 (((Sh.append z x).1).coarse.length) cp4, .int .i64 (((Sh.append z x).1).rawFrom), .int .i64 (((Sh.append z x).1).fineFrom), .int .i64 (((Sh.append z x).1).fineTo), .int .i64 (((Sh.append z x).1).coarseFrom), .int .i64 (((Sh.append z x).1).coarseTo)] rfl rfl rfl rfl agg27 inf27) rfl ?_
      refine l_val wn (r_lbn 5 [.slice A5 (((Sh.roll z to).1).series.length) cp5, .slice A6 (((Sh.roll z to).1).raw.length) cp6, .slice A7 (((Sh.roll z to).1).fine.length) cp7, .slice A8 (((Sh.roll z to).1).coarse.length) cp8, .int .i64 (((Sh.roll z to).1).rawFrom), .int .i64 (((Sh.roll z to).1).fineFrom), .int .i64 (((Sh.roll z to).1).fineTo), .int .i64 (((Sh.roll z to).1).coarseFrom), .int .i64 (((Sh.roll z to).1).coarseTo)] rfl rfl rfl rfl agg27 inf27) rfl ?_
      refine l_val wn (r_lbn 0 [.slice A9 (((Sh.forget z tier to).1).series.length) cp9, .slice A10 (((Sh.forget z tier to).1).raw.length) cp10, .slice A11 (((Sh.forget z tier to).1).fine.length) cp11, .slice A12 (((Sh.forget z tier to).1).coarse.length) cp12, .int .i64 (((Sh.forget z tier to).1).rawFrom), .int .i64 (((Sh.forget z tier to).1).fineFrom), .int .i64 (((Sh.forget z tier to).1).fineTo), .int .i64 (((Sh.forget z tier to).1).coarseFrom), .int .i64 (((Sh.forget z tier to).1).coarseTo)] rfl rfl rfl rfl agg27 inf27) rfl ?_
      refine l_bsL shelfVE ([(⟨⟨A1, ((Sh.append z x).1).series.length, cp1⟩, ⟨A2, ((Sh.append z x).1).raw.length, cp2⟩, ⟨A3, ((Sh.append z x).1).fine.length, cp3⟩, ⟨A4, ((Sh.append z x).1).coarse.length, cp4⟩, ((Sh.append z x).1).rawFrom, ((Sh.append z x).1).fineFrom, ((Sh.append z x).1).fineTo, ((Sh.append z x).1).coarseFrom, ((Sh.append z x).1).coarseTo⟩ : ShelfV), (⟨⟨A5, ((Sh.roll z to).1).series.length, cp5⟩, ⟨A6, ((Sh.roll z to).1).raw.length, cp6⟩, ⟨A7, ((Sh.roll z to).1).fine.length, cp7⟩, ⟨A8, ((Sh.roll z to).1).coarse.length, cp8⟩, ((Sh.roll z to).1).rawFrom, ((Sh.roll z to).1).fineFrom, ((Sh.roll z to).1).fineTo, ((Sh.roll z to).1).coarseFrom, ((Sh.roll z to).1).coarseTo⟩ : ShelfV), (⟨⟨A9, ((Sh.forget z tier to).1).series.length, cp9⟩, ⟨A10, ((Sh.forget z tier to).1).raw.length, cp10⟩, ⟨A11, ((Sh.forget z tier to).1).fine.length, cp11⟩, ⟨A12, ((Sh.forget z tier to).1).coarse.length, cp12⟩, ((Sh.forget z tier to).1).rawFrom, ((Sh.forget z tier to).1).fineFrom, ((Sh.forget z tier to).1).fineTo, ((Sh.forget z tier to).1).coarseFrom, ((Sh.forget z tier to).1).coarseTo⟩ : ShelfV)] : List ShelfV) wn Try.underlying49 inf27 rfl rfl rfl rfl (by decide) (by decide) rfl fun b44 => ?_
      refine l_val wn (r_len rfl Try.underlying49) rfl ?_
      refine l_val wn (r_move rfl) rfl ?_
      refine l_nil (e_go hK11 ?_)
      refine c_block ?_
      refine c_enter ?_
      refine c_round fun K12 hK12 => ?_
      refine c_seq fun K13 hK13 => ?_
      refine c_region ?_
      refine l_val wn (r_lss rfl rfl) rfl ?_
      refine l_nil (e_go hK13 ?_)
      refine c_seq fun K14 hK14 => ?_
      refine c_true rfl (decide_eq_true (by decide)) ?_
      refine c_skip (e_go hK14 ?_)
      refine c_seq fun K15 hK15 => ?_
      refine c_block ?_
      refine c_seq fun K16 hK16 => ?_
      refine c_region ?_
      refine l_val wn (r_move rfl) rfl ?_
      refine l_val wn (r_ia (i := 0) rfl rfl rfl (by omega) (by first | omega | decide | (simp only [List.length_cons, List.length_nil, List.length_append, List.length_take, List.length_set]; omega)) Try.underlying49 inf27) rfl ?_
      refine l_val wn (r_rln 0 [.slice A1 (((Sh.append z x).1).series.length) cp1, .slice A2 (((Sh.append z x).1).raw.length) cp2, .slice A3 (((Sh.append z x).1).fine.length) cp3, .slice A4 (((Sh.append z x).1).coarse.length) cp4, .int .i64 (((Sh.append z x).1).rawFrom), .int .i64 (((Sh.append z x).1).fineFrom), .int .i64 (((Sh.append z x).1).fineTo), .int .i64 (((Sh.append z x).1).coarseFrom), .int .i64 (((Sh.append z x).1).coarseTo)] encShelfV rfl rfl rfl (show ([(⟨⟨A1, ((Sh.append z x).1).series.length, cp1⟩, ⟨A2, ((Sh.append z x).1).raw.length, cp2⟩, ⟨A3, ((Sh.append z x).1).fine.length, cp3⟩, ⟨A4, ((Sh.append z x).1).coarse.length, cp4⟩, ((Sh.append z x).1).rawFrom, ((Sh.append z x).1).fineFrom, ((Sh.append z x).1).fineTo, ((Sh.append z x).1).coarseFrom, ((Sh.append z x).1).coarseTo⟩ : ShelfV), (⟨⟨A5, ((Sh.roll z to).1).series.length, cp5⟩, ⟨A6, ((Sh.roll z to).1).raw.length, cp6⟩, ⟨A7, ((Sh.roll z to).1).fine.length, cp7⟩, ⟨A8, ((Sh.roll z to).1).coarse.length, cp8⟩, ((Sh.roll z to).1).rawFrom, ((Sh.roll z to).1).fineFrom, ((Sh.roll z to).1).fineTo, ((Sh.roll z to).1).coarseFrom, ((Sh.roll z to).1).coarseTo⟩ : ShelfV), (⟨⟨A9, ((Sh.forget z tier to).1).series.length, cp9⟩, ⟨A10, ((Sh.forget z tier to).1).raw.length, cp10⟩, ⟨A11, ((Sh.forget z tier to).1).fine.length, cp11⟩, ⟨A12, ((Sh.forget z tier to).1).coarse.length, cp12⟩, ((Sh.forget z tier to).1).rawFrom, ((Sh.forget z tier to).1).fineFrom, ((Sh.forget z tier to).1).fineTo, ((Sh.forget z tier to).1).coarseFrom, ((Sh.forget z tier to).1).coarseTo⟩ : ShelfV)] : List ShelfV)[0]? = some (⟨⟨A1, ((Sh.append z x).1).series.length, cp1⟩, ⟨A2, ((Sh.append z x).1).raw.length, cp2⟩, ⟨A3, ((Sh.append z x).1).fine.length, cp3⟩, ⟨A4, ((Sh.append z x).1).coarse.length, cp4⟩, ((Sh.append z x).1).rawFrom, ((Sh.append z x).1).fineFrom, ((Sh.append z x).1).fineTo, ((Sh.append z x).1).coarseFrom, ((Sh.append z x).1).coarseTo⟩ : ShelfV) from rfl) rfl rfl agg27 inf27) rfl ?_
      refine l_alloc wn inf27 rfl fun b16 => ?_
      refine l_val wn (r_assign rfl) rfl ?_
      refine l_stn 0 wn rfl rfl rfl inf27 rfl rfl rfl ?_
      refine l_nil (e_go hK16 ?_)
      refine c_seq fun K17 hK17 => ?_
      refine c_seq fun K18 hK18 => ?_
      refine c_region ?_
      refine l_val wn (r_move rfl) rfl ?_
      refine l_val wn (r_move rfl) rfl ?_
      refine l_val wn (r_move rfl) rfl ?_
      refine l_bsL intE ([((Sh.append z x).2), ((Sh.roll z to).2), ((Sh.forget z tier to).2)] : List Int) wn Try.underlying50 inf30 rfl rfl rfl rfl (by decide) (by decide) rfl fun b54 => ?_
      refine l_val wn (r_move rfl) rfl ?_
      refine l_val wn (r_ia (i := 0) rfl rfl rfl (by omega) (by first | omega | decide | (simp only [List.length_cons, List.length_nil, List.length_append, List.length_take, List.length_set]; omega)) Try.underlying50 inf30) rfl ?_
      refine l_val wn (r_rl 0 encInt rfl rfl rfl (show ([((Sh.append z x).2), ((Sh.roll z to).2), ((Sh.forget z tier to).2)] : List Int)[0]? = some ((Sh.append z x).2) from rfl) rfl flat30) rfl ?_
      refine l_val wn (r_neq rfl rfl) rfl ?_
      refine l_nil (e_go hK18 ?_)
      refine c_cond rfl (fun h2 => ?_) (fun h2 => ?_)
      ·
        refine c_exit (e_then_x (e_in_hit (e_go hK15 ?_)))
        refine c_region ?_
        refine l_val wn (r_addn rfl rfl (by omega)) rfl ?_
        refine l_val wn (r_move rfl) rfl ?_
        refine l_nil (e_goL hK12 ?_)
        refine c_round fun K19 hK19 => ?_
        refine c_seq fun K20 hK20 => ?_
        refine c_region ?_
        refine l_val wn (r_lss rfl rfl) rfl ?_
        refine l_nil (e_go hK20 ?_)
        refine c_seq fun K21 hK21 => ?_
        refine c_true rfl (decide_eq_true (by decide)) ?_
        refine c_skip (e_go hK21 ?_)
        refine c_seq fun K22 hK22 => ?_
        refine c_block ?_
        refine c_seq fun K23 hK23 => ?_
        refine c_region ?_
        refine l_val wn (r_move rfl) rfl ?_
        refine l_val wn (r_ia (i := 1) rfl rfl rfl (by omega) (by first | omega | decide | (simp only [List.length_cons, List.length_nil, List.length_append, List.length_take, List.length_set]; omega)) Try.underlying49 inf27) rfl ?_
        refine l_val wn (r_rln 2 [.slice A5 (((Sh.roll z to).1).series.length) cp5, .slice A6 (((Sh.roll z to).1).raw.length) cp6, .slice A7 (((Sh.roll z to).1).fine.length) cp7, .slice A8 (((Sh.roll z to).1).coarse.length) cp8, .int .i64 (((Sh.roll z to).1).rawFrom), .int .i64 (((Sh.roll z to).1).fineFrom), .int .i64 (((Sh.roll z to).1).fineTo), .int .i64 (((Sh.roll z to).1).coarseFrom), .int .i64 (((Sh.roll z to).1).coarseTo)] encShelfV rfl rfl rfl (show ([(⟨⟨A1, ((Sh.append z x).1).series.length, cp1⟩, ⟨A2, ((Sh.append z x).1).raw.length, cp2⟩, ⟨A3, ((Sh.append z x).1).fine.length, cp3⟩, ⟨A4, ((Sh.append z x).1).coarse.length, cp4⟩, ((Sh.append z x).1).rawFrom, ((Sh.append z x).1).fineFrom, ((Sh.append z x).1).fineTo, ((Sh.append z x).1).coarseFrom, ((Sh.append z x).1).coarseTo⟩ : ShelfV), (⟨⟨A5, ((Sh.roll z to).1).series.length, cp5⟩, ⟨A6, ((Sh.roll z to).1).raw.length, cp6⟩, ⟨A7, ((Sh.roll z to).1).fine.length, cp7⟩, ⟨A8, ((Sh.roll z to).1).coarse.length, cp8⟩, ((Sh.roll z to).1).rawFrom, ((Sh.roll z to).1).fineFrom, ((Sh.roll z to).1).fineTo, ((Sh.roll z to).1).coarseFrom, ((Sh.roll z to).1).coarseTo⟩ : ShelfV), (⟨⟨A9, ((Sh.forget z tier to).1).series.length, cp9⟩, ⟨A10, ((Sh.forget z tier to).1).raw.length, cp10⟩, ⟨A11, ((Sh.forget z tier to).1).fine.length, cp11⟩, ⟨A12, ((Sh.forget z tier to).1).coarse.length, cp12⟩, ((Sh.forget z tier to).1).rawFrom, ((Sh.forget z tier to).1).fineFrom, ((Sh.forget z tier to).1).fineTo, ((Sh.forget z tier to).1).coarseFrom, ((Sh.forget z tier to).1).coarseTo⟩ : ShelfV)] : List ShelfV)[1]? = some (⟨⟨A5, ((Sh.roll z to).1).series.length, cp5⟩, ⟨A6, ((Sh.roll z to).1).raw.length, cp6⟩, ⟨A7, ((Sh.roll z to).1).fine.length, cp7⟩, ⟨A8, ((Sh.roll z to).1).coarse.length, cp8⟩, ((Sh.roll z to).1).rawFrom, ((Sh.roll z to).1).fineFrom, ((Sh.roll z to).1).fineTo, ((Sh.roll z to).1).coarseFrom, ((Sh.roll z to).1).coarseTo⟩ : ShelfV) from rfl) rfl rfl agg27 inf27) rfl ?_
        refine l_alloc wn inf27 rfl fun b16 => ?_
        refine l_val wn (r_assign rfl) rfl ?_
        refine l_stn 0 wn rfl rfl rfl inf27 rfl rfl rfl ?_
        refine l_nil (e_go hK23 ?_)
        refine c_seq fun K24 hK24 => ?_
        refine c_seq fun K25 hK25 => ?_
        refine c_region ?_
        refine l_val wn (r_move rfl) rfl ?_
        refine l_val wn (r_move rfl) rfl ?_
        refine l_val wn (r_move rfl) rfl ?_
        refine l_bsL intE ([((Sh.append z x).2), ((Sh.roll z to).2), ((Sh.forget z tier to).2)] : List Int) wn Try.underlying50 inf30 rfl rfl rfl rfl (by decide) (by decide) rfl fun b54 => ?_
        refine l_val wn (r_move rfl) rfl ?_
        refine l_val wn (r_ia (i := 1) rfl rfl rfl (by omega) (by first | omega | decide | (simp only [List.length_cons, List.length_nil, List.length_append, List.length_take, List.length_set]; omega)) Try.underlying50 inf30) rfl ?_
        refine l_val wn (r_rl 0 encInt rfl rfl rfl (show ([((Sh.append z x).2), ((Sh.roll z to).2), ((Sh.forget z tier to).2)] : List Int)[1]? = some ((Sh.roll z to).2) from rfl) rfl flat30) rfl ?_
        refine l_val wn (r_neq rfl rfl) rfl ?_
        refine l_nil (e_go hK25 ?_)
        refine c_cond rfl (fun h3 => ?_) (fun h3 => ?_)
        ·
          refine c_exit (e_then_x (e_in_hit (e_go hK22 ?_)))
          refine c_region ?_
          refine l_val wn (r_addn rfl rfl (by omega)) rfl ?_
          refine l_val wn (r_move rfl) rfl ?_
          refine l_nil (e_goL hK19 ?_)
          refine c_round fun K26 hK26 => ?_
          refine c_seq fun K27 hK27 => ?_
          refine c_region ?_
          refine l_val wn (r_lss rfl rfl) rfl ?_
          refine l_nil (e_go hK27 ?_)
          refine c_seq fun K28 hK28 => ?_
          refine c_true rfl (decide_eq_true (by decide)) ?_
          refine c_skip (e_go hK28 ?_)
          refine c_seq fun K29 hK29 => ?_
          refine c_block ?_
          refine c_seq fun K30 hK30 => ?_
          refine c_region ?_
          refine l_val wn (r_move rfl) rfl ?_
          refine l_val wn (r_ia (i := 2) rfl rfl rfl (by omega) (by first | omega | decide | (simp only [List.length_cons, List.length_nil, List.length_append, List.length_take, List.length_set]; omega)) Try.underlying49 inf27) rfl ?_
          refine l_val wn (r_rln 4 [.slice A9 (((Sh.forget z tier to).1).series.length) cp9, .slice A10 (((Sh.forget z tier to).1).raw.length) cp10, .slice A11 (((Sh.forget z tier to).1).fine.length) cp11, .slice A12 (((Sh.forget z tier to).1).coarse.length) cp12, .int .i64 (((Sh.forget z tier to).1).rawFrom), .int .i64 (((Sh.forget z tier to).1).fineFrom), .int .i64 (((Sh.forget z tier to).1).fineTo), .int .i64 (((Sh.forget z tier to).1).coarseFrom), .int .i64 (((Sh.forget z tier to).1).coarseTo)] encShelfV rfl rfl rfl (show ([(⟨⟨A1, ((Sh.append z x).1).series.length, cp1⟩, ⟨A2, ((Sh.append z x).1).raw.length, cp2⟩, ⟨A3, ((Sh.append z x).1).fine.length, cp3⟩, ⟨A4, ((Sh.append z x).1).coarse.length, cp4⟩, ((Sh.append z x).1).rawFrom, ((Sh.append z x).1).fineFrom, ((Sh.append z x).1).fineTo, ((Sh.append z x).1).coarseFrom, ((Sh.append z x).1).coarseTo⟩ : ShelfV), (⟨⟨A5, ((Sh.roll z to).1).series.length, cp5⟩, ⟨A6, ((Sh.roll z to).1).raw.length, cp6⟩, ⟨A7, ((Sh.roll z to).1).fine.length, cp7⟩, ⟨A8, ((Sh.roll z to).1).coarse.length, cp8⟩, ((Sh.roll z to).1).rawFrom, ((Sh.roll z to).1).fineFrom, ((Sh.roll z to).1).fineTo, ((Sh.roll z to).1).coarseFrom, ((Sh.roll z to).1).coarseTo⟩ : ShelfV), (⟨⟨A9, ((Sh.forget z tier to).1).series.length, cp9⟩, ⟨A10, ((Sh.forget z tier to).1).raw.length, cp10⟩, ⟨A11, ((Sh.forget z tier to).1).fine.length, cp11⟩, ⟨A12, ((Sh.forget z tier to).1).coarse.length, cp12⟩, ((Sh.forget z tier to).1).rawFrom, ((Sh.forget z tier to).1).fineFrom, ((Sh.forget z tier to).1).fineTo, ((Sh.forget z tier to).1).coarseFrom, ((Sh.forget z tier to).1).coarseTo⟩ : ShelfV)] : List ShelfV)[2]? = some (⟨⟨A9, ((Sh.forget z tier to).1).series.length, cp9⟩, ⟨A10, ((Sh.forget z tier to).1).raw.length, cp10⟩, ⟨A11, ((Sh.forget z tier to).1).fine.length, cp11⟩, ⟨A12, ((Sh.forget z tier to).1).coarse.length, cp12⟩, ((Sh.forget z tier to).1).rawFrom, ((Sh.forget z tier to).1).fineFrom, ((Sh.forget z tier to).1).fineTo, ((Sh.forget z tier to).1).coarseFrom, ((Sh.forget z tier to).1).coarseTo⟩ : ShelfV) from rfl) rfl rfl agg27 inf27) rfl ?_
          refine l_alloc wn inf27 rfl fun b16 => ?_
          refine l_val wn (r_assign rfl) rfl ?_
          refine l_stn 0 wn rfl rfl rfl inf27 rfl rfl rfl ?_
          refine l_nil (e_go hK30 ?_)
          refine c_seq fun K31 hK31 => ?_
          refine c_seq fun K32 hK32 => ?_
          refine c_region ?_
          refine l_val wn (r_move rfl) rfl ?_
          refine l_val wn (r_move rfl) rfl ?_
          refine l_val wn (r_move rfl) rfl ?_
          refine l_bsL intE ([((Sh.append z x).2), ((Sh.roll z to).2), ((Sh.forget z tier to).2)] : List Int) wn Try.underlying50 inf30 rfl rfl rfl rfl (by decide) (by decide) rfl fun b54 => ?_
          refine l_val wn (r_move rfl) rfl ?_
          refine l_val wn (r_ia (i := 2) rfl rfl rfl (by omega) (by first | omega | decide | (simp only [List.length_cons, List.length_nil, List.length_append, List.length_take, List.length_set]; omega)) Try.underlying50 inf30) rfl ?_
          refine l_val wn (r_rl 0 encInt rfl rfl rfl (show ([((Sh.append z x).2), ((Sh.roll z to).2), ((Sh.forget z tier to).2)] : List Int)[2]? = some ((Sh.forget z tier to).2) from rfl) rfl flat30) rfl ?_
          refine l_val wn (r_neq rfl rfl) rfl ?_
          refine l_nil (e_go hK32 ?_)
          refine c_cond rfl (fun h4 => ?_) (fun h4 => ?_)
          ·
            refine c_exit (e_then_x (e_in_hit (e_go hK29 ?_)))
            refine c_region ?_
            refine l_val wn (r_addn rfl rfl (by omega)) rfl ?_
            refine l_val wn (r_move rfl) rfl ?_
            refine l_nil (e_goL hK26 ?_)
            refine c_round fun K33 hK33 => ?_
            refine c_seq fun K34 hK34 => ?_
            refine c_region ?_
            refine l_val wn (r_lss rfl rfl) rfl ?_
            refine l_nil (e_go hK34 ?_)
            refine c_seq fun K35 hK35 => ?_
            refine c_false rfl (decide_eq_false (by decide)) ?_
            refine c_exit (e_then_x (e_then_x (e_in_hit (e_cut hK10 (sn) (fun _ h => (h.sel [7, 8, 9, 10, 11, 12, 13, 14, 15, 16, 17, 18, 19, 20, 21, 22, 23, 24, 25, 26, 27] (by decide) rfl))))))
          ·
            have hrf := Sh.forget_right (Classical.not_not.1 h4)
            refine c_skip (e_go hK31 ?_)
            refine c_seq fun K36 hK36 => ?_
            refine c_region ?_
            refine l_val wn (r_lbn 1 [.slice A9 (((Sh.forget z tier to).1).series.length) cp9, .slice A10 (((Sh.forget z tier to).1).raw.length) cp10, .slice A11 (((Sh.forget z tier to).1).fine.length) cp11, .slice A12 (((Sh.forget z tier to).1).coarse.length) cp12, .int .i64 (((Sh.forget z tier to).1).rawFrom), .int .i64 (((Sh.forget z tier to).1).fineFrom), .int .i64 (((Sh.forget z tier to).1).fineTo), .int .i64 (((Sh.forget z tier to).1).coarseFrom), .int .i64 (((Sh.forget z tier to).1).coarseTo)] rfl rfl rfl rfl agg27 inf27) rfl ?_
            refine l_callF wn rfl Try.call19 rfl (fun w1 hM => c_shWrong _ _ _ _ ((Sh.forget z tier to).1) (In w1) w1 (fun _ h => h) (hM.slp 8 rfl) (hM.slp 9 rfl) (hM.slp 10 rfl) (hM.slp 11 rfl)) ?_
            refine l_val wn (r_neq rfl rfl) rfl ?_
            refine l_val wn (r_move rfl) rfl ?_
            refine l_litf (t := 62) rfl (fun g => g hrf.1.wrong) ?_
            refine l_val (wg rfl rfl rfl) (r_fa rfl fld27_4) rfl ?_
            refine l_val (wg rfl rfl rfl) (r_lb 1 rfl rfl rfl flat3) rfl ?_
            refine l_val (wg rfl rfl rfl) (r_fa rfl fld27_4) rfl ?_
            refine l_val (wg rfl rfl rfl) (r_lb 23 rfl rfl rfl flat3) rfl ?_
            refine l_val (wg rfl rfl rfl) (r_lss rfl rfl) rfl ?_
            refine l_val wn (r_pick rfl rfl) rfl ?_
            refine l_val wn (r_move rfl) rfl ?_
            refine l_litf (t := 69) rfl (by have := hrf.2; unfold Sh.Ahead at this; omega) ?_
            refine l_val (wg rfl rfl rfl) (r_fa rfl fld27_5) rfl ?_
            refine l_val (wg rfl rfl rfl) (r_lb 1 rfl rfl rfl flat3) rfl ?_
            refine l_val (wg rfl rfl rfl) (r_fa rfl fld27_5) rfl ?_
            refine l_val (wg rfl rfl rfl) (r_lb 23 rfl rfl rfl flat3) rfl ?_
            refine l_val (wg rfl rfl rfl) (r_lss rfl rfl) rfl ?_
            refine l_val wn (r_pick rfl rfl) rfl ?_
            refine l_val wn (r_move rfl) rfl ?_
            refine l_litf (t := 76) rfl (by have := hrf.2; unfold Sh.Ahead at this; omega) ?_
            refine l_val (wg rfl rfl rfl) (r_fa rfl fld27_6) rfl ?_
            refine l_val (wg rfl rfl rfl) (r_lb 1 rfl rfl rfl flat3) rfl ?_
            refine l_val (wg rfl rfl rfl) (r_fa rfl fld27_6) rfl ?_
            refine l_val (wg rfl rfl rfl) (r_lb 23 rfl rfl rfl flat3) rfl ?_
            refine l_val (wg rfl rfl rfl) (r_lss rfl rfl) rfl ?_
            refine l_val wn (r_pick rfl rfl) rfl ?_
            refine l_val wn (r_move rfl) rfl ?_
            refine l_litf (t := 83) rfl (by have := hrf.2; unfold Sh.Ahead at this; omega) ?_
            refine l_val (wg rfl rfl rfl) (r_fa rfl fld27_7) rfl ?_
            refine l_val (wg rfl rfl rfl) (r_lb 1 rfl rfl rfl flat3) rfl ?_
            refine l_val (wg rfl rfl rfl) (r_fa rfl fld27_7) rfl ?_
            refine l_val (wg rfl rfl rfl) (r_lb 23 rfl rfl rfl flat3) rfl ?_
            refine l_val (wg rfl rfl rfl) (r_lss rfl rfl) rfl ?_
            refine l_val wn (r_pick rfl rfl) rfl ?_
            refine l_val wn (r_move rfl) rfl ?_
            refine l_litf (t := 90) rfl (by have := hrf.2; unfold Sh.Ahead at this; omega) ?_
            refine l_val (wg rfl rfl rfl) (r_fa rfl fld27_8) rfl ?_
            refine l_val (wg rfl rfl rfl) (r_lb 1 rfl rfl rfl flat3) rfl ?_
            refine l_val (wg rfl rfl rfl) (r_fa rfl fld27_8) rfl ?_
            refine l_val (wg rfl rfl rfl) (r_lb 23 rfl rfl rfl flat3) rfl ?_
            refine l_val (wg rfl rfl rfl) (r_lss rfl rfl) rfl ?_
            refine l_val wn (r_pick rfl rfl) rfl ?_
            refine l_nil (e_go hK36 ?_)
            refine c_false rfl (decide_eq_false (by have := hrf.2; unfold Sh.Ahead at this; omega)) ?_
            refine c_skip (e_in_n (e_go hK29 ?_))
            refine c_region ?_
            refine l_val wn (r_addn rfl rfl (by omega)) rfl ?_
            refine l_val wn (r_move rfl) rfl ?_
            refine l_nil (e_goL hK26 ?_)
            refine c_round fun K37 hK37 => ?_
            refine c_seq fun K38 hK38 => ?_
            refine c_region ?_
            refine l_val wn (r_lss rfl rfl) rfl ?_
            refine l_nil (e_go hK38 ?_)
            refine c_seq fun K39 hK39 => ?_
            refine c_false rfl (decide_eq_false (by decide)) ?_
            refine c_exit (e_then_x (e_then_x (e_in_hit (e_cut hK10 (sn) (fun _ h => (h.sel [7, 8, 9, 10, 11, 12, 13, 14, 15, 16, 17, 18, 19, 20, 21, 22, 23, 24, 25, 26, 27] (by decide) rfl))))))
        ·
          have hrr := Sh.roll_right (Classical.not_not.1 h3)
          refine c_skip (e_go hK24 ?_)
          refine c_seq fun K40 hK40 => ?_
          refine c_region ?_
          refine l_val wn (r_lbn 1 [.slice A5 (((Sh.roll z to).1).series.length) cp5, .slice A6 (((Sh.roll z to).1).raw.length) cp6, .slice A7 (((Sh.roll z to).1).fine.length) cp7, .slice A8 (((Sh.roll z to).1).coarse.length) cp8, .int .i64 (((Sh.roll z to).1).rawFrom), .int .i64 (((Sh.roll z to).1).fineFrom), .int .i64 (((Sh.roll z to).1).fineTo), .int .i64 (((Sh.roll z to).1).coarseFrom), .int .i64 (((Sh.roll z to).1).coarseTo)] rfl rfl rfl rfl agg27 inf27) rfl ?_
          refine l_callF wn rfl Try.call19 rfl (fun w1 hM => c_shWrong _ _ _ _ ((Sh.roll z to).1) (In w1) w1 (fun _ h => h) (hM.slp 11 rfl) (hM.slp 12 rfl) (hM.slp 13 rfl) (hM.slp 14 rfl)) ?_
          refine l_val wn (r_neq rfl rfl) rfl ?_
          refine l_val wn (r_move rfl) rfl ?_
          refine l_litf (t := 62) rfl (fun g => g hrr.1.wrong) ?_
          refine l_val (wg rfl rfl rfl) (r_fa rfl fld27_4) rfl ?_
          refine l_val (wg rfl rfl rfl) (r_lb 1 rfl rfl rfl flat3) rfl ?_
          refine l_val (wg rfl rfl rfl) (r_fa rfl fld27_4) rfl ?_
          refine l_val (wg rfl rfl rfl) (r_lb 21 rfl rfl rfl flat3) rfl ?_
          refine l_val (wg rfl rfl rfl) (r_lss rfl rfl) rfl ?_
          refine l_val wn (r_pick rfl rfl) rfl ?_
          refine l_val wn (r_move rfl) rfl ?_
          refine l_litf (t := 69) rfl (by have := hrr.2; unfold Sh.Ahead at this; omega) ?_
          refine l_val (wg rfl rfl rfl) (r_fa rfl fld27_5) rfl ?_
          refine l_val (wg rfl rfl rfl) (r_lb 1 rfl rfl rfl flat3) rfl ?_
          refine l_val (wg rfl rfl rfl) (r_fa rfl fld27_5) rfl ?_
          refine l_val (wg rfl rfl rfl) (r_lb 21 rfl rfl rfl flat3) rfl ?_
          refine l_val (wg rfl rfl rfl) (r_lss rfl rfl) rfl ?_
          refine l_val wn (r_pick rfl rfl) rfl ?_
          refine l_val wn (r_move rfl) rfl ?_
          refine l_litf (t := 76) rfl (by have := hrr.2; unfold Sh.Ahead at this; omega) ?_
          refine l_val (wg rfl rfl rfl) (r_fa rfl fld27_6) rfl ?_
          refine l_val (wg rfl rfl rfl) (r_lb 1 rfl rfl rfl flat3) rfl ?_
          refine l_val (wg rfl rfl rfl) (r_fa rfl fld27_6) rfl ?_
          refine l_val (wg rfl rfl rfl) (r_lb 21 rfl rfl rfl flat3) rfl ?_
          refine l_val (wg rfl rfl rfl) (r_lss rfl rfl) rfl ?_
          refine l_val wn (r_pick rfl rfl) rfl ?_
          refine l_val wn (r_move rfl) rfl ?_
          refine l_litf (t := 83) rfl (by have := hrr.2; unfold Sh.Ahead at this; omega) ?_
          refine l_val (wg rfl rfl rfl) (r_fa rfl fld27_7) rfl ?_
          refine l_val (wg rfl rfl rfl) (r_lb 1 rfl rfl rfl flat3) rfl ?_
          refine l_val (wg rfl rfl rfl) (r_fa rfl fld27_7) rfl ?_
          refine l_val (wg rfl rfl rfl) (r_lb 21 rfl rfl rfl flat3) rfl ?_
          refine l_val (wg rfl rfl rfl) (r_lss rfl rfl) rfl ?_
          refine l_val wn (r_pick rfl rfl) rfl ?_
          refine l_val wn (r_move rfl) rfl ?_
          refine l_litf (t := 90) rfl (by have := hrr.2; unfold Sh.Ahead at this; omega) ?_
          refine l_val (wg rfl rfl rfl) (r_fa rfl fld27_8) rfl ?_
          refine l_val (wg rfl rfl rfl) (r_lb 1 rfl rfl rfl flat3) rfl ?_
          refine l_val (wg rfl rfl rfl) (r_fa rfl fld27_8) rfl ?_
          refine l_val (wg rfl rfl rfl) (r_lb 21 rfl rfl rfl flat3) rfl ?_
          refine l_val (wg rfl rfl rfl) (r_lss rfl rfl) rfl ?_
          refine l_val wn (r_pick rfl rfl) rfl ?_
          refine l_nil (e_go hK40 ?_)
          refine c_false rfl (decide_eq_false (by have := hrr.2; unfold Sh.Ahead at this; omega)) ?_
          refine c_skip (e_in_n (e_go hK22 ?_))
          refine c_region ?_
          refine l_val wn (r_addn rfl rfl (by omega)) rfl ?_
          refine l_val wn (r_move rfl) rfl ?_
          refine l_nil (e_goL hK19 ?_)
          refine c_round fun K41 hK41 => ?_
          refine c_seq fun K42 hK42 => ?_
          refine c_region ?_
          refine l_val wn (r_lss rfl rfl) rfl ?_
          refine l_nil (e_go hK42 ?_)
          refine c_seq fun K43 hK43 => ?_
          refine c_true rfl (decide_eq_true (by decide)) ?_
          refine c_skip (e_go hK43 ?_)
          refine c_seq fun K44 hK44 => ?_
          refine c_block ?_
          refine c_seq fun K45 hK45 => ?_
          refine c_region ?_
          refine l_val wn (r_move rfl) rfl ?_
          refine l_val wn (r_ia (i := 2) rfl rfl rfl (by omega) (by first | omega | decide | (simp only [List.length_cons, List.length_nil, List.length_append, List.length_take, List.length_set]; omega)) Try.underlying49 inf27) rfl ?_
          refine l_val wn (r_rln 4 [.slice A9 (((Sh.forget z tier to).1).series.length) cp9, .slice A10 (((Sh.forget z tier to).1).raw.length) cp10, .slice A11 (((Sh.forget z tier to).1).fine.length) cp11, .slice A12 (((Sh.forget z tier to).1).coarse.length) cp12, .int .i64 (((Sh.forget z tier to).1).rawFrom), .int .i64 (((Sh.forget z tier to).1).fineFrom), .int .i64 (((Sh.forget z tier to).1).fineTo), .int .i64 (((Sh.forget z tier to).1).coarseFrom), .int .i64 (((Sh.forget z tier to).1).coarseTo)] encShelfV rfl rfl rfl (show ([(⟨⟨A1, ((Sh.append z x).1).series.length, cp1⟩, ⟨A2, ((Sh.append z x).1).raw.length, cp2⟩, ⟨A3, ((Sh.append z x).1).fine.length, cp3⟩, ⟨A4, ((Sh.append z x).1).coarse.length, cp4⟩, ((Sh.append z x).1).rawFrom, ((Sh.append z x).1).fineFrom, ((Sh.append z x).1).fineTo, ((Sh.append z x).1).coarseFrom, ((Sh.append z x).1).coarseTo⟩ : ShelfV), (⟨⟨A5, ((Sh.roll z to).1).series.length, cp5⟩, ⟨A6, ((Sh.roll z to).1).raw.length, cp6⟩, ⟨A7, ((Sh.roll z to).1).fine.length, cp7⟩, ⟨A8, ((Sh.roll z to).1).coarse.length, cp8⟩, ((Sh.roll z to).1).rawFrom, ((Sh.roll z to).1).fineFrom, ((Sh.roll z to).1).fineTo, ((Sh.roll z to).1).coarseFrom, ((Sh.roll z to).1).coarseTo⟩ : ShelfV), (⟨⟨A9, ((Sh.forget z tier to).1).series.length, cp9⟩, ⟨A10, ((Sh.forget z tier to).1).raw.length, cp10⟩, ⟨A11, ((Sh.forget z tier to).1).fine.length, cp11⟩, ⟨A12, ((Sh.forget z tier to).1).coarse.length, cp12⟩, ((Sh.forget z tier to).1).rawFrom, ((Sh.forget z tier to).1).fineFrom, ((Sh.forget z tier to).1).fineTo, ((Sh.forget z tier to).1).coarseFrom, ((Sh.forget z tier to).1).coarseTo⟩ : ShelfV)] : List ShelfV)[2]? = some (⟨⟨A9, ((Sh.forget z tier to).1).series.length, cp9⟩, ⟨A10, ((Sh.forget z tier to).1).raw.length, cp10⟩, ⟨A11, ((Sh.forget z tier to).1).fine.length, cp11⟩, ⟨A12, ((Sh.forget z tier to).1).coarse.length, cp12⟩, ((Sh.forget z tier to).1).rawFrom, ((Sh.forget z tier to).1).fineFrom, ((Sh.forget z tier to).1).fineTo, ((Sh.forget z tier to).1).coarseFrom, ((Sh.forget z tier to).1).coarseTo⟩ : ShelfV) from rfl) rfl rfl agg27 inf27) rfl ?_
          refine l_alloc wn inf27 rfl fun b16 => ?_
          refine l_val wn (r_assign rfl) rfl ?_
          refine l_stn 0 wn rfl rfl rfl inf27 rfl rfl rfl ?_
          refine l_nil (e_go hK45 ?_)
          refine c_seq fun K46 hK46 => ?_
          refine c_seq fun K47 hK47 => ?_
          refine c_region ?_
          refine l_val wn (r_move rfl) rfl ?_
          refine l_val wn (r_move rfl) rfl ?_
          refine l_val wn (r_move rfl) rfl ?_
          refine l_bsL intE ([((Sh.append z x).2), ((Sh.roll z to).2), ((Sh.forget z tier to).2)] : List Int) wn Try.underlying50 inf30 rfl rfl rfl rfl (by decide) (by decide) rfl fun b54 => ?_
          refine l_val wn (r_move rfl) rfl ?_
          refine l_val wn (r_ia (i := 2) rfl rfl rfl (by omega) (by first | omega | decide | (simp only [List.length_cons, List.length_nil, List.length_append, List.length_take, List.length_set]; omega)) Try.underlying50 inf30) rfl ?_
          refine l_val wn (r_rl 0 encInt rfl rfl rfl (show ([((Sh.append z x).2), ((Sh.roll z to).2), ((Sh.forget z tier to).2)] : List Int)[2]? = some ((Sh.forget z tier to).2) from rfl) rfl flat30) rfl ?_
          refine l_val wn (r_neq rfl rfl) rfl ?_
          refine l_nil (e_go hK47 ?_)
          refine c_cond rfl (fun h5 => ?_) (fun h5 => ?_)
          ·
            refine c_exit (e_then_x (e_in_hit (e_go hK44 ?_)))
            refine c_region ?_
            refine l_val wn (r_addn rfl rfl (by omega)) rfl ?_
            refine l_val wn (r_move rfl) rfl ?_
            refine l_nil (e_goL hK41 ?_)
            refine c_round fun K48 hK48 => ?_
            refine c_seq fun K49 hK49 => ?_
            refine c_region ?_
            refine l_val wn (r_lss rfl rfl) rfl ?_
            refine l_nil (e_go hK49 ?_)
            refine c_seq fun K50 hK50 => ?_
            refine c_false rfl (decide_eq_false (by decide)) ?_
            refine c_exit (e_then_x (e_then_x (e_in_hit (e_cut hK10 (sn) (fun _ h => (h.sel [7, 8, 9, 10, 11, 12, 13, 14, 15, 16, 17, 18, 19, 20, 21, 22, 23, 24, 25, 26, 27] (by decide) rfl))))))
          ·
            have hrf := Sh.forget_right (Classical.not_not.1 h5)
            refine c_skip (e_go hK46 ?_)
            refine c_seq fun K51 hK51 => ?_
            refine c_region ?_
            refine l_val wn (r_lbn 1 [.slice A9 (((Sh.forget z tier to).1).series.length) cp9, .slice A10 (((Sh.forget z tier to).1).raw.length) cp10, .slice A11 (((Sh.forget z tier to).1).fine.length) cp11, .slice A12 (((Sh.forget z tier to).1).coarse.length) cp12, .int .i64 (((Sh.forget z tier to).1).rawFrom), .int .i64 (((Sh.forget z tier to).1).fineFrom), .int .i64 (((Sh.forget z tier to).1).fineTo), .int .i64 (((Sh.forget z tier to).1).coarseFrom), .int .i64 (((Sh.forget z tier to).1).coarseTo)] rfl rfl rfl rfl agg27 inf27) rfl ?_
            refine l_callF wn rfl Try.call19 rfl (fun w1 hM => c_shWrong _ _ _ _ ((Sh.forget z tier to).1) (In w1) w1 (fun _ h => h) (hM.slp 8 rfl) (hM.slp 9 rfl) (hM.slp 10 rfl) (hM.slp 11 rfl)) ?_
            refine l_val wn (r_neq rfl rfl) rfl ?_
            refine l_val wn (r_move rfl) rfl ?_
            refine l_litf (t := 62) rfl (fun g => g hrf.1.wrong) ?_
            refine l_val (wg rfl rfl rfl) (r_fa rfl fld27_4) rfl ?_
            refine l_val (wg rfl rfl rfl) (r_lb 1 rfl rfl rfl flat3) rfl ?_
            refine l_val (wg rfl rfl rfl) (r_fa rfl fld27_4) rfl ?_
            refine l_val (wg rfl rfl rfl) (r_lb 23 rfl rfl rfl flat3) rfl ?_
            refine l_val (wg rfl rfl rfl) (r_lss rfl rfl) rfl ?_
            refine l_val wn (r_pick rfl rfl) rfl ?_
            refine l_val wn (r_move rfl) rfl ?_
            refine l_litf (t := 69) rfl (by have := hrf.2; unfold Sh.Ahead at this; omega) ?_
            refine l_val (wg rfl rfl rfl) (r_fa rfl fld27_5) rfl ?_
            refine l_val (wg rfl rfl rfl) (r_lb 1 rfl rfl rfl flat3) rfl ?_
            refine l_val (wg rfl rfl rfl) (r_fa rfl fld27_5) rfl ?_
            refine l_val (wg rfl rfl rfl) (r_lb 23 rfl rfl rfl flat3) rfl ?_
            refine l_val (wg rfl rfl rfl) (r_lss rfl rfl) rfl ?_
            refine l_val wn (r_pick rfl rfl) rfl ?_
            refine l_val wn (r_move rfl) rfl ?_
            refine l_litf (t := 76) rfl (by have := hrf.2; unfold Sh.Ahead at this; omega) ?_
            refine l_val (wg rfl rfl rfl) (r_fa rfl fld27_6) rfl ?_
            refine l_val (wg rfl rfl rfl) (r_lb 1 rfl rfl rfl flat3) rfl ?_
            refine l_val (wg rfl rfl rfl) (r_fa rfl fld27_6) rfl ?_
            refine l_val (wg rfl rfl rfl) (r_lb 23 rfl rfl rfl flat3) rfl ?_
            refine l_val (wg rfl rfl rfl) (r_lss rfl rfl) rfl ?_
            refine l_val wn (r_pick rfl rfl) rfl ?_
            refine l_val wn (r_move rfl) rfl ?_
            refine l_litf (t := 83) rfl (by have := hrf.2; unfold Sh.Ahead at this; omega) ?_
            refine l_val (wg rfl rfl rfl) (r_fa rfl fld27_7) rfl ?_
            refine l_val (wg rfl rfl rfl) (r_lb 1 rfl rfl rfl flat3) rfl ?_
            refine l_val (wg rfl rfl rfl) (r_fa rfl fld27_7) rfl ?_
            refine l_val (wg rfl rfl rfl) (r_lb 23 rfl rfl rfl flat3) rfl ?_
            refine l_val (wg rfl rfl rfl) (r_lss rfl rfl) rfl ?_
            refine l_val wn (r_pick rfl rfl) rfl ?_
            refine l_val wn (r_move rfl) rfl ?_
            refine l_litf (t := 90) rfl (by have := hrf.2; unfold Sh.Ahead at this; omega) ?_
            refine l_val (wg rfl rfl rfl) (r_fa rfl fld27_8) rfl ?_
            refine l_val (wg rfl rfl rfl) (r_lb 1 rfl rfl rfl flat3) rfl ?_
            refine l_val (wg rfl rfl rfl) (r_fa rfl fld27_8) rfl ?_
            refine l_val (wg rfl rfl rfl) (r_lb 23 rfl rfl rfl flat3) rfl ?_
            refine l_val (wg rfl rfl rfl) (r_lss rfl rfl) rfl ?_
            refine l_val wn (r_pick rfl rfl) rfl ?_
            refine l_nil (e_go hK51 ?_)
            refine c_false rfl (decide_eq_false (by have := hrf.2; unfold Sh.Ahead at this; omega)) ?_
            refine c_skip (e_in_n (e_go hK44 ?_))
            refine c_region ?_
            refine l_val wn (r_addn rfl rfl (by omega)) rfl ?_
            refine l_val wn (r_move rfl) rfl ?_
            refine l_nil (e_goL hK41 ?_)
            refine c_round fun K52 hK52 => ?_
            refine c_seq fun K53 hK53 => ?_
            refine c_region ?_
            refine l_val wn (r_lss rfl rfl) rfl ?_
            refine l_nil (e_go hK53 ?_)
            refine c_seq fun K54 hK54 => ?_
            refine c_false rfl (decide_eq_false (by decide)) ?_
            refine c_exit (e_then_x (e_then_x (e_in_hit (e_cut hK10 (sn) (fun _ h => (h.sel [7, 8, 9, 10, 11, 12, 13, 14, 15, 16, 17, 18, 19, 20, 21, 22, 23, 24, 25, 26, 27] (by decide) rfl))))))
      ·
        have hra := Sh.append_right (Classical.not_not.1 h2)
        refine c_skip (e_go hK17 ?_)
        refine c_seq fun K55 hK55 => ?_
        refine c_region ?_
        refine l_val wn (r_lbn 1 [.slice A1 (((Sh.append z x).1).series.length) cp1, .slice A2 (((Sh.append z x).1).raw.length) cp2, .slice A3 (((Sh.append z x).1).fine.length) cp3, .slice A4 (((Sh.append z x).1).coarse.length) cp4, .int .i64 (((Sh.append z x).1).rawFrom), .int .i64 (((Sh.append z x).1).fineFrom), .int .i64 (((Sh.append z x).1).fineTo), .int .i64 (((Sh.append z x).1).coarseFrom), .int .i64 (((Sh.append z x).1).coarseTo)] rfl rfl rfl rfl agg27 inf27) rfl ?_
        refine l_callF wn rfl Try.call19 rfl (fun w1 hM => c_shWrong _ _ _ _ ((Sh.append z x).1) (In w1) w1 (fun _ h => h) (hM.slp 14 rfl) (hM.slp 15 rfl) (hM.slp 16 rfl) (hM.slp 17 rfl)) ?_
        refine l_val wn (r_neq rfl rfl) rfl ?_
        refine l_val wn (r_move rfl) rfl ?_
        refine l_litf (t := 62) rfl (fun g => g hra.1.wrong) ?_
        refine l_val (wg rfl rfl rfl) (r_fa rfl fld27_4) rfl ?_
        refine l_val (wg rfl rfl rfl) (r_lb 1 rfl rfl rfl flat3) rfl ?_
        refine l_val (wg rfl rfl rfl) (r_fa rfl fld27_4) rfl ?_
        refine l_val (wg rfl rfl rfl) (r_lb 19 rfl rfl rfl flat3) rfl ?_
        refine l_val (wg rfl rfl rfl) (r_lss rfl rfl) rfl ?_
        refine l_val wn (r_pick rfl rfl) rfl ?_
        refine l_val wn (r_move rfl) rfl ?_
        refine l_litf (t := 69) rfl (by have := hra.2; unfold Sh.Ahead at this; omega) ?_
        refine l_val (wg rfl rfl rfl) (r_fa rfl fld27_5) rfl ?_
        refine l_val (wg rfl rfl rfl) (r_lb 1 rfl rfl rfl flat3) rfl ?_
        refine l_val (wg rfl rfl rfl) (r_fa rfl fld27_5) rfl ?_
        refine l_val (wg rfl rfl rfl) (r_lb 19 rfl rfl rfl flat3) rfl ?_
        refine l_val (wg rfl rfl rfl) (r_lss rfl rfl) rfl ?_
        refine l_val wn (r_pick rfl rfl) rfl ?_
        refine l_val wn (r_move rfl) rfl ?_
        refine l_litf (t := 76) rfl (by have := hra.2; unfold Sh.Ahead at this; omega) ?_
        refine l_val (wg rfl rfl rfl) (r_fa rfl fld27_6) rfl ?_
        refine l_val (wg rfl rfl rfl) (r_lb 1 rfl rfl rfl flat3) rfl ?_
        refine l_val (wg rfl rfl rfl) (r_fa rfl fld27_6) rfl ?_
        refine l_val (wg rfl rfl rfl) (r_lb 19 rfl rfl rfl flat3) rfl ?_
        refine l_val (wg rfl rfl rfl) (r_lss rfl rfl) rfl ?_
        refine l_val wn (r_pick rfl rfl) rfl ?_
        refine l_val wn (r_move rfl) rfl ?_
        refine l_litf (t := 83) rfl (by have := hra.2; unfold Sh.Ahead at this; omega) ?_
        refine l_val (wg rfl rfl rfl) (r_fa rfl fld27_7) rfl ?_
        refine l_val (wg rfl rfl rfl) (r_lb 1 rfl rfl rfl flat3) rfl ?_
        refine l_val (wg rfl rfl rfl) (r_fa rfl fld27_7) rfl ?_
        refine l_val (wg rfl rfl rfl) (r_lb 19 rfl rfl rfl flat3) rfl ?_
        refine l_val (wg rfl rfl rfl) (r_lss rfl rfl) rfl ?_
        refine l_val wn (r_pick rfl rfl) rfl ?_
        refine l_val wn (r_move rfl) rfl ?_
        refine l_litf (t := 90) rfl (by have := hra.2; unfold Sh.Ahead at this; omega) ?_
        refine l_val (wg rfl rfl rfl) (r_fa rfl fld27_8) rfl ?_
        refine l_val (wg rfl rfl rfl) (r_lb 1 rfl rfl rfl flat3) rfl ?_
        refine l_val (wg rfl rfl rfl) (r_fa rfl fld27_8) rfl ?_
        refine l_val (wg rfl rfl rfl) (r_lb 19 rfl rfl rfl flat3) rfl ?_
        refine l_val (wg rfl rfl rfl) (r_lss rfl rfl) rfl ?_
        refine l_val wn (r_pick rfl rfl) rfl ?_
        refine l_nil (e_go hK55 ?_)
        refine c_false rfl (decide_eq_false (by have := hra.2; unfold Sh.Ahead at this; omega)) ?_
        refine c_skip (e_in_n (e_go hK15 ?_))
        refine c_region ?_
        refine l_val wn (r_addn rfl rfl (by omega)) rfl ?_
        refine l_val wn (r_move rfl) rfl ?_
        refine l_nil (e_goL hK12 ?_)
        refine c_round fun K56 hK56 => ?_
        refine c_seq fun K57 hK57 => ?_
        refine c_region ?_
        refine l_val wn (r_lss rfl rfl) rfl ?_
        refine l_nil (e_go hK57 ?_)
        refine c_seq fun K58 hK58 => ?_
        refine c_true rfl (decide_eq_true (by decide)) ?_
        refine c_skip (e_go hK58 ?_)
        refine c_seq fun K59 hK59 => ?_
        refine c_block ?_
        refine c_seq fun K60 hK60 => ?_
        refine c_region ?_
        refine l_val wn (r_move rfl) rfl ?_
        refine l_val wn (r_ia (i := 1) rfl rfl rfl (by omega) (by first | omega | decide | (simp only [List.length_cons, List.length_nil, List.length_append, List.length_take, List.length_set]; omega)) Try.underlying49 inf27) rfl ?_
        refine l_val wn (r_rln 2 [.slice A5 (((Sh.roll z to).1).series.length) cp5, .slice A6 (((Sh.roll z to).1).raw.length) cp6, .slice A7 (((Sh.roll z to).1).fine.length) cp7, .slice A8 (((Sh.roll z to).1).coarse.length) cp8, .int .i64 (((Sh.roll z to).1).rawFrom), .int .i64 (((Sh.roll z to).1).fineFrom), .int .i64 (((Sh.roll z to).1).fineTo), .int .i64 (((Sh.roll z to).1).coarseFrom), .int .i64 (((Sh.roll z to).1).coarseTo)] encShelfV rfl rfl rfl (show ([(⟨⟨A1, ((Sh.append z x).1).series.length, cp1⟩, ⟨A2, ((Sh.append z x).1).raw.length, cp2⟩, ⟨A3, ((Sh.append z x).1).fine.length, cp3⟩, ⟨A4, ((Sh.append z x).1).coarse.length, cp4⟩, ((Sh.append z x).1).rawFrom, ((Sh.append z x).1).fineFrom, ((Sh.append z x).1).fineTo, ((Sh.append z x).1).coarseFrom, ((Sh.append z x).1).coarseTo⟩ : ShelfV), (⟨⟨A5, ((Sh.roll z to).1).series.length, cp5⟩, ⟨A6, ((Sh.roll z to).1).raw.length, cp6⟩, ⟨A7, ((Sh.roll z to).1).fine.length, cp7⟩, ⟨A8, ((Sh.roll z to).1).coarse.length, cp8⟩, ((Sh.roll z to).1).rawFrom, ((Sh.roll z to).1).fineFrom, ((Sh.roll z to).1).fineTo, ((Sh.roll z to).1).coarseFrom, ((Sh.roll z to).1).coarseTo⟩ : ShelfV), (⟨⟨A9, ((Sh.forget z tier to).1).series.length, cp9⟩, ⟨A10, ((Sh.forget z tier to).1).raw.length, cp10⟩, ⟨A11, ((Sh.forget z tier to).1).fine.length, cp11⟩, ⟨A12, ((Sh.forget z tier to).1).coarse.length, cp12⟩, ((Sh.forget z tier to).1).rawFrom, ((Sh.forget z tier to).1).fineFrom, ((Sh.forget z tier to).1).fineTo, ((Sh.forget z tier to).1).coarseFrom, ((Sh.forget z tier to).1).coarseTo⟩ : ShelfV)] : List ShelfV)[1]? = some (⟨⟨A5, ((Sh.roll z to).1).series.length, cp5⟩, ⟨A6, ((Sh.roll z to).1).raw.length, cp6⟩, ⟨A7, ((Sh.roll z to).1).fine.length, cp7⟩, ⟨A8, ((Sh.roll z to).1).coarse.length, cp8⟩, ((Sh.roll z to).1).rawFrom, ((Sh.roll z to).1).fineFrom, ((Sh.roll z to).1).fineTo, ((Sh.roll z to).1).coarseFrom, ((Sh.roll z to).1).coarseTo⟩ : ShelfV) from rfl) rfl rfl agg27 inf27) rfl ?_
        refine l_alloc wn inf27 rfl fun b16 => ?_
        refine l_val wn (r_assign rfl) rfl ?_
        refine l_stn 0 wn rfl rfl rfl inf27 rfl rfl rfl ?_
        refine l_nil (e_go hK60 ?_)
        refine c_seq fun K61 hK61 => ?_
        refine c_seq fun K62 hK62 => ?_
        refine c_region ?_
        refine l_val wn (r_move rfl) rfl ?_
        refine l_val wn (r_move rfl) rfl ?_
        refine l_val wn (r_move rfl) rfl ?_
        refine l_bsL intE ([((Sh.append z x).2), ((Sh.roll z to).2), ((Sh.forget z tier to).2)] : List Int) wn Try.underlying50 inf30 rfl rfl rfl rfl (by decide) (by decide) rfl fun b54 => ?_
        refine l_val wn (r_move rfl) rfl ?_
        refine l_val wn (r_ia (i := 1) rfl rfl rfl (by omega) (by first | omega | decide | (simp only [List.length_cons, List.length_nil, List.length_append, List.length_take, List.length_set]; omega)) Try.underlying50 inf30) rfl ?_
        refine l_val wn (r_rl 0 encInt rfl rfl rfl (show ([((Sh.append z x).2), ((Sh.roll z to).2), ((Sh.forget z tier to).2)] : List Int)[1]? = some ((Sh.roll z to).2) from rfl) rfl flat30) rfl ?_
        refine l_val wn (r_neq rfl rfl) rfl ?_
        refine l_nil (e_go hK62 ?_)
        refine c_cond rfl (fun h6 => ?_) (fun h6 => ?_)
        ·
          refine c_exit (e_then_x (e_in_hit (e_go hK59 ?_)))
          refine c_region ?_
          refine l_val wn (r_addn rfl rfl (by omega)) rfl ?_
          refine l_val wn (r_move rfl) rfl ?_
          refine l_nil (e_goL hK56 ?_)
          refine c_round fun K63 hK63 => ?_
          refine c_seq fun K64 hK64 => ?_
          refine c_region ?_
          refine l_val wn (r_lss rfl rfl) rfl ?_
          refine l_nil (e_go hK64 ?_)
          refine c_seq fun K65 hK65 => ?_
          refine c_true rfl (decide_eq_true (by decide)) ?_
          refine c_skip (e_go hK65 ?_)
          refine c_seq fun K66 hK66 => ?_
          refine c_block ?_
          refine c_seq fun K67 hK67 => ?_
          refine c_region ?_
          refine l_val wn (r_move rfl) rfl ?_
          refine l_val wn (r_ia (i := 2) rfl rfl rfl (by omega) (by first | omega | decide | (simp only [List.length_cons, List.length_nil, List.length_append, List.length_take, List.length_set]; omega)) Try.underlying49 inf27) rfl ?_
          refine l_val wn (r_rln 4 [.slice A9 (((Sh.forget z tier to).1).series.length) cp9, .slice A10 (((Sh.forget z tier to).1).raw.length) cp10, .slice A11 (((Sh.forget z tier to).1).fine.length) cp11, .slice A12 (((Sh.forget z tier to).1).coarse.length) cp12, .int .i64 (((Sh.forget z tier to).1).rawFrom), .int .i64 (((Sh.forget z tier to).1).fineFrom), .int .i64 (((Sh.forget z tier to).1).fineTo), .int .i64 (((Sh.forget z tier to).1).coarseFrom), .int .i64 (((Sh.forget z tier to).1).coarseTo)] encShelfV rfl rfl rfl (show ([(⟨⟨A1, ((Sh.append z x).1).series.length, cp1⟩, ⟨A2, ((Sh.append z x).1).raw.length, cp2⟩, ⟨A3, ((Sh.append z x).1).fine.length, cp3⟩, ⟨A4, ((Sh.append z x).1).coarse.length, cp4⟩, ((Sh.append z x).1).rawFrom, ((Sh.append z x).1).fineFrom, ((Sh.append z x).1).fineTo, ((Sh.append z x).1).coarseFrom, ((Sh.append z x).1).coarseTo⟩ : ShelfV), (⟨⟨A5, ((Sh.roll z to).1).series.length, cp5⟩, ⟨A6, ((Sh.roll z to).1).raw.length, cp6⟩, ⟨A7, ((Sh.roll z to).1).fine.length, cp7⟩, ⟨A8, ((Sh.roll z to).1).coarse.length, cp8⟩, ((Sh.roll z to).1).rawFrom, ((Sh.roll z to).1).fineFrom, ((Sh.roll z to).1).fineTo, ((Sh.roll z to).1).coarseFrom, ((Sh.roll z to).1).coarseTo⟩ : ShelfV), (⟨⟨A9, ((Sh.forget z tier to).1).series.length, cp9⟩, ⟨A10, ((Sh.forget z tier to).1).raw.length, cp10⟩, ⟨A11, ((Sh.forget z tier to).1).fine.length, cp11⟩, ⟨A12, ((Sh.forget z tier to).1).coarse.length, cp12⟩, ((Sh.forget z tier to).1).rawFrom, ((Sh.forget z tier to).1).fineFrom, ((Sh.forget z tier to).1).fineTo, ((Sh.forget z tier to).1).coarseFrom, ((Sh.forget z tier to).1).coarseTo⟩ : ShelfV)] : List ShelfV)[2]? = some (⟨⟨A9, ((Sh.forget z tier to).1).series.length, cp9⟩, ⟨A10, ((Sh.forget z tier to).1).raw.length, cp10⟩, ⟨A11, ((Sh.forget z tier to).1).fine.length, cp11⟩, ⟨A12, ((Sh.forget z tier to).1).coarse.length, cp12⟩, ((Sh.forget z tier to).1).rawFrom, ((Sh.forget z tier to).1).fineFrom, ((Sh.forget z tier to).1).fineTo, ((Sh.forget z tier to).1).coarseFrom, ((Sh.forget z tier to).1).coarseTo⟩ : ShelfV) from rfl) rfl rfl agg27 inf27) rfl ?_
          refine l_alloc wn inf27 rfl fun b16 => ?_
          refine l_val wn (r_assign rfl) rfl ?_
          refine l_stn 0 wn rfl rfl rfl inf27 rfl rfl rfl ?_
          refine l_nil (e_go hK67 ?_)
          refine c_seq fun K68 hK68 => ?_
          refine c_seq fun K69 hK69 => ?_
          refine c_region ?_
          refine l_val wn (r_move rfl) rfl ?_
          refine l_val wn (r_move rfl) rfl ?_
          refine l_val wn (r_move rfl) rfl ?_
          refine l_bsL intE ([((Sh.append z x).2), ((Sh.roll z to).2), ((Sh.forget z tier to).2)] : List Int) wn Try.underlying50 inf30 rfl rfl rfl rfl (by decide) (by decide) rfl fun b54 => ?_
          refine l_val wn (r_move rfl) rfl ?_
          refine l_val wn (r_ia (i := 2) rfl rfl rfl (by omega) (by first | omega | decide | (simp only [List.length_cons, List.length_nil, List.length_append, List.length_take, List.length_set]; omega)) Try.underlying50 inf30) rfl ?_
          refine l_val wn (r_rl 0 encInt rfl rfl rfl (show ([((Sh.append z x).2), ((Sh.roll z to).2), ((Sh.forget z tier to).2)] : List Int)[2]? = some ((Sh.forget z tier to).2) from rfl) rfl flat30) rfl ?_
          refine l_val wn (r_neq rfl rfl) rfl ?_
          refine l_nil (e_go hK69 ?_)
          refine c_cond rfl (fun h7 => ?_) (fun h7 => ?_)
          ·
            refine c_exit (e_then_x (e_in_hit (e_go hK66 ?_)))
            refine c_region ?_
            refine l_val wn (r_addn rfl rfl (by omega)) rfl ?_
            refine l_val wn (r_move rfl) rfl ?_
            refine l_nil (e_goL hK63 ?_)
            refine c_round fun K70 hK70 => ?_
            refine c_seq fun K71 hK71 => ?_
            refine c_region ?_
            refine l_val wn (r_lss rfl rfl) rfl ?_
            refine l_nil (e_go hK71 ?_)
            refine c_seq fun K72 hK72 => ?_
            refine c_false rfl (decide_eq_false (by decide)) ?_
            refine c_exit (e_then_x (e_then_x (e_in_hit (e_cut hK10 (sn) (fun _ h => (h.sel [7, 8, 9, 10, 11, 12, 13, 14, 15, 16, 17, 18, 19, 20, 21, 22, 23, 24, 25, 26, 27] (by decide) rfl))))))
          ·
            have hrf := Sh.forget_right (Classical.not_not.1 h7)
            refine c_skip (e_go hK68 ?_)
            refine c_seq fun K73 hK73 => ?_
            refine c_region ?_
            refine l_val wn (r_lbn 1 [.slice A9 (((Sh.forget z tier to).1).series.length) cp9, .slice A10 (((Sh.forget z tier to).1).raw.length) cp10, .slice A11 (((Sh.forget z tier to).1).fine.length) cp11, .slice A12 (((Sh.forget z tier to).1).coarse.length) cp12, .int .i64 (((Sh.forget z tier to).1).rawFrom), .int .i64 (((Sh.forget z tier to).1).fineFrom), .int .i64 (((Sh.forget z tier to).1).fineTo), .int .i64 (((Sh.forget z tier to).1).coarseFrom), .int .i64 (((Sh.forget z tier to).1).coarseTo)] rfl rfl rfl rfl agg27 inf27) rfl ?_
            refine l_callF wn rfl Try.call19 rfl (fun w1 hM => c_shWrong _ _ _ _ ((Sh.forget z tier to).1) (In w1) w1 (fun _ h => h) (hM.slp 8 rfl) (hM.slp 9 rfl) (hM.slp 10 rfl) (hM.slp 11 rfl)) ?_
            refine l_val wn (r_neq rfl rfl) rfl ?_
            refine l_val wn (r_move rfl) rfl ?_
            refine l_litf (t := 62) rfl (fun g => g hrf.1.wrong) ?_
            refine l_val (wg rfl rfl rfl) (r_fa rfl fld27_4) rfl ?_
            refine l_val (wg rfl rfl rfl) (r_lb 1 rfl rfl rfl flat3) rfl ?_
            refine l_val (wg rfl rfl rfl) (r_fa rfl fld27_4) rfl ?_
            refine l_val (wg rfl rfl rfl) (r_lb 23 rfl rfl rfl flat3) rfl ?_
            refine l_val (wg rfl rfl rfl) (r_lss rfl rfl) rfl ?_
            refine l_val wn (r_pick rfl rfl) rfl ?_
            refine l_val wn (r_move rfl) rfl ?_
            refine l_litf (t := 69) rfl (by have := hrf.2; unfold Sh.Ahead at this; omega) ?_
            refine l_val (wg rfl rfl rfl) (r_fa rfl fld27_5) rfl ?_
            refine l_val (wg rfl rfl rfl) (r_lb 1 rfl rfl rfl flat3) rfl ?_
            refine l_val (wg rfl rfl rfl) (r_fa rfl fld27_5) rfl ?_
            refine l_val (wg rfl rfl rfl) (r_lb 23 rfl rfl rfl flat3) rfl ?_
            refine l_val (wg rfl rfl rfl) (r_lss rfl rfl) rfl ?_
            refine l_val wn (r_pick rfl rfl) rfl ?_
            refine l_val wn (r_move rfl) rfl ?_
            refine l_litf (t := 76) rfl (by have := hrf.2; unfold Sh.Ahead at this; omega) ?_
            refine l_val (wg rfl rfl rfl) (r_fa rfl fld27_6) rfl ?_
            refine l_val (wg rfl rfl rfl) (r_lb 1 rfl rfl rfl flat3) rfl ?_
            refine l_val (wg rfl rfl rfl) (r_fa rfl fld27_6) rfl ?_
            refine l_val (wg rfl rfl rfl) (r_lb 23 rfl rfl rfl flat3) rfl ?_
            refine l_val (wg rfl rfl rfl) (r_lss rfl rfl) rfl ?_
            refine l_val wn (r_pick rfl rfl) rfl ?_
            refine l_val wn (r_move rfl) rfl ?_
            refine l_litf (t := 83) rfl (by have := hrf.2; unfold Sh.Ahead at this; omega) ?_
            refine l_val (wg rfl rfl rfl) (r_fa rfl fld27_7) rfl ?_
            refine l_val (wg rfl rfl rfl) (r_lb 1 rfl rfl rfl flat3) rfl ?_
            refine l_val (wg rfl rfl rfl) (r_fa rfl fld27_7) rfl ?_
            refine l_val (wg rfl rfl rfl) (r_lb 23 rfl rfl rfl flat3) rfl ?_
            refine l_val (wg rfl rfl rfl) (r_lss rfl rfl) rfl ?_
            refine l_val wn (r_pick rfl rfl) rfl ?_
            refine l_val wn (r_move rfl) rfl ?_
            refine l_litf (t := 90) rfl (by have := hrf.2; unfold Sh.Ahead at this; omega) ?_
            refine l_val (wg rfl rfl rfl) (r_fa rfl fld27_8) rfl ?_
            refine l_val (wg rfl rfl rfl) (r_lb 1 rfl rfl rfl flat3) rfl ?_
            refine l_val (wg rfl rfl rfl) (r_fa rfl fld27_8) rfl ?_
            refine l_val (wg rfl rfl rfl) (r_lb 23 rfl rfl rfl flat3) rfl ?_
            refine l_val (wg rfl rfl rfl) (r_lss rfl rfl) rfl ?_
            refine l_val wn (r_pick rfl rfl) rfl ?_
            refine l_nil (e_go hK73 ?_)
            refine c_false rfl (decide_eq_false (by have := hrf.2; unfold Sh.Ahead at this; omega)) ?_
            refine c_skip (e_in_n (e_go hK66 ?_))
            refine c_region ?_
            refine l_val wn (r_addn rfl rfl (by omega)) rfl ?_
            refine l_val wn (r_move rfl) rfl ?_
            refine l_nil (e_goL hK63 ?_)
            refine c_round fun K74 hK74 => ?_
            refine c_seq fun K75 hK75 => ?_
            refine c_region ?_
            refine l_val wn (r_lss rfl rfl) rfl ?_
            refine l_nil (e_go hK75 ?_)
            refine c_seq fun K76 hK76 => ?_
            refine c_false rfl (decide_eq_false (by decide)) ?_
            refine c_exit (e_then_x (e_then_x (e_in_hit (e_cut hK10 (sn) (fun _ h => (h.sel [7, 8, 9, 10, 11, 12, 13, 14, 15, 16, 17, 18, 19, 20, 21, 22, 23, 24, 25, 26, 27] (by decide) rfl))))))
        ·
          have hrr := Sh.roll_right (Classical.not_not.1 h6)
          refine c_skip (e_go hK61 ?_)
          refine c_seq fun K77 hK77 => ?_
          refine c_region ?_
          refine l_val wn (r_lbn 1 [.slice A5 (((Sh.roll z to).1).series.length) cp5, .slice A6 (((Sh.roll z to).1).raw.length) cp6, .slice A7 (((Sh.roll z to).1).fine.length) cp7, .slice A8 (((Sh.roll z to).1).coarse.length) cp8, .int .i64 (((Sh.roll z to).1).rawFrom), .int .i64 (((Sh.roll z to).1).fineFrom), .int .i64 (((Sh.roll z to).1).fineTo), .int .i64 (((Sh.roll z to).1).coarseFrom), .int .i64 (((Sh.roll z to).1).coarseTo)] rfl rfl rfl rfl agg27 inf27) rfl ?_
          refine l_callF wn rfl Try.call19 rfl (fun w1 hM => c_shWrong _ _ _ _ ((Sh.roll z to).1) (In w1) w1 (fun _ h => h) (hM.slp 11 rfl) (hM.slp 12 rfl) (hM.slp 13 rfl) (hM.slp 14 rfl)) ?_
          refine l_val wn (r_neq rfl rfl) rfl ?_
          refine l_val wn (r_move rfl) rfl ?_
          refine l_litf (t := 62) rfl (fun g => g hrr.1.wrong) ?_
          refine l_val (wg rfl rfl rfl) (r_fa rfl fld27_4) rfl ?_
          refine l_val (wg rfl rfl rfl) (r_lb 1 rfl rfl rfl flat3) rfl ?_
          refine l_val (wg rfl rfl rfl) (r_fa rfl fld27_4) rfl ?_
          refine l_val (wg rfl rfl rfl) (r_lb 21 rfl rfl rfl flat3) rfl ?_
          refine l_val (wg rfl rfl rfl) (r_lss rfl rfl) rfl ?_
          refine l_val wn (r_pick rfl rfl) rfl ?_
          refine l_val wn (r_move rfl) rfl ?_
          refine l_litf (t := 69) rfl (by have := hrr.2; unfold Sh.Ahead at this; omega) ?_
          refine l_val (wg rfl rfl rfl) (r_fa rfl fld27_5) rfl ?_
          refine l_val (wg rfl rfl rfl) (r_lb 1 rfl rfl rfl flat3) rfl ?_
          refine l_val (wg rfl rfl rfl) (r_fa rfl fld27_5) rfl ?_
          refine l_val (wg rfl rfl rfl) (r_lb 21 rfl rfl rfl flat3) rfl ?_
          refine l_val (wg rfl rfl rfl) (r_lss rfl rfl) rfl ?_
          refine l_val wn (r_pick rfl rfl) rfl ?_
          refine l_val wn (r_move rfl) rfl ?_
          refine l_litf (t := 76) rfl (by have := hrr.2; unfold Sh.Ahead at this; omega) ?_
          refine l_val (wg rfl rfl rfl) (r_fa rfl fld27_6) rfl ?_
          refine l_val (wg rfl rfl rfl) (r_lb 1 rfl rfl rfl flat3) rfl ?_
          refine l_val (wg rfl rfl rfl) (r_fa rfl fld27_6) rfl ?_
          refine l_val (wg rfl rfl rfl) (r_lb 21 rfl rfl rfl flat3) rfl ?_
          refine l_val (wg rfl rfl rfl) (r_lss rfl rfl) rfl ?_
          refine l_val wn (r_pick rfl rfl) rfl ?_
          refine l_val wn (r_move rfl) rfl ?_
          refine l_litf (t := 83) rfl (by have := hrr.2; unfold Sh.Ahead at this; omega) ?_
          refine l_val (wg rfl rfl rfl) (r_fa rfl fld27_7) rfl ?_
          refine l_val (wg rfl rfl rfl) (r_lb 1 rfl rfl rfl flat3) rfl ?_
          refine l_val (wg rfl rfl rfl) (r_fa rfl fld27_7) rfl ?_
          refine l_val (wg rfl rfl rfl) (r_lb 21 rfl rfl rfl flat3) rfl ?_
          refine l_val (wg rfl rfl rfl) (r_lss rfl rfl) rfl ?_
          refine l_val wn (r_pick rfl rfl) rfl ?_
          refine l_val wn (r_move rfl) rfl ?_
          refine l_litf (t := 90) rfl (by have := hrr.2; unfold Sh.Ahead at this; omega) ?_
          refine l_val (wg rfl rfl rfl) (r_fa rfl fld27_8) rfl ?_
          refine l_val (wg rfl rfl rfl) (r_lb 1 rfl rfl rfl flat3) rfl ?_
          refine l_val (wg rfl rfl rfl) (r_fa rfl fld27_8) rfl ?_
          refine l_val (wg rfl rfl rfl) (r_lb 21 rfl rfl rfl flat3) rfl ?_
          refine l_val (wg rfl rfl rfl) (r_lss rfl rfl) rfl ?_
          refine l_val wn (r_pick rfl rfl) rfl ?_
          refine l_nil (e_go hK77 ?_)
          refine c_false rfl (decide_eq_false (by have := hrr.2; unfold Sh.Ahead at this; omega)) ?_
          refine c_skip (e_in_n (e_go hK59 ?_))
          refine c_region ?_
          refine l_val wn (r_addn rfl rfl (by omega)) rfl ?_
          refine l_val wn (r_move rfl) rfl ?_
          refine l_nil (e_goL hK56 ?_)
          refine c_round fun K78 hK78 => ?_
          refine c_seq fun K79 hK79 => ?_
          refine c_region ?_
          refine l_val wn (r_lss rfl rfl) rfl ?_
          refine l_nil (e_go hK79 ?_)
          refine c_seq fun K80 hK80 => ?_
          refine c_true rfl (decide_eq_true (by decide)) ?_
          refine c_skip (e_go hK80 ?_)
          refine c_seq fun K81 hK81 => ?_
          refine c_block ?_
          refine c_seq fun K82 hK82 => ?_
          refine c_region ?_
          refine l_val wn (r_move rfl) rfl ?_
          refine l_val wn (r_ia (i := 2) rfl rfl rfl (by omega) (by first | omega | decide | (simp only [List.length_cons, List.length_nil, List.length_append, List.length_take, List.length_set]; omega)) Try.underlying49 inf27) rfl ?_
          refine l_val wn (r_rln 4 [.slice A9 (((Sh.forget z tier to).1).series.length) cp9, .slice A10 (((Sh.forget z tier to).1).raw.length) cp10, .slice A11 (((Sh.forget z tier to).1).fine.length) cp11, .slice A12 (((Sh.forget z tier to).1).coarse.length) cp12, .int .i64 (((Sh.forget z tier to).1).rawFrom), .int .i64 (((Sh.forget z tier to).1).fineFrom), .int .i64 (((Sh.forget z tier to).1).fineTo), .int .i64 (((Sh.forget z tier to).1).coarseFrom), .int .i64 (((Sh.forget z tier to).1).coarseTo)] encShelfV rfl rfl rfl (show ([(⟨⟨A1, ((Sh.append z x).1).series.length, cp1⟩, ⟨A2, ((Sh.append z x).1).raw.length, cp2⟩, ⟨A3, ((Sh.append z x).1).fine.length, cp3⟩, ⟨A4, ((Sh.append z x).1).coarse.length, cp4⟩, ((Sh.append z x).1).rawFrom, ((Sh.append z x).1).fineFrom, ((Sh.append z x).1).fineTo, ((Sh.append z x).1).coarseFrom, ((Sh.append z x).1).coarseTo⟩ : ShelfV), (⟨⟨A5, ((Sh.roll z to).1).series.length, cp5⟩, ⟨A6, ((Sh.roll z to).1).raw.length, cp6⟩, ⟨A7, ((Sh.roll z to).1).fine.length, cp7⟩, ⟨A8, ((Sh.roll z to).1).coarse.length, cp8⟩, ((Sh.roll z to).1).rawFrom, ((Sh.roll z to).1).fineFrom, ((Sh.roll z to).1).fineTo, ((Sh.roll z to).1).coarseFrom, ((Sh.roll z to).1).coarseTo⟩ : ShelfV), (⟨⟨A9, ((Sh.forget z tier to).1).series.length, cp9⟩, ⟨A10, ((Sh.forget z tier to).1).raw.length, cp10⟩, ⟨A11, ((Sh.forget z tier to).1).fine.length, cp11⟩, ⟨A12, ((Sh.forget z tier to).1).coarse.length, cp12⟩, ((Sh.forget z tier to).1).rawFrom, ((Sh.forget z tier to).1).fineFrom, ((Sh.forget z tier to).1).fineTo, ((Sh.forget z tier to).1).coarseFrom, ((Sh.forget z tier to).1).coarseTo⟩ : ShelfV)] : List ShelfV)[2]? = some (⟨⟨A9, ((Sh.forget z tier to).1).series.length, cp9⟩, ⟨A10, ((Sh.forget z tier to).1).raw.length, cp10⟩, ⟨A11, ((Sh.forget z tier to).1).fine.length, cp11⟩, ⟨A12, ((Sh.forget z tier to).1).coarse.length, cp12⟩, ((Sh.forget z tier to).1).rawFrom, ((Sh.forget z tier to).1).fineFrom, ((Sh.forget z tier to).1).fineTo, ((Sh.forget z tier to).1).coarseFrom, ((Sh.forget z tier to).1).coarseTo⟩ : ShelfV) from rfl) rfl rfl agg27 inf27) rfl ?_
          refine l_alloc wn inf27 rfl fun b16 => ?_
          refine l_val wn (r_assign rfl) rfl ?_
          refine l_stn 0 wn rfl rfl rfl inf27 rfl rfl rfl ?_
          refine l_nil (e_go hK82 ?_)
          refine c_seq fun K83 hK83 => ?_
          refine c_seq fun K84 hK84 => ?_
          refine c_region ?_
          refine l_val wn (r_move rfl) rfl ?_
          refine l_val wn (r_move rfl) rfl ?_
          refine l_val wn (r_move rfl) rfl ?_
          refine l_bsL intE ([((Sh.append z x).2), ((Sh.roll z to).2), ((Sh.forget z tier to).2)] : List Int) wn Try.underlying50 inf30 rfl rfl rfl rfl (by decide) (by decide) rfl fun b54 => ?_
          refine l_val wn (r_move rfl) rfl ?_
          refine l_val wn (r_ia (i := 2) rfl rfl rfl (by omega) (by first | omega | decide | (simp only [List.length_cons, List.length_nil, List.length_append, List.length_take, List.length_set]; omega)) Try.underlying50 inf30) rfl ?_
          refine l_val wn (r_rl 0 encInt rfl rfl rfl (show ([((Sh.append z x).2), ((Sh.roll z to).2), ((Sh.forget z tier to).2)] : List Int)[2]? = some ((Sh.forget z tier to).2) from rfl) rfl flat30) rfl ?_
          refine l_val wn (r_neq rfl rfl) rfl ?_
          refine l_nil (e_go hK84 ?_)
          refine c_cond rfl (fun h8 => ?_) (fun h8 => ?_)
          ·
            refine c_exit (e_then_x (e_in_hit (e_go hK81 ?_)))
            refine c_region ?_
            refine l_val wn (r_addn rfl rfl (by omega)) rfl ?_
            refine l_val wn (r_move rfl) rfl ?_
            refine l_nil (e_goL hK78 ?_)
            refine c_round fun K85 hK85 => ?_
            refine c_seq fun K86 hK86 => ?_
            refine c_region ?_
            refine l_val wn (r_lss rfl rfl) rfl ?_
            refine l_nil (e_go hK86 ?_)
            refine c_seq fun K87 hK87 => ?_
            refine c_false rfl (decide_eq_false (by decide)) ?_
            refine c_exit (e_then_x (e_then_x (e_in_hit (e_cut hK10 (sn) (fun _ h => (h.sel [7, 8, 9, 10, 11, 12, 13, 14, 15, 16, 17, 18, 19, 20, 21, 22, 23, 24, 25, 26, 27] (by decide) rfl))))))
          ·
            have hrf := Sh.forget_right (Classical.not_not.1 h8)
            refine c_skip (e_go hK83 ?_)
            refine c_seq fun K88 hK88 => ?_
            refine c_region ?_
            refine l_val wn (r_lbn 1 [.slice A9 (((Sh.forget z tier to).1).series.length) cp9, .slice A10 (((Sh.forget z tier to).1).raw.length) cp10, .slice A11 (((Sh.forget z tier to).1).fine.length) cp11, .slice A12 (((Sh.forget z tier to).1).coarse.length) cp12, .int .i64 (((Sh.forget z tier to).1).rawFrom), .int .i64 (((Sh.forget z tier to).1).fineFrom), .int .i64 (((Sh.forget z tier to).1).fineTo), .int .i64 (((Sh.forget z tier to).1).coarseFrom), .int .i64 (((Sh.forget z tier to).1).coarseTo)] rfl rfl rfl rfl agg27 inf27) rfl ?_
            refine l_callF wn rfl Try.call19 rfl (fun w1 hM => c_shWrong _ _ _ _ ((Sh.forget z tier to).1) (In w1) w1 (fun _ h => h) (hM.slp 8 rfl) (hM.slp 9 rfl) (hM.slp 10 rfl) (hM.slp 11 rfl)) ?_
            refine l_val wn (r_neq rfl rfl) rfl ?_
            refine l_val wn (r_move rfl) rfl ?_
            refine l_litf (t := 62) rfl (fun g => g hrf.1.wrong) ?_
            refine l_val (wg rfl rfl rfl) (r_fa rfl fld27_4) rfl ?_
            refine l_val (wg rfl rfl rfl) (r_lb 1 rfl rfl rfl flat3) rfl ?_
            refine l_val (wg rfl rfl rfl) (r_fa rfl fld27_4) rfl ?_
            refine l_val (wg rfl rfl rfl) (r_lb 23 rfl rfl rfl flat3) rfl ?_
            refine l_val (wg rfl rfl rfl) (r_lss rfl rfl) rfl ?_
            refine l_val wn (r_pick rfl rfl) rfl ?_
            refine l_val wn (r_move rfl) rfl ?_
            refine l_litf (t := 69) rfl (by have := hrf.2; unfold Sh.Ahead at this; omega) ?_
            refine l_val (wg rfl rfl rfl) (r_fa rfl fld27_5) rfl ?_
            refine l_val (wg rfl rfl rfl) (r_lb 1 rfl rfl rfl flat3) rfl ?_
            refine l_val (wg rfl rfl rfl) (r_fa rfl fld27_5) rfl ?_
            refine l_val (wg rfl rfl rfl) (r_lb 23 rfl rfl rfl flat3) rfl ?_
            refine l_val (wg rfl rfl rfl) (r_lss rfl rfl) rfl ?_
            refine l_val wn (r_pick rfl rfl) rfl ?_
            refine l_val wn (r_move rfl) rfl ?_
            refine l_litf (t := 76) rfl (by have := hrf.2; unfold Sh.Ahead at this; omega) ?_
            refine l_val (wg rfl rfl rfl) (r_fa rfl fld27_6) rfl ?_
            refine l_val (wg rfl rfl rfl) (r_lb 1 rfl rfl rfl flat3) rfl ?_
            refine l_val (wg rfl rfl rfl) (r_fa rfl fld27_6) rfl ?_
            refine l_val (wg rfl rfl rfl) (r_lb 23 rfl rfl rfl flat3) rfl ?_
            refine l_val (wg rfl rfl rfl) (r_lss rfl rfl) rfl ?_
            refine l_val wn (r_pick rfl rfl) rfl ?_
            refine l_val wn (r_move rfl) rfl ?_
            refine l_litf (t := 83) rfl (by have := hrf.2; unfold Sh.Ahead at this; omega) ?_
            refine l_val (wg rfl rfl rfl) (r_fa rfl fld27_7) rfl ?_
            refine l_val (wg rfl rfl rfl) (r_lb 1 rfl rfl rfl flat3) rfl ?_
            refine l_val (wg rfl rfl rfl) (r_fa rfl fld27_7) rfl ?_
            refine l_val (wg rfl rfl rfl) (r_lb 23 rfl rfl rfl flat3) rfl ?_
            refine l_val (wg rfl rfl rfl) (r_lss rfl rfl) rfl ?_
            refine l_val wn (r_pick rfl rfl) rfl ?_
            refine l_val wn (r_move rfl) rfl ?_
            refine l_litf (t := 90) rfl (by have := hrf.2; unfold Sh.Ahead at this; omega) ?_
            refine l_val (wg rfl rfl rfl) (r_fa rfl fld27_8) rfl ?_
            refine l_val (wg rfl rfl rfl) (r_lb 1 rfl rfl rfl flat3) rfl ?_
            refine l_val (wg rfl rfl rfl) (r_fa rfl fld27_8) rfl ?_
            refine l_val (wg rfl rfl rfl) (r_lb 23 rfl rfl rfl flat3) rfl ?_
            refine l_val (wg rfl rfl rfl) (r_lss rfl rfl) rfl ?_
            refine l_val wn (r_pick rfl rfl) rfl ?_
            refine l_nil (e_go hK88 ?_)
            refine c_false rfl (decide_eq_false (by have := hrf.2; unfold Sh.Ahead at this; omega)) ?_
            refine c_skip (e_in_n (e_go hK81 ?_))
            refine c_region ?_
            refine l_val wn (r_addn rfl rfl (by omega)) rfl ?_
            refine l_val wn (r_move rfl) rfl ?_
            refine l_nil (e_goL hK78 ?_)
            refine c_round fun K89 hK89 => ?_
            refine c_seq fun K90 hK90 => ?_
            refine c_region ?_
            refine l_val wn (r_lss rfl rfl) rfl ?_
            refine l_nil (e_go hK90 ?_)
            refine c_seq fun K91 hK91 => ?_
            refine c_false rfl (decide_eq_false (by decide)) ?_
            refine c_exit (e_then_x (e_then_x (e_in_hit (e_cut hK10 (sn) (fun _ h => (h.sel [7, 8, 9, 10, 11, 12, 13, 14, 15, 16, 17, 18, 19, 20, 21, 22, 23, 24, 25, 26, 27] (by decide) rfl))))))
    ·
      refine c_seq fun K92 hK92 => ?_
      refine c_region ?_
      refine l_val wn (r_assign rfl) rfl ?_
      refine l_nil (e_go hK92 ?_)
      refine c_ret (e_ret1 (.inl rfl) Try.results5 (rv_tmp rfl) fun w1 hM => ?_)
      exact ret_ok rfl hM

end Go.Proofs.Ytnbkennlmnnbeaa
