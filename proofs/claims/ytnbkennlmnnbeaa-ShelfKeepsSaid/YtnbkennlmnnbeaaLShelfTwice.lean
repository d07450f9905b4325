/-
  Walks: what each function hands back.
-/
import Derived.Test.YtnbkennlmnnbeaaWshref2
import Derived.Test.YtnbkennlmnnbeaaPShelf4
namespace Go.Proofs.Ytnbkennlmnnbeaa
open Ex
set_option linter.unusedVariables false
set_option linter.unusedSimpArgs false
set_option maxHeartbeats 1000000 in
theorem c_alive7  (w : World)   :
    Calls Try.prog 29 #[] w (Ret w (.bool true)) := by
  refine fstart (N := 44) (vals := []) (S := Mem w no []) Try.func29 rfl rfl rfl (Mem.ofDats dn) ?_
  refine c_seq fun K1 hK1 => ?_
  refine c_region ?_
  refine l_val wn (r_assign rfl) rfl ?_
  refine l_nil (e_go hK1 ?_)
  refine c_seq fun K2 hK2 => ?_
  refine c_region ?_
  refine l_callSh (fun u => u) (⟨([] : List Label), [], [], [], 0, 0, 0, 0, 0⟩ : Shelf) wn rfl Try.call22 rfl (fun w1 Pb hM pp => c_new _ ([] : List Label) Pb w1 pp.lt (FlatSl.nil_ _ 2 labelE _) (by first | omega | simp)) fun A1 cp1 A2 cp2 A3 cp3 A4 cp4 hb1 hA1 hA2 hA3 hA4 => ?_
  refine l_val wn (r_build [.int .i64 5, .int .i64 7] pl39 inf39 rfl rfl) rfl ?_
  refine l_callSh (fun u => .tuple (List.toArray [u, .int .i64 ((Sh.append (⟨([] : List Label), [], [], [], 0, 0, 0, 0, 0⟩ : Shelf) (⟨5, 7⟩ : Sample)).2)])) ((Sh.append (⟨([] : List Label), [], [], [], 0, 0, 0, 0, 0⟩ : Shelf) (⟨5, 7⟩ : Sample)).1) wn rfl Try.call23 rfl (fun w1 Pb hM pp => c_append _ _ _ _ (⟨([] : List Label), [], [], [], 0, 0, 0, 0, 0⟩ : Shelf) (⟨5, 7⟩ : Sample) Pb w1 pp.lt (pp.sl 0 rfl) (pp.sl 1 rfl) (pp.sl 2 rfl) (pp.sl 3 rfl)) fun A5 cp5 A6 cp6 A7 cp7 A8 cp8 hb2 hA5 hA6 hA7 hA8 => ?_
  refine l_val wn (r_move rfl) rfl ?_
  refine l_val wn (r_extract rfl rfl) rfl ?_
  refine l_val wn (r_extract rfl rfl) rfl ?_
  refine l_alloc wn inf27 rfl fun b1 => ?_
  refine l_stn 0 wn rfl rfl rfl inf27 rfl rfl rfl ?_
  refine l_val wn (r_assign rfl) rfl ?_
  refine l_nil (e_go hK2 ?_)
  refine c_seq fun K3 hK3 => ?_
  refine c_region ?_
  refine l_val wn (r_lbn 0 [.slice A5 (((Sh.append (⟨([] : List Label), [], [], [], 0, 0, 0, 0, 0⟩ : Shelf) (⟨5, 7⟩ : Sample)).1).series.length) cp5, .slice A6 (((Sh.append (⟨([] : List Label), [], [], [], 0, 0, 0, 0, 0⟩ : Shelf) (⟨5, 7⟩ : Sample)).1).raw.length) cp6, .slice A7 (((Sh.append (⟨([] : List Label), [], [], [], 0, 0, 0, 0, 0⟩ : Shelf) (⟨5, 7⟩ : Sample)).1).fine.length) cp7, .slice A8 (((Sh.append (⟨([] : List Label), [], [], [], 0, 0, 0, 0, 0⟩ : Shelf) (⟨5, 7⟩ : Sample)).1).coarse.length) cp8, .int .i64 (((Sh.append (⟨([] : List Label), [], [], [], 0, 0, 0, 0, 0⟩ : Shelf) (⟨5, 7⟩ : Sample)).1).rawFrom), .int .i64 (((Sh.append (⟨([] : List Label), [], [], [], 0, 0, 0, 0, 0⟩ : Shelf) (⟨5, 7⟩ : Sample)).1).fineFrom), .int .i64 (((Sh.append (⟨([] : List Label), [], [], [], 0, 0, 0, 0, 0⟩ : Shelf) (⟨5, 7⟩ : Sample)).1).fineTo), .int .i64 (((Sh.append (⟨([] : List Label), [], [], [], 0, 0, 0, 0, 0⟩ : Shelf) (⟨5, 7⟩ : Sample)).1).coarseFrom), .int .i64 (((Sh.append (⟨([] : List Label), [], [], [], 0, 0, 0, 0, 0⟩ : Shelf) (⟨5, 7⟩ : Sample)).1).coarseTo)] rfl rfl rfl rfl agg27 inf27) rfl ?_
  refine l_callSh (fun u => .tuple (List.toArray [u, .int .i64 ((Sh.roll ((Sh.append (⟨([] : List Label), [], [], [], 0, 0, 0, 0, 0⟩ : Shelf) (⟨5, 7⟩ : Sample)).1) 70).2)])) ((Sh.roll ((Sh.append (⟨([] : List Label), [], [], [], 0, 0, 0, 0, 0⟩ : Shelf) (⟨5, 7⟩ : Sample)).1) 70).1) wn rfl Try.call25 rfl (fun w1 Pb hM pp => c_roll _ _ _ _ ((Sh.append (⟨([] : List Label), [], [], [], 0, 0, 0, 0, 0⟩ : Shelf) (⟨5, 7⟩ : Sample)).1) 70 Pb w1 pp.lt (pp.sl 1 rfl) (pp.sl 2 rfl) (pp.sl 3 rfl) (pp.sl 4 rfl)) fun A9 cp9 A10 cp10 A11 cp11 A12 cp12 hb3 hA9 hA10 hA11 hA12 => ?_
  refine l_val wn (r_move rfl) rfl ?_
  refine l_val wn (r_extract rfl rfl) rfl ?_
  refine l_val wn (r_extract rfl rfl) rfl ?_
  refine l_alloc wn inf27 rfl fun b3 => ?_
  refine l_stn 0 wn rfl rfl rfl inf27 rfl rfl rfl ?_
  refine l_val wn (r_assign rfl) rfl ?_
  refine l_nil (e_go hK3 ?_)
  refine c_seq fun K4 hK4 => ?_
  refine c_region ?_
  refine l_val wn (r_move rfl) rfl ?_
  refine l_val wn (r_eql rfl rfl) rfl ?_
  refine l_val wn (r_move rfl) rfl ?_
  refine l_litt (t := 18) rfl (by decide +kernel) ?_
  refine l_val (wg rfl rfl rfl) (r_move rfl) rfl ?_
  refine l_val (wg rfl rfl rfl) (r_eql rfl rfl) rfl ?_
  refine l_val wn (r_pick rfl rfl) rfl ?_
  refine l_val wn (r_move rfl) rfl ?_
  refine l_litt (t := 22) rfl (by decide +kernel) ?_
  refine l_val (wg rfl rfl rfl) (r_fa rfl fld27_2) rfl ?_
  refine l_val (wg rfl rfl rfl) (r_lb 0 rfl rfl rfl flat25) rfl ?_
  refine l_val (wg rfl rfl rfl) (r_len rfl Try.underlying25) rfl ?_
  refine l_val (wg rfl rfl rfl) (r_eql rfl rfl) rfl ?_
  refine l_val wn (r_pick rfl rfl) rfl ?_
  refine l_val wn (r_move rfl) rfl ?_
  refine l_litt (t := 28) rfl (by decide +kernel) ?_
  refine l_val (wg rfl rfl rfl) (r_fa rfl fld27_3) rfl ?_
  refine l_val (wg rfl rfl rfl) (r_lb 0 rfl rfl rfl flat25) rfl ?_
  refine l_val (wg rfl rfl rfl) (r_len rfl Try.underlying25) rfl ?_
  refine l_val (wg rfl rfl rfl) (r_eql rfl rfl) rfl ?_
  refine l_val wn (r_pick rfl rfl) rfl ?_
  refine l_val wn (r_move rfl) rfl ?_
  refine l_litt (t := 34) rfl (by decide +kernel) ?_
  refine l_val (wg rfl rfl rfl) (r_fa rfl fld27_6) rfl ?_
  refine l_val (wg rfl rfl rfl) (r_lb 0 rfl rfl rfl flat3) rfl ?_
  refine l_val (wg rfl rfl rfl) (r_eql rfl rfl) rfl ?_
  refine l_val wn (r_pick rfl rfl) rfl ?_
  refine l_val wn (r_move rfl) rfl ?_
  refine l_litt (t := 39) rfl (by decide +kernel) ?_
  refine l_val (wg rfl rfl rfl) (r_fa rfl fld27_8) rfl ?_
  refine l_val (wg rfl rfl rfl) (r_lb 0 rfl rfl rfl flat3) rfl ?_
  refine l_val (wg rfl rfl rfl) (r_eql rfl rfl) rfl ?_
  refine l_val wn (r_pick rfl rfl) rfl ?_
  refine l_val wn (r_assign rfl) rfl ?_
  refine l_nil (e_go hK4 ?_)
  refine c_ret (e_ret1 (.inl rfl) Try.results29 (rv_tmp rfl) fun w1 hM => ?_)
  exact ret_ok (by first | rfl | (exact congrArg Value.bool (by decide +kernel))) hM

set_option maxHeartbeats 1000000 in
theorem law_ShelfTwice (z0 : Value) (z1 : Value) (z2 : Value) (z3 : Value) (z : Shelf) (tier : Int) (to : Int) (P0 : Nat → Prop) (w : World) (hP0 : ∀ b, P0 b → b < w.heap.size) (hz0 : FlatSl P0 2 labelE z0 z.series w) (hz1 : FlatSl P0 2 sampleE z1 z.raw w) (hz2 : FlatSl P0 8 bucketE z2 z.fine w) (hz3 : FlatSl P0 8 bucketE z3 z.coarse w)  :
    Calls Try.prog 6 #[.agg (List.toArray [z0, z1, z2, z3, .int .i64 z.rawFrom, .int .i64 z.fineFrom, .int .i64 z.fineTo, .int .i64 z.coarseFrom, .int .i64 z.coarseTo]), .int .i64 tier, .int .i64 to] w (Ret w (.bool true)) := by
  obtain ⟨z0A, z0c, rfl, hz0c, hz0m, hz0A⟩ := hz0.form
  obtain ⟨z1A, z1c, rfl, hz1c, hz1m, hz1A⟩ := hz1.form
  obtain ⟨z2A, z2c, rfl, hz2c, hz2m, hz2A⟩ := hz2.form
  obtain ⟨z3A, z3c, rfl, hz3c, hz3m, hz3A⟩ := hz3.form
  refine fstart (N := 63) (vals := [.agg (List.toArray [.slice z0A z.series.length z0c, .slice z1A z.raw.length z1c, .slice z2A z.fine.length z2c, .slice z3A z.coarse.length z3c, .int .i64 z.rawFrom, .int .i64 z.fineFrom, .int .i64 z.fineTo, .int .i64 z.coarseFrom, .int .i64 z.coarseTo]), .int .i64 tier, .int .i64 to]) (S := Mem w ⟨no, P0⟩ [slP 2 labelE (.slice z0A z.series.length z0c) z.series, slP 2 sampleE (.slice z1A z.raw.length z1c) z.raw, slP 8 bucketE (.slice z2A z.fine.length z2c) z.fine, slP 8 bucketE (.slice z3A z.coarse.length z3c) z.coarse]) Try.func6 rfl rfl rfl (Mem.ofDatsP hP0 (dc (dlp hz0) (dc (dlp hz1) (dc (dlp hz2) (dc (dlp hz3) dn))))) ?_
  refine c_seq fun K1 hK1 => ?_
  refine c_region ?_
  refine l_box wn rfl rfl fun b3 => ?_
  refine l_val wn (r_assign rfl) rfl ?_
  refine l_nil (e_go hK1 ?_)
  refine c_seq fun K2 hK2 => ?_
  refine c_seq fun K3 hK3 => ?_
  refine c_region ?_
  refine l_callF wn rfl Try.call29 rfl (fun w1 hM => c_alive7  w1) ?_
  refine l_val wn (r_notb rfl) rfl ?_
  refine l_nil (e_go hK3 ?_)
  refine c_false rfl rfl ?_
  refine c_skip (e_go hK2 ?_)
  refine c_seq fun K4 hK4 => ?_
  refine c_region ?_
  refine l_val wn (r_lbn 0 [.slice z0A z.series.length z0c, .slice z1A z.raw.length z1c, .slice z2A z.fine.length z2c, .slice z3A z.coarse.length z3c, .int .i64 z.rawFrom, .int .i64 z.fineFrom, .int .i64 z.fineTo, .int .i64 z.coarseFrom, .int .i64 z.coarseTo] rfl rfl rfl rfl agg27 inf27) rfl ?_
  refine l_val wn (r_move rfl) rfl ?_
  refine l_callSh (fun u => .tuple (List.toArray [u, .int .i64 ((Sh.roll z to).2)])) ((Sh.roll z to).1) wn rfl Try.call25 rfl (fun w1 Pb hM pp => c_roll _ _ _ _ z to Pb w1 pp.lt (pp.sl 1 rfl) (pp.sl 2 rfl) (pp.sl 3 rfl) (pp.sl 4 rfl)) fun A1 cp1 A2 cp2 A3 cp3 A4 cp4 hb1 hA1 hA2 hA3 hA4 => ?_
  refine l_val wn (r_move rfl) rfl ?_
  refine l_val wn (r_extract rfl rfl) rfl ?_
  refine l_val wn (r_extract rfl rfl) rfl ?_
  refine l_alloc wn inf27 rfl fun b7 => ?_
  refine l_stn 0 wn rfl rfl rfl inf27 rfl rfl rfl ?_
  refine l_val wn (r_assign rfl) rfl ?_
  refine l_nil (e_go hK4 ?_)
  refine c_seq fun K5 hK5 => ?_
  refine c_region ?_
  refine l_val wn (r_lbn 5 [.slice z0A z.series.length z0c, .slice z1A z.raw.length z1c, .slice z2A z.fine.length z2c, .slice z3A z.coarse.length z3c, .int .i64 z.rawFrom, .int .i64 z.fineFrom, .int .i64 z.fineTo, .int .i64 z.coarseFrom, .int .i64 z.coarseTo] rfl rfl rfl rfl agg27 inf27) rfl ?_
  refine l_val wn (r_move rfl) rfl ?_
  refine l_val wn (r_move rfl) rfl ?_
  refine l_callSh (fun u => .tuple (List.toArray [u, .int .i64 ((Sh.forget z tier to).2)])) ((Sh.forget z tier to).1) wn rfl Try.call27 rfl (fun w1 Pb hM pp => c_forget _ _ _ _ z tier to Pb w1 pp.lt (pp.sl 6 rfl) (pp.sl 7 rfl) (pp.sl 8 rfl) (pp.sl 9 rfl)) fun A5 cp5 A6 cp6 A7 cp7 A8 cp8 hb2 hA5 hA6 hA7 hA8 => ?_
  refine l_val wn (r_move rfl) rfl ?_
  refine l_val wn (r_extract rfl rfl) rfl ?_
  refine l_val wn (r_extract rfl rfl) rfl ?_
  refine l_alloc wn inf27 rfl fun b9 => ?_
  refine l_stn 0 wn rfl rfl rfl inf27 rfl rfl rfl ?_
  refine l_val wn (r_assign rfl) rfl ?_
  refine l_nil (e_go hK5 ?_)
  refine c_cut [(1, .int .i64 tier), (2, .int .i64 to), (9, .pointer (some ⟨b9, 0, none⟩)), (10, .int .i64 ((Sh.forget z tier to).2))] (Mem w ⟨no, P0⟩ [.blk b9 [.slice A5 (((Sh.forget z tier to).1).series.length) cp5, .slice A6 (((Sh.forget z tier to).1).raw.length) cp6, .slice A7 (((Sh.forget z tier to).1).fine.length) cp7, .slice A8 (((Sh.forget z tier to).1).coarse.length) cp8, .int .i64 (((Sh.forget z tier to).1).rawFrom), .int .i64 (((Sh.forget z tier to).1).fineFrom), .int .i64 (((Sh.forget z tier to).1).fineTo), .int .i64 (((Sh.forget z tier to).1).coarseFrom), .int .i64 (((Sh.forget z tier to).1).coarseTo)] 27, slP 2 labelE (.slice A5 (((Sh.forget z tier to).1).series.length) cp5) (((Sh.forget z tier to).1).series), slP 2 sampleE (.slice A6 (((Sh.forget z tier to).1).raw.length) cp6) (((Sh.forget z tier to).1).raw), slP 8 bucketE (.slice A7 (((Sh.forget z tier to).1).fine.length) cp7) (((Sh.forget z tier to).1).fine), slP 8 bucketE (.slice A8 (((Sh.forget z tier to).1).coarse.length) cp8) (((Sh.forget z tier to).1).coarse), .blk b7 [.slice A1 (((Sh.roll z to).1).series.length) cp1, .slice A2 (((Sh.roll z to).1).raw.length) cp2, .slice A3 (((Sh.roll z to).1).fine.length) cp3, .slice A4 (((Sh.roll z to).1).coarse.length) cp4, .int .i64 (((Sh.roll z to).1).rawFrom), .int .i64 (((Sh.roll z to).1).fineFrom), .int .i64 (((Sh.roll z to).1).fineTo), .int .i64 (((Sh.roll z to).1).coarseFrom), .int .i64 (((Sh.roll z to).1).coarseTo)] 27, slP 2 labelE (.slice A1 (((Sh.roll z to).1).series.length) cp1) (((Sh.roll z to).1).series), slP 2 sampleE (.slice A2 (((Sh.roll z to).1).raw.length) cp2) (((Sh.roll z to).1).raw), slP 8 bucketE (.slice A3 (((Sh.roll z to).1).fine.length) cp3) (((Sh.roll z to).1).fine), slP 8 bucketE (.slice A4 (((Sh.roll z to).1).coarse.length) cp4) (((Sh.roll z to).1).coarse), .blk b3 [.slice z0A z.series.length z0c, .slice z1A z.raw.length z1c, .slice z2A z.fine.length z2c, .slice z3A z.coarse.length z3c, .int .i64 z.rawFrom, .int .i64 z.fineFrom, .int .i64 z.fineTo, .int .i64 z.coarseFrom, .int .i64 z.coarseTo] 27, slP 2 labelE (.slice z0A z.series.length z0c) z.series, slP 2 sampleE (.slice z1A z.raw.length z1c) z.raw, slP 8 bucketE (.slice z2A z.fine.length z2c) z.fine, slP 8 bucketE (.slice z3A z.coarse.length z3c) z.coarse]) (fun K6 hK6 => ?_) ?_
  ·
    refine c_seq fun K7 hK7 => ?_
    refine c_region ?_
    refine l_val wn (r_move rfl) rfl ?_
    refine l_val wn (r_eql rfl rfl) rfl ?_
    refine l_nil (e_go hK7 ?_)
    refine c_cond rfl (fun h1 => ?_) (fun h1 => ?_)
    ·
      refine c_seq fun K8 hK8 => ?_
      refine c_region ?_
      refine l_val wn (r_lbn 5 [.slice A1 (((Sh.roll z to).1).series.length) cp1, .slice A2 (((Sh.roll z to).1).raw.length) cp2, .slice A3 (((Sh.roll z to).1).fine.length) cp3, .slice A4 (((Sh.roll z to).1).coarse.length) cp4, .int .i64 (((Sh.roll z to).1).rawFrom), .int .i64 (((Sh.roll z to).1).fineFrom), .int .i64 (((Sh.roll z to).1).fineTo), .int .i64 (((Sh.roll z to).1).coarseFrom), .int .i64 (((Sh.roll z to).1).coarseTo)] rfl rfl rfl rfl agg27 inf27) rfl ?_
      refine l_val wn (r_move rfl) rfl ?_
      refine l_callSh (fun u => .tuple (List.toArray [u, .int .i64 ((Sh.roll ((Sh.roll z to).1) to).2)])) ((Sh.roll ((Sh.roll z to).1) to).1) wn rfl Try.call25 rfl (fun w1 Pb hM pp => c_roll _ _ _ _ ((Sh.roll z to).1) to Pb w1 pp.lt (pp.sl 6 rfl) (pp.sl 7 rfl) (pp.sl 8 rfl) (pp.sl 9 rfl)) fun A9 cp9 A10 cp10 A11 cp11 A12 cp12 hb3 hA9 hA10 hA11 hA12 => ?_
      refine l_val wn (r_move rfl) rfl ?_
      refine l_val wn (r_extract rfl rfl) rfl ?_
      refine l_val wn (r_extract rfl rfl) rfl ?_
      refine l_alloc wn inf27 rfl fun b11 => ?_
      refine l_stn 0 wn rfl rfl rfl inf27 rfl rfl rfl ?_
      refine l_val wn (r_assign rfl) rfl ?_
      refine l_nil (e_go hK8 ?_)
      refine c_seq fun K9 hK9 => ?_
      refine c_region ?_
      refine l_val wn (r_move rfl) rfl ?_
      refine l_val wn (r_neq rfl rfl) rfl ?_
      refine l_val wn (r_move rfl) rfl ?_
      refine l_litf (t := 40) rfl (fun g => g (by rw [Sh.roll_twice (by assumption)])) ?_
      refine l_val (wg rfl rfl rfl) (r_lbn 0 [.slice A9 (((Sh.roll ((Sh.roll z to).1) to).1).series.length) cp9, .slice A10 (((Sh.roll ((Sh.roll z to).1) to).1).raw.length) cp10, .slice A11 (((Sh.roll ((Sh.roll z to).1) to).1).fine.length) cp11, .slice A12 (((Sh.roll ((Sh.roll z to).1) to).1).coarse.length) cp12, .int .i64 (((Sh.roll ((Sh.roll z to).1) to).1).rawFrom), .int .i64 (((Sh.roll ((Sh.roll z to).1) to).1).fineFrom), .int .i64 (((Sh.roll ((Sh.roll z to).1) to).1).fineTo), .int .i64 (((Sh.roll ((Sh.roll z to).1) to).1).coarseFrom), .int .i64 (((Sh.roll ((Sh.roll z to).1) to).1).coarseTo)] rfl rfl rfl rfl agg27 inf27) rfl ?_
      refine l_val (wg rfl rfl rfl) (r_lbn 10 [.slice A1 (((Sh.roll z to).1).series.length) cp1, .slice A2 (((Sh.roll z to).1).raw.length) cp2, .slice A3 (((Sh.roll z to).1).fine.length) cp3, .slice A4 (((Sh.roll z to).1).coarse.length) cp4, .int .i64 (((Sh.roll z to).1).rawFrom), .int .i64 (((Sh.roll z to).1).fineFrom), .int .i64 (((Sh.roll z to).1).fineTo), .int .i64 (((Sh.roll z to).1).coarseFrom), .int .i64 (((Sh.roll z to).1).coarseTo)] rfl rfl rfl rfl agg27 inf27) rfl ?_
      refine l_callF (wg rfl rfl rfl) rfl Try.call21 rfl (fun w1 hM => c_shSame _ _ _ _ ((Sh.roll ((Sh.roll z to).1) to).1) _ _ _ _ ((Sh.roll z to).1) (In w1) w1 (fun _ h => h) (hM.slp 1 rfl) (hM.slp 2 rfl) (hM.slp 3 rfl) (hM.slp 4 rfl) (hM.slp 11 rfl) (hM.slp 12 rfl) (hM.slp 13 rfl) (hM.slp 14 rfl)) ?_
      refine l_val (wg rfl rfl rfl) (r_not rfl) rfl ?_
      refine l_val wn (r_pick rfl rfl) rfl ?_
      refine l_nil (e_go hK9 ?_)
      refine c_false rfl (decide_eq_false (fun g => g (by rw [Sh.roll_twice (by assumption)]))) ?_
      refine c_skip (e_cut hK6 (sc rfl (sc rfl (sc rfl (sc rfl sn)))) (fun _ h => (h.sel [5, 6, 7, 8, 9, 10, 11, 12, 13, 14, 15, 16, 17, 18, 19] (by decide) rfl)))
    ·
      refine c_skip (e_cut hK6 (sc rfl (sc rfl (sc rfl (sc rfl sn)))) (fun _ h => h))
  ·
    refine c_cut [] (Mem w ⟨no, P0⟩ [.blk b9 [.slice A5 (((Sh.forget z tier to).1).series.length) cp5, .slice A6 (((Sh.forget z tier to).1).raw.length) cp6, .slice A7 (((Sh.forget z tier to).1).fine.length) cp7, .slice A8 (((Sh.forget z tier to).1).coarse.length) cp8, .int .i64 (((Sh.forget z tier to).1).rawFrom), .int .i64 (((Sh.forget z tier to).1).fineFrom), .int .i64 (((Sh.forget z tier to).1).fineTo), .int .i64 (((Sh.forget z tier to).1).coarseFrom), .int .i64 (((Sh.forget z tier to).1).coarseTo)] 27, slP 2 labelE (.slice A5 (((Sh.forget z tier to).1).series.length) cp5) (((Sh.forget z tier to).1).series), slP 2 sampleE (.slice A6 (((Sh.forget z tier to).1).raw.length) cp6) (((Sh.forget z tier to).1).raw), slP 8 bucketE (.slice A7 (((Sh.forget z tier to).1).fine.length) cp7) (((Sh.forget z tier to).1).fine), slP 8 bucketE (.slice A8 (((Sh.forget z tier to).1).coarse.length) cp8) (((Sh.forget z tier to).1).coarse), .blk b7 [.slice A1 (((Sh.roll z to).1).series.length) cp1, .slice A2 (((Sh.roll z to).1).raw.length) cp2, .slice A3 (((Sh.roll z to).1).fine.length) cp3, .slice A4 (((Sh.roll z to).1).coarse.length) cp4, .int .i64 (((Sh.roll z to).1).rawFrom), .int .i64 (((Sh.roll z to).1).fineFrom), .int .i64 (((Sh.roll z to).1).fineTo), .int .i64 (((Sh.roll z to).1).coarseFrom), .int .i64 (((Sh.roll z to).1).coarseTo)] 27, slP 2 labelE (.slice A1 (((Sh.roll z to).1).series.length) cp1) (((Sh.roll z to).1).series), slP 2 sampleE (.slice A2 (((Sh.roll z to).1).raw.length) cp2) (((Sh.roll z to).1).raw), slP 8 bucketE (.slice A3 (((Sh.roll z to).1).fine.length) cp3) (((Sh.roll z to).1).fine), slP 8 bucketE (.slice A4 (((Sh.roll z to).1).coarse.length) cp4) (((Sh.roll z to).1).coarse), .blk b3 [.slice z0A z.series.length z0c, .slice z1A z.raw.length z1c, .slice z2A z.fine.length z2c, .slice z3A z.coarse.length z3c, .int .i64 z.rawFrom, .int .i64 z.fineFrom, .int .i64 z.fineTo, .int .i64 z.coarseFrom, .int .i64 z.coarseTo] 27, slP 2 labelE (.slice z0A z.series.length z0c) z.series, slP 2 sampleE (.slice z1A z.raw.length z1c) z.raw, slP 8 bucketE (.slice z2A z.fine.length z2c) z.fine, slP 8 bucketE (.slice z3A z.coarse.length z3c) z.coarse]) (fun K10 hK10 => ?_) ?_
    ·
      refine c_seq fun K11 hK11 => ?_
      refine c_region ?_
      refine l_val wn (r_move rfl) rfl ?_
      refine l_val wn (r_eql rfl rfl) rfl ?_
      refine l_nil (e_go hK11 ?_)
      refine c_cond rfl (fun h2 => ?_) (fun h2 => ?_)
      ·
        refine c_seq fun K12 hK12 => ?_
        refine c_region ?_
        refine l_val wn (r_lbn 0 [.slice A5 (((Sh.forget z tier to).1).series.length) cp5, .slice A6 (((Sh.forget z tier to).1).raw.length) cp6, .slice A7 (((Sh.forget z tier to).1).fine.length) cp7, .slice A8 (((Sh.forget z tier to).1).coarse.length) cp8, .int .i64 (((Sh.forget z tier to).1).rawFrom), .int .i64 (((Sh.forget z tier to).1).fineFrom), .int .i64 (((Sh.forget z tier to).1).fineTo), .int .i64 (((Sh.forget z tier to).1).coarseFrom), .int .i64 (((Sh.forget z tier to).1).coarseTo)] rfl rfl rfl rfl agg27 inf27) rfl ?_
        refine l_val wn (r_move rfl) rfl ?_
        refine l_val wn (r_move rfl) rfl ?_
        refine l_callSh (fun u => .tuple (List.toArray [u, .int .i64 ((Sh.forget ((Sh.forget z tier to).1) tier to).2)])) ((Sh.forget ((Sh.forget z tier to).1) tier to).1) wn rfl Try.call27 rfl (fun w1 Pb hM pp => c_forget _ _ _ _ ((Sh.forget z tier to).1) tier to Pb w1 pp.lt (pp.sl 1 rfl) (pp.sl 2 rfl) (pp.sl 3 rfl) (pp.sl 4 rfl)) fun A13 cp13 A14 cp14 A15 cp15 A16 cp16 hb4 hA13 hA14 hA15 hA16 => ?_
        refine l_val wn (r_move rfl) rfl ?_
        refine l_val wn (r_extract rfl rfl) rfl ?_
        refine l_val wn (r_extract rfl rfl) rfl ?_
        refine l_alloc wn inf27 rfl fun b13 => ?_
        refine l_stn 0 wn rfl rfl rfl inf27 rfl rfl rfl ?_
        refine l_val wn (r_assign rfl) rfl ?_
        refine l_nil (e_go hK12 ?_)
        refine c_seq fun K13 hK13 => ?_
        refine c_region ?_
        refine l_val wn (r_move rfl) rfl ?_
        refine l_val wn (r_neq rfl rfl) rfl ?_
        refine l_val wn (r_move rfl) rfl ?_
        refine l_litf (t := 57) rfl (fun g => g (by rw [Sh.forget_twice (by assumption)])) ?_
        refine l_val (wg rfl rfl rfl) (r_lbn 0 [.slice A13 (((Sh.forget ((Sh.forget z tier to).1) tier to).1).series.length) cp13, .slice A14 (((Sh.forget ((Sh.forget z tier to).1) tier to).1).raw.length) cp14, .slice A15 (((Sh.forget ((Sh.forget z tier to).1) tier to).1).fine.length) cp15, .slice A16 (((Sh.forget ((Sh.forget z tier to).1) tier to).1).coarse.length) cp16, .int .i64 (((Sh.forget ((Sh.forget z tier to).1) tier to).1).rawFrom), .int .i64 (((Sh.forget ((Sh.forget z tier to).1) tier to).1).fineFrom), .int .i64 (((Sh.forget ((Sh.forget z tier to).1) tier to).1).fineTo), .int .i64 (((Sh.forget ((Sh.forget z tier to).1) tier to).1).coarseFrom), .int .i64 (((Sh.forget ((Sh.forget z tier to).1) tier to).1).coarseTo)] rfl rfl rfl rfl agg27 inf27) rfl ?_
        refine l_val (wg rfl rfl rfl) (r_lbn 5 [.slice A5 (((Sh.forget z tier to).1).series.length) cp5, .slice A6 (((Sh.forget z tier to).1).raw.length) cp6, .slice A7 (((Sh.forget z tier to).1).fine.length) cp7, .slice A8 (((Sh.forget z tier to).1).coarse.length) cp8, .int .i64 (((Sh.forget z tier to).1).rawFrom), .int .i64 (((Sh.forget z tier to).1).fineFrom), .int .i64 (((Sh.forget z tier to).1).fineTo), .int .i64 (((Sh.forget z tier to).1).coarseFrom), .int .i64 (((Sh.forget z tier to).1).coarseTo)] rfl rfl rfl rfl agg27 inf27) rfl ?_
        refine l_callF (wg rfl rfl rfl) rfl Try.call21 rfl (fun w1 hM => c_shSame _ _ _ _ ((Sh.forget ((Sh.forget z tier to).1) tier to).1) _ _ _ _ ((Sh.forget z tier to).1) (In w1) w1 (fun _ h => h) (hM.slp 1 rfl) (hM.slp 2 rfl) (hM.slp 3 rfl) (hM.slp 4 rfl) (hM.slp 6 rfl) (hM.slp 7 rfl) (hM.slp 8 rfl) (hM.slp 9 rfl)) ?_
        refine l_val (wg rfl rfl rfl) (r_not rfl) rfl ?_
        refine l_val wn (r_pick rfl rfl) rfl ?_
        refine l_nil (e_go hK13 ?_)
        refine c_false rfl (decide_eq_false (fun g => g (by rw [Sh.forget_twice (by assumption)]))) ?_
        refine c_skip (e_cut hK10 (sn) (fun _ h => (h.sel [5, 6, 7, 8, 9, 10, 11, 12, 13, 14, 15, 16, 17, 18, 19] (by decide) rfl)))
      ·
        refine c_skip (e_cut hK10 (sn) (fun _ h => h))
    ·
      refine c_seq fun K14 hK14 => ?_
      refine c_region ?_
      refine l_val wn (r_assign rfl) rfl ?_
      refine l_nil (e_go hK14 ?_)
      refine c_ret (e_ret1 (.inl rfl) Try.results6 (rv_tmp rfl) fun w1 hM => ?_)
      exact ret_ok rfl hM

end Go.Proofs.Ytnbkennlmnnbeaa
