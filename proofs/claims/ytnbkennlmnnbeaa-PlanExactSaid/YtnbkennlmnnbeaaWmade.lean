/-
  Walks: what each function hands back.
-/
import Derived.Test.YtnbkennlmnnbeaaWplan
import Derived.Test.YtnbkennlmnnbeaaPPlan2
namespace Go.Proofs.Ytnbkennlmnnbeaa
open Ex
set_option linter.unusedVariables false
set_option linter.unusedSimpArgs false
set_option maxHeartbeats 2000000 in
theorem c_alive8  (w : World)   :
    Calls Try.prog 35 #[] w (Ret w (.bool true)) := by
 refine fstart (N := 65) (vals := []) (S := Mem w no []) Try.func35 rfl rfl rfl (Mem.ofDats dn) ?_
 refine c_seq fun _ hK1 => ?_
 refine c_region ?_
 refine l_val wn (r_assign rfl) rfl ?_
 refine l_nil (e_go hK1 ?_)
 refine c_seq fun _ hK2 => ?_
 refine c_region ?_
 refine l_callSh (fun u => u) (⟨([] : List Label), [], [], [], 0, 0, 0, 0, 0⟩ : Shelf) wn rfl Try.call22 rfl (fun w1 Pb hM pp => c_new _ ([] : List Label) Pb w1 pp.lt (FlatSl.nil_ _ 2 labelE _) (by first | omega | simp)) fun A1 cp1 A2 cp2 A3 cp3 A4 cp4 hb1 hA1 hA2 hA3 hA4 => ?_
 refine l_val wn (r_build [.int .i64 5, .int .i64 7] pl39 inf39 rfl rfl) rfl ?_
 refine l_callSh (fun u => .tuple (List.toArray [u, .int .i64 ((Sh.append (⟨([] : List Label), [], [], [], 0, 0, 0, 0, 0⟩ : Shelf) (⟨5, 7⟩ : Sample)).2)])) ((Sh.append (⟨([] : List Label), [], [], [], 0, 0, 0, 0, 0⟩ : Shelf) (⟨5, 7⟩ : Sample)).1) wn rfl Try.call23 rfl (fun w1 Pb hM pp => c_append _ _ _ _ (⟨([] : List Label), [], [], [], 0, 0, 0, 0, 0⟩ : Shelf) (⟨5, 7⟩ : Sample) Pb w1 pp.lt (pp.sl 0 rfl) (pp.sl 1 rfl) (pp.sl 2 rfl) (pp.sl 3 rfl)) fun A5 cp5 A6 cp6 A7 cp7 A8 cp8 hb2 hA5 hA6 hA7 hA8 => ?_
 refine l_val wn (r_move rfl) rfl ?_
 refine l_val wn (r_extract rfl rfl) rfl ?_
 refine l_val wn (r_extract rfl rfl) rfl ?_
 refine l_alloc wn inf27 rfl fun b1 => ?_
 refine l_stn 0 wn rfl rfl rfl inf27 rfl rfl rfl ?_
 refine l_val wn (r_assign rfl) rfl ?_
 refine l_nil (e_go hK2 ?_)
 refine c_seq fun _ hK3 => ?_
 refine c_region ?_
 refine l_val wn (r_lbn 0 [.slice A5 (((Sh.append (⟨([] : List Label), [], [], [], 0, 0, 0, 0, 0⟩ : Shelf) (⟨5, 7⟩ : Sample)).1).series.length) cp5, .slice A6 (((Sh.append (⟨([] : List Label), [], [], [], 0, 0, 0, 0, 0⟩ : Shelf) (⟨5, 7⟩ : Sample)).1).raw.length) cp6, .slice A7 (((Sh.append (⟨([] : List Label), [], [], [], 0, 0, 0, 0, 0⟩ : Shelf) (⟨5, 7⟩ : Sample)).1).fine.length) cp7, .slice A8 (((Sh.append (⟨([] : List Label), [], [], [], 0, 0, 0, 0, 0⟩ : Shelf) (⟨5, 7⟩ : Sample)).1).coarse.length) cp8, .int .i64 (((Sh.append (⟨([] : List Label), [], [], [], 0, 0, 0, 0, 0⟩ : Shelf) (⟨5, 7⟩ : Sample)).1).rawFrom), .int .i64 (((Sh.append (⟨([] : List Label), [], [], [], 0, 0, 0, 0, 0⟩ : Shelf) (⟨5, 7⟩ : Sample)).1).fineFrom), .int .i64 (((Sh.append (⟨([] : List Label), [], [], [], 0, 0, 0, 0, 0⟩ : Shelf) (⟨5, 7⟩ : Sample)).1).fineTo), .int .i64 (((Sh.append (⟨([] : List Label), [], [], [], 0, 0, 0, 0, 0⟩ : Shelf) (⟨5, 7⟩ : Sample)).1).coarseFrom), .int .i64 (((Sh.append (⟨([] : List Label), [], [], [], 0, 0, 0, 0, 0⟩ : Shelf) (⟨5, 7⟩ : Sample)).1).coarseTo)] rfl rfl rfl rfl agg27 inf27) rfl ?_
 refine l_callSh (fun u => .tuple (List.toArray [u, .int .i64 ((Sh.roll ((Sh.append (⟨([] : List Label), [], [], [], 0, 0, 0, 0, 0⟩ : Shelf) (⟨5, 7⟩ : Sample)).1) 70).2)])) ((Sh.roll ((Sh.append (⟨([] : List Label), [], [], [], 0, 0, 0, 0, 0⟩ : Shelf) (⟨5, 7⟩ : Sample)).1) 70).1) wn rfl Try.call25 rfl (fun w1 Pb hM pp => c_roll _ _ _ _ ((Sh.append (⟨([] : List Label), [], [], [], 0, 0, 0, 0, 0⟩ : Shelf) (⟨5, 7⟩ : Sample)).1) 70 Pb w1 pp.lt (pp.sl 1 rfl) (pp.sl 2 rfl) (pp.sl 3 rfl) (pp.sl 4 rfl)) fun A9 cp9 A10 cp10 A11 cp11 A12 cp12 hb3 hA9 hA10 hA11 hA12 => ?_
 refine l_val wn (r_move rfl) rfl ?_
 refine l_val wn (r_extract rfl rfl) rfl ?_
 refine l_val wn (r_extract rfl rfl) rfl ?_
 refine l_stn 4 wn rfl rfl rfl inf27 rfl rfl rfl ?_
 refine l_val wn (r_assign rfl) rfl ?_
 refine l_nil (e_go hK3 ?_)
 refine c_seq fun _ hK4 => ?_
 refine c_region ?_
 refine l_val wn (r_lbn 4 [.slice A9 (((Sh.roll ((Sh.append (⟨([] : List Label), [], [], [], 0, 0, 0, 0, 0⟩ : Shelf) (⟨5, 7⟩ : Sample)).1) 70).1).series.length) cp9, .slice A10 (((Sh.roll ((Sh.append (⟨([] : List Label), [], [], [], 0, 0, 0, 0, 0⟩ : Shelf) (⟨5, 7⟩ : Sample)).1) 70).1).raw.length) cp10, .slice A11 (((Sh.roll ((Sh.append (⟨([] : List Label), [], [], [], 0, 0, 0, 0, 0⟩ : Shelf) (⟨5, 7⟩ : Sample)).1) 70).1).fine.length) cp11, .slice A12 (((Sh.roll ((Sh.append (⟨([] : List Label), [], [], [], 0, 0, 0, 0, 0⟩ : Shelf) (⟨5, 7⟩ : Sample)).1) 70).1).coarse.length) cp12, .int .i64 (((Sh.roll ((Sh.append (⟨([] : List Label), [], [], [], 0, 0, 0, 0, 0⟩ : Shelf) (⟨5, 7⟩ : Sample)).1) 70).1).rawFrom), .int .i64 (((Sh.roll ((Sh.append (⟨([] : List Label), [], [], [], 0, 0, 0, 0, 0⟩ : Shelf) (⟨5, 7⟩ : Sample)).1) 70).1).fineFrom), .int .i64 (((Sh.roll ((Sh.append (⟨([] : List Label), [], [], [], 0, 0, 0, 0, 0⟩ : Shelf) (⟨5, 7⟩ : Sample)).1) 70).1).fineTo), .int .i64 (((Sh.roll ((Sh.append (⟨([] : List Label), [], [], [], 0, 0, 0, 0, 0⟩ : Shelf) (⟨5, 7⟩ : Sample)).1) 70).1).coarseFrom), .int .i64 (((Sh.roll ((Sh.append (⟨([] : List Label), [], [], [], 0, 0, 0, 0, 0⟩ : Shelf) (⟨5, 7⟩ : Sample)).1) 70).1).coarseTo)] rfl rfl rfl rfl agg27 inf27) rfl ?_
 refine l_callLT ((Sh.choose ((Sh.roll ((Sh.append (⟨([] : List Label), [], [], [], 0, 0, 0, 0, 0⟩ : Shelf) (⟨5, 7⟩ : Sample)).1) 70).1) 0 75).1) (fun r => .tuple (List.toArray [r, .int .i64 ((Sh.choose ((Sh.roll ((Sh.append (⟨([] : List Label), [], [], [], 0, 0, 0, 0, 0⟩ : Shelf) (⟨5, 7⟩ : Sample)).1) 70).1) 0 75).2)])) wn rfl rfl Try.call14 rfl (fun w1 hM => c_choose _ _ _ _ ((Sh.roll ((Sh.append (⟨([] : List Label), [], [], [], 0, 0, 0, 0, 0⟩ : Shelf) (⟨5, 7⟩ : Sample)).1) 70).1) 0 75 (In w1) w1 (fun _ h => h) (hM.slp 0 rfl) (hM.slp 1 rfl) (hM.slp 2 rfl) (hM.slp 3 rfl)) fun A13 cp13 hc1 hm1 hA13 => ?_
 refine l_val wn (r_move rfl) rfl ?_
 refine l_val wn (r_extract rfl rfl) rfl ?_
 refine l_val wn (r_extract rfl rfl) rfl ?_
 refine l_val wn (r_assign rfl) rfl ?_
 refine l_val wn (r_assign rfl) rfl ?_
 refine l_nil (e_go hK4 ?_)
 refine c_seq fun _ hK5 => ?_
 refine c_region ?_
 refine l_val wn (r_lbn 5 [.slice A9 (((Sh.roll ((Sh.append (⟨([] : List Label), [], [], [], 0, 0, 0, 0, 0⟩ : Shelf) (⟨5, 7⟩ : Sample)).1) 70).1).series.length) cp9, .slice A10 (((Sh.roll ((Sh.append (⟨([] : List Label), [], [], [], 0, 0, 0, 0, 0⟩ : Shelf) (⟨5, 7⟩ : Sample)).1) 70).1).raw.length) cp10, .slice A11 (((Sh.roll ((Sh.append (⟨([] : List Label), [], [], [], 0, 0, 0, 0, 0⟩ : Shelf) (⟨5, 7⟩ : Sample)).1) 70).1).fine.length) cp11, .slice A12 (((Sh.roll ((Sh.append (⟨([] : List Label), [], [], [], 0, 0, 0, 0, 0⟩ : Shelf) (⟨5, 7⟩ : Sample)).1) 70).1).coarse.length) cp12, .int .i64 (((Sh.roll ((Sh.append (⟨([] : List Label), [], [], [], 0, 0, 0, 0, 0⟩ : Shelf) (⟨5, 7⟩ : Sample)).1) 70).1).rawFrom), .int .i64 (((Sh.roll ((Sh.append (⟨([] : List Label), [], [], [], 0, 0, 0, 0, 0⟩ : Shelf) (⟨5, 7⟩ : Sample)).1) 70).1).fineFrom), .int .i64 (((Sh.roll ((Sh.append (⟨([] : List Label), [], [], [], 0, 0, 0, 0, 0⟩ : Shelf) (⟨5, 7⟩ : Sample)).1) 70).1).fineTo), .int .i64 (((Sh.roll ((Sh.append (⟨([] : List Label), [], [], [], 0, 0, 0, 0, 0⟩ : Shelf) (⟨5, 7⟩ : Sample)).1) 70).1).coarseFrom), .int .i64 (((Sh.roll ((Sh.append (⟨([] : List Label), [], [], [], 0, 0, 0, 0, 0⟩ : Shelf) (⟨5, 7⟩ : Sample)).1) 70).1).coarseTo)] rfl rfl rfl rfl agg27 inf27) rfl ?_
 refine l_val wn (r_move rfl) rfl ?_
 refine l_callF wn rfl Try.call17 rfl (fun w1 hM => c_read _ _ _ _ ((Sh.roll ((Sh.append (⟨([] : List Label), [], [], [], 0, 0, 0, 0, 0⟩ : Shelf) (⟨5, 7⟩ : Sample)).1) 70).1) _ ((Sh.choose ((Sh.roll ((Sh.append (⟨([] : List Label), [], [], [], 0, 0, 0, 0, 0⟩ : Shelf) (⟨5, 7⟩ : Sample)).1) 70).1) 0 75).1) (In w1) w1 (fun _ h => h) (hM.slp 1 rfl) (hM.slp 2 rfl) (hM.slp 3 rfl) (hM.slp 4 rfl) (RowSl encPart hM 0 rfl) (by first | omega | assumption | exact Sh.choose_len _ _ _ | simp)) ?_
 refine l_val wn (r_move rfl) rfl ?_
 refine l_val wn (r_extract rfl rfl) rfl ?_
 refine l_val wn (r_extract rfl rfl) rfl ?_
 refine l_val wn (r_extract rfl rfl) rfl ?_
 refine l_alloc wn inf35 rfl fun b6 => ?_
 refine l_stn 0 wn rfl rfl rfl inf35 rfl rfl rfl ?_
 refine l_val wn (r_assign rfl) rfl ?_
 refine l_val wn (r_assign rfl) rfl ?_
 refine l_nil (e_go hK5 ?_)
 refine c_seq fun _ hK6 => ?_
 refine c_region ?_
 refine l_val wn (r_move rfl) rfl ?_
 refine l_val wn (r_eql rfl rfl) rfl ?_
 refine l_val wn (r_move rfl) rfl ?_
 refine l_litt (t := 34) rfl (by decide +kernel) ?_
 refine l_val (wg rfl rfl rfl) (r_move rfl) rfl ?_
 refine l_val (wg rfl rfl rfl) (r_eql rfl rfl) rfl ?_
 refine l_val wn (r_pick rfl rfl) rfl ?_
 refine l_val wn (r_move rfl) rfl ?_
 refine l_litt (t := 38) rfl (by decide +kernel) ?_
 refine l_val (wg rfl rfl rfl) (r_move rfl) rfl ?_
 refine l_val (wg rfl rfl rfl) (r_eql rfl rfl) rfl ?_
 refine l_val wn (r_pick rfl rfl) rfl ?_
 refine l_val wn (r_move rfl) rfl ?_
 refine l_litt (t := 42) rfl (by decide +kernel) ?_
 refine l_val (wg rfl rfl rfl) (r_move rfl) rfl ?_
 refine l_val (wg rfl rfl rfl) (r_eql rfl rfl) rfl ?_
 refine l_val wn (r_pick rfl rfl) rfl ?_
 refine l_val wn (r_move rfl) rfl ?_
 refine l_litt (t := 46) rfl (by decide +kernel) ?_
 refine l_val (wg rfl rfl rfl) (r_move rfl) rfl ?_
 refine l_val (wg rfl rfl rfl) (r_len rfl Try.underlying28) rfl ?_
 refine l_val (wg rfl rfl rfl) (r_eql rfl rfl) rfl ?_
 refine l_val wn (r_pick rfl rfl) rfl ?_
 refine l_val wn (r_move rfl) rfl ?_
 refine l_litt (t := 51) rfl (by decide +kernel) ?_
 refine l_val (wg rfl rfl rfl) (r_fa rfl fld35_1) rfl ?_
 refine l_val (wg rfl rfl rfl) (r_lb 0 rfl rfl rfl flat3) rfl ?_
 refine l_val (wg rfl rfl rfl) (r_eql rfl rfl) rfl ?_
 refine l_val wn (r_pick rfl rfl) rfl ?_
 refine l_val wn (r_move rfl) rfl ?_
 refine l_litt (t := 56) rfl (by decide +kernel) ?_
 refine l_val (wg rfl rfl rfl) (r_move rfl) rfl ?_
 refine l_val (wg rfl rfl rfl) (r_eql rfl rfl) rfl ?_
 refine l_val wn (r_pick rfl rfl) rfl ?_
 refine l_val wn (r_move rfl) rfl ?_
 refine l_litt (t := 60) rfl (by decide +kernel) ?_
 refine l_val (wg rfl rfl rfl) (r_lbn 6 [.slice A9 (((Sh.roll ((Sh.append (⟨([] : List Label), [], [], [], 0, 0, 0, 0, 0⟩ : Shelf) (⟨5, 7⟩ : Sample)).1) 70).1).series.length) cp9, .slice A10 (((Sh.roll ((Sh.append (⟨([] : List Label), [], [], [], 0, 0, 0, 0, 0⟩ : Shelf) (⟨5, 7⟩ : Sample)).1) 70).1).raw.length) cp10, .slice A11 (((Sh.roll ((Sh.append (⟨([] : List Label), [], [], [], 0, 0, 0, 0, 0⟩ : Shelf) (⟨5, 7⟩ : Sample)).1) 70).1).fine.length) cp11, .slice A12 (((Sh.roll ((Sh.append (⟨([] : List Label), [], [], [], 0, 0, 0, 0, 0⟩ : Shelf) (⟨5, 7⟩ : Sample)).1) 70).1).coarse.length) cp12, .int .i64 (((Sh.roll ((Sh.append (⟨([] : List Label), [], [], [], 0, 0, 0, 0, 0⟩ : Shelf) (⟨5, 7⟩ : Sample)).1) 70).1).rawFrom), .int .i64 (((Sh.roll ((Sh.append (⟨([] : List Label), [], [], [], 0, 0, 0, 0, 0⟩ : Shelf) (⟨5, 7⟩ : Sample)).1) 70).1).fineFrom), .int .i64 (((Sh.roll ((Sh.append (⟨([] : List Label), [], [], [], 0, 0, 0, 0, 0⟩ : Shelf) (⟨5, 7⟩ : Sample)).1) 70).1).fineTo), .int .i64 (((Sh.roll ((Sh.append (⟨([] : List Label), [], [], [], 0, 0, 0, 0, 0⟩ : Shelf) (⟨5, 7⟩ : Sample)).1) 70).1).coarseFrom), .int .i64 (((Sh.roll ((Sh.append (⟨([] : List Label), [], [], [], 0, 0, 0, 0, 0⟩ : Shelf) (⟨5, 7⟩ : Sample)).1) 70).1).coarseTo)] rfl rfl rfl rfl agg27 inf27) rfl ?_
 refine l_val (wg rfl rfl rfl) (r_move rfl) rfl ?_
 refine l_callF (wg rfl rfl rfl) rfl Try.call12 rfl (fun w1 hM => c_covers _ _ _ _ ((Sh.roll ((Sh.append (⟨([] : List Label), [], [], [], 0, 0, 0, 0, 0⟩ : Shelf) (⟨5, 7⟩ : Sample)).1) 70).1) _ ((Sh.choose ((Sh.roll ((Sh.append (⟨([] : List Label), [], [], [], 0, 0, 0, 0, 0⟩ : Shelf) (⟨5, 7⟩ : Sample)).1) 70).1) 0 75).1) 0 75 (In w1) w1 (fun _ h => h) (hM.slp 2 rfl) (hM.slp 3 rfl) (hM.slp 4 rfl) (hM.slp 5 rfl) (RowSl encPart hM 1 rfl)) ?_
 refine l_val wn (r_pick rfl rfl) rfl ?_
 refine l_val wn (r_assign rfl) rfl ?_
 refine l_nil (e_go hK6 ?_)
 refine c_ret (e_ret1 (.inl rfl) Try.results35 (rv_tmp rfl) fun w1 hM => ?_)
 exact ret_ok (by first | rfl | (exact congrArg Value.bool (by decide +kernel))) hM

set_option maxHeartbeats 2000000 in
theorem c_made (lv : Value) (l : List Sample) (ro : Int) (ov : Value) (o : List Int) (P0 : Nat → Prop) (w : World) (hP0 : ∀ b, P0 b → b < w.heap.size) (hl : FlatSl P0 2 sampleE lv l w) (ho : FlatSl P0 1 intE ov o w)  :
    Calls Try.prog 36 #[lv, .int .i64 ro, ov] w (RetSh w P0 (fun u => .tuple (List.toArray [u, .bool (Sh.made l ro o).2])) (Sh.made l ro o).1) := by
 obtain ⟨lA, lc, rfl, hlc, hlm, hlA⟩ := hl.form
 obtain ⟨oA, oc, rfl, hoc, hom, hoA⟩ := ho.form
 refine fstart (N := 66) (vals := [.slice lA l.length lc, .int .i64 ro, .slice oA o.length oc]) (S := Mem w ⟨no, P0⟩ [slP 2 sampleE (.slice lA l.length lc) l, slP 1 intE (.slice oA o.length oc) o]) Try.func36 rfl rfl rfl (Mem.ofDatsP hP0 (dc (dlp hl) (dc (dlp ho) dn))) ?_
 refine c_seq fun _ hK1 => ?_
 refine c_region ?_
 refine l_alloc wn inf27 rfl fun b6 => ?_
 refine l_val wn (r_assign rfl) rfl ?_
 refine l_nil (e_go hK1 ?_)
 refine c_seq fun _ hK2 => ?_
 refine c_region ?_
 refine l_callSh (fun u => u) (⟨([] : List Label), [], [], [], 0, 0, 0, 0, 0⟩ : Shelf) wn rfl Try.call22 rfl (fun w1 Pb hM pp => c_new _ ([] : List Label) Pb w1 pp.lt (FlatSl.nil_ _ 2 labelE _) (by first | omega | simp)) fun A1 cp1 A2 cp2 A3 cp3 A4 cp4 hb1 hA1 hA2 hA3 hA4 => ?_
 refine l_alloc wn inf27 rfl fun b8 => ?_
 refine l_stn 0 wn rfl rfl rfl inf27 rfl rfl rfl ?_
 refine l_nil (e_go hK2 ?_)
 refine c_seq fun _ hK3 => ?_
 refine c_seq fun _ hK4 => ?_
 refine c_region ?_
 refine l_val wn (r_move rfl) rfl ?_
 refine l_val wn (r_len rfl Try.underlying24) rfl ?_
 refine l_val wn (r_move rfl) rfl ?_
 refine l_nil (e_go hK4 ?_)
 refine c_block ?_
 refine c_loop6 (fun (k : Nat) (z : Shelf) (vb8_0 : Value) (vb8_1 : Value) (vb8_2 : Value) (vb8_3 : Value) => [(1, .int .i64 ro), (2, .slice oA o.length oc), (6, .pointer (some ⟨b6, 0, none⟩)), (8, .pointer (some ⟨b8, 0, none⟩)), (20, .slice lA l.length lc), (21, .int .i64 (l.length : Int)), (22, .int .i64 (k : Int))]) (fun (k : Nat) (z : Shelf) (vb8_0 : Value) (vb8_1 : Value) (vb8_2 : Value) (vb8_3 : Value) => [.blk b8 [vb8_0, vb8_1, vb8_2, vb8_3, .int .i64 z.rawFrom, .int .i64 z.fineFrom, .int .i64 z.fineTo, .int .i64 z.coarseFrom, .int .i64 z.coarseTo] 27, slP 2 labelE vb8_0 z.series, slP 2 sampleE vb8_1 z.raw, slP 8 bucketE vb8_2 z.fine, slP 8 bucketE vb8_3 z.coarse, .blk b6 [.slice none 0 0, .slice none 0 0, .slice none 0 0, .slice none 0 0, .int .i64 0, .int .i64 0, .int .i64 0, .int .i64 0, .int .i64 0] 27, slP 2 sampleE (.slice lA l.length lc) l, slP 1 intE (.slice oA o.length oc) o]) (fun (k : Nat) (z : Shelf) (vb8_0 : Value) (vb8_1 : Value) (vb8_2 : Value) (vb8_3 : Value) => k ≤ l.length ∧ Sh.addAll Sh.zero l = Sh.addAll z (l.drop k)) (fun (k : Nat) (z : Shelf) (vb8_0 : Value) (vb8_1 : Value) (vb8_2 : Value) (vb8_3 : Value) => l.length - k) 0 Sh.zero (.slice A1 ((⟨([] : List Label), [], [], [], 0, 0, 0, 0, 0⟩ : Shelf).series.length) cp1) (.slice A2 ((⟨([] : List Label), [], [], [], 0, 0, 0, 0, 0⟩ : Shelf).raw.length) cp2) (.slice A3 ((⟨([] : List Label), [], [], [], 0, 0, 0, 0, 0⟩ : Shelf).fine.length) cp3) (.slice A4 ((⟨([] : List Label), [], [], [], 0, 0, 0, 0, 0⟩ : Shelf).coarse.length) cp4) (sc rfl (sc rfl (sc rfl (sc rfl (sc rfl (sc rfl (sc (ji (by omega)) sn))))))) (fun _ h => h) ?_ (fun k z vb8_0 vb8_1 vb8_2 vb8_3 hI1 => ?_)
 · exact ⟨by omega, rfl⟩
 refine c_openP 1 (l := z.series) rfl fun A5 cp5 hv1 hc1 hm1 hA5 => ?_
 subst hv1
 refine c_openP 2 (l := z.raw) rfl fun A6 cp6 hv2 hc2 hm2 hA6 => ?_
 subst hv2
 refine c_openP 3 (l := z.fine) rfl fun A7 cp7 hv3 hc3 hm3 hA7 => ?_
 subst hv3
 refine c_openP 4 (l := z.coarse) rfl fun A8 cp8 hv4 hc4 hm4 hA8 => ?_
 subst hv4
 refine c_seq fun _ hK5 => ?_
 refine c_region ?_
 refine l_val wn (r_lss rfl rfl) rfl ?_
 refine l_nil (e_go hK5 ?_)
 refine c_seq fun _ hK6 => ?_
 refine c_cond rfl (fun h1 => ?_) (fun h1 => ?_)
 · refine c_skip (e_go hK6 ?_)
   refine c_seq fun _ hK7 => ?_
   refine c_block ?_
   refine c_seq fun _ hK8 => ?_
   refine c_region ?_
   obtain ⟨ad1, hd1⟩ := hlA (ne_nil (i := k) (by first | omega | decide | (simp only [List.length_cons, List.length_nil, List.length_append, List.length_take, List.length_set]; omega)))
   refine l_val wn (r_ia (i := k) rfl hd1 rfl (by omega) (by first | omega | decide | (simp only [List.length_cons, List.length_nil, List.length_append, List.length_take, List.length_set]; omega)) Try.underlying24 inf39) rfl ?_
   obtain ⟨s1, hs1⟩ : ∃ x, l[k]? = some x := ⟨_, List.getElem?_eq_getElem (by first | omega | decide | (simp only [List.length_cons, List.length_nil, List.length_append, List.length_take, List.length_set]; omega))⟩
   refine l_val wn (r_pln 6 [.int .i64 s1.time, .int .i64 s1.value] rfl rfl hd1 hs1 rfl rfl agg39 inf39) rfl ?_
   refine l_alloc wn inf39 rfl fun b10 => ?_
   refine l_stn 0 wn rfl rfl rfl inf39 rfl rfl rfl ?_
   refine l_nil (e_go hK8 ?_)
   refine c_seq fun _ hK9 => ?_
   refine c_region ?_
   refine l_val wn (r_lbn 1 [.slice A5 z.series.length cp5, .slice A6 z.raw.length cp6, .slice A7 z.fine.length cp7, .slice A8 z.coarse.length cp8, .int .i64 z.rawFrom, .int .i64 z.fineFrom, .int .i64 z.fineTo, .int .i64 z.coarseFrom, .int .i64 z.coarseTo] rfl rfl rfl rfl agg27 inf27) rfl ?_
   refine l_val wn (r_lbn 0 [.int .i64 s1.time, .int .i64 s1.value] rfl rfl rfl rfl agg39 inf39) rfl ?_
   refine l_callSh (fun u => .tuple (List.toArray [u, .int .i64 ((Sh.append z s1).2)])) ((Sh.append z s1).1) wn rfl Try.call23 rfl (fun w1 Pb hM pp => c_append _ _ _ _ z s1 Pb w1 pp.lt (pp.sl 2 rfl) (pp.sl 3 rfl) (pp.sl 4 rfl) (pp.sl 5 rfl)) fun A9 cp9 A10 cp10 A11 cp11 A12 cp12 hb2 hA9 hA10 hA11 hA12 => ?_
   refine l_val wn (r_move rfl) rfl ?_
   refine l_val wn (r_extract rfl rfl) rfl ?_
   refine l_val wn (r_extract rfl rfl) rfl ?_
   refine l_alloc wn inf27 rfl fun b11 => ?_
   refine l_stn 0 wn rfl rfl rfl inf27 rfl rfl rfl ?_
   refine l_val wn (r_assign rfl) rfl ?_
   refine l_nil (e_go hK9 ?_)
   refine c_seq fun _ hK10 => ?_
   refine c_seq fun _ hK11 => ?_
   refine c_region ?_
   refine l_val wn (r_move rfl) rfl ?_
   refine l_val wn (r_neq rfl rfl) rfl ?_
   refine l_nil (e_go hK11 ?_)
   refine c_cond rfl (fun h2 => ?_) (fun h2 => ?_)
   · refine c_seq fun _ hK12 => ?_
     refine c_region ?_
     refine l_val wn (r_lbn 6 [.slice A5 z.series.length cp5, .slice A6 z.raw.length cp6, .slice A7 z.fine.length cp7, .slice A8 z.coarse.length cp8, .int .i64 z.rawFrom, .int .i64 z.fineFrom, .int .i64 z.fineTo, .int .i64 z.coarseFrom, .int .i64 z.coarseTo] rfl rfl rfl rfl agg27 inf27) rfl ?_
     refine l_stn 11 wn rfl rfl rfl inf27 rfl rfl rfl ?_
     refine l_val wn (r_assign rfl) rfl ?_
     refine l_nil (e_go hK12 ?_)
     refine c_ret (e_then_r (e_in_r (e_then_r (e_loop6_r (e_in_r (e_then_r (e_ret2 (.inl rfl) Try.results36 (rv_cell 11 rfl rfl agg27 inf27 rfl) (rv_tmp rfl) fun w1 hM => ?_)))))))
     have he : Sh.made l ro o = (z, false) := Sh.made_bad hI1.2 hs1 h2
     rw [he]
     exact hM.retSh (s' := z) (fun u => .tuple (List.toArray [u, .bool false])) rfl (rfl) (fun _ pp => pp.sl 7 rfl) (fun _ pp => pp.sl 8 rfl) (fun _ pp => pp.sl 9 rfl) (fun _ pp => pp.sl 10 rfl)
   refine c_skip (e_go hK10 ?_)
   refine c_region ?_
   refine l_val wn (r_lbn 0 [.slice A9 (((Sh.append z s1).1).series.length) cp9, .slice A10 (((Sh.append z s1).1).raw.length) cp10, .slice A11 (((Sh.append z s1).1).fine.length) cp11, .slice A12 (((Sh.append z s1).1).coarse.length) cp12, .int .i64 (((Sh.append z s1).1).rawFrom), .int .i64 (((Sh.append z s1).1).fineFrom), .int .i64 (((Sh.append z s1).1).fineTo), .int .i64 (((Sh.append z s1).1).coarseFrom), .int .i64 (((Sh.append z s1).1).coarseTo)] rfl rfl rfl rfl agg27 inf27) rfl ?_
   refine l_stn 6 wn rfl rfl rfl inf27 rfl rfl rfl ?_
   refine l_nil (e_in_n (e_go hK7 ?_))
   refine c_region ?_
   refine l_val wn (r_addn rfl rfl (by omega)) rfl ?_
   refine l_val wn (r_move rfl) rfl ?_
   refine l_nil (e_round6 (k + 1) ((Sh.append z s1).1) (.slice A9 (((Sh.append z s1).1).series.length) cp9) (.slice A10 (((Sh.append z s1).1).raw.length) cp10) (.slice A11 (((Sh.append z s1).1).fine.length) cp11) (.slice A12 (((Sh.append z s1).1).coarse.length) cp12) (sc rfl (sc rfl (sc rfl (sc rfl (sc rfl (sc rfl (sc (ji (by omega)) sn))))))) (fun _ h => (h.sel [6, 1, 2, 3, 4, 11, 12, 13] (by decide) rfl)) ?_ ?_)
   · exact ⟨by omega, by rw [hI1.2, Sh.addAll_step hs1, if_neg h2]⟩
   omega
 refine c_exit (e_then_x (e_loop6_x (e_in_hit (e_go hK3 ?_))))
 refine c_seq fun _ hK13 => ?_
 refine c_region ?_
 refine l_val wn (r_lbn 0 [.slice A5 z.series.length cp5, .slice A6 z.raw.length cp6, .slice A7 z.fine.length cp7, .slice A8 z.coarse.length cp8, .int .i64 z.rawFrom, .int .i64 z.fineFrom, .int .i64 z.fineTo, .int .i64 z.coarseFrom, .int .i64 z.coarseTo] rfl rfl rfl rfl agg27 inf27) rfl ?_
 refine l_val wn (r_move rfl) rfl ?_
 refine l_callSh (fun u => .tuple (List.toArray [u, .int .i64 ((Sh.roll z ro).2)])) ((Sh.roll z ro).1) wn rfl Try.call25 rfl (fun w1 Pb hM pp => c_roll _ _ _ _ z ro Pb w1 pp.lt (pp.sl 1 rfl) (pp.sl 2 rfl) (pp.sl 3 rfl) (pp.sl 4 rfl)) fun A13 cp13 A14 cp14 A15 cp15 A16 cp16 hb3 hA13 hA14 hA15 hA16 => ?_
 refine l_val wn (r_move rfl) rfl ?_
 refine l_val wn (r_extract rfl rfl) rfl ?_
 refine l_val wn (r_extract rfl rfl) rfl ?_
 refine l_alloc wn inf27 rfl fun b13 => ?_
 refine l_stn 0 wn rfl rfl rfl inf27 rfl rfl rfl ?_
 refine l_val wn (r_assign rfl) rfl ?_
 refine l_nil (e_go hK13 ?_)
 refine c_seq fun _ hK14 => ?_
 refine c_seq fun _ hK15 => ?_
 refine c_region ?_
 refine l_val wn (r_move rfl) rfl ?_
 refine l_val wn (r_neq rfl rfl) rfl ?_
 refine l_nil (e_go hK15 ?_)
 refine c_cond rfl (fun h3 => ?_) (fun h3 => ?_)
 · refine c_seq fun _ hK16 => ?_
   refine c_region ?_
   refine l_val wn (r_lbn 5 [.slice A5 z.series.length cp5, .slice A6 z.raw.length cp6, .slice A7 z.fine.length cp7, .slice A8 z.coarse.length cp8, .int .i64 z.rawFrom, .int .i64 z.fineFrom, .int .i64 z.fineTo, .int .i64 z.coarseFrom, .int .i64 z.coarseTo] rfl rfl rfl rfl agg27 inf27) rfl ?_
   refine l_stn 10 wn rfl rfl rfl inf27 rfl rfl rfl ?_
   refine l_val wn (r_assign rfl) rfl ?_
   refine l_nil (e_go hK16 ?_)
   refine c_ret (e_then_r (e_ret2 (.inl rfl) Try.results36 (rv_cell 10 rfl rfl agg27 inf27 rfl) (rv_tmp rfl) fun w1 hM => ?_))
   have he : Sh.made l ro o = (z, false) := Sh.made_roll hI1.2 (by omega) h3
   rw [he]
   exact hM.retSh (s' := z) (fun u => .tuple (List.toArray [u, .bool false])) rfl (rfl) (fun _ pp => pp.sl 6 rfl) (fun _ pp => pp.sl 7 rfl) (fun _ pp => pp.sl 8 rfl) (fun _ pp => pp.sl 9 rfl)
 refine c_skip (e_go hK14 ?_)
 refine c_seq fun _ hK17 => ?_
 refine c_seq fun _ hK18 => ?_
 refine c_region ?_
 refine l_val wn (r_move rfl) rfl ?_
 refine l_val wn (r_len rfl Try.underlying62) rfl ?_
 refine l_val wn (r_move rfl) rfl ?_
 refine l_nil (e_go hK18 ?_)
 refine c_block ?_
 refine c_loop6 (fun (i : Nat) (y : Shelf) (vb13_0 : Value) (vb13_1 : Value) (vb13_2 : Value) (vb13_3 : Value) => [(6, .pointer (some ⟨b6, 0, none⟩)), (8, .pointer (some ⟨b8, 0, none⟩)), (13, .pointer (some ⟨b13, 0, none⟩)), (46, .slice oA o.length oc), (47, .int .i64 (o.length : Int)), (48, .int .i64 (i : Int))]) (fun (i : Nat) (y : Shelf) (vb13_0 : Value) (vb13_1 : Value) (vb13_2 : Value) (vb13_3 : Value) => [.blk b13 [vb13_0, vb13_1, vb13_2, vb13_3, .int .i64 y.rawFrom, .int .i64 y.fineFrom, .int .i64 y.fineTo, .int .i64 y.coarseFrom, .int .i64 y.coarseTo] 27, slP 2 labelE vb13_0 y.series, slP 2 sampleE vb13_1 y.raw, slP 8 bucketE vb13_2 y.fine, slP 8 bucketE vb13_3 y.coarse, .blk b8 [.slice A5 z.series.length cp5, .slice A6 z.raw.length cp6, .slice A7 z.fine.length cp7, .slice A8 z.coarse.length cp8, .int .i64 z.rawFrom, .int .i64 z.fineFrom, .int .i64 z.fineTo, .int .i64 z.coarseFrom, .int .i64 z.coarseTo] 27, slP 2 labelE (.slice A5 z.series.length cp5) z.series, slP 2 sampleE (.slice A6 z.raw.length cp6) z.raw, slP 8 bucketE (.slice A7 z.fine.length cp7) z.fine, slP 8 bucketE (.slice A8 z.coarse.length cp8) z.coarse, .blk b6 [.slice none 0 0, .slice none 0 0, .slice none 0 0, .slice none 0 0, .int .i64 0, .int .i64 0, .int .i64 0, .int .i64 0, .int .i64 0] 27, slP 2 sampleE (.slice lA l.length lc) l, slP 1 intE (.slice oA o.length oc) o]) (fun (i : Nat) (y : Shelf) (vb13_0 : Value) (vb13_1 : Value) (vb13_2 : Value) (vb13_3 : Value) => i ≤ o.length ∧ Sh.forgetAll z (Sh.roll z ro).1 0 o = Sh.forgetAll z y (i : Int) (o.drop i)) (fun (i : Nat) (y : Shelf) (vb13_0 : Value) (vb13_1 : Value) (vb13_2 : Value) (vb13_3 : Value) => o.length - i) 0 ((Sh.roll z ro).1) (.slice A13 (((Sh.roll z ro).1).series.length) cp13) (.slice A14 (((Sh.roll z ro).1).raw.length) cp14) (.slice A15 (((Sh.roll z ro).1).fine.length) cp15) (.slice A16 (((Sh.roll z ro).1).coarse.length) cp16) (sc rfl (sc rfl (sc rfl (sc rfl (sc rfl (sc (ji (by omega)) sn)))))) (fun _ h => h) ?_ (fun i y vb13_0 vb13_1 vb13_2 vb13_3 hI2 => ?_)
 · exact ⟨by omega, rfl⟩
 refine c_openP 1 (l := y.series) rfl fun A17 cp17 hv5 hc5 hm5 hA17 => ?_
 subst hv5
 refine c_openP 2 (l := y.raw) rfl fun A18 cp18 hv6 hc6 hm6 hA18 => ?_
 subst hv6
 refine c_openP 3 (l := y.fine) rfl fun A19 cp19 hv7 hc7 hm7 hA19 => ?_
 subst hv7
 refine c_openP 4 (l := y.coarse) rfl fun A20 cp20 hv8 hc8 hm8 hA20 => ?_
 subst hv8
 refine c_seq fun _ hK19 => ?_
 refine c_region ?_
 refine l_val wn (r_lss rfl rfl) rfl ?_
 refine l_nil (e_go hK19 ?_)
 refine c_seq fun _ hK20 => ?_
 refine c_cond rfl (fun h4 => ?_) (fun h4 => ?_)
 · refine c_skip (e_go hK20 ?_)
   refine c_seq fun _ hK21 => ?_
   refine c_block ?_
   refine c_seq fun _ hK22 => ?_
   refine c_region ?_
   refine l_val wn (r_move rfl) rfl ?_
   obtain ⟨ad2, hd2⟩ := hoA (ne_nil (i := i) (by first | omega | decide | (simp only [List.length_cons, List.length_nil, List.length_append, List.length_take, List.length_set]; omega)))
   refine l_val wn (r_ia (i := i) rfl hd2 rfl (by omega) (by first | omega | decide | (simp only [List.length_cons, List.length_nil, List.length_append, List.length_take, List.length_set]; omega)) Try.underlying62 inf3) rfl ?_
   obtain ⟨s2, hs2⟩ : ∃ x, o[i]? = some x := ⟨_, List.getElem?_eq_getElem (by first | omega | decide | (simp only [List.length_cons, List.length_nil, List.length_append, List.length_take, List.length_set]; omega))⟩
   refine l_val wn (r_pl 12 rfl rfl hd2 hs2 rfl flat3) rfl ?_
   refine l_val wn (r_assign rfl) rfl ?_
   refine l_val wn (r_assign rfl) rfl ?_
   refine l_nil (e_go hK22 ?_)
   refine c_seq fun _ hK23 => ?_
   refine c_region ?_
   refine l_val wn (r_lbn 0 [.slice A17 y.series.length cp17, .slice A18 y.raw.length cp18, .slice A19 y.fine.length cp19, .slice A20 y.coarse.length cp20, .int .i64 y.rawFrom, .int .i64 y.fineFrom, .int .i64 y.fineTo, .int .i64 y.coarseFrom, .int .i64 y.coarseTo] rfl rfl rfl rfl agg27 inf27) rfl ?_
   refine l_val wn (r_move rfl) rfl ?_
   refine l_val wn (r_move rfl) rfl ?_
   refine l_callSh (fun u => .tuple (List.toArray [u, .int .i64 ((Sh.forget y (i : Int) s2).2)])) ((Sh.forget y (i : Int) s2).1) wn rfl Try.call27 rfl (fun w1 Pb hM pp => c_forget _ _ _ _ y (i : Int) s2 Pb w1 pp.lt (pp.sl 1 rfl) (pp.sl 2 rfl) (pp.sl 3 rfl) (pp.sl 4 rfl)) fun A21 cp21 A22 cp22 A23 cp23 A24 cp24 hb4 hA21 hA22 hA23 hA24 => ?_
   refine l_val wn (r_move rfl) rfl ?_
   refine l_val wn (r_extract rfl rfl) rfl ?_
   refine l_val wn (r_extract rfl rfl) rfl ?_
   refine l_alloc wn inf27 rfl fun b17 => ?_
   refine l_stn 0 wn rfl rfl rfl inf27 rfl rfl rfl ?_
   refine l_val wn (r_assign rfl) rfl ?_
   refine l_nil (e_go hK23 ?_)
   refine c_seq fun _ hK24 => ?_
   refine c_seq fun _ hK25 => ?_
   refine c_region ?_
   refine l_val wn (r_move rfl) rfl ?_
   refine l_val wn (r_neq rfl rfl) rfl ?_
   refine l_nil (e_go hK25 ?_)
   refine c_cond rfl (fun h5 => ?_) (fun h5 => ?_)
   · refine c_seq fun _ hK26 => ?_
     refine c_region ?_
     refine l_val wn (r_lbn 10 [.slice A5 z.series.length cp5, .slice A6 z.raw.length cp6, .slice A7 z.fine.length cp7, .slice A8 z.coarse.length cp8, .int .i64 z.rawFrom, .int .i64 z.fineFrom, .int .i64 z.fineTo, .int .i64 z.coarseFrom, .int .i64 z.coarseTo] rfl rfl rfl rfl agg27 inf27) rfl ?_
     refine l_stn 15 wn rfl rfl rfl inf27 rfl rfl rfl ?_
     refine l_val wn (r_assign rfl) rfl ?_
     refine l_nil (e_go hK26 ?_)
     refine c_ret (e_then_r (e_in_r (e_then_r (e_loop6_r (e_in_r (e_then_r (e_ret2 (.inl rfl) Try.results36 (rv_cell 15 rfl rfl agg27 inf27 rfl) (rv_tmp rfl) fun w1 hM => ?_)))))))
     have he : Sh.made l ro o = (z, false) := (Sh.made_on hI1.2 (by omega) h3).trans (by rw [hI2.2, Sh.forgetAll_step hs2, if_pos h5])
     rw [he]
     exact hM.retSh (s' := z) (fun u => .tuple (List.toArray [u, .bool false])) rfl (rfl) (fun _ pp => pp.sl 11 rfl) (fun _ pp => pp.sl 12 rfl) (fun _ pp => pp.sl 13 rfl) (fun _ pp => pp.sl 14 rfl)
   refine c_skip (e_go hK24 ?_)
   refine c_region ?_
   refine l_val wn (r_lbn 0 [.slice A21 (((Sh.forget y (i : Int) s2).1).series.length) cp21, .slice A22 (((Sh.forget y (i : Int) s2).1).raw.length) cp22, .slice A23 (((Sh.forget y (i : Int) s2).1).fine.length) cp23, .slice A24 (((Sh.forget y (i : Int) s2).1).coarse.length) cp24, .int .i64 (((Sh.forget y (i : Int) s2).1).rawFrom), .int .i64 (((Sh.forget y (i : Int) s2).1).fineFrom), .int .i64 (((Sh.forget y (i : Int) s2).1).fineTo), .int .i64 (((Sh.forget y (i : Int) s2).1).coarseFrom), .int .i64 (((Sh.forget y (i : Int) s2).1).coarseTo)] rfl rfl rfl rfl agg27 inf27) rfl ?_
   refine l_stn 5 wn rfl rfl rfl inf27 rfl rfl rfl ?_
   refine l_nil (e_in_n (e_go hK21 ?_))
   refine c_region ?_
   refine l_val wn (r_addn rfl rfl (by omega)) rfl ?_
   refine l_val wn (r_move rfl) rfl ?_
   refine l_nil (e_round6 (i + 1) ((Sh.forget y (i : Int) s2).1) (.slice A21 (((Sh.forget y (i : Int) s2).1).series.length) cp21) (.slice A22 (((Sh.forget y (i : Int) s2).1).raw.length) cp22) (.slice A23 (((Sh.forget y (i : Int) s2).1).fine.length) cp23) (.slice A24 (((Sh.forget y (i : Int) s2).1).coarse.length) cp24) (sc rfl (sc rfl (sc rfl (sc rfl (sc rfl (sc (ji (by omega)) sn)))))) (fun _ h => (h.sel [5, 1, 2, 3, 4, 10, 11, 12, 13, 14, 15, 16, 17] (by decide) rfl)) ?_ ?_)
   · exact ⟨by omega, by rw [hI2.2, Sh.forgetAll_step hs2, if_neg h5]⟩
   omega
 refine c_exit (e_then_x (e_loop6_x (e_in_hit (e_go hK17 ?_))))
 refine c_seq fun _ hK27 => ?_
 refine c_region ?_
 refine l_val wn (r_lbn 0 [.slice A17 y.series.length cp17, .slice A18 y.raw.length cp18, .slice A19 y.fine.length cp19, .slice A20 y.coarse.length cp20, .int .i64 y.rawFrom, .int .i64 y.fineFrom, .int .i64 y.fineTo, .int .i64 y.coarseFrom, .int .i64 y.coarseTo] rfl rfl rfl rfl agg27 inf27) rfl ?_
 refine l_stn 10 wn rfl rfl rfl inf27 rfl rfl rfl ?_
 refine l_val wn (r_assign rfl) rfl ?_
 refine l_nil (e_go hK27 ?_)
 refine c_ret (e_ret2 (.inl rfl) Try.results36 (rv_cell 10 rfl rfl agg27 inf27 rfl) (rv_tmp rfl) fun w1 hM => ?_)
 have he : Sh.made l ro o = (y, true) := (Sh.made_on hI1.2 (by omega) h3).trans (by rw [hI2.2, Sh.forgetAll_end (by omega)])
 rw [he]
 exact hM.retSh (s' := y) (fun u => .tuple (List.toArray [u, .bool true])) rfl (rfl) (fun _ pp => pp.sl 1 rfl) (fun _ pp => pp.sl 2 rfl) (fun _ pp => pp.sl 3 rfl) (fun _ pp => pp.sl 4 rfl)

end Go.Proofs.Ytnbkennlmnnbeaa
