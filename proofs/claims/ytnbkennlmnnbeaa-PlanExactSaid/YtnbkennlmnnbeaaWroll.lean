/-
  Walks: what each function hands back.
-/
import Derived.Test.YtnbkennlmnnbeaaWagg
import Derived.Test.YtnbkennlmnnbeaaPGroup
namespace Go.Proofs.Ytnbkennlmnnbeaa
open Ex
set_option linter.unusedVariables false
set_option linter.unusedSimpArgs false
theorem c_Step (tier : Int) (w : World)   :
    Calls Try.prog 39 #[.int .i64 tier] w (Ret w (.int .i64 (Roll.step tier))) := by
 refine fstart (N := 8) (vals := [.int .i64 tier]) (S := Mem w no []) Try.func39 rfl rfl rfl (Mem.ofDats dn) ?_
 refine c_seq fun _ hK1 => ?_
 refine c_region ?_
 refine l_val wn (r_assign rfl) rfl ?_
 refine l_nil (e_go hK1 ?_)
 refine c_seq fun _ hK2 => ?_
 refine c_seq fun _ hK3 => ?_
 refine c_region ?_
 refine l_val wn (r_move rfl) rfl ?_
 refine l_nil (e_go hK3 ?_)
 refine c_block ?_
 refine c_seq fun _ hK4 => ?_
 refine c_region ?_
 refine l_val wn (r_eql rfl rfl) rfl ?_
 refine l_val wn (r_assign rfl) rfl ?_
 refine l_nil (e_go hK4 ?_)
 refine c_cond rfl (fun h1 => ?_) (fun h1 => ?_)
 · refine c_seq fun _ hK5 => ?_
   refine c_region ?_
   refine l_val wn (r_assign rfl) rfl ?_
   refine l_nil (e_go hK5 ?_)
   refine c_ret (e_in_r (e_then_r (e_ret1 (.inl rfl) Try.results39 (rv_tmp rfl) fun w1 hM => ?_)))
   exact ret_ok (by simp [Roll.step, h1]) hM
 refine c_seq fun _ hK6 => ?_
 refine c_region ?_
 refine l_val wn (r_eql rfl rfl) rfl ?_
 refine l_val wn (r_assign rfl) rfl ?_
 refine l_nil (e_go hK6 ?_)
 refine c_cond rfl (fun h2 => ?_) (fun h2 => ?_)
 · refine c_seq fun _ hK7 => ?_
   refine c_region ?_
   refine l_val wn (r_assign rfl) rfl ?_
   refine l_nil (e_go hK7 ?_)
   refine c_ret (e_in_r (e_then_r (e_ret1 (.inl rfl) Try.results39 (rv_tmp rfl) fun w1 hM => ?_)))
   exact ret_ok (by simp [Roll.step, h1, h2]) hM
 refine c_skip (e_in_n (e_go hK2 ?_))
 refine c_seq fun _ hK8 => ?_
 refine c_region ?_
 refine l_val wn (r_assign rfl) rfl ?_
 refine l_nil (e_go hK8 ?_)
 refine c_ret (e_ret1 (.inl rfl) Try.results39 (rv_tmp rfl) fun w1 hM => ?_)
 exact ret_ok (by simp [Roll.step, h1, h2]) hM

theorem c_add (lv : Value) (l : List Bucket) (time : Int) (step : Int) (s : Sum) (w : World) (hl : w.ownsRow 0 78 8 lv l.length (l.flatMap bucketE)) (hst : step ≠ 0) (hl1 : l.length ≤ 1048576) :
    Calls Try.prog 68 #[lv, .int .i64 time, .int .i64 step, .agg (sumE s).toArray] w (RetU w lv 78 8 bucketE (Roll.add l time step s)) := by
 refine fstart (N := 48) (vals := [lv, .int .i64 time, .int .i64 step, .agg (sumE s).toArray]) (S := Mem w (fun b => lv.ownBlock = some b) [Row lv 78 8 bucketE l]) Try.func68 rfl rfl rfl (Mem.ownArg hl) ?_
 refine c_open 0 (l := l) rfl fun A0 cp0 hv0 hc0 hm0 hA0 => ?_
 subst hv0
 refine c_seq fun _ hK1 => ?_
 refine c_region ?_
 refine l_box wn rfl rfl fun b7 => ?_
 refine l_val wn (r_assign rfl) rfl ?_
 refine l_nil (e_go hK1 ?_)
 refine c_seq fun _ hK2 => ?_
 refine c_region ?_
 refine l_val wn (r_move rfl) rfl ?_
 refine l_val wn (r_move rfl) rfl ?_
 refine l_val wn (r_move rfl) rfl ?_
 refine l_val wn (r_rem rfl rfl (by omega)) rfl ?_
 refine l_val wn (r_sub rfl rfl) rfl ?_
 refine l_val wn (r_assign rfl) rfl ?_
 refine l_nil (e_go hK2 ?_)
 refine c_seq fun _ hK3 => ?_
 refine c_seq fun _ hK4 => ?_
 refine c_region ?_
 refine l_val wn (r_move rfl) rfl ?_
 refine l_val wn (r_len rfl Try.underlying25) rfl ?_
 refine l_val wn (r_subn rfl rfl (by omega)) rfl ?_
 refine l_val wn (r_assign rfl) rfl ?_
 refine l_nil (e_go hK4 ?_)
 refine c_seq fun _ hK5 => ?_
 refine c_region ?_
 refine l_val wn (r_move rfl) rfl ?_
 refine l_val wn (r_geq rfl rfl) rfl ?_
 refine l_val wn (r_move rfl) rfl ?_
 refine l_case (t := 21) rfl (fun h1 => ?_) (fun h1 => ?_)
 · refine l_val (wg rfl rfl rfl) (r_move rfl) rfl ?_
   refine l_val (wg rfl rfl rfl) (r_move rfl) rfl ?_
   obtain ⟨ad1, hd1⟩ := hA0 (ne_nil (i := (l.length - 1)) (by first | omega | decide | (simp only [List.length_cons, List.length_nil, List.length_append, List.length_take, List.length_set]; omega)))
   refine l_val (wg rfl rfl rfl) (r_ia (i := (l.length - 1)) rfl hd1 rfl (by omega) (by first | omega | decide | (simp only [List.length_cons, List.length_nil, List.length_append, List.length_take, List.length_set]; omega)) Try.underlying25 inf78) rfl ?_
   refine l_val (wg rfl rfl rfl) (r_fe rfl fld78_0) rfl ?_
   obtain ⟨s1, hs1⟩ : ∃ x, l[(l.length - 1)]? = some x := ⟨_, List.getElem?_eq_getElem (by first | omega | decide | (simp only [List.length_cons, List.length_nil, List.length_append, List.length_take, List.length_set]; omega))⟩
   refine l_val (wg rfl rfl rfl) (r_rl 1 encBucket rfl rfl hd1 hs1 rfl flat3) rfl ?_
   refine l_val (wg rfl rfl rfl) (r_move rfl) rfl ?_
   refine l_val (wg rfl rfl rfl) (r_eql rfl rfl) rfl ?_
   refine l_val wn (r_pick rfl rfl) rfl ?_
   refine l_nil (e_go hK5 ?_)
   refine c_cond rfl (fun h2 => ?_) (fun h2 => ?_)
   · refine c_seq fun _ hK6 => ?_
     refine c_quietT 11 mix (by kernel_rfl) (fun _ h => h.drew) fun _ hT1 => ?_
     refine q_val wn (r_move rfl) rfl ?_
     refine q_val wn (r_move rfl) rfl ?_
     refine q_val wn (r_move rfl) rfl ?_
     refine q_val wn (r_move rfl) rfl ?_
     refine q_val wn (r_ia (i := (l.length - 1)) rfl hd1 rfl (by omega) (by first | omega | decide | (simp only [List.length_cons, List.length_nil, List.length_append, List.length_take, List.length_set]; omega)) Try.underlying25 inf78) rfl ?_
     refine q_val wn (r_fe rfl fld78_1) rfl ?_
     refine q_val wn (r_rln 1 [.int .i64 s1.sum.count, .int .i64 s1.sum.total, .int .i64 s1.sum.min, .int .i64 s1.sum.max, .int .i64 s1.sum.first, .int .i64 s1.sum.last, .int .i64 s1.sum.rise] encBucket rfl rfl hd1 hs1 rfl rfl agg35 inf35) rfl ?_
     refine q_val wn (r_lbn 0 [.int .i64 s.count, .int .i64 s.total, .int .i64 s.min, .int .i64 s.max, .int .i64 s.first, .int .i64 s.last, .int .i64 s.rise] rfl rfl rfl rfl agg35 inf35) rfl ?_
     refine q_callF wn rfl Try.call43 rfl (fun w1 hM => c_Join s1.sum s w1) ?_
     refine q_val wn (r_ia (i := (l.length - 1)) rfl hd1 rfl (by omega) (by first | omega | decide | (simp only [List.length_cons, List.length_nil, List.length_append, List.length_take, List.length_set]; omega)) Try.underlying25 inf78) rfl ?_
     refine q_val wn (r_fe rfl fld78_1) rfl ?_
     refine q_tail hT1 ?_
     refine l_rst 1 (vs := [.int .i64 ((Agg.join s1.sum s).count), .int .i64 ((Agg.join s1.sum s).total), .int .i64 ((Agg.join s1.sum s).min), .int .i64 ((Agg.join s1.sum s).max), .int .i64 ((Agg.join s1.sum s).first), .int .i64 ((Agg.join s1.sum s).last), .int .i64 ((Agg.join s1.sum s).rise)]) (⟨s1.at_, (Agg.join s1.sum s)⟩ : Bucket) encBucket wn rfl rfl rfl rfl hd1 hs1 inf35 rfl rfl rfl rfl ?_
     refine l_nil (e_go hK6 ?_)
     refine c_seq fun _ hK7 => ?_
     refine c_region ?_
     refine l_val wn (r_move rfl) rfl ?_
     refine l_val wn (r_assign rfl) rfl ?_
     refine l_nil (e_go hK7 ?_)
     refine c_ret (e_then_r (e_ret1 (.inl rfl) Try.results68 (rv_tmp rfl) fun w1 hM => ?_))
     exact hM.retU' 1 rfl (Roll.add_last hs1 h2)
   refine c_skip (e_go hK3 ?_)
   refine c_seq fun _ hK8 => ?_
   refine c_region ?_
   refine l_val wn (r_move rfl) rfl ?_
   refine l_val wn (r_move rfl) rfl ?_
   refine l_val wn (r_lbn 0 [.int .i64 s.count, .int .i64 s.total, .int .i64 s.min, .int .i64 s.max, .int .i64 s.first, .int .i64 s.last, .int .i64 s.rise] rfl rfl rfl rfl agg35 inf35) rfl ?_
   refine l_val wn (r_build [.int .i64 (IntKind.wrap .i64 (time - (Int.tmod time step))), .int .i64 s.count, .int .i64 s.total, .int .i64 s.min, .int .i64 s.max, .int .i64 s.first, .int .i64 s.last, .int .i64 s.rise] pl78 inf78 rfl rfl) rfl ?_
   refine l_bsL bucketE ([(⟨(IntKind.wrap .i64 (time - (Int.tmod time step))), s⟩ : Bucket)] : List Bucket) wn Try.underlying25 inf78 rfl rfl rfl rfl (by decide) (by decide) rfl fun b46 => ?_
   refine l_app 2 l ([(⟨(IntKind.wrap .i64 (time - (Int.tmod time step))), s⟩ : Bucket)] : List Bucket) encBucket wn rfl rfl rfl (fun _ hM => (RowSl encBucket hM 0 rfl)) Try.underlying25 inf78 rfl rfl (by simp only [List.length_append, List.length_cons, List.length_nil]; omega) rfl fun A1 cp1 hc1 hm1 hA1 => ?_
   refine l_val wn (r_assign rfl) rfl ?_
   refine l_nil (e_go hK8 ?_)
   refine c_ret (e_ret1 (.inl rfl) Try.results68 (rv_tmp rfl) fun w1 hM => ?_)
   exact hM.retU' 2 rfl (Roll.add_new hs1 h2)
 refine l_skip (wg rfl rfl rfl) rfl ?_
 refine l_skip (wg rfl rfl rfl) rfl ?_
 refine l_skip (wg rfl rfl rfl) rfl ?_
 refine l_skip (wg rfl rfl rfl) rfl ?_
 refine l_skip (wg rfl rfl rfl) rfl ?_
 refine l_skip (wg rfl rfl rfl) rfl ?_
 refine l_skip (wg rfl rfl rfl) rfl ?_
 refine l_val wn (r_pick rfl rfl) rfl ?_
 refine l_nil (e_go hK5 ?_)
 refine c_false rfl rfl ?_
 refine c_skip (e_go hK3 ?_)
 refine c_seq fun _ hK9 => ?_
 refine c_region ?_
 refine l_val wn (r_move rfl) rfl ?_
 refine l_val wn (r_move rfl) rfl ?_
 refine l_val wn (r_lbn 0 [.int .i64 s.count, .int .i64 s.total, .int .i64 s.min, .int .i64 s.max, .int .i64 s.first, .int .i64 s.last, .int .i64 s.rise] rfl rfl rfl rfl agg35 inf35) rfl ?_
 refine l_val wn (r_build [.int .i64 (IntKind.wrap .i64 (time - (Int.tmod time step))), .int .i64 s.count, .int .i64 s.total, .int .i64 s.min, .int .i64 s.max, .int .i64 s.first, .int .i64 s.last, .int .i64 s.rise] pl78 inf78 rfl rfl) rfl ?_
 refine l_bsL bucketE ([(⟨(IntKind.wrap .i64 (time - (Int.tmod time step))), s⟩ : Bucket)] : List Bucket) wn Try.underlying25 inf78 rfl rfl rfl rfl (by decide) (by decide) rfl fun b46 => ?_
 refine l_app 2 l ([(⟨(IntKind.wrap .i64 (time - (Int.tmod time step))), s⟩ : Bucket)] : List Bucket) encBucket wn rfl rfl rfl (fun _ hM => (RowSl encBucket hM 0 rfl)) Try.underlying25 inf78 rfl rfl (by simp only [List.length_append, List.length_cons, List.length_nil]; omega) rfl fun A2 cp2 hc2 hm2 hA2 => ?_
 refine l_val wn (r_assign rfl) rfl ?_
 refine l_nil (e_go hK9 ?_)
 refine c_ret (e_ret1 (.inl rfl) Try.results68 (rv_tmp rfl) fun w1 hM => ?_)
 exact hM.retU' 2 rfl (Roll.add_nil h1)

theorem c_Up (lv : Value) (l : List Sample) (tier : Int) (w : World) (hl : FlatSl (In w) 2 sampleE lv l w) (hl1 : l.length ≤ 1048576) :
    Calls Try.prog 33 #[lv, .int .i64 tier] w (RetL w 78 8 bucketE (Roll.up l tier)) := by
 obtain ⟨lA, lc, rfl, hlc, hlm, hlA⟩ := hl.form
 refine fstart (N := 29) (vals := [.slice lA l.length lc, .int .i64 tier]) (S := Mem w no [slO (In w) 2 sampleE (.slice lA l.length lc) l]) Try.func33 rfl rfl rfl (Mem.ofDats (dc (dl hl) dn)) ?_
 refine c_seq fun _ hK1 => ?_
 refine c_region ?_
 refine l_nilRow (bucketE : Bucket → List Value) 78 8 ?_
 refine l_val wn (r_assign rfl) rfl ?_
 refine l_nil (e_go hK1 ?_)
 refine c_seq fun _ hK2 => ?_
 refine c_region ?_
 refine l_val wn (r_move rfl) rfl ?_
 refine l_callF wn rfl Try.call39 rfl (fun w1 hM => c_Step tier w1) ?_
 refine l_val wn (r_assign rfl) rfl ?_
 refine l_nil (e_go hK2 ?_)
 refine c_seq fun _ hK3 => ?_
 refine c_seq fun _ hK4 => ?_
 refine c_region ?_
 refine l_val wn (r_move rfl) rfl ?_
 refine l_val wn (r_eql rfl rfl) rfl ?_
 refine l_nil (e_go hK4 ?_)
 refine c_cond rfl (fun h1 => ?_) (fun h1 => ?_)
 · refine c_seq fun _ hK5 => ?_
   refine c_region ?_
   refine l_nilRow (bucketE : Bucket → List Value) 78 8 ?_
   refine l_val wn (r_assign rfl) rfl ?_
   refine l_nil (e_go hK5 ?_)
   refine c_ret (e_then_r (e_ret1 (.inl rfl) Try.results33 (rv_tmp rfl) fun w1 hM => ?_))
   exact hM.retL' 0 rfl (by simp [Roll.up, h1])
 refine c_skip (e_go hK3 ?_)
 refine c_seq fun _ hK6 => ?_
 refine c_region ?_
 refine l_nilRow (bucketE : Bucket → List Value) 78 8 ?_
 refine l_val wn (r_assign rfl) rfl ?_
 refine l_nil (e_go hK6 ?_)
 refine c_seq fun _ hK7 => ?_
 refine c_seq fun _ hK8 => ?_
 refine c_region ?_
 refine l_val wn (r_move rfl) rfl ?_
 refine l_val wn (r_len rfl Try.underlying24) rfl ?_
 refine l_val wn (r_move rfl) rfl ?_
 refine l_nil (e_go hK8 ?_)
 refine c_block ?_
 refine c_loop2 (fun (k : Nat) (vr : Value) => [(5, .int .i64 (Roll.step tier)), (6, vr), (13, .slice lA l.length lc), (14, .int .i64 (l.length : Int)), (15, .int .i64 (k : Int))]) (fun (k : Nat) (vr : Value) => [Row vr 78 8 bucketE (Roll.ups (l.take k) (Roll.step tier)), Row (.slice none 0 0) 78 8 bucketE ([] : List Bucket), slO (In w) 2 sampleE (.slice lA l.length lc) l]) (fun (k : Nat) (vr : Value) => k ≤ l.length) (fun (k : Nat) (vr : Value) => l.length - k) 0 (.slice none 0 0) (sc rfl (sc rfl (sc rfl (sc rfl (sc (ji (by omega)) sn))))) (fun _ h => h) ?_ (fun k vr hI1 => ?_)
 · omega
 have hlen := Nat.le_trans (Roll.ups_len (l.take k) (Roll.step tier)) (List.length_take_le k l)
 refine c_open 0 (l := (Roll.ups (l.take k) (Roll.step tier))) rfl fun A1 cp1 hv1 hc1 hm1 hA1 => ?_
 subst hv1
 refine c_seq fun _ hK9 => ?_
 refine c_region ?_
 refine l_val wn (r_lss rfl rfl) rfl ?_
 refine l_nil (e_go hK9 ?_)
 refine c_seq fun _ hK10 => ?_
 refine c_cond rfl (fun h2 => ?_) (fun h2 => ?_)
 · refine c_skip (e_go hK10 ?_)
   refine c_seq fun _ hK11 => ?_
   refine c_block ?_
   refine c_seq fun _ hK12 => ?_
   refine c_region ?_
   obtain ⟨ad1, hd1⟩ := hlA (ne_nil (i := k) (by first | omega | decide | (simp only [List.length_cons, List.length_nil, List.length_append, List.length_take, List.length_set]; omega)))
   refine l_val wn (r_ia (i := k) rfl hd1 rfl (by omega) (by first | omega | decide | (simp only [List.length_cons, List.length_nil, List.length_append, List.length_take, List.length_set]; omega)) Try.underlying24 inf39) rfl ?_
   obtain ⟨s1, hs1⟩ : ∃ x, l[k]? = some x := ⟨_, List.getElem?_eq_getElem (by first | omega | decide | (simp only [List.length_cons, List.length_nil, List.length_append, List.length_take, List.length_set]; omega))⟩
   refine l_val wn (r_eln 2 [.int .i64 s1.time, .int .i64 s1.value] rfl rfl hd1 hs1 rfl rfl agg39 inf39) rfl ?_
   refine l_alloc wn inf39 rfl fun b8 => ?_
   refine l_stn 0 wn rfl rfl rfl inf39 rfl rfl rfl ?_
   refine l_nil (e_go hK12 ?_)
   refine c_quietT 7 mix (by kernel_rfl) (fun _ h => h.drew) fun _ hT1 => ?_
   refine q_val wn (r_move rfl) rfl ?_
   refine q_val wn (r_fa rfl fld39_0) rfl ?_
   refine q_val wn (r_lb 0 rfl rfl rfl flat3) rfl ?_
   refine q_val wn (r_move rfl) rfl ?_
   refine q_val wn (r_fa rfl fld39_1) rfl ?_
   refine q_val wn (r_lb 0 rfl rfl rfl flat3) rfl ?_
   refine q_callF wn rfl Try.call44 rfl (fun w1 hM => c_One s1.value w1) ?_
   refine q_tail hT1 ?_
   refine l_callU 1 (Roll.add (Roll.ups (l.take k) (Roll.step tier)) s1.time (Roll.step tier) (Agg.one s1.value)) rfl wn rfl Try.call68 rfl (fun w1 hM => c_add _ (Roll.ups (l.take k) (Roll.step tier)) s1.time (Roll.step tier) (Agg.one s1.value) w1 (hM.row (i := 1) rfl) (by first | assumption | omega | decide) (by first | assumption | omega | (simp only [List.length_cons, List.length_nil]; omega) | exact Nat.le_trans (Roll.up_len _ _) (by first | omega | simp))) fun A2 cp2 hc2 hm2 hA2 => ?_
   refine l_val wn (r_assign rfl) rfl ?_
   refine l_nil (e_in_n (e_go hK11 ?_))
   refine c_region ?_
   refine l_val wn (r_addn rfl rfl (by omega)) rfl ?_
   refine l_val wn (r_move rfl) rfl ?_
   refine l_nil (e_round2 (k + 1) (.slice A2 ((Roll.add (Roll.ups (l.take k) (Roll.step tier)) s1.time (Roll.step tier) (Agg.one s1.value)).length) cp2) (sc rfl (sc rfl (sc rfl (sc rfl (sc (ji (by omega)) sn))))) (fun _ h => by rw [Roll.ups_succ l (Roll.step tier) k s1 hs1]; exact (h.sel [1, 2, 3] (by decide) rfl)) ?_ ?_)
   · omega
   omega
 refine c_exit (e_then_x (e_loop2_x (e_in_hit (e_go hK7 ?_))))
 refine c_seq fun _ hK13 => ?_
 refine c_region ?_
 refine l_val wn (r_move rfl) rfl ?_
 refine l_val wn (r_assign rfl) rfl ?_
 refine l_nil (e_go hK13 ?_)
 refine c_ret (e_ret1 (.inl rfl) Try.results33 (rv_tmp rfl) fun w1 hM => ?_)
 exact hM.retL' 0 rfl (by rw [List.take_of_length_le (by omega)]; simp [Roll.up, h1])

theorem c_Greater (lv : Value) (l : List Bucket) (w : World) (hl : FlatSl (In w) 8 bucketE lv l w) (hl1 : l.length ≤ 1048576) :
    Calls Try.prog 59 #[lv] w (RetL w 78 8 bucketE (Roll.greater l)) := by
 obtain ⟨lA, lc, rfl, hlc, hlm, hlA⟩ := hl.form
 refine fstart (N := 20) (vals := [.slice lA l.length lc]) (S := Mem w no [slO (In w) 8 bucketE (.slice lA l.length lc) l]) Try.func59 rfl rfl rfl (Mem.ofDats (dc (dl hl) dn)) ?_
 refine c_seq fun _ hK1 => ?_
 refine c_region ?_
 refine l_nilRow (bucketE : Bucket → List Value) 78 8 ?_
 refine l_val wn (r_assign rfl) rfl ?_
 refine l_nil (e_go hK1 ?_)
 refine c_seq fun _ hK2 => ?_
 refine c_region ?_
 refine l_nilRow (bucketE : Bucket → List Value) 78 8 ?_
 refine l_val wn (r_assign rfl) rfl ?_
 refine l_nil (e_go hK2 ?_)
 refine c_seq fun _ hK3 => ?_
 refine c_seq fun _ hK4 => ?_
 refine c_region ?_
 refine l_val wn (r_move rfl) rfl ?_
 refine l_val wn (r_len rfl Try.underlying25) rfl ?_
 refine l_val wn (r_move rfl) rfl ?_
 refine l_nil (e_go hK4 ?_)
 refine c_block ?_
 refine c_loop2 (fun (k : Nat) (vr : Value) => [(3, vr), (6, .slice lA l.length lc), (7, .int .i64 (l.length : Int)), (8, .int .i64 (k : Int))]) (fun (k : Nat) (vr : Value) => [Row vr 78 8 bucketE (Roll.greater (l.take k)), Row (.slice none 0 0) 78 8 bucketE ([] : List Bucket), slO (In w) 8 bucketE (.slice lA l.length lc) l]) (fun (k : Nat) (vr : Value) => k ≤ l.length) (fun (k : Nat) (vr : Value) => l.length - k) 0 (.slice none 0 0) (sc rfl (sc rfl (sc rfl (sc (ji (by omega)) sn)))) (fun _ h => h) ?_ (fun k vr hI1 => ?_)
 · omega
 have hlen := Nat.le_trans (Roll.greater_len (l.take k)) (List.length_take_le k l)
 refine c_open 0 (l := (Roll.greater (l.take k))) rfl fun A1 cp1 hv1 hc1 hm1 hA1 => ?_
 subst hv1
 refine c_seq fun _ hK5 => ?_
 refine c_region ?_
 refine l_val wn (r_lss rfl rfl) rfl ?_
 refine l_nil (e_go hK5 ?_)
 refine c_seq fun _ hK6 => ?_
 refine c_cond rfl (fun h1 => ?_) (fun h1 => ?_)
 · refine c_skip (e_go hK6 ?_)
   refine c_seq fun _ hK7 => ?_
   refine c_block ?_
   refine c_seq fun _ hK8 => ?_
   refine c_region ?_
   obtain ⟨ad1, hd1⟩ := hlA (ne_nil (i := k) (by first | omega | decide | (simp only [List.length_cons, List.length_nil, List.length_append, List.length_take, List.length_set]; omega)))
   refine l_val wn (r_ia (i := k) rfl hd1 rfl (by omega) (by first | omega | decide | (simp only [List.length_cons, List.length_nil, List.length_append, List.length_take, List.length_set]; omega)) Try.underlying25 inf78) rfl ?_
   obtain ⟨s1, hs1⟩ : ∃ x, l[k]? = some x := ⟨_, List.getElem?_eq_getElem (by first | omega | decide | (simp only [List.length_cons, List.length_nil, List.length_append, List.length_take, List.length_set]; omega))⟩
   refine l_val wn (r_eln 2 [.int .i64 s1.at_, .int .i64 s1.sum.count, .int .i64 s1.sum.total, .int .i64 s1.sum.min, .int .i64 s1.sum.max, .int .i64 s1.sum.first, .int .i64 s1.sum.last, .int .i64 s1.sum.rise] rfl rfl hd1 hs1 rfl rfl agg78 inf78) rfl ?_
   refine l_alloc wn inf78 rfl fun b5 => ?_
   refine l_stn 0 wn rfl rfl rfl inf78 rfl rfl rfl ?_
   refine l_nil (e_go hK8 ?_)
   refine c_region ?_
   refine l_val wn (r_move rfl) rfl ?_
   refine l_val wn (r_fa rfl fld78_0) rfl ?_
   refine l_val wn (r_lb 0 rfl rfl rfl flat3) rfl ?_
   refine l_val wn (r_fa rfl fld78_1) rfl ?_
   refine l_val wn (r_lbn 0 [.int .i64 s1.sum.count, .int .i64 s1.sum.total, .int .i64 s1.sum.min, .int .i64 s1.sum.max, .int .i64 s1.sum.first, .int .i64 s1.sum.last, .int .i64 s1.sum.rise] rfl rfl rfl rfl agg35 inf35) rfl ?_
   refine l_callU 1 (Roll.add (Roll.greater (l.take k)) s1.at_ 60 s1.sum) rfl wn rfl Try.call68 rfl (fun w1 hM => c_add _ (Roll.greater (l.take k)) s1.at_ 60 s1.sum w1 (hM.row (i := 1) rfl) (by first | assumption | omega | decide) (by first | assumption | omega | (simp only [List.length_cons, List.length_nil]; omega) | exact Nat.le_trans (Roll.up_len _ _) (by first | omega | simp))) fun A2 cp2 hc2 hm2 hA2 => ?_
   refine l_val wn (r_assign rfl) rfl ?_
   refine l_nil (e_in_n (e_go hK7 ?_))
   refine c_region ?_
   refine l_val wn (r_addn rfl rfl (by omega)) rfl ?_
   refine l_val wn (r_move rfl) rfl ?_
   refine l_nil (e_round2 (k + 1) (.slice A2 ((Roll.add (Roll.greater (l.take k)) s1.at_ 60 s1.sum).length) cp2) (sc rfl (sc rfl (sc rfl (sc (ji (by omega)) sn)))) (fun _ h => by rw [Roll.greater_succ l k s1 hs1]; exact (h.sel [1, 2, 3] (by decide) rfl)) ?_ ?_)
   · omega
   omega
 refine c_exit (e_then_x (e_loop2_x (e_in_hit (e_go hK3 ?_))))
 refine c_seq fun _ hK9 => ?_
 refine c_region ?_
 refine l_val wn (r_move rfl) rfl ?_
 refine l_val wn (r_assign rfl) rfl ?_
 refine l_nil (e_go hK9 ?_)
 refine c_ret (e_ret1 (.inl rfl) Try.results59 (rv_tmp rfl) fun w1 hM => ?_)
 exact hM.retL' 0 rfl (by rw [List.take_of_length_le (by omega)])

theorem c_rollOf (lv : Value) (l : List Bucket) (frm : Int) (to : Int) (w : World) (hl : FlatSl (In w) 8 bucketE lv l w)  :
    Calls Try.prog 41 #[lv, .int .i64 frm, .int .i64 to] w (Ret w (.agg (sumE (Roll.of l frm to)).toArray)) := by
 obtain ⟨lA, lc, rfl, hlc, hlm, hlA⟩ := hl.form
 refine fstart (N := 32) (vals := [.slice lA l.length lc, .int .i64 frm, .int .i64 to]) (S := Mem w no [slO (In w) 8 bucketE (.slice lA l.length lc) l]) Try.func41 rfl rfl rfl (Mem.ofDats (dc (dl hl) dn)) ?_
 refine c_seq fun _ hK1 => ?_
 refine c_region ?_
 refine l_alloc wn inf35 rfl fun b6 => ?_
 refine l_nil (e_go hK1 ?_)
 refine c_seq fun _ hK2 => ?_
 refine c_region ?_
 refine l_alloc wn inf35 rfl fun b7 => ?_
 refine l_nil (e_go hK2 ?_)
 refine c_seq fun _ hK3 => ?_
 refine c_seq fun _ hK4 => ?_
 refine c_region ?_
 refine l_val wn (r_move rfl) rfl ?_
 refine l_val wn (r_len rfl Try.underlying25) rfl ?_
 refine l_val wn (r_move rfl) rfl ?_
 refine l_nil (e_go hK4 ?_)
 refine c_block ?_
 refine c_loop1 (fun (k : Nat) => [(1, .int .i64 frm), (2, .int .i64 to), (6, .pointer (some ⟨b6, 0, none⟩)), (7, .pointer (some ⟨b7, 0, none⟩)), (10, .slice lA l.length lc), (11, .int .i64 (l.length : Int)), (12, .int .i64 (k : Int))]) (fun (k : Nat) => [.blk b7 [.int .i64 ((Roll.of (l.take k) frm to).count), .int .i64 ((Roll.of (l.take k) frm to).total), .int .i64 ((Roll.of (l.take k) frm to).min), .int .i64 ((Roll.of (l.take k) frm to).max), .int .i64 ((Roll.of (l.take k) frm to).first), .int .i64 ((Roll.of (l.take k) frm to).last), .int .i64 ((Roll.of (l.take k) frm to).rise)] 35, .blk b6 [.int .i64 0, .int .i64 0, .int .i64 0, .int .i64 0, .int .i64 0, .int .i64 0, .int .i64 0] 35, slO (In w) 8 bucketE (.slice lA l.length lc) l]) (fun (k : Nat) => k ≤ l.length) (fun (k : Nat) => l.length - k) 0 (sc rfl (sc rfl (sc rfl (sc rfl (sc rfl (sc rfl (sc (ji (by omega)) sn))))))) (fun _ h => h) ?_ (fun k hI1 => ?_)
 · omega
 refine c_seq fun _ hK5 => ?_
 refine c_region ?_
 refine l_val wn (r_lss rfl rfl) rfl ?_
 refine l_nil (e_go hK5 ?_)
 refine c_seq fun _ hK6 => ?_
 refine c_cond rfl (fun h1 => ?_) (fun h1 => ?_)
 · refine c_skip (e_go hK6 ?_)
   refine c_seq fun _ hK7 => ?_
   refine c_block ?_
   refine c_seq fun _ hK8 => ?_
   refine c_region ?_
   obtain ⟨ad1, hd1⟩ := hlA (ne_nil (i := k) (by first | omega | decide | (simp only [List.length_cons, List.length_nil, List.length_append, List.length_take, List.length_set]; omega)))
   refine l_val wn (r_ia (i := k) rfl hd1 rfl (by omega) (by first | omega | decide | (simp only [List.length_cons, List.length_nil, List.length_append, List.length_take, List.length_set]; omega)) Try.underlying25 inf78) rfl ?_
   obtain ⟨s1, hs1⟩ : ∃ x, l[k]? = some x := ⟨_, List.getElem?_eq_getElem (by first | omega | decide | (simp only [List.length_cons, List.length_nil, List.length_append, List.length_take, List.length_set]; omega))⟩
   refine l_val wn (r_eln 2 [.int .i64 s1.at_, .int .i64 s1.sum.count, .int .i64 s1.sum.total, .int .i64 s1.sum.min, .int .i64 s1.sum.max, .int .i64 s1.sum.first, .int .i64 s1.sum.last, .int .i64 s1.sum.rise] rfl rfl hd1 hs1 rfl rfl agg78 inf78) rfl ?_
   refine l_alloc wn inf78 rfl fun b9 => ?_
   refine l_stn 0 wn rfl rfl rfl inf78 rfl rfl rfl ?_
   refine l_nil (e_go hK8 ?_)
   refine c_seq fun _ hK9 => ?_
   refine c_region ?_
   refine l_val wn (r_fa rfl fld78_0) rfl ?_
   refine l_val wn (r_lb 0 rfl rfl rfl flat3) rfl ?_
   refine l_val wn (r_move rfl) rfl ?_
   refine l_val wn (r_geq rfl rfl) rfl ?_
   refine l_val wn (r_move rfl) rfl ?_
   refine l_case (t := 20) rfl (fun h2 => ?_) (fun h2 => ?_)
   · refine l_val (wg rfl rfl rfl) (r_fa rfl fld78_0) rfl ?_
     refine l_val (wg rfl rfl rfl) (r_lb 0 rfl rfl rfl flat3) rfl ?_
     refine l_val (wg rfl rfl rfl) (r_move rfl) rfl ?_
     refine l_val (wg rfl rfl rfl) (r_lss rfl rfl) rfl ?_
     refine l_val wn (r_pick rfl rfl) rfl ?_
     refine l_nil (e_go hK9 ?_)
     refine c_cond rfl (fun h3 => ?_) (fun h3 => ?_)
     · refine c_region ?_
       refine l_val wn (r_lbn 1 [.int .i64 ((Roll.of (l.take k) frm to).count), .int .i64 ((Roll.of (l.take k) frm to).total), .int .i64 ((Roll.of (l.take k) frm to).min), .int .i64 ((Roll.of (l.take k) frm to).max), .int .i64 ((Roll.of (l.take k) frm to).first), .int .i64 ((Roll.of (l.take k) frm to).last), .int .i64 ((Roll.of (l.take k) frm to).rise)] rfl rfl rfl rfl agg35 inf35) rfl ?_
       refine l_val wn (r_fa rfl fld78_1) rfl ?_
       refine l_val wn (r_lbn 0 [.int .i64 s1.sum.count, .int .i64 s1.sum.total, .int .i64 s1.sum.min, .int .i64 s1.sum.max, .int .i64 s1.sum.first, .int .i64 s1.sum.last, .int .i64 s1.sum.rise] rfl rfl rfl rfl agg35 inf35) rfl ?_
       refine l_callF wn rfl Try.call43 rfl (fun w1 hM => c_Join (Roll.of (l.take k) frm to) s1.sum w1) ?_
       refine l_stn 1 wn rfl rfl rfl inf35 rfl rfl rfl ?_
       refine l_nil (e_in_n (e_go hK7 ?_))
       refine c_region ?_
       refine l_val wn (r_addn rfl rfl (by omega)) rfl ?_
       refine l_val wn (r_move rfl) rfl ?_
       have hst := Roll.of_succ l frm to k s1 hs1
       rw [if_pos (by omega)] at hst
       refine l_nil (e_round1 (k + 1) (sc rfl (sc rfl (sc rfl (sc rfl (sc rfl (sc rfl (sc (ji (by omega)) sn))))))) (fun _ h => by rw [hst]; exact (h.sel [1, 2, 3] (by decide) rfl)) ?_ ?_)
       · omega
       omega
     refine c_skip (e_in_n (e_go hK7 ?_))
     refine c_region ?_
     refine l_val wn (r_addn rfl rfl (by omega)) rfl ?_
     refine l_val wn (r_move rfl) rfl ?_
     have hst := Roll.of_succ l frm to k s1 hs1
     rw [if_neg (by omega)] at hst
     refine l_nil (e_round1 (k + 1) (sc rfl (sc rfl (sc rfl (sc rfl (sc rfl (sc rfl (sc (ji (by omega)) sn))))))) (fun _ h => by rw [hst]; exact (h.sel [1, 2, 3] (by decide) rfl)) ?_ ?_)
     · omega
     omega
   refine l_skip (wg rfl rfl rfl) rfl ?_
   refine l_skip (wg rfl rfl rfl) rfl ?_
   refine l_skip (wg rfl rfl rfl) rfl ?_
   refine l_skip (wg rfl rfl rfl) rfl ?_
   refine l_val wn (r_pick rfl rfl) rfl ?_
   refine l_nil (e_go hK9 ?_)
   refine c_false rfl rfl ?_
   refine c_skip (e_in_n (e_go hK7 ?_))
   refine c_region ?_
   refine l_val wn (r_addn rfl rfl (by omega)) rfl ?_
   refine l_val wn (r_move rfl) rfl ?_
   have hst := Roll.of_succ l frm to k s1 hs1
   rw [if_neg (by omega)] at hst
   refine l_nil (e_round1 (k + 1) (sc rfl (sc rfl (sc rfl (sc rfl (sc rfl (sc rfl (sc (ji (by omega)) sn))))))) (fun _ h => by rw [hst]; exact (h.sel [1, 2, 3] (by decide) rfl)) ?_ ?_)
   · omega
   omega
 refine c_exit (e_then_x (e_loop1_x (e_in_hit (e_go hK3 ?_))))
 refine c_seq fun _ hK10 => ?_
 refine c_region ?_
 refine l_val wn (r_lbn 0 [.int .i64 ((Roll.of (l.take k) frm to).count), .int .i64 ((Roll.of (l.take k) frm to).total), .int .i64 ((Roll.of (l.take k) frm to).min), .int .i64 ((Roll.of (l.take k) frm to).max), .int .i64 ((Roll.of (l.take k) frm to).first), .int .i64 ((Roll.of (l.take k) frm to).last), .int .i64 ((Roll.of (l.take k) frm to).rise)] rfl rfl rfl rfl agg35 inf35) rfl ?_
 refine l_stn 1 wn rfl rfl rfl inf35 rfl rfl rfl ?_
 refine l_nil (e_go hK10 ?_)
 refine c_ret (e_ret1 (.inl rfl) Try.results41 (rv_cell 1 rfl rfl agg35 inf35 rfl) fun w1 hM => ?_)
 exact ret_agg (l1 := [.int .i64 ((Roll.of (l.take k) frm to).count), .int .i64 ((Roll.of (l.take k) frm to).total), .int .i64 ((Roll.of (l.take k) frm to).min), .int .i64 ((Roll.of (l.take k) frm to).max), .int .i64 ((Roll.of (l.take k) frm to).first), .int .i64 ((Roll.of (l.take k) frm to).last), .int .i64 ((Roll.of (l.take k) frm to).rise)]) (by rw [List.take_of_length_le (by omega)]) hM

theorem c_rollWrong (lv : Value) (l : List Bucket) (tier : Int) (w : World) (hl : FlatSl (In w) 8 bucketE lv l w)  :
    Calls Try.prog 49 #[lv, .int .i64 tier] w (Ret w (.agg (faultE (Roll.wrong l tier)).toArray)) := by
 obtain ⟨lA, lc, rfl, hlc, hlm, hlA⟩ := hl.form
 refine fstart (N := 71) (vals := [.slice lA l.length lc, .int .i64 tier]) (S := Mem w no [slO (In w) 8 bucketE (.slice lA l.length lc) l]) Try.func49 rfl rfl rfl (Mem.ofDats (dc (dl hl) dn)) ?_
 refine c_seq fun _ hK1 => ?_
 refine c_region ?_
 refine l_alloc wn inf81 rfl fun b4 => ?_
 refine l_nil (e_go hK1 ?_)
 refine c_seq fun _ hK2 => ?_
 refine c_region ?_
 refine l_val wn (r_move rfl) rfl ?_
 refine l_callF wn rfl Try.call39 rfl (fun w1 hM => c_Step tier w1) ?_
 refine l_val wn (r_assign rfl) rfl ?_
 refine l_nil (e_go hK2 ?_)
 refine c_seq fun _ hK3 => ?_
 refine c_seq fun _ hK4 => ?_
 refine c_region ?_
 refine l_val wn (r_move rfl) rfl ?_
 refine l_val wn (r_eql rfl rfl) rfl ?_
 refine l_nil (e_go hK4 ?_)
 refine c_cond rfl (fun h1 => ?_) (fun h1 => ?_)
 · refine c_seq fun _ hK5 => ?_
   refine c_region ?_
   refine l_val wn (r_build [.int .i64 1, .int .i64 0] pl81 inf81 rfl rfl) rfl ?_
   refine l_stn 0 wn rfl rfl rfl inf81 rfl rfl rfl ?_
   refine l_nil (e_go hK5 ?_)
   refine c_ret (e_then_r (e_ret1 (.inl rfl) Try.results49 (rv_cell 0 rfl rfl agg81 inf81 rfl) fun w1 hM => ?_))
   exact ret_agg (l1 := [.int .i64 1, .int .i64 0]) (by rw [Roll.wrong, if_pos (by omega)]) hM
 refine c_skip (e_go hK3 ?_)
 refine c_seq fun _ hK6 => ?_
 refine c_seq fun _ hK7 => ?_
 refine c_region ?_
 refine l_val wn (r_move rfl) rfl ?_
 refine l_val wn (r_len rfl Try.underlying25) rfl ?_
 refine l_val wn (r_gtr rfl rfl) rfl ?_
 refine l_nil (e_go hK7 ?_)
 refine c_cond rfl (fun h2 => ?_) (fun h2 => ?_)
 · refine c_seq fun _ hK8 => ?_
   refine c_region ?_
   refine l_val wn (r_build [.int .i64 5, .int .i64 0] pl81 inf81 rfl rfl) rfl ?_
   refine l_stn 0 wn rfl rfl rfl inf81 rfl rfl rfl ?_
   refine l_nil (e_go hK8 ?_)
   refine c_ret (e_then_r (e_ret1 (.inl rfl) Try.results49 (rv_cell 0 rfl rfl agg81 inf81 rfl) fun w1 hM => ?_))
   exact ret_agg (l1 := [.int .i64 5, .int .i64 0]) (by rw [Roll.wrong, if_neg (by omega), if_pos (by omega)]) hM
 refine c_skip (e_go hK6 ?_)
 refine c_seq fun _ hK9 => ?_
 refine c_seq fun _ hK10 => ?_
 refine c_region ?_
 refine l_val wn (r_move rfl) rfl ?_
 refine l_val wn (r_len rfl Try.underlying25) rfl ?_
 refine l_val wn (r_move rfl) rfl ?_
 refine l_nil (e_go hK10 ?_)
 refine c_block ?_
 refine c_loop1 (fun (k : Nat) => [(0, .slice lA l.length lc), (4, .pointer (some ⟨b4, 0, none⟩)), (5, .int .i64 (Roll.step tier)), (17, .slice lA l.length lc), (18, .int .i64 (l.length : Int)), (19, .int .i64 (k : Int))]) (fun (k : Nat) => [.blk b4 [.int .i64 0, .int .i64 0] 81, slO (In w) 8 bucketE (.slice lA l.length lc) l]) (fun (k : Nat) => k ≤ l.length ∧ Roll.wrongFrom (Roll.step tier) 0 none l = Roll.wrongFrom (Roll.step tier) k (Roll.prevOf l k) (l.drop k)) (fun (k : Nat) => l.length - k) 0 (sc rfl (sc rfl (sc rfl (sc rfl (sc rfl (sc (ji (by omega)) sn)))))) (fun _ h => h) ?_ (fun k hI1 => ?_)
 · exact ⟨by omega, Roll.wrong_start l _⟩
 refine c_seq fun _ hK11 => ?_
 refine c_region ?_
 refine l_val wn (r_lss rfl rfl) rfl ?_
 refine l_nil (e_go hK11 ?_)
 refine c_seq fun _ hK12 => ?_
 refine c_cond rfl (fun h3 => ?_) (fun h3 => ?_)
 · refine c_skip (e_go hK12 ?_)
   refine c_seq fun _ hK13 => ?_
   refine c_block ?_
   refine c_seq fun _ hK14 => ?_
   refine c_region ?_
   refine l_val wn (r_move rfl) rfl ?_
   obtain ⟨ad1, hd1⟩ := hlA (ne_nil (i := k) (by first | omega | decide | (simp only [List.length_cons, List.length_nil, List.length_append, List.length_take, List.length_set]; omega)))
   refine l_val wn (r_ia (i := k) rfl hd1 rfl (by omega) (by first | omega | decide | (simp only [List.length_cons, List.length_nil, List.length_append, List.length_take, List.length_set]; omega)) Try.underlying25 inf78) rfl ?_
   obtain ⟨s1, hs1⟩ : ∃ x, l[k]? = some x := ⟨_, List.getElem?_eq_getElem (by first | omega | decide | (simp only [List.length_cons, List.length_nil, List.length_append, List.length_take, List.length_set]; omega))⟩
   refine l_val wn (r_eln 1 [.int .i64 s1.at_, .int .i64 s1.sum.count, .int .i64 s1.sum.total, .int .i64 s1.sum.min, .int .i64 s1.sum.max, .int .i64 s1.sum.first, .int .i64 s1.sum.last, .int .i64 s1.sum.rise] rfl rfl hd1 hs1 rfl rfl agg78 inf78) rfl ?_
   refine l_alloc wn inf78 rfl fun b7 => ?_
   refine l_val wn (r_assign rfl) rfl ?_
   refine l_stn 0 wn rfl rfl rfl inf78 rfl rfl rfl ?_
   refine l_nil (e_go hK14 ?_)
   refine c_seq fun _ hK15 => ?_
   refine c_cut [(0, .slice lA l.length lc), (4, .pointer (some ⟨b4, 0, none⟩)), (5, .int .i64 (Roll.step tier)), (6, .int .i64 (k : Int)), (7, .pointer (some ⟨b7, 0, none⟩)), (17, .slice lA l.length lc), (18, .int .i64 (l.length : Int)), (19, .int .i64 (k : Int)), (51, .bool (decide ((s1.at_ < 0) ∨ ((1000000 < s1.at_) ∨ (((Int.tmod s1.at_ (Roll.step tier)) ≠ 0) ∨ ((s1.sum.count < 1) ∨ ((Roll.step tier) < s1.sum.count)))))))] (Mem w no [.blk b7 [.int .i64 s1.at_, .int .i64 s1.sum.count, .int .i64 s1.sum.total, .int .i64 s1.sum.min, .int .i64 s1.sum.max, .int .i64 s1.sum.first, .int .i64 s1.sum.last, .int .i64 s1.sum.rise] 78, .blk b4 [.int .i64 0, .int .i64 0] 81, slO (In w) 8 bucketE (.slice lA l.length lc) l]) (fun _ hK16 => ?_) ?_
   · refine c_region ?_
     refine l_val wn (r_fa rfl fld78_0) rfl ?_
     refine l_val wn (r_lb 0 rfl rfl rfl flat3) rfl ?_
     refine l_val wn (r_lss rfl rfl) rfl ?_
     refine l_val wn (r_move rfl) rfl ?_
     refine l_case (t := 27) rfl (fun h4 => ?_) (fun h4 => ?_)
     · refine l_skip (wg rfl rfl rfl) rfl ?_
       refine l_skip (wg rfl rfl rfl) rfl ?_
       refine l_skip (wg rfl rfl rfl) rfl ?_
       refine l_val wn (r_pick rfl rfl) rfl ?_
       refine l_val wn (r_move rfl) rfl ?_
       refine l_skip (wg rfl rfl rfl) rfl ?_
       refine l_skip (wg rfl rfl rfl) rfl ?_
       refine l_skip (wg rfl rfl rfl) rfl ?_
       refine l_skip (wg rfl rfl rfl) rfl ?_
       refine l_skip (wg rfl rfl rfl) rfl ?_
       refine l_val wn (r_pick rfl rfl) rfl ?_
       refine l_val wn (r_move rfl) rfl ?_
       refine l_skip (wg rfl rfl rfl) rfl ?_
       refine l_skip (wg rfl rfl rfl) rfl ?_
       refine l_skip (wg rfl rfl rfl) rfl ?_
       refine l_skip (wg rfl rfl rfl) rfl ?_
       refine l_val wn (r_pick rfl rfl) rfl ?_
       refine l_val wn (r_move rfl) rfl ?_
       refine l_skip (wg rfl rfl rfl) rfl ?_
       refine l_skip (wg rfl rfl rfl) rfl ?_
       refine l_skip (wg rfl rfl rfl) rfl ?_
       refine l_skip (wg rfl rfl rfl) rfl ?_
       refine l_skip (wg rfl rfl rfl) rfl ?_
       refine l_val wn (r_pick rfl rfl) rfl ?_
       refine l_nil (e_cut hK16 (sc rfl (sc rfl (sc rfl (sc rfl (sc rfl (sc rfl (sc rfl (sc rfl (sc (jt (Or.inl h4)) sn))))))))) (fun _ h => h))
     refine l_val (wg rfl rfl rfl) (r_fa rfl fld78_0) rfl ?_
     refine l_val (wg rfl rfl rfl) (r_lb 0 rfl rfl rfl flat3) rfl ?_
     refine l_val (wg rfl rfl rfl) (r_gtr rfl rfl) rfl ?_
     refine l_val wn (r_pick rfl rfl) rfl ?_
     refine l_val wn (r_move rfl) rfl ?_
     refine l_case (t := 32) rfl (fun h5 => ?_) (fun h5 => ?_)
     · refine l_skip (wg rfl rfl rfl) rfl ?_
       refine l_skip (wg rfl rfl rfl) rfl ?_
       refine l_skip (wg rfl rfl rfl) rfl ?_
       refine l_skip (wg rfl rfl rfl) rfl ?_
       refine l_skip (wg rfl rfl rfl) rfl ?_
       refine l_val wn (r_pick rfl rfl) rfl ?_
       refine l_val wn (r_move rfl) rfl ?_
       refine l_skip (wg rfl rfl rfl) rfl ?_
       refine l_skip (wg rfl rfl rfl) rfl ?_
       refine l_skip (wg rfl rfl rfl) rfl ?_
       refine l_skip (wg rfl rfl rfl) rfl ?_
       refine l_val wn (r_pick rfl rfl) rfl ?_
       refine l_val wn (r_move rfl) rfl ?_
       refine l_skip (wg rfl rfl rfl) rfl ?_
       refine l_skip (wg rfl rfl rfl) rfl ?_
       refine l_skip (wg rfl rfl rfl) rfl ?_
       refine l_skip (wg rfl rfl rfl) rfl ?_
       refine l_skip (wg rfl rfl rfl) rfl ?_
       refine l_val wn (r_pick rfl rfl) rfl ?_
       refine l_nil (e_cut hK16 (sc rfl (sc rfl (sc rfl (sc rfl (sc rfl (sc rfl (sc rfl (sc rfl (sc (jt (Or.inr (Or.inl h5))) sn))))))))) (fun _ h => h))
     refine l_val (wg rfl rfl rfl) (r_fa rfl fld78_0) rfl ?_
     refine l_val (wg rfl rfl rfl) (r_lb 0 rfl rfl rfl flat3) rfl ?_
     refine l_val (wg rfl rfl rfl) (r_move rfl) rfl ?_
     refine l_val (wg rfl rfl rfl) (r_rem rfl rfl (by omega)) rfl ?_
     refine l_val (wg rfl rfl rfl) (r_neq rfl rfl) rfl ?_
     refine l_val wn (r_pick rfl rfl) rfl ?_
     refine l_val wn (r_move rfl) rfl ?_
     refine l_case (t := 39) rfl (fun h6 => ?_) (fun h6 => ?_)
     · refine l_skip (wg rfl rfl rfl) rfl ?_
       refine l_skip (wg rfl rfl rfl) rfl ?_
       refine l_skip (wg rfl rfl rfl) rfl ?_
       refine l_skip (wg rfl rfl rfl) rfl ?_
       refine l_val wn (r_pick rfl rfl) rfl ?_
       refine l_val wn (r_move rfl) rfl ?_
       refine l_skip (wg rfl rfl rfl) rfl ?_
       refine l_skip (wg rfl rfl rfl) rfl ?_
       refine l_skip (wg rfl rfl rfl) rfl ?_
       refine l_skip (wg rfl rfl rfl) rfl ?_
       refine l_skip (wg rfl rfl rfl) rfl ?_
       refine l_val wn (r_pick rfl rfl) rfl ?_
       refine l_nil (e_cut hK16 (sc rfl (sc rfl (sc rfl (sc rfl (sc rfl (sc rfl (sc rfl (sc rfl (sc (jt (Or.inr (Or.inr (Or.inl h6)))) sn))))))))) (fun _ h => h))
     refine l_val (wg rfl rfl rfl) (r_fa rfl fld78_1) rfl ?_
     refine l_val (wg rfl rfl rfl) (r_fa rfl fld35_0) rfl ?_
     refine l_val (wg rfl rfl rfl) (r_lb 0 rfl rfl rfl flat3) rfl ?_
     refine l_val (wg rfl rfl rfl) (r_lss rfl rfl) rfl ?_
     refine l_val wn (r_pick rfl rfl) rfl ?_
     refine l_val wn (r_move rfl) rfl ?_
     refine l_case (t := 45) rfl (fun h7 => ?_) (fun h7 => ?_)
     · refine l_skip (wg rfl rfl rfl) rfl ?_
       refine l_skip (wg rfl rfl rfl) rfl ?_
       refine l_skip (wg rfl rfl rfl) rfl ?_
       refine l_skip (wg rfl rfl rfl) rfl ?_
       refine l_skip (wg rfl rfl rfl) rfl ?_
       refine l_val wn (r_pick rfl rfl) rfl ?_
       refine l_nil (e_cut hK16 (sc rfl (sc rfl (sc rfl (sc rfl (sc rfl (sc rfl (sc rfl (sc rfl (sc (jt (Or.inr (Or.inr (Or.inr (Or.inl h7))))) sn))))))))) (fun _ h => h))
     refine l_val (wg rfl rfl rfl) (r_fa rfl fld78_1) rfl ?_
     refine l_val (wg rfl rfl rfl) (r_fa rfl fld35_0) rfl ?_
     refine l_val (wg rfl rfl rfl) (r_lb 0 rfl rfl rfl flat3) rfl ?_
     refine l_val (wg rfl rfl rfl) (r_move rfl) rfl ?_
     refine l_val (wg rfl rfl rfl) (r_gtr rfl rfl) rfl ?_
     refine l_val wn (r_pick rfl rfl) rfl ?_
     refine l_nil (e_cut hK16 (sc rfl (sc rfl (sc rfl (sc rfl (sc rfl (sc rfl (sc rfl (sc rfl (sc (jp (iff_or_right h4 (iff_or_right h5 (iff_or_right h6 (iff_or_right h7 Iff.rfl))))) sn))))))))) (fun _ h => h))
   refine c_cond rfl (fun h8 => ?_) (fun h8 => ?_)
   · refine c_seq fun _ hK17 => ?_
     refine c_region ?_
     refine l_val wn (r_move rfl) rfl ?_
     refine l_val wn (r_build [.int .i64 3, .int .i64 (k : Int)] pl81 inf81 rfl rfl) rfl ?_
     refine l_stn 1 wn rfl rfl rfl inf81 rfl rfl rfl ?_
     refine l_nil (e_go hK17 ?_)
     refine c_ret (e_then_r (e_in_r (e_then_r (e_loop1_r (e_in_r (e_then_r (e_ret1 (.inl rfl) Try.results49 (rv_cell 1 rfl rfl agg81 inf81 rfl) fun w1 hM => ?_)))))))
     exact ret_agg (l1 := [.int .i64 3, .int .i64 (k : Int)]) (by rw [Roll.wrong, if_neg (by omega), if_neg (by omega), hI1.2, Roll.wrong_step hs1, if_pos (by unfold Roll.badB; omega)]) hM
   refine c_skip (e_go hK15 ?_)
   refine c_seq fun _ hK18 => ?_
   refine c_quiet mix (by kernel_rfl) (fun _ h => h.drew) ?_
   refine q_val wn (r_move rfl) rfl ?_
   refine q_val wn (r_gtr rfl rfl) rfl ?_
   refine q_val wn (r_move rfl) rfl ?_
   refine q_case (t := 56) rfl (fun h9 => ?_) (fun h9 => ?_)
   · refine q_val (wg rfl rfl rfl) (r_move rfl) rfl ?_
     refine q_val (wg rfl rfl rfl) (r_move rfl) rfl ?_
     refine q_val (wg rfl rfl rfl) (r_subn rfl rfl (by omega)) rfl ?_
     refine q_val (wg rfl rfl rfl) (r_ia (i := (k - 1)) rfl hd1 rfl (by omega) (by first | omega | decide | (simp only [List.length_cons, List.length_nil, List.length_append, List.length_take, List.length_set]; omega)) Try.underlying25 inf78) rfl ?_
     refine q_val (wg rfl rfl rfl) (r_fe rfl fld78_0) rfl ?_
     obtain ⟨s2, hs2⟩ : ∃ x, l[(k - 1)]? = some x := ⟨_, List.getElem?_eq_getElem (by first | omega | decide | (simp only [List.length_cons, List.length_nil, List.length_append, List.length_take, List.length_set]; omega))⟩
     refine q_val (wg rfl rfl rfl) (r_el 2 rfl rfl hd1 hs2 rfl flat3) rfl ?_
     refine q_val (wg rfl rfl rfl) (r_fa rfl fld78_0) rfl ?_
     refine q_val (wg rfl rfl rfl) (r_lb 0 rfl rfl rfl flat3) rfl ?_
     refine q_val (wg rfl rfl rfl) (r_geq rfl rfl) rfl ?_
     refine q_val wn (r_pick rfl rfl) rfl ?_
     refine q_end (e_go hK18 ?_)
     refine c_cond rfl (fun h10 => ?_) (fun h10 => ?_)
     · refine c_seq fun _ hK19 => ?_
       refine c_region ?_
       refine l_val wn (r_move rfl) rfl ?_
       refine l_val wn (r_build [.int .i64 2, .int .i64 (k : Int)] pl81 inf81 rfl rfl) rfl ?_
       refine l_stn 1 wn rfl rfl rfl inf81 rfl rfl rfl ?_
       refine l_nil (e_go hK19 ?_)
       refine c_ret (e_in_r (e_then_r (e_loop1_r (e_in_r (e_then_r (e_ret1 (.inl rfl) Try.results49 (rv_cell 1 rfl rfl agg81 inf81 rfl) fun w1 hM => ?_))))))
       exact ret_agg (l1 := [.int .i64 2, .int .i64 (k : Int)]) (by rw [Roll.wrong, if_neg (by omega), if_neg (by omega), hI1.2, Roll.wrong_step hs1, if_neg (by unfold Roll.badB; omega), if_pos (by rw [Roll.prevOf, if_neg (by omega), hs2]; simp [Roll.behind]; omega)]) hM
     refine c_skip (e_in_n (e_go hK13 ?_))
     refine c_region ?_
     refine l_val wn (r_addn rfl rfl (by omega)) rfl ?_
     refine l_val wn (r_move rfl) rfl ?_
     refine l_nil (e_round1 (k + 1) (sc rfl (sc rfl (sc rfl (sc rfl (sc rfl (sc (ji (by omega)) sn)))))) (fun _ h => (h.sel [1, 2] (by decide) rfl)) ?_ ?_)
     · exact ⟨by omega, by rw [hI1.2, Roll.wrong_step hs1, if_neg (by unfold Roll.badB; omega), if_neg (by rw [Roll.prevOf, if_neg (by omega), hs2]; simp [Roll.behind]; omega)]⟩
     omega
   refine q_skip (wg rfl rfl rfl) rfl ?_
   refine q_skip (wg rfl rfl rfl) rfl ?_
   refine q_skip (wg rfl rfl rfl) rfl ?_
   refine q_skip (wg rfl rfl rfl) rfl ?_
   refine q_skip (wg rfl rfl rfl) rfl ?_
   refine q_skip (wg rfl rfl rfl) rfl ?_
   refine q_skip (wg rfl rfl rfl) rfl ?_
   refine q_skip (wg rfl rfl rfl) rfl ?_
   refine q_skip (wg rfl rfl rfl) rfl ?_
   refine q_val wn (r_pick rfl rfl) rfl ?_
   refine q_end (e_go hK18 ?_)
   refine c_false rfl rfl ?_
   refine c_skip (e_in_n (e_go hK13 ?_))
   refine c_region ?_
   refine l_val wn (r_addn rfl rfl (by omega)) rfl ?_
   refine l_val wn (r_move rfl) rfl ?_
   refine l_nil (e_round1 (k + 1) (sc rfl (sc rfl (sc rfl (sc rfl (sc rfl (sc (ji (by omega)) sn)))))) (fun _ h => (h.sel [1, 2] (by decide) rfl)) ?_ ?_)
   · exact ⟨by omega, by rw [hI1.2, Roll.wrong_step hs1, if_neg (by unfold Roll.badB; omega), if_neg (by rw [Roll.prevOf, if_pos (by omega)]; simp [Roll.behind])]⟩
   omega
 refine c_exit (e_then_x (e_loop1_x (e_in_hit (e_go hK9 ?_))))
 refine c_seq fun _ hK20 => ?_
 refine c_region ?_
 refine l_val wn (r_build [.int .i64 0, .int .i64 0] pl81 inf81 rfl rfl) rfl ?_
 refine l_stn 0 wn rfl rfl rfl inf81 rfl rfl rfl ?_
 refine l_nil (e_go hK20 ?_)
 refine c_ret (e_ret1 (.inl rfl) Try.results49 (rv_cell 0 rfl rfl agg81 inf81 rfl) fun w1 hM => ?_)
 exact ret_agg (l1 := [.int .i64 0, .int .i64 0]) (by rw [Roll.wrong, if_neg (by omega), if_neg (by omega), hI1.2, Roll.wrong_end (by omega)]) hM

end Go.Proofs.Ytnbkennlmnnbeaa
