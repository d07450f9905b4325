/-
  Walks: what each function hands back.
-/
import Derived.Test.YtnbkennlmnnbeaaWmade
namespace Go.Proofs.Ytnbkennlmnnbeaa
open Ex
set_option linter.unusedVariables false
set_option linter.unusedSimpArgs false
set_option maxHeartbeats 1000000 in
theorem law_PlanExact (lv : Value) (l : List Sample) (ro : Int) (ov : Value) (o : List Int) (qv : Value) (q : List Part) (f : Int) (t : Int) (w : World) (hl : FlatSl (In w) 2 sampleE lv l w) (ho : FlatSl (In w) 1 intE ov o w) (hq : FlatSl (In w) 3 partE qv q w)  :
    Calls Try.prog 11 #[lv, .int .i64 ro, ov, qv, .int .i64 f, .int .i64 t] w (Ret w (.bool true)) := by
 obtain ⟨lA, lc, rfl, hlc, hlm, hlA⟩ := hl.form
 obtain ⟨oA, oc, rfl, hoc, hom, hoA⟩ := ho.form
 obtain ⟨qA, qc, rfl, hqc, hqm, hqA⟩ := hq.form
 refine fstart (N := 119) (vals := [.slice lA l.length lc, .int .i64 ro, .slice oA o.length oc, .slice qA q.length qc, .int .i64 f, .int .i64 t]) (S := Mem w ⟨no, In w⟩ [slP 2 sampleE (.slice lA l.length lc) l, slP 1 intE (.slice oA o.length oc) o, slP 3 partE (.slice qA q.length qc) q]) Try.func11 rfl rfl rfl (Mem.ofDatsP (fun _ h => h) (dc (dlp hl) (dc (dlp ho) (dc (dlp hq) dn)))) ?_
 refine c_seq fun _ hK1 => ?_
 refine c_region ?_
 refine l_val wn (r_assign rfl) rfl ?_
 refine l_nil (e_go hK1 ?_)
 refine c_seq fun _ hK2 => ?_
 refine c_seq fun _ hK3 => ?_
 refine c_region ?_
 refine l_callF wn rfl Try.call35 rfl (fun w1 hM => c_alive8  w1) ?_
 refine l_val wn (r_notb rfl) rfl ?_
 refine l_nil (e_go hK3 ?_)
 refine c_false rfl rfl ?_
 refine c_skip (e_go hK2 ?_)
 refine c_seq fun _ hK4 => ?_
 refine c_seq fun _ hK5 => ?_
 refine c_region ?_
 refine l_val wn (r_move rfl) rfl ?_
 refine l_val wn (r_len rfl Try.underlying62) rfl ?_
 refine l_val wn (r_gtr rfl rfl) rfl ?_
 refine l_nil (e_go hK5 ?_)
 refine c_cond rfl (fun h1 => ?_) (fun h1 => ?_)
 · refine c_seq fun _ hK6 => ?_
   refine c_region ?_
   refine l_val wn (r_assign rfl) rfl ?_
   refine l_nil (e_go hK6 ?_)
   refine c_ret (e_then_r (e_ret1 (.inl rfl) Try.results11 (rv_tmp rfl) fun w1 hM => ?_))
   exact ret_ok rfl hM
 refine c_skip (e_go hK4 ?_)
 refine c_seq fun _ hK7 => ?_
 refine c_region ?_
 refine l_val wn (r_move rfl) rfl ?_
 refine l_val wn (r_move rfl) rfl ?_
 refine l_val wn (r_move rfl) rfl ?_
 refine l_callSh (fun u => .tuple (List.toArray [u, .bool ((Sh.made l ro o).2)])) ((Sh.made l ro o).1) wn rfl Try.call36 rfl (fun w1 Pb hM pp => c_made _ l ro _ o Pb w1 pp.lt (pp.sl 0 rfl) (pp.sl 1 rfl)) fun A1 cp1 A2 cp2 A3 cp3 A4 cp4 hb1 hA1 hA2 hA3 hA4 => ?_
 refine l_val wn (r_move rfl) rfl ?_
 refine l_val wn (r_extract rfl rfl) rfl ?_
 refine l_val wn (r_extract rfl rfl) rfl ?_
 refine l_alloc wn inf27 rfl fun b13 => ?_
 refine l_stn 0 wn rfl rfl rfl inf27 rfl rfl rfl ?_
 refine l_val wn (r_assign rfl) rfl ?_
 refine l_nil (e_go hK7 ?_)
 refine c_seq fun _ hK8 => ?_
 refine c_cut [(0, .slice lA l.length lc), (3, .slice qA q.length qc), (4, .int .i64 f), (5, .int .i64 t), (13, .pointer (some ⟨b13, 0, none⟩)), (51, .bool (decide (((!(Sh.made l ro o).2) = true) ∨ ((f < 0) ∨ ((t < f) ∨ (1000000 < t))))))] (Mem w ⟨no, In w⟩ [.blk b13 [.slice A1 (((Sh.made l ro o).1).series.length) cp1, .slice A2 (((Sh.made l ro o).1).raw.length) cp2, .slice A3 (((Sh.made l ro o).1).fine.length) cp3, .slice A4 (((Sh.made l ro o).1).coarse.length) cp4, .int .i64 (((Sh.made l ro o).1).rawFrom), .int .i64 (((Sh.made l ro o).1).fineFrom), .int .i64 (((Sh.made l ro o).1).fineTo), .int .i64 (((Sh.made l ro o).1).coarseFrom), .int .i64 (((Sh.made l ro o).1).coarseTo)] 27, slP 2 labelE (.slice A1 (((Sh.made l ro o).1).series.length) cp1) (((Sh.made l ro o).1).series), slP 2 sampleE (.slice A2 (((Sh.made l ro o).1).raw.length) cp2) (((Sh.made l ro o).1).raw), slP 8 bucketE (.slice A3 (((Sh.made l ro o).1).fine.length) cp3) (((Sh.made l ro o).1).fine), slP 8 bucketE (.slice A4 (((Sh.made l ro o).1).coarse.length) cp4) (((Sh.made l ro o).1).coarse), slP 2 sampleE (.slice lA l.length lc) l, slP 1 intE (.slice oA o.length oc) o, slP 3 partE (.slice qA q.length qc) q]) (fun _ hK9 => ?_) ?_
 · refine c_region ?_
   refine l_val wn (r_move rfl) rfl ?_
   refine l_val wn (r_notb rfl) rfl ?_
   refine l_val wn (r_move rfl) rfl ?_
   refine l_caseb (t := 39) rfl (fun h2 => ?_) (fun h2 => ?_)
   · refine l_skip (wg rfl rfl rfl) rfl ?_
     refine l_skip (wg rfl rfl rfl) rfl ?_
     refine l_val wn (r_pick rfl rfl) rfl ?_
     refine l_val wn (r_move rfl) rfl ?_
     refine l_skip (wg rfl rfl rfl) rfl ?_
     refine l_skip (wg rfl rfl rfl) rfl ?_
     refine l_skip (wg rfl rfl rfl) rfl ?_
     refine l_val wn (r_pick rfl rfl) rfl ?_
     refine l_val wn (r_move rfl) rfl ?_
     refine l_skip (wg rfl rfl rfl) rfl ?_
     refine l_skip (wg rfl rfl rfl) rfl ?_
     refine l_val wn (r_pick rfl rfl) rfl ?_
     refine l_nil (e_cut hK9 (sc rfl (sc rfl (sc rfl (sc rfl (sc rfl (sc (jt (Or.inl h2)) sn)))))) (fun _ h => h))
   refine l_val (wg rfl rfl rfl) (r_move rfl) rfl ?_
   refine l_val (wg rfl rfl rfl) (r_lss rfl rfl) rfl ?_
   refine l_val wn (r_pick rfl rfl) rfl ?_
   refine l_val wn (r_move rfl) rfl ?_
   refine l_case (t := 43) rfl (fun h3 => ?_) (fun h3 => ?_)
   · refine l_skip (wg rfl rfl rfl) rfl ?_
     refine l_skip (wg rfl rfl rfl) rfl ?_
     refine l_skip (wg rfl rfl rfl) rfl ?_
     refine l_val wn (r_pick rfl rfl) rfl ?_
     refine l_val wn (r_move rfl) rfl ?_
     refine l_skip (wg rfl rfl rfl) rfl ?_
     refine l_skip (wg rfl rfl rfl) rfl ?_
     refine l_val wn (r_pick rfl rfl) rfl ?_
     refine l_nil (e_cut hK9 (sc rfl (sc rfl (sc rfl (sc rfl (sc rfl (sc (jt (Or.inr (Or.inl h3))) sn)))))) (fun _ h => h))
   refine l_val (wg rfl rfl rfl) (r_move rfl) rfl ?_
   refine l_val (wg rfl rfl rfl) (r_move rfl) rfl ?_
   refine l_val (wg rfl rfl rfl) (r_lss rfl rfl) rfl ?_
   refine l_val wn (r_pick rfl rfl) rfl ?_
   refine l_val wn (r_move rfl) rfl ?_
   refine l_case (t := 48) rfl (fun h4 => ?_) (fun h4 => ?_)
   · refine l_skip (wg rfl rfl rfl) rfl ?_
     refine l_skip (wg rfl rfl rfl) rfl ?_
     refine l_val wn (r_pick rfl rfl) rfl ?_
     refine l_nil (e_cut hK9 (sc rfl (sc rfl (sc rfl (sc rfl (sc rfl (sc (jt (Or.inr (Or.inr (Or.inl h4)))) sn)))))) (fun _ h => h))
   refine l_val (wg rfl rfl rfl) (r_move rfl) rfl ?_
   refine l_val (wg rfl rfl rfl) (r_gtr rfl rfl) rfl ?_
   refine l_val wn (r_pick rfl rfl) rfl ?_
   refine l_nil (e_cut hK9 (sc rfl (sc rfl (sc rfl (sc rfl (sc rfl (sc (jp (iff_or_right h2 (iff_or_right h3 (iff_or_right h4 Iff.rfl)))) sn)))))) (fun _ h => h))
 refine c_cond rfl (fun h5 => ?_) (fun h5 => ?_)
 · refine c_seq fun _ hK10 => ?_
   refine c_region ?_
   refine l_val wn (r_assign rfl) rfl ?_
   refine l_nil (e_go hK10 ?_)
   refine c_ret (e_then_r (e_ret1 (.inl rfl) Try.results11 (rv_tmp rfl) fun w1 hM => ?_))
   exact ret_ok rfl hM
 have hmd : (Sh.made l ro o).2 = true := by cases hb : (Sh.made l ro o).2 with | true => rfl | false => exact absurd (Or.inl (by rw [hb]; rfl)) h5
 have hkp := Sh.made_keep hmd
 have hll := Roll.rises_len hkp.rises
 refine c_skip (e_go hK8 ?_)
 refine c_seq fun _ hK11 => ?_
 refine c_region ?_
 refine l_nilRow (sampleE : Sample → List Value) 39 2 ?_
 refine l_val wn (r_assign rfl) rfl ?_
 refine l_nil (e_go hK11 ?_)
 refine c_seq fun _ hK12 => ?_
 refine c_seq fun _ hK13 => ?_
 refine c_region ?_
 refine l_val wn (r_move rfl) rfl ?_
 refine l_val wn (r_len rfl Try.underlying24) rfl ?_
 refine l_val wn (r_move rfl) rfl ?_
 refine l_nil (e_go hK13 ?_)
 refine c_block ?_
 refine c_loop2 (fun (k : Nat) (vr : Value) => [(3, .slice qA q.length qc), (4, .int .i64 f), (5, .int .i64 t), (13, .pointer (some ⟨b13, 0, none⟩)), (15, vr), (52, .slice lA l.length lc), (53, .int .i64 (l.length : Int)), (54, .int .i64 (k : Int))]) (fun (k : Nat) (vr : Value) => [Row vr 39 2 sampleE (Roll.inT (l.take k) f t), .blk b13 [.slice A1 (((Sh.made l ro o).1).series.length) cp1, .slice A2 (((Sh.made l ro o).1).raw.length) cp2, .slice A3 (((Sh.made l ro o).1).fine.length) cp3, .slice A4 (((Sh.made l ro o).1).coarse.length) cp4, .int .i64 (((Sh.made l ro o).1).rawFrom), .int .i64 (((Sh.made l ro o).1).fineFrom), .int .i64 (((Sh.made l ro o).1).fineTo), .int .i64 (((Sh.made l ro o).1).coarseFrom), .int .i64 (((Sh.made l ro o).1).coarseTo)] 27, slP 2 labelE (.slice A1 (((Sh.made l ro o).1).series.length) cp1) (((Sh.made l ro o).1).series), slP 2 sampleE (.slice A2 (((Sh.made l ro o).1).raw.length) cp2) (((Sh.made l ro o).1).raw), slP 8 bucketE (.slice A3 (((Sh.made l ro o).1).fine.length) cp3) (((Sh.made l ro o).1).fine), slP 8 bucketE (.slice A4 (((Sh.made l ro o).1).coarse.length) cp4) (((Sh.made l ro o).1).coarse), slP 2 sampleE (.slice lA l.length lc) l, slP 1 intE (.slice oA o.length oc) o, slP 3 partE (.slice qA q.length qc) q]) (fun (k : Nat) (vr : Value) => k ≤ l.length) (fun (k : Nat) (vr : Value) => l.length - k) 0 (.slice none 0 0) (sc rfl (sc rfl (sc rfl (sc rfl (sc rfl (sc rfl (sc rfl (sc (ji (by omega)) sn)))))))) (fun _ h => h) ?_ (fun k vr hI1 => ?_)
 · omega
 have hlen := Nat.le_trans (Roll.inT_len (l.take k) f t) (List.length_take_le' k l)
 refine c_open 0 (l := (Roll.inT (l.take k) f t)) rfl fun A5 cp5 hv1 hc1 hm1 hA5 => ?_
 subst hv1
 refine c_seq fun _ hK14 => ?_
 refine c_region ?_
 refine l_val wn (r_lss rfl rfl) rfl ?_
 refine l_nil (e_go hK14 ?_)
 refine c_seq fun _ hK15 => ?_
 refine c_cond rfl (fun h6 => ?_) (fun h6 => ?_)
 · refine c_skip (e_go hK15 ?_)
   refine c_seq fun _ hK16 => ?_
   refine c_block ?_
   refine c_seq fun _ hK17 => ?_
   refine c_region ?_
   obtain ⟨ad1, hd1⟩ := hlA (ne_nil (i := k) (by first | omega | decide | (simp only [List.length_cons, List.length_nil, List.length_append, List.length_take, List.length_set]; omega)))
   refine l_val wn (r_ia (i := k) rfl hd1 rfl (by omega) (by first | omega | decide | (simp only [List.length_cons, List.length_nil, List.length_append, List.length_take, List.length_set]; omega)) Try.underlying24 inf39) rfl ?_
   obtain ⟨s1, hs1⟩ : ∃ x, l[k]? = some x := ⟨_, List.getElem?_eq_getElem (by first | omega | decide | (simp only [List.length_cons, List.length_nil, List.length_append, List.length_take, List.length_set]; omega))⟩
   refine l_val wn (r_pln 6 [.int .i64 s1.time, .int .i64 s1.value] rfl rfl hd1 hs1 rfl rfl agg39 inf39) rfl ?_
   refine l_alloc wn inf39 rfl fun b17 => ?_
   refine l_stn 0 wn rfl rfl rfl inf39 rfl rfl rfl ?_
   refine l_nil (e_go hK17 ?_)
   refine c_seq fun _ hK18 => ?_
   refine c_region ?_
   refine l_val wn (r_fa rfl fld39_0) rfl ?_
   refine l_val wn (r_lb 0 rfl rfl rfl flat3) rfl ?_
   refine l_val wn (r_move rfl) rfl ?_
   refine l_val wn (r_geq rfl rfl) rfl ?_
   refine l_val wn (r_move rfl) rfl ?_
   refine l_case (t := 62) rfl (fun h7 => ?_) (fun h7 => ?_)
   · refine l_val (wg rfl rfl rfl) (r_fa rfl fld39_0) rfl ?_
     refine l_val (wg rfl rfl rfl) (r_lb 0 rfl rfl rfl flat3) rfl ?_
     refine l_val (wg rfl rfl rfl) (r_move rfl) rfl ?_
     refine l_val (wg rfl rfl rfl) (r_lss rfl rfl) rfl ?_
     refine l_val wn (r_pick rfl rfl) rfl ?_
     refine l_nil (e_go hK18 ?_)
     refine c_cond rfl (fun h8 => ?_) (fun h8 => ?_)
     · refine c_region ?_
       refine l_val wn (r_move rfl) rfl ?_
       refine l_val wn (r_lbn 0 [.int .i64 s1.time, .int .i64 s1.value] rfl rfl rfl rfl agg39 inf39) rfl ?_
       refine l_bsL sampleE ([s1] : List Sample) wn Try.underlying24 inf39 rfl rfl rfl rfl (by decide) (by decide) rfl fun b70 => ?_
       refine l_app 2 (Roll.inT (l.take k) f t) ([s1] : List Sample) encSample wn rfl rfl rfl (fun _ hM => (RowSl encSample hM 0 rfl)) Try.underlying24 inf39 rfl rfl (by simp only [List.length_append, List.length_cons, List.length_nil]; omega) rfl fun A6 cp6 hc2 hm2 hA6 => ?_
       refine l_val wn (r_assign rfl) rfl ?_
       refine l_nil (e_in_n (e_go hK16 ?_))
       refine c_region ?_
       refine l_val wn (r_addn rfl rfl (by omega)) rfl ?_
       refine l_val wn (r_move rfl) rfl ?_
       refine l_nil (e_round2 (k + 1) (.slice A6 (((Roll.inT (l.take k) f t) ++ ([s1] : List Sample)).length) cp6) (sc rfl (sc rfl (sc rfl (sc rfl (sc rfl (sc rfl (sc rfl (sc (ji (by omega)) sn)))))))) (fun _ h => by rw [(Roll.inT_succ (a := f) (b := t) hs1).trans (if_pos (by omega))]; exact (h.sel [2, 3, 4, 5, 6, 7, 8, 9, 10] (by decide) rfl)) ?_ ?_)
       · omega
       omega
     refine c_skip (e_in_n (e_go hK16 ?_))
     refine c_region ?_
     refine l_val wn (r_addn rfl rfl (by omega)) rfl ?_
     refine l_val wn (r_move rfl) rfl ?_
     refine l_nil (e_round2 (k + 1) (.slice A5 ((Roll.inT (l.take k) f t).length) cp5) (sc rfl (sc rfl (sc rfl (sc rfl (sc rfl (sc rfl (sc rfl (sc (ji (by omega)) sn)))))))) (fun _ h => by rw [(Roll.inT_succ (a := f) (b := t) hs1).trans (if_neg (by omega))]; exact (h.sel [1, 2, 3, 4, 5, 6, 7, 8, 9] (by decide) rfl)) ?_ ?_)
     · omega
     omega
   refine l_skip (wg rfl rfl rfl) rfl ?_
   refine l_skip (wg rfl rfl rfl) rfl ?_
   refine l_skip (wg rfl rfl rfl) rfl ?_
   refine l_skip (wg rfl rfl rfl) rfl ?_
   refine l_val wn (r_pick rfl rfl) rfl ?_
   refine l_nil (e_go hK18 ?_)
   refine c_false rfl rfl ?_
   refine c_skip (e_in_n (e_go hK16 ?_))
   refine c_region ?_
   refine l_val wn (r_addn rfl rfl (by omega)) rfl ?_
   refine l_val wn (r_move rfl) rfl ?_
   refine l_nil (e_round2 (k + 1) (.slice A5 ((Roll.inT (l.take k) f t).length) cp5) (sc rfl (sc rfl (sc rfl (sc rfl (sc rfl (sc rfl (sc rfl (sc (ji (by omega)) sn)))))))) (fun _ h => by rw [(Roll.inT_succ (a := f) (b := t) hs1).trans (if_neg (by omega))]; exact (h.sel [1, 2, 3, 4, 5, 6, 7, 8, 9] (by decide) rfl)) ?_ ?_)
   · omega
   omega
 have hk1 : l.take k = l := List.take_of_length_le (by omega)
 rw [hk1]
 rw [hk1] at hA5
 refine c_exit (e_then_x (e_loop2_x (e_in_hit (e_go hK12 ?_))))
 refine c_seq fun _ hK19 => ?_
 refine c_seq fun _ hK20 => ?_
 refine c_region ?_
 refine l_val wn (r_lbn 1 [.slice A1 (((Sh.made l ro o).1).series.length) cp1, .slice A2 (((Sh.made l ro o).1).raw.length) cp2, .slice A3 (((Sh.made l ro o).1).fine.length) cp3, .slice A4 (((Sh.made l ro o).1).coarse.length) cp4, .int .i64 (((Sh.made l ro o).1).rawFrom), .int .i64 (((Sh.made l ro o).1).fineFrom), .int .i64 (((Sh.made l ro o).1).fineTo), .int .i64 (((Sh.made l ro o).1).coarseFrom), .int .i64 (((Sh.made l ro o).1).coarseTo)] rfl rfl rfl rfl agg27 inf27) rfl ?_
 refine l_val wn (r_move rfl) rfl ?_
 refine l_val wn (r_move rfl) rfl ?_
 refine l_val wn (r_move rfl) rfl ?_
 refine l_callF wn rfl Try.call12 rfl (fun w1 hM => c_covers _ _ _ _ ((Sh.made l ro o).1) _ q f t (In w1) w1 (fun _ h => h) (hM.slp 2 rfl) (hM.slp 3 rfl) (hM.slp 4 rfl) (hM.slp 5 rfl) (hM.slp 8 rfl)) ?_
 refine l_nil (e_go hK20 ?_)
 refine c_condb rfl (fun h9 => ?_) (fun h9 => ?_)
 · have hpl := Sh.covers_len _ _ _ h9
   have hrd1 := Sh.read_cov hkp.ok h9
   have hce1 := (hkp.covered _ _ _ h9).1
   refine c_seq fun _ hK21 => ?_
   refine c_region ?_
   refine l_val wn (r_lbn 1 [.slice A1 (((Sh.made l ro o).1).series.length) cp1, .slice A2 (((Sh.made l ro o).1).raw.length) cp2, .slice A3 (((Sh.made l ro o).1).fine.length) cp3, .slice A4 (((Sh.made l ro o).1).coarse.length) cp4, .int .i64 (((Sh.made l ro o).1).rawFrom), .int .i64 (((Sh.made l ro o).1).fineFrom), .int .i64 (((Sh.made l ro o).1).fineTo), .int .i64 (((Sh.made l ro o).1).coarseFrom), .int .i64 (((Sh.made l ro o).1).coarseTo)] rfl rfl rfl rfl agg27 inf27) rfl ?_
   refine l_val wn (r_move rfl) rfl ?_
   refine l_callF wn rfl Try.call17 rfl (fun w1 hM => c_read _ _ _ _ ((Sh.made l ro o).1) _ q (In w1) w1 (fun _ h => h) (hM.slp 2 rfl) (hM.slp 3 rfl) (hM.slp 4 rfl) (hM.slp 5 rfl) (hM.slp 8 rfl) (by first | omega | assumption | exact Sh.choose_len _ _ _ | simp)) ?_
   refine l_val wn (r_move rfl) rfl ?_
   refine l_val wn (r_extract rfl rfl) rfl ?_
   refine l_val wn (r_extract rfl rfl) rfl ?_
   refine l_val wn (r_extract rfl rfl) rfl ?_
   refine l_alloc wn inf35 rfl fun b18 => ?_
   refine l_stn 0 wn rfl rfl rfl inf35 rfl rfl rfl ?_
   refine l_val wn (r_assign rfl) rfl ?_
   refine l_val wn (r_assign rfl) rfl ?_
   refine l_nil (e_go hK21 ?_)
   refine c_seq fun _ hK22 => ?_
   refine c_quiet mix (by kernel_rfl) (fun _ h => h.drew) ?_
   refine q_val wn (r_move rfl) rfl ?_
   refine q_val wn (r_neq rfl rfl) rfl ?_
   refine q_val wn (r_move rfl) rfl ?_
   refine q_litf (t := 87) rfl (fun g => g (by rw [hrd1])) ?_
   refine q_val (wg rfl rfl rfl) (r_lbn 0 [.int .i64 (((Sh.read ((Sh.made l ro o).1) q).1).count), .int .i64 (((Sh.read ((Sh.made l ro o).1) q).1).total), .int .i64 (((Sh.read ((Sh.made l ro o).1) q).1).min), .int .i64 (((Sh.read ((Sh.made l ro o).1) q).1).max), .int .i64 (((Sh.read ((Sh.made l ro o).1) q).1).first), .int .i64 (((Sh.read ((Sh.made l ro o).1) q).1).last), .int .i64 (((Sh.read ((Sh.made l ro o).1) q).1).rise)] rfl rfl rfl rfl agg35 inf35) rfl ?_
   refine q_val (wg rfl rfl rfl) (r_move rfl) rfl ?_
   refine q_callF (wg rfl rfl rfl) rfl Try.call34 rfl (fun w1 hM => c_Of _ (Roll.inT l f t) w1 (RowSl encSample hM 1 rfl)) ?_
   refine q_val (wg rfl rfl rfl) (r_neqS (a := ((Sh.read ((Sh.made l ro o).1) q).1)) (b := (Agg.of (Roll.inT l f t))) rfl rfl eqv35) rfl ?_
   refine q_val wn (r_pick rfl rfl) rfl ?_
   refine q_end (e_go hK22 ?_)
   refine c_false rfl (decide_eq_false (fun g => g (by rw [hrd1, hce1]))) ?_
   refine c_skip (e_go hK19 ?_)
   refine c_seq fun _ hK23 => ?_
   refine c_region ?_
   refine l_val wn (r_lbn 2 [.slice A1 (((Sh.made l ro o).1).series.length) cp1, .slice A2 (((Sh.made l ro o).1).raw.length) cp2, .slice A3 (((Sh.made l ro o).1).fine.length) cp3, .slice A4 (((Sh.made l ro o).1).coarse.length) cp4, .int .i64 (((Sh.made l ro o).1).rawFrom), .int .i64 (((Sh.made l ro o).1).fineFrom), .int .i64 (((Sh.made l ro o).1).fineTo), .int .i64 (((Sh.made l ro o).1).coarseFrom), .int .i64 (((Sh.made l ro o).1).coarseTo)] rfl rfl rfl rfl agg27 inf27) rfl ?_
   refine l_val wn (r_move rfl) rfl ?_
   refine l_val wn (r_move rfl) rfl ?_
   refine l_callLT ((Sh.choose ((Sh.made l ro o).1) f t).1) (fun r => .tuple (List.toArray [r, .int .i64 ((Sh.choose ((Sh.made l ro o).1) f t).2)])) wn rfl rfl Try.call14 rfl (fun w1 hM => c_choose _ _ _ _ ((Sh.made l ro o).1) f t (In w1) w1 (fun _ h => h) (hM.slp 3 rfl) (hM.slp 4 rfl) (hM.slp 5 rfl) (hM.slp 6 rfl)) fun A7 cp7 hc3 hm3 hA7 => ?_
   refine l_val wn (r_move rfl) rfl ?_
   refine l_val wn (r_extract rfl rfl) rfl ?_
   refine l_val wn (r_extract rfl rfl) rfl ?_
   refine l_val wn (r_assign rfl) rfl ?_
   refine l_val wn (r_assign rfl) rfl ?_
   refine l_nil (e_go hK23 ?_)
   refine c_seq fun _ hK24 => ?_
   refine c_seq fun _ hK25 => ?_
   refine c_region ?_
   refine l_val wn (r_move rfl) rfl ?_
   refine l_val wn (r_neq rfl rfl) rfl ?_
   refine l_nil (e_go hK25 ?_)
   refine c_cond rfl (fun h10 => ?_) (fun h10 => ?_)
   · refine c_seq fun _ hK26 => ?_
     refine c_region ?_
     refine l_val wn (r_move rfl) rfl ?_
     refine l_val wn (r_eql rfl rfl) rfl ?_
     refine l_val wn (r_assign rfl) rfl ?_
     refine l_nil (e_go hK26 ?_)
     refine c_ret (e_then_r (e_ret1 (.inl rfl) Try.results11 (rv_tmp rfl) fun w1 hM => ?_))
     exact ret_ok (congrArg Value.bool (decide_eq_true (Sh.choose_err hkp.ok (by omega) (by omega) (by omega) h10))) hM
   obtain ⟨_, hcv, _⟩ := Sh.choose_cov (Classical.not_not.1 h10)
   have hrd2 := Sh.read_cov hkp.ok hcv
   have hce2 := (hkp.covered _ _ _ hcv).1
   refine c_skip (e_go hK24 ?_)
   refine c_seq fun _ hK27 => ?_
   refine c_region ?_
   refine l_val wn (r_lbn 3 [.slice A1 (((Sh.made l ro o).1).series.length) cp1, .slice A2 (((Sh.made l ro o).1).raw.length) cp2, .slice A3 (((Sh.made l ro o).1).fine.length) cp3, .slice A4 (((Sh.made l ro o).1).coarse.length) cp4, .int .i64 (((Sh.made l ro o).1).rawFrom), .int .i64 (((Sh.made l ro o).1).fineFrom), .int .i64 (((Sh.made l ro o).1).fineTo), .int .i64 (((Sh.made l ro o).1).coarseFrom), .int .i64 (((Sh.made l ro o).1).coarseTo)] rfl rfl rfl rfl agg27 inf27) rfl ?_
   refine l_val wn (r_move rfl) rfl ?_
   refine l_callF wn rfl Try.call17 rfl (fun w1 hM => c_read _ _ _ _ ((Sh.made l ro o).1) _ ((Sh.choose ((Sh.made l ro o).1) f t).1) (In w1) w1 (fun _ h => h) (hM.slp 4 rfl) (hM.slp 5 rfl) (hM.slp 6 rfl) (hM.slp 7 rfl) (RowSl encPart hM 0 rfl) (by first | omega | assumption | exact Sh.choose_len _ _ _ | simp)) ?_
   refine l_val wn (r_move rfl) rfl ?_
   refine l_val wn (r_extract rfl rfl) rfl ?_
   refine l_val wn (r_extract rfl rfl) rfl ?_
   refine l_val wn (r_extract rfl rfl) rfl ?_
   refine l_alloc wn inf35 rfl fun b23 => ?_
   refine l_stn 0 wn rfl rfl rfl inf35 rfl rfl rfl ?_
   refine l_val wn (r_assign rfl) rfl ?_
   refine l_val wn (r_assign rfl) rfl ?_
   refine l_nil (e_go hK27 ?_)
   refine c_seq fun _ hK28 => ?_
   refine c_quiet mix (by kernel_rfl) (fun _ h => h.drew) ?_
   refine q_val wn (r_move rfl) rfl ?_
   refine q_val wn (r_eql rfl rfl) rfl ?_
   refine q_val wn (r_move rfl) rfl ?_
   refine q_litt (t := 113) rfl (by rw [hrd2]) ?_
   refine q_val (wg rfl rfl rfl) (r_lbn 0 [.int .i64 (((Sh.read ((Sh.made l ro o).1) ((Sh.choose ((Sh.made l ro o).1) f t).1)).1).count), .int .i64 (((Sh.read ((Sh.made l ro o).1) ((Sh.choose ((Sh.made l ro o).1) f t).1)).1).total), .int .i64 (((Sh.read ((Sh.made l ro o).1) ((Sh.choose ((Sh.made l ro o).1) f t).1)).1).min), .int .i64 (((Sh.read ((Sh.made l ro o).1) ((Sh.choose ((Sh.made l ro o).1) f t).1)).1).max), .int .i64 (((Sh.read ((Sh.made l ro o).1) ((Sh.choose ((Sh.made l ro o).1) f t).1)).1).first), .int .i64 (((Sh.read ((Sh.made l ro o).1) ((Sh.choose ((Sh.made l ro o).1) f t).1)).1).last), .int .i64 (((Sh.read ((Sh.made l ro o).1) ((Sh.choose ((Sh.made l ro o).1) f t).1)).1).rise)] rfl rfl rfl rfl agg35 inf35) rfl ?_
   refine q_val (wg rfl rfl rfl) (r_move rfl) rfl ?_
   refine q_callF (wg rfl rfl rfl) rfl Try.call34 rfl (fun w1 hM => c_Of _ (Roll.inT l f t) w1 (RowSl encSample hM 3 rfl)) ?_
   refine q_val (wg rfl rfl rfl) (r_eqlS (a := ((Sh.read ((Sh.made l ro o).1) ((Sh.choose ((Sh.made l ro o).1) f t).1)).1)) (b := (Agg.of (Roll.inT l f t))) rfl rfl eqv35) rfl ?_
   refine q_val wn (r_pick rfl rfl) rfl ?_
   refine q_val wn (r_assign rfl) rfl ?_
   refine q_end (e_go hK28 ?_)
   refine c_ret (e_ret1 (.inl rfl) Try.results11 (rv_tmp rfl) fun w1 hM => ?_)
   exact ret_ok (congrArg Value.bool (decide_eq_true (by first | (rw [hrd2, hce2]; done) | (rw [hrd2])))) hM
 refine c_skip (e_go hK19 ?_)
 refine c_seq fun _ hK29 => ?_
 refine c_region ?_
 refine l_val wn (r_lbn 1 [.slice A1 (((Sh.made l ro o).1).series.length) cp1, .slice A2 (((Sh.made l ro o).1).raw.length) cp2, .slice A3 (((Sh.made l ro o).1).fine.length) cp3, .slice A4 (((Sh.made l ro o).1).coarse.length) cp4, .int .i64 (((Sh.made l ro o).1).rawFrom), .int .i64 (((Sh.made l ro o).1).fineFrom), .int .i64 (((Sh.made l ro o).1).fineTo), .int .i64 (((Sh.made l ro o).1).coarseFrom), .int .i64 (((Sh.made l ro o).1).coarseTo)] rfl rfl rfl rfl agg27 inf27) rfl ?_
 refine l_val wn (r_move rfl) rfl ?_
 refine l_val wn (r_move rfl) rfl ?_
 refine l_callLT ((Sh.choose ((Sh.made l ro o).1) f t).1) (fun r => .tuple (List.toArray [r, .int .i64 ((Sh.choose ((Sh.made l ro o).1) f t).2)])) wn rfl rfl Try.call14 rfl (fun w1 hM => c_choose _ _ _ _ ((Sh.made l ro o).1) f t (In w1) w1 (fun _ h => h) (hM.slp 2 rfl) (hM.slp 3 rfl) (hM.slp 4 rfl) (hM.slp 5 rfl)) fun A8 cp8 hc4 hm4 hA8 => ?_
 refine l_val wn (r_move rfl) rfl ?_
 refine l_val wn (r_extract rfl rfl) rfl ?_
 refine l_val wn (r_extract rfl rfl) rfl ?_
 refine l_val wn (r_assign rfl) rfl ?_
 refine l_val wn (r_assign rfl) rfl ?_
 refine l_nil (e_go hK29 ?_)
 refine c_seq fun _ hK30 => ?_
 refine c_seq fun _ hK31 => ?_
 refine c_region ?_
 refine l_val wn (r_move rfl) rfl ?_
 refine l_val wn (r_neq rfl rfl) rfl ?_
 refine l_nil (e_go hK31 ?_)
 refine c_cond rfl (fun h11 => ?_) (fun h11 => ?_)
 · refine c_seq fun _ hK32 => ?_
   refine c_region ?_
   refine l_val wn (r_move rfl) rfl ?_
   refine l_val wn (r_eql rfl rfl) rfl ?_
   refine l_val wn (r_assign rfl) rfl ?_
   refine l_nil (e_go hK32 ?_)
   refine c_ret (e_then_r (e_ret1 (.inl rfl) Try.results11 (rv_tmp rfl) fun w1 hM => ?_))
   exact ret_ok (congrArg Value.bool (decide_eq_true (Sh.choose_err hkp.ok (by omega) (by omega) (by omega) h11))) hM
 obtain ⟨_, hcv, _⟩ := Sh.choose_cov (Classical.not_not.1 h11)
 have hrd2 := Sh.read_cov hkp.ok hcv
 have hce2 := (hkp.covered _ _ _ hcv).1
 refine c_skip (e_go hK30 ?_)
 refine c_seq fun _ hK33 => ?_
 refine c_region ?_
 refine l_val wn (r_lbn 2 [.slice A1 (((Sh.made l ro o).1).series.length) cp1, .slice A2 (((Sh.made l ro o).1).raw.length) cp2, .slice A3 (((Sh.made l ro o).1).fine.length) cp3, .slice A4 (((Sh.made l ro o).1).coarse.length) cp4, .int .i64 (((Sh.made l ro o).1).rawFrom), .int .i64 (((Sh.made l ro o).1).fineFrom), .int .i64 (((Sh.made l ro o).1).fineTo), .int .i64 (((Sh.made l ro o).1).coarseFrom), .int .i64 (((Sh.made l ro o).1).coarseTo)] rfl rfl rfl rfl agg27 inf27) rfl ?_
 refine l_val wn (r_move rfl) rfl ?_
 refine l_callF wn rfl Try.call17 rfl (fun w1 hM => c_read _ _ _ _ ((Sh.made l ro o).1) _ ((Sh.choose ((Sh.made l ro o).1) f t).1) (In w1) w1 (fun _ h => h) (hM.slp 3 rfl) (hM.slp 4 rfl) (hM.slp 5 rfl) (hM.slp 6 rfl) (RowSl encPart hM 0 rfl) (by first | omega | assumption | exact Sh.choose_len _ _ _ | simp)) ?_
 refine l_val wn (r_move rfl) rfl ?_
 refine l_val wn (r_extract rfl rfl) rfl ?_
 refine l_val wn (r_extract rfl rfl) rfl ?_
 refine l_val wn (r_extract rfl rfl) rfl ?_
 refine l_alloc wn inf35 rfl fun b23 => ?_
 refine l_stn 0 wn rfl rfl rfl inf35 rfl rfl rfl ?_
 refine l_val wn (r_assign rfl) rfl ?_
 refine l_val wn (r_assign rfl) rfl ?_
 refine l_nil (e_go hK33 ?_)
 refine c_seq fun _ hK34 => ?_
 refine c_quiet mix (by kernel_rfl) (fun _ h => h.drew) ?_
 refine q_val wn (r_move rfl) rfl ?_
 refine q_val wn (r_eql rfl rfl) rfl ?_
 refine q_val wn (r_move rfl) rfl ?_
 refine q_litt (t := 113) rfl (by rw [hrd2]) ?_
 refine q_val (wg rfl rfl rfl) (r_lbn 0 [.int .i64 (((Sh.read ((Sh.made l ro o).1) ((Sh.choose ((Sh.made l ro o).1) f t).1)).1).count), .int .i64 (((Sh.read ((Sh.made l ro o).1) ((Sh.choose ((Sh.made l ro o).1) f t).1)).1).total), .int .i64 (((Sh.read ((Sh.made l ro o).1) ((Sh.choose ((Sh.made l ro o).1) f t).1)).1).min), .int .i64 (((Sh.read ((Sh.made l ro o).1) ((Sh.choose ((Sh.made l ro o).1) f t).1)).1).max), .int .i64 (((Sh.read ((Sh.made l ro o).1) ((Sh.choose ((Sh.made l ro o).1) f t).1)).1).first), .int .i64 (((Sh.read ((Sh.made l ro o).1) ((Sh.choose ((Sh.made l ro o).1) f t).1)).1).last), .int .i64 (((Sh.read ((Sh.made l ro o).1) ((Sh.choose ((Sh.made l ro o).1) f t).1)).1).rise)] rfl rfl rfl rfl agg35 inf35) rfl ?_
 refine q_val (wg rfl rfl rfl) (r_move rfl) rfl ?_
 refine q_callF (wg rfl rfl rfl) rfl Try.call34 rfl (fun w1 hM => c_Of _ (Roll.inT l f t) w1 (RowSl encSample hM 2 rfl)) ?_
 refine q_val (wg rfl rfl rfl) (r_eqlS (a := ((Sh.read ((Sh.made l ro o).1) ((Sh.choose ((Sh.made l ro o).1) f t).1)).1)) (b := (Agg.of (Roll.inT l f t))) rfl rfl eqv35) rfl ?_
 refine q_val wn (r_pick rfl rfl) rfl ?_
 refine q_val wn (r_assign rfl) rfl ?_
 refine q_end (e_go hK34 ?_)
 refine c_ret (e_ret1 (.inl rfl) Try.results11 (rv_tmp rfl) fun w1 hM => ?_)
 exact ret_ok (congrArg Value.bool (decide_eq_true (by first | (rw [hrd2, hce2]; done) | (rw [hrd2])))) hM

end Go.Proofs.Ytnbkennlmnnbeaa
