/-
  Walks: what each function hands back.
-/
import Derived.Test.YteogkbpcibnifaaWagg
import Derived.Test.YteogkbpcibnifaaPRise
namespace Go.Proofs.Yteogkbpcibnifaa
open Ex
set_option linter.unusedVariables false
set_option linter.unusedSimpArgs false
theorem c_riseOf (lv : Value) (l : List Int) (w : World) (hl : FlatSl (In w) 1 intE lv l w)  :
    Calls Try.prog 22 #[lv] w (RetLT w 29 2 sampleE (Agg.riseOf l).1 (fun r => .tuple [r, .int .i64 (Agg.riseOf l).2].toArray)) := by
  obtain ⟨lA, lc, rfl, hlc, hlm, hlA⟩ := hl.form
  refine fstart (N := 37) (vals := [.slice lA l.length lc]) (S := Mem w no [slO (In w) 1 intE (.slice lA l.length lc) l]) Try.func22 rfl rfl rfl (Mem.ofDats (dc (dl hl) dn)) ?_
  refine c_seq fun K1 hK1 => ?_
  refine c_region ?_
  refine l_nilRow (sampleE : Sample → List Value) 29 2 ?_
  refine l_val wn (r_assign rfl) rfl ?_
  refine l_val wn (r_assign rfl) rfl ?_
  refine l_nil (e_go hK1 ?_)
  refine c_seq fun K2 hK2 => ?_
  refine c_region ?_
  refine l_nilRow (sampleE : Sample → List Value) 29 2 ?_
  refine l_val wn (r_assign rfl) rfl ?_
  refine l_nil (e_go hK2 ?_)
  refine c_seq fun K3 hK3 => ?_
  refine c_region ?_
  refine l_val wn (r_assign rfl) rfl ?_
  refine l_nil (e_go hK3 ?_)
  refine c_seq fun K4 hK4 => ?_
  refine c_seq fun K5 hK5 => ?_
  refine c_region ?_
  refine l_val wn (r_move rfl) rfl ?_
  refine l_val wn (r_len rfl Try.underlying39) rfl ?_
  refine l_val wn (r_move rfl) rfl ?_
  refine l_nil (e_go hK5 ?_)
  refine c_block ?_
  refine c_loop2 (fun (k : Nat) (vr : Value) => [(4, vr), (5, .int .i64 (Agg.isum (l.take k))), (8, .slice lA l.length lc), (9, .int .i64 (l.length : Int)), (10, .int .i64 (k : Int))]) (fun (k : Nat) (vr : Value) => [Row vr 29 2 sampleE (Agg.outs (l.take k)), Row (.slice none 0 0) 29 2 sampleE ([] : List Sample), slO (In w) 1 intE (.slice lA l.length lc) l]) (fun (k : Nat) (vr : Value) => k ≤ l.length ∧ k ≤ 1001 ∧ ∀ x ∈ l.take k, 0 ≤ x ∧ x ≤ 1000) (fun (k : Nat) (vr : Value) => l.length - k) 0 (.slice none 0 0) (sc rfl (sc (ji (by first | omega | exact (Agg.isum_succ hs1).symm | rfl)) (sc rfl (sc rfl (sc (ji (by first | omega | exact (Agg.isum_succ hs1).symm | rfl)) sn))))) (fun _ h => h) ?_ (fun k vr hI1 => ?_)
  · simp
  ·
    have hb := Agg.isum_bound _ hI1.2.2
    rw [show (l.take k).length = k by simp; omega] at hb
    have hln := Agg.outs_len (l.take k)
    rw [show (l.take k).length = k by simp; omega] at hln
    refine c_open 0 (l := (Agg.outs (l.take k))) rfl fun A1 cp1 hv1 hc1 hm1 hA1 => ?_
    subst hv1
    refine c_seq fun K6 hK6 => ?_
    refine c_region ?_
    refine l_val wn (r_lss rfl rfl) rfl ?_
    refine l_nil (e_go hK6 ?_)
    refine c_seq fun K7 hK7 => ?_
    refine c_cond rfl (fun h1 => ?_) (fun h1 => ?_)
    ·
      refine c_skip (e_go hK7 ?_)
      refine c_seq fun K8 hK8 => ?_
      refine c_block ?_
      refine c_seq fun K9 hK9 => ?_
      refine c_region ?_
      refine l_val wn (r_move rfl) rfl ?_
      obtain ⟨ad1, hd1⟩ := hlA (ne_nil (i := k) (by first | omega | decide | (simp only [List.length_cons, List.length_nil, List.length_append, List.length_take, List.length_set]; omega)))
      refine l_val wn (r_ia (i := k) rfl hd1 rfl (by omega) (by first | omega | decide | (simp only [List.length_cons, List.length_nil, List.length_append, List.length_take, List.length_set]; omega)) Try.underlying39 inf3) rfl ?_
      obtain ⟨s1, hs1⟩ : ∃ x, l[k]? = some x := ⟨_, List.getElem?_eq_getElem (by first | omega | decide | (simp only [List.length_cons, List.length_nil, List.length_append, List.length_take, List.length_set]; omega))⟩
      refine l_val wn (r_el 2 rfl rfl hd1 hs1 rfl flat3) rfl ?_
      refine l_val wn (r_assign rfl) rfl ?_
      refine l_val wn (r_assign rfl) rfl ?_
      refine l_nil (e_go hK9 ?_)
      refine c_seq fun K10 hK10 => ?_
      refine c_cut [(4, .slice A1 ((Agg.outs (l.take k)).length) cp1), (5, .int .i64 (Agg.isum (l.take k))), (6, .int .i64 (k : Int)), (7, .int .i64 s1), (8, .slice lA l.length lc), (9, .int .i64 (l.length : Int)), (10, .int .i64 (k : Int)), (24, .bool (decide ((s1 < 0) ∨ ((1000 < s1) ∨ (1000 < (k : Int))))))] (Mem w no [Row (.slice A1 ((Agg.outs (l.take k)).length) cp1) 29 2 sampleE (Agg.outs (l.take k)), Row (.slice none 0 0) 29 2 sampleE ([] : List Sample), slO (In w) 1 intE (.slice lA l.length lc) l]) (fun K11 hK11 => ?_) ?_
      ·
        refine c_region ?_
        refine l_val wn (r_move rfl) rfl ?_
        refine l_val wn (r_lss rfl rfl) rfl ?_
        refine l_val wn (r_move rfl) rfl ?_
        refine l_case (t := 17) rfl (fun h2 => ?_) (fun h2 => ?_)
        ·
          refine l_skip (wg rfl rfl rfl) rfl ?_
          refine l_skip (wg rfl rfl rfl) rfl ?_
          refine l_val wn (r_pick rfl rfl) rfl ?_
          refine l_val wn (r_move rfl) rfl ?_
          refine l_skip (wg rfl rfl rfl) rfl ?_
          refine l_skip (wg rfl rfl rfl) rfl ?_
          refine l_val wn (r_pick rfl rfl) rfl ?_
          refine l_nil (e_cut hK11 (sc rfl (sc rfl (sc rfl (sc rfl (sc rfl (sc rfl (sc rfl (sc (jt (Or.inl h2)) sn)))))))) (fun _ h => h))
        ·
          refine l_val (wg rfl rfl rfl) (r_move rfl) rfl ?_
          refine l_val (wg rfl rfl rfl) (r_gtr rfl rfl) rfl ?_
          refine l_val wn (r_pick rfl rfl) rfl ?_
          refine l_val wn (r_move rfl) rfl ?_
          refine l_case (t := 21) rfl (fun h3 => ?_) (fun h3 => ?_)
          ·
            refine l_skip (wg rfl rfl rfl) rfl ?_
            refine l_skip (wg rfl rfl rfl) rfl ?_
            refine l_val wn (r_pick rfl rfl) rfl ?_
            refine l_nil (e_cut hK11 (sc rfl (sc rfl (sc rfl (sc rfl (sc rfl (sc rfl (sc rfl (sc (jt (Or.inr (Or.inl h3))) sn)))))))) (fun _ h => h))
          ·
            refine l_val (wg rfl rfl rfl) (r_move rfl) rfl ?_
            refine l_val (wg rfl rfl rfl) (r_gtr rfl rfl) rfl ?_
            refine l_val wn (r_pick rfl rfl) rfl ?_
            refine l_nil (e_cut hK11 (sc rfl (sc rfl (sc rfl (sc rfl (sc rfl (sc rfl (sc rfl (sc (jp (iff_or_right h2 (iff_or_right h3 Iff.rfl))) sn)))))))) (fun _ h => h))
      ·
        refine c_cond rfl (fun h4 => ?_) (fun h4 => ?_)
        ·
          refine c_seq fun K12 hK12 => ?_
          refine c_region ?_
          refine l_nilRow (sampleE : Sample → List Value) 29 2 ?_
          refine l_val wn (r_assign rfl) rfl ?_
          refine l_val wn (r_assign rfl) rfl ?_
          refine l_nil (e_go hK12 ?_)
          refine c_ret (e_then_r (e_in_r (e_then_r (e_loop2_r (e_in_r (e_then_r (e_ret2 (.inl rfl) Try.results22 (rv_tmp rfl) (rv_tmp rfl) fun w1 hM => ?_)))))))
          exact hM.retLT 0 rfl (by rw [Agg.riseOf_stop hs1 (by omega)]) (by first | (rw [Agg.riseOf_stop hs1 (by omega)]; done) | (rw [Agg.riseOf_stop hs1 (by omega)]; rfl))
        ·
          refine c_skip (e_go hK10 ?_)
          refine c_seq fun K13 hK13 => ?_
          refine c_region ?_
          refine l_val wn (r_move rfl) rfl ?_
          refine l_val wn (r_move rfl) rfl ?_
          refine l_val wn (r_addn rfl rfl (by omega)) rfl ?_
          refine l_val wn (r_assign rfl) rfl ?_
          refine l_nil (e_go hK13 ?_)
          refine c_region ?_
          refine l_val wn (r_move rfl) rfl ?_
          refine l_val wn (r_move rfl) rfl ?_
          refine l_val wn (r_move rfl) rfl ?_
          refine l_val wn (r_build [.int .i64 (k : Int), .int .i64 ((Agg.isum (l.take k)) + s1)] pl29 inf29 rfl rfl) rfl ?_
          refine l_bsL sampleE ([(⟨(k : Int), ((Agg.isum (l.take k)) + s1)⟩ : Sample)] : List Sample) wn Try.underlying22 inf29 rfl rfl rfl rfl (by decide) (by decide) rfl fun b32 => ?_
          refine l_app 1 (Agg.outs (l.take k)) ([(⟨(k : Int), ((Agg.isum (l.take k)) + s1)⟩ : Sample)] : List Sample) encSample wn rfl rfl rfl (fun _ hM => (RowSl encSample hM 0 rfl)) Try.underlying22 inf29 rfl rfl (by simp only [List.length_append, List.length_cons, List.length_nil]; omega) rfl fun A2 cp2 hc2 hm2 hA2 => ?_
          refine l_val wn (r_assign rfl) rfl ?_
          refine l_nil (e_in_n (e_go hK8 ?_))
          refine c_region ?_
          refine l_val wn (r_addn rfl rfl (by omega)) rfl ?_
          refine l_val wn (r_move rfl) rfl ?_
          refine l_nil (e_round2 (k + 1) (.slice A2 (((Agg.outs (l.take k)) ++ ([(⟨(k : Int), ((Agg.isum (l.take k)) + s1)⟩ : Sample)] : List Sample)).length) cp2) (sc rfl (sc (ji (by first | omega | exact (Agg.isum_succ hs1).symm | rfl)) (sc rfl (sc rfl (sc (ji (by first | omega | exact (Agg.isum_succ hs1).symm | rfl)) sn))))) (fun _ h => by rw [Agg.outs_succ hs1]; exact (h.sel [1, 2, 3] (by decide) rfl)) ?_ ?_)
          · exact ⟨by omega, by omega, all_take hs1 hI1.2.2 (by omega)⟩
          · omega
    ·
      refine c_exit (e_then_x (e_loop2_x (e_in_hit (e_go hK4 ?_))))
      refine c_seq fun K14 hK14 => ?_
      refine c_region ?_
      refine l_val wn (r_move rfl) rfl ?_
      refine l_val wn (r_move rfl) rfl ?_
      refine l_val wn (r_assign rfl) rfl ?_
      refine l_val wn (r_assign rfl) rfl ?_
      refine l_nil (e_go hK14 ?_)
      refine c_ret (e_ret2 (.inl rfl) Try.results22 (rv_tmp rfl) (rv_tmp rfl) fun w1 hM => ?_)
      exact hM.retLT 0 rfl (by rw [Agg.riseOf_done hI1.2.1 hI1.2.2 hI1.1 (by omega)]) (by rw [Agg.riseOf_done hI1.2.1 hI1.2.2 hI1.1 (by omega)])

theorem law_AggRise (av : Value) (a : List Int) (bv : Value) (b : List Int) (w : World) (ha : FlatSl (In w) 1 intE av a w) (hb : FlatSl (In w) 1 intE bv b w)  :
    Calls Try.prog 7 #[av, bv] w (Ret w (.bool true)) := by
  obtain ⟨aA, ac, rfl, hac, ham, haA⟩ := ha.form
  obtain ⟨bA, bc, rfl, hbc, hbm, hbA⟩ := hb.form
  refine fstart (N := 77) (vals := [.slice aA a.length ac, .slice bA b.length bc]) (S := Mem w no [slO (In w) 1 intE (.slice aA a.length ac) a, slO (In w) 1 intE (.slice bA b.length bc) b]) Try.func7 rfl rfl rfl (Mem.ofDats (dc (dl ha) (dc (dl hb) dn))) ?_
  refine c_seq fun K1 hK1 => ?_
  refine c_region ?_
  refine l_val wn (r_assign rfl) rfl ?_
  refine l_nil (e_go hK1 ?_)
  refine c_seq fun K2 hK2 => ?_
  refine c_seq fun K3 hK3 => ?_
  refine c_region ?_
  refine l_callF wn rfl Try.call21 rfl (fun w1 hM => c_alive2  w1) ?_
  refine l_val wn (r_notb rfl) rfl ?_
  refine l_nil (e_go hK3 ?_)
  refine c_false rfl rfl ?_
  refine c_skip (e_go hK2 ?_)
  refine c_seq fun K4 hK4 => ?_
  refine c_region ?_
  refine l_val wn (r_assign rfl) rfl ?_
  refine l_nil (e_go hK4 ?_)
  refine c_seq fun K5 hK5 => ?_
  refine c_region ?_
  refine l_val wn (r_move rfl) rfl ?_
  refine l_val wn (r_move rfl) rfl ?_
  refine l_callLT ((Agg.riseOf a).1) (fun r => .tuple [r, .int .i64 ((Agg.riseOf a).2)].toArray) wn rfl rfl Try.call22 rfl (fun w1 hM => c_riseOf _ a w1 (hM.sl 0 rfl)) fun A1 cp1 hc1 hm1 hA1 => ?_
  refine l_val wn (r_move rfl) rfl ?_
  refine l_val wn (r_extract rfl rfl) rfl ?_
  refine l_val wn (r_extract rfl rfl) rfl ?_
  refine l_val wn (r_assign rfl) rfl ?_
  refine l_val wn (r_assign rfl) rfl ?_
  refine l_nil (e_go hK5 ?_)
  refine c_seq fun K6 hK6 => ?_
  refine c_region ?_
  refine l_val wn (r_move rfl) rfl ?_
  refine l_val wn (r_move rfl) rfl ?_
  refine l_callLT ((Agg.riseOf b).1) (fun r => .tuple [r, .int .i64 ((Agg.riseOf b).2)].toArray) wn rfl rfl Try.call22 rfl (fun w1 hM => c_riseOf _ b w1 (hM.sl 2 rfl)) fun A2 cp2 hc2 hm2 hA2 => ?_
  refine l_val wn (r_move rfl) rfl ?_
  refine l_val wn (r_extract rfl rfl) rfl ?_
  refine l_val wn (r_extract rfl rfl) rfl ?_
  refine l_val wn (r_assign rfl) rfl ?_
  refine l_val wn (r_assign rfl) rfl ?_
  refine l_nil (e_go hK6 ?_)
  refine c_seq fun K7 hK7 => ?_
  refine c_seq fun K8 hK8 => ?_
  refine c_region ?_
  refine l_val wn (r_move rfl) rfl ?_
  refine l_val wn (r_len rfl Try.underlying22) rfl ?_
  refine l_val wn (r_eql rfl rfl) rfl ?_
  refine l_val wn (r_move rfl) rfl ?_
  refine l_case (t := 27) rfl (fun h1 => ?_) (fun h1 => ?_)
  ·
    refine l_skip (wg rfl rfl rfl) rfl ?_
    refine l_skip (wg rfl rfl rfl) rfl ?_
    refine l_skip (wg rfl rfl rfl) rfl ?_
    refine l_val wn (r_pick rfl rfl) rfl ?_
    refine l_val wn (r_move rfl) rfl ?_
    refine l_skip (wg rfl rfl rfl) rfl ?_
    refine l_skip (wg rfl rfl rfl) rfl ?_
    refine l_skip (wg rfl rfl rfl) rfl ?_
    refine l_skip (wg rfl rfl rfl) rfl ?_
    refine l_skip (wu rfl rfl) rfl ?_
    refine l_skip (wu rfl rfl) rfl ?_
    refine l_skip (wu rfl rfl) rfl ?_
    refine l_skip (wu rfl rfl) rfl ?_
    refine l_skip (wu rfl rfl) rfl ?_
    refine l_skip (wu rfl rfl) rfl ?_
    refine l_skip (wg rfl rfl rfl) rfl ?_
    refine l_val wn (r_pick rfl rfl) rfl ?_
    refine l_nil (e_go hK8 ?_)
    refine c_true rfl rfl ?_
    refine c_seq fun K9 hK9 => ?_
    refine c_region ?_
    refine l_val wn (r_assign rfl) rfl ?_
    refine l_nil (e_go hK9 ?_)
    refine c_ret (e_then_r (e_ret1 (.inl rfl) Try.results7 (rv_tmp rfl) fun w1 hM => ?_))
    exact ret_ok rfl hM
  ·
    refine l_val (wg rfl rfl rfl) (r_move rfl) rfl ?_
    refine l_val (wg rfl rfl rfl) (r_len rfl Try.underlying22) rfl ?_
    refine l_val (wg rfl rfl rfl) (r_eql rfl rfl) rfl ?_
    refine l_val wn (r_pick rfl rfl) rfl ?_
    refine l_val wn (r_move rfl) rfl ?_
    refine l_case (t := 32) rfl (fun h2 => ?_) (fun h2 => ?_)
    ·
      refine l_skip (wg rfl rfl rfl) rfl ?_
      refine l_skip (wg rfl rfl rfl) rfl ?_
      refine l_skip (wg rfl rfl rfl) rfl ?_
      refine l_skip (wg rfl rfl rfl) rfl ?_
      refine l_skip (wu rfl rfl) rfl ?_
      refine l_skip (wu rfl rfl) rfl ?_
      refine l_skip (wu rfl rfl) rfl ?_
      refine l_skip (wu rfl rfl) rfl ?_
      refine l_skip (wu rfl rfl) rfl ?_
      refine l_skip (wu rfl rfl) rfl ?_
      refine l_skip (wg rfl rfl rfl) rfl ?_
      refine l_val wn (r_pick rfl rfl) rfl ?_
      refine l_nil (e_go hK8 ?_)
      refine c_true rfl rfl ?_
      refine c_seq fun K10 hK10 => ?_
      refine c_region ?_
      refine l_val wn (r_assign rfl) rfl ?_
      refine l_nil (e_go hK10 ?_)
      refine c_ret (e_then_r (e_ret1 (.inl rfl) Try.results7 (rv_tmp rfl) fun w1 hM => ?_))
      exact ret_ok rfl hM
    ·
      have na : (Agg.riseOf a).1 ≠ [] := by intro e; rw [e] at h1; simp at h1
      have nb : (Agg.riseOf b).1 ≠ [] := by intro e; rw [e] at h2; simp at h2
      have pa := List.length_pos_iff.2 na
      have pb := List.length_pos_iff.2 nb
      have la := (Agg.okRise_of na).1.1
      have lb := (Agg.okRise_of nb).1.1
      obtain ⟨xa, hxa⟩ : ∃ x, (Agg.riseOf a).1[0]? = some x := ⟨_, List.getElem?_eq_getElem pa⟩
      obtain ⟨xb, hxb⟩ : ∃ x, (Agg.riseOf b).1[0]? = some x := ⟨_, List.getElem?_eq_getElem pb⟩
      have ga := Agg.riseOf_one na hxa
      have gb := Agg.riseOf_one nb hxb
      refine l_val (wg rfl rfl rfl) (r_move rfl) rfl ?_
      refine l_val (wg rfl rfl rfl) (r_move rfl) rfl ?_
      refine l_val (wg rfl rfl rfl) (r_geq rfl rfl) rfl ?_
      refine l_val (wg rfl rfl rfl) (r_move rfl) rfl ?_
      refine l_case (t := 36) rfl (fun h3 => ?_) (fun h3 => ?_)
      ·
        refine l_val (wg rfl rfl rfl) (r_move rfl) rfl ?_
        obtain ⟨ad1, hd1⟩ := hA2 (ne_nil (i := 0) (by first | omega | decide | (simp only [List.length_cons, List.length_nil, List.length_append, List.length_take, List.length_set]; omega)))
        refine l_val (wg rfl rfl rfl) (r_ia (i := 0) rfl hd1 rfl (by omega) (by first | omega | decide | (simp only [List.length_cons, List.length_nil, List.length_append, List.length_take, List.length_set]; omega)) Try.underlying22 inf29) rfl ?_
        refine l_val (wg rfl rfl rfl) (r_fe rfl fld29_1) rfl ?_
        obtain ⟨s1, hs1⟩ : ∃ x, ((Agg.riseOf b).1)[0]? = some x := ⟨_, List.getElem?_eq_getElem (by first | omega | decide | (simp only [List.length_cons, List.length_nil, List.length_append, List.length_take, List.length_set]; omega))⟩
        obtain rfl : xb = s1 := Option.some.inj (hxb.symm.trans hs1)
        refine l_val (wg rfl rfl rfl) (r_rl 0 encSample rfl rfl hd1 hs1 rfl flat3) rfl ?_
        refine l_val (wg rfl rfl rfl) (r_move rfl) rfl ?_
        refine l_val (wg rfl rfl rfl) (r_geq rfl rfl) rfl ?_
        refine l_val (wg rfl rfl rfl) (r_pick rfl rfl) rfl ?_
        refine l_val wn (r_pick rfl rfl) rfl ?_
        refine l_nil (e_go hK8 ?_)
        refine c_cond rfl (fun h4 => ?_) (fun h4 => ?_)
        ·
          refine c_seq fun K11 hK11 => ?_
          refine c_region ?_
          refine l_val wn (r_assign rfl) rfl ?_
          refine l_nil (e_go hK11 ?_)
          refine c_ret (e_then_r (e_ret1 (.inl rfl) Try.results7 (rv_tmp rfl) fun w1 hM => ?_))
          exact ret_ok rfl hM
        ·
          refine c_skip (e_go hK7 ?_)
          refine c_seq fun K12 hK12 => ?_
          refine c_seq fun K13 hK13 => ?_
          refine c_quiet mix (by kernel_rfl) (fun _ h => h.drew) ?_
          refine q_val wn (r_move rfl) rfl ?_
          refine q_callF wn rfl Try.call13 rfl (fun w1 hM => c_Of _ ((Agg.riseOf a).1) w1 (RowSl encSample hM 1 rfl)) ?_
          refine q_val wn (r_fieldv rfl fld24_6 fty24_6 flat3 rfl) rfl ?_
          refine q_val wn (r_move rfl) rfl ?_
          refine q_val wn (r_move rfl) rfl ?_
          obtain ⟨ad2, hd2⟩ := hA1 (ne_nil (i := 0) (by first | omega | decide | (simp only [List.length_cons, List.length_nil, List.length_append, List.length_take, List.length_set]; omega)))
          refine q_val wn (r_ia (i := 0) rfl hd2 rfl (by omega) (by first | omega | decide | (simp only [List.length_cons, List.length_nil, List.length_append, List.length_take, List.length_set]; omega)) Try.underlying22 inf29) rfl ?_
          refine q_val wn (r_fe rfl fld29_1) rfl ?_
          obtain ⟨s2, hs2⟩ : ∃ x, ((Agg.riseOf a).1)[0]? = some x := ⟨_, List.getElem?_eq_getElem (by first | omega | decide | (simp only [List.length_cons, List.length_nil, List.length_append, List.length_take, List.length_set]; omega))⟩
          obtain rfl : xa = s2 := Option.some.inj (hxa.symm.trans hs2)
          refine q_val wn (r_rl 1 encSample rfl rfl hd2 hs2 rfl flat3) rfl ?_
          refine q_val wn (r_subn rfl rfl (by omega)) rfl ?_
          refine q_val wn (r_neq rfl rfl) rfl ?_
          refine q_end (e_go hK13 ?_)
          refine c_cond rfl (fun h5 => ?_) (fun h5 => ?_)
          ·
            refine c_seq fun K14 hK14 => ?_
            refine c_region ?_
            refine l_val wn (r_assign rfl) rfl ?_
            refine l_nil (e_go hK14 ?_)
            refine c_ret (e_then_r (e_ret1 (.inl rfl) Try.results7 (rv_tmp rfl) fun w1 hM => ?_))
            exact absurd ga.1 h5
          ·
            refine c_skip (e_go hK12 ?_)
            refine c_seq fun K15 hK15 => ?_
            refine c_nodes (Mem w no [Row (.slice A2 (((Agg.riseOf b).1).length) cp2) 29 2 sampleE ((Agg.riseOf b).1), slO (In w) 1 intE (.slice aA a.length ac) a, slO (In w) 1 intE (.slice bA b.length bc) b]) mix (fun _ h => h.drew) rfl ?_
            refine n_run (f := 11) [0, 1, 2, 3, 4, 5, 6, 7, 8, 12, 13, 18] rfl rfl (by kernel_rfl) (by kernel_rfl) (fun _ h => (h.sel [0, 2, 3] (by decide) rfl)) fun KS hKS => ?_
            refine s_val wn (r_move rfl) rfl ?_
            refine s_val wn (r_ia (i := 0) rfl hd1 rfl (by omega) (by first | omega | decide | (simp only [List.length_cons, List.length_nil, List.length_append, List.length_take, List.length_set]; omega)) Try.underlying22 inf29) rfl ?_
            refine s_val wn (r_fe rfl fld29_1) rfl ?_
            refine s_val wn (r_rl 0 encSample rfl rfl hd1 hs1 rfl flat3) rfl ?_
            refine s_val wn (r_move rfl) rfl ?_
            refine s_val wn (r_geq rfl rfl) rfl ?_
            refine s_val wn (r_move rfl) rfl ?_
            refine s_litf (t := 61) rfl h4 ?_
            refine s_val (wg rfl rfl rfl) (r_move rfl) rfl ?_
            refine s_val (wg rfl rfl rfl) (r_move rfl) rfl ?_
            refine s_val (wg rfl rfl rfl) (r_move rfl) rfl ?_
            refine s_val (wg rfl rfl rfl) (r_move rfl) rfl ?_
            refine s_val (wg rfl rfl rfl) (r_move rfl) rfl ?_
            refine s_end hKS ?_
            refine n_step2 (f := 10) (i := 9) (j := 14) rfl (by kernel_rfl) ?_ ?_
            ·
              refine n_one (i := 9) rfl fun KN hKN => ?_
              refine l_app2 1 ((Agg.riseOf a).1) ((Agg.riseOf b).1) encSample (wg rfl rfl rfl) rfl rfl rfl (fun _ hM => (RowSl encSample hM 0 rfl)) Try.underlying22 inf29 rfl rfl (by omega) rfl na nb ?_ (fun A3 cp3 hc3 hm3 hA3 => ?_)
              ·
                refine l_nil (hKN _ _ (fun _ h => (h.sel [0, 2, 3] (by decide) rfl)) ?_)
                refine n_step2 (f := 9) (i := 10) (j := 14) rfl (by kernel_rfl) ?_ ?_
                ·
                  refine n_one (i := 10) rfl fun KN hKN => ?_
                  refine l_callF (wg rfl rfl rfl) rfl Try.call13 rfl (fun w1 hM => c_Of _ (((Agg.riseOf a).1) ++ ((Agg.riseOf b).1)) w1 (RowSl encSample hM 1 rfl)) ?_
                  refine l_nil (hKN _ _ (fun _ h => (h.sel [0, 2, 3] (by decide) rfl)) ?_)
                  refine n_run (f := 8) [11] rfl rfl (by kernel_rfl) (by kernel_rfl) (fun _ h => (h.sel [0, 2, 3] (by decide) rfl)) fun KS hKS => ?_
                  refine s_val (wg rfl rfl rfl) (r_fieldv rfl fld24_6 fty24_6 flat3 rfl) rfl ?_
                  refine s_end hKS ?_
                  refine n_step1 (f := 7) (i := 14) rfl (by kernel_rfl) ?_
                  refine n_one (i := 14) rfl fun KN hKN => ?_
                  refine l_val (wg rfl rfl rfl) (r_ia (i := 0) rfl hd2 rfl (by omega) (by first | omega | decide | (simp only [List.length_cons, List.length_nil, List.length_append, List.length_take, List.length_set]; omega)) Try.underlying22 inf29) rfl ?_
                  refine l_nil (hKN _ _ (fun _ h => (h.sel [0, 2, 3] (by decide) rfl)) ?_)
                  refine n_run (f := 6) [15] rfl rfl (by kernel_rfl) (by kernel_rfl) (fun _ h => (h.sel [0, 2, 3] (by decide) rfl)) fun KS hKS => ?_
                  refine s_val (wg rfl rfl rfl) (r_fe rfl fld29_1) rfl ?_
                  refine s_end hKS ?_
                  refine n_step1 (f := 5) (i := 16) rfl (by kernel_rfl) ?_
                  refine n_one (i := 16) rfl fun KN hKN => ?_
                  obtain ⟨s3, hs3⟩ : ∃ x, (((Agg.riseOf a).1) ++ ((Agg.riseOf b).1))[0]? = some x := ⟨_, List.getElem?_eq_getElem (by first | omega | decide | (simp only [List.length_cons, List.length_nil, List.length_append, List.length_take, List.length_set]; omega))⟩
                  obtain rfl : xa = s3 := Option.some.inj (hxa.symm.trans (by rw [← hs3, List.getElem?_append_left pa]))
                  refine l_val (wg rfl rfl rfl) (r_rl 1 encSample rfl rfl hd2 hs3 rfl flat3) rfl ?_
                  refine l_nil (hKN _ _ (fun _ h => (h.sel [0, 2, 3] (by decide) rfl)) ?_)
                  refine n_run (f := 0) [17, 19, 20, 21, 22] rfl rfl (by kernel_rfl) (by kernel_rfl) (fun _ h => (h.sel [0, 2, 3] (by decide) rfl)) fun KS hKS => ?_
                  refine s_val (wg rfl rfl rfl) (r_subn rfl rfl (by omega)) rfl ?_
                  refine s_val (wg rfl rfl rfl) (r_addn rfl rfl (by omega)) rfl ?_
                  refine s_val (wg rfl rfl rfl) (r_eql rfl rfl) rfl ?_
                  refine s_val wn (r_pick rfl rfl) rfl ?_
                  refine s_val wn (r_assign rfl) rfl ?_
                  refine s_end hKS ?_
                  refine n_done (by kernel_rfl) (e_go hK15 ?_)
                  refine c_ret (e_ret1 (.inl rfl) Try.results7 (rv_tmp rfl) fun w1 hM => ?_)
                  exact ret_ok (by rw [decide_eq_true (Agg.riseOf_two na nb hxa hxb (by omega))]) hM
                ·
                  refine n_one (i := 14) rfl fun KN hKN => ?_
                  refine l_val (wg rfl rfl rfl) (r_ia (i := 0) rfl hd2 rfl (by omega) (by first | omega | decide | (simp only [List.length_cons, List.length_nil, List.length_append, List.length_take, List.length_set]; omega)) Try.underlying22 inf29) rfl ?_
                  refine l_nil (hKN _ _ (fun _ h => (h.sel [0, 2, 3] (by decide) rfl)) ?_)
                  refine n_run (f := 8) [15] rfl rfl (by kernel_rfl) (by kernel_rfl) (fun _ h => (h.sel [0, 2, 3] (by decide) rfl)) fun KS hKS => ?_
                  refine s_val (wg rfl rfl rfl) (r_fe rfl fld29_1) rfl ?_
                  refine s_end hKS ?_
                  refine n_step2 (f := 7) (i := 10) (j := 16) rfl (by kernel_rfl) ?_ ?_
                  ·
                    refine n_one (i := 10) rfl fun KN hKN => ?_
                    refine l_callF (wg rfl rfl rfl) rfl Try.call13 rfl (fun w1 hM => c_Of _ (((Agg.riseOf a).1) ++ ((Agg.riseOf b).1)) w1 (RowSl encSample hM 1 rfl)) ?_
                    refine l_nil (hKN _ _ (fun _ h => (h.sel [0, 2, 3] (by decide) rfl)) ?_)
                    refine n_run (f := 6) [11] rfl rfl (by kernel_rfl) (by kernel_rfl) (fun _ h => (h.sel [0, 2, 3] (by decide) rfl)) fun KS hKS => ?_
                    refine s_val (wg rfl rfl rfl) (r_fieldv rfl fld24_6 fty24_6 flat3 rfl) rfl ?_
                    refine s_end hKS ?_
                    refine n_step1 (f := 5) (i := 16) rfl (by kernel_rfl) ?_
                    refine n_one (i := 16) rfl fun KN hKN => ?_
                    obtain ⟨s4, hs4⟩ : ∃ x, (((Agg.riseOf a).1) ++ ((Agg.riseOf b).1))[0]? = some x := ⟨_, List.getElem?_eq_getElem (by first | omega | decide | (simp only [List.length_cons, List.length_nil, List.length_append, List.length_take, List.length_set]; omega))⟩
                    obtain rfl : xa = s4 := Option.some.inj (hxa.symm.trans (by rw [← hs4, List.getElem?_append_left pa]))
                    refine l_val (wg rfl rfl rfl) (r_rl 1 encSample rfl rfl hd2 hs4 rfl flat3) rfl ?_
                    refine l_nil (hKN _ _ (fun _ h => (h.sel [0, 2, 3] (by decide) rfl)) ?_)
                    refine n_run (f := 0) [17, 19, 20, 21, 22] rfl rfl (by kernel_rfl) (by kernel_rfl) (fun _ h => (h.sel [0, 2, 3] (by decide) rfl)) fun KS hKS => ?_
                    refine s_val (wg rfl rfl rfl) (r_subn rfl rfl (by omega)) rfl ?_
                    refine s_val (wg rfl rfl rfl) (r_addn rfl rfl (by omega)) rfl ?_
                    refine s_val (wg rfl rfl rfl) (r_eql rfl rfl) rfl ?_
                    refine s_val wn (r_pick rfl rfl) rfl ?_
                    refine s_val wn (r_assign rfl) rfl ?_
                    refine s_end hKS ?_
                    refine n_done (by kernel_rfl) (e_go hK15 ?_)
                    refine c_ret (e_ret1 (.inl rfl) Try.results7 (rv_tmp rfl) fun w1 hM => ?_)
                    exact ret_ok (by rw [decide_eq_true (Agg.riseOf_two na nb hxa hxb (by omega))]) hM
                  ·
                    refine n_one (i := 16) rfl fun KN hKN => ?_
                    obtain ⟨s5, hs5⟩ : ∃ x, (((Agg.riseOf a).1) ++ ((Agg.riseOf b).1))[0]? = some x := ⟨_, List.getElem?_eq_getElem (by first | omega | decide | (simp only [List.length_cons, List.length_nil, List.length_append, List.length_take, List.length_set]; omega))⟩
                    obtain rfl : xa = s5 := Option.some.inj (hxa.symm.trans (by rw [← hs5, List.getElem?_append_left pa]))
                    refine l_val (wg rfl rfl rfl) (r_rl 1 encSample rfl rfl hd2 hs5 rfl flat3) rfl ?_
                    refine l_nil (hKN _ _ (fun _ h => (h.sel [0, 2, 3] (by decide) rfl)) ?_)
                    refine n_run (f := 5) [17, 19] rfl rfl (by kernel_rfl) (by kernel_rfl) (fun _ h => (h.sel [0, 2, 3] (by decide) rfl)) fun KS hKS => ?_
                    refine s_val (wg rfl rfl rfl) (r_subn rfl rfl (by omega)) rfl ?_
                    refine s_val (wg rfl rfl rfl) (r_addn rfl rfl (by omega)) rfl ?_
                    refine s_end hKS ?_
                    refine n_step1 (f := 4) (i := 10) rfl (by kernel_rfl) ?_
                    refine n_one (i := 10) rfl fun KN hKN => ?_
                    refine l_callF (wg rfl rfl rfl) rfl Try.call13 rfl (fun w1 hM => c_Of _ (((Agg.riseOf a).1) ++ ((Agg.riseOf b).1)) w1 (RowSl encSample hM 1 rfl)) ?_
                    refine l_nil (hKN _ _ (fun _ h => (h.sel [0, 2, 3] (by decide) rfl)) ?_)
                    refine n_run (f := 0) [11, 20, 21, 22] rfl rfl (by kernel_rfl) (by kernel_rfl) (fun _ h => (h.sel [0, 2, 3] (by decide) rfl)) fun KS hKS => ?_
                    refine s_val (wg rfl rfl rfl) (r_fieldv rfl fld24_6 fty24_6 flat3 rfl) rfl ?_
                    refine s_val (wg rfl rfl rfl) (r_eql rfl rfl) rfl ?_
                    refine s_val wn (r_pick rfl rfl) rfl ?_
                    refine s_val wn (r_assign rfl) rfl ?_
                    refine s_end hKS ?_
                    refine n_done (by kernel_rfl) (e_go hK15 ?_)
                    refine c_ret (e_ret1 (.inl rfl) Try.results7 (rv_tmp rfl) fun w1 hM => ?_)
                    exact ret_ok (by rw [decide_eq_true (Agg.riseOf_two na nb hxa hxb (by omega))]) hM
              ·
                refine l_nil (hKN _ _ (fun _ h => (h.sel [1, 3, 4] (by decide) rfl)) ?_)
                refine n_step2 (f := 9) (i := 10) (j := 14) rfl (by kernel_rfl) ?_ ?_
                ·
                  refine n_one (i := 10) rfl fun KN hKN => ?_
                  refine l_callF (wg rfl rfl rfl) rfl Try.call13 rfl (fun w1 hM => c_Of _ (((Agg.riseOf a).1) ++ ((Agg.riseOf b).1)) w1 (RowSl encSample hM 0 rfl)) ?_
                  refine l_nil (hKN _ _ (fun _ h => (h.sel [1, 3, 4] (by decide) rfl)) ?_)
                  refine n_run (f := 8) [11] rfl rfl (by kernel_rfl) (by kernel_rfl) (fun _ h => (h.sel [1, 3, 4] (by decide) rfl)) fun KS hKS => ?_
                  refine s_val (wg rfl rfl rfl) (r_fieldv rfl fld24_6 fty24_6 flat3 rfl) rfl ?_
                  refine s_end hKS ?_
                  refine n_step1 (f := 7) (i := 14) rfl (by kernel_rfl) ?_
                  refine n_one (i := 14) rfl fun KN hKN => ?_
                  refine l_val (wg rfl rfl rfl) (r_ia (i := 0) rfl hd2 rfl (by omega) (by first | omega | decide | (simp only [List.length_cons, List.length_nil, List.length_append, List.length_take, List.length_set]; omega)) Try.underlying22 inf29) rfl ?_
                  refine l_nil (hKN _ _ (fun _ h => (h.sel [1, 3, 4] (by decide) rfl)) ?_)
                  refine n_run (f := 6) [15] rfl rfl (by kernel_rfl) (by kernel_rfl) (fun _ h => (h.sel [1, 3, 4] (by decide) rfl)) fun KS hKS => ?_
                  refine s_val (wg rfl rfl rfl) (r_fe rfl fld29_1) rfl ?_
                  refine s_end hKS ?_
                  refine n_step1 (f := 5) (i := 16) rfl (by kernel_rfl) ?_
                  refine n_one (i := 16) rfl fun KN hKN => ?_
                  refine l_val (wg rfl rfl rfl) (r_rl 2 encSample rfl rfl hd2 hs2 rfl flat3) rfl ?_
                  refine l_nil (hKN _ _ (fun _ h => (h.sel [1, 3, 4] (by decide) rfl)) ?_)
                  refine n_run (f := 0) [17, 19, 20, 21, 22] rfl rfl (by kernel_rfl) (by kernel_rfl) (fun _ h => (h.sel [1, 3, 4] (by decide) rfl)) fun KS hKS => ?_
                  refine s_val (wg rfl rfl rfl) (r_subn rfl rfl (by omega)) rfl ?_
                  refine s_val (wg rfl rfl rfl) (r_addn rfl rfl (by omega)) rfl ?_
                  refine s_val (wg rfl rfl rfl) (r_eql rfl rfl) rfl ?_
                  refine s_val wn (r_pick rfl rfl) rfl ?_
                  refine s_val wn (r_assign rfl) rfl ?_
                  refine s_end hKS ?_
                  refine n_done (by kernel_rfl) (e_go hK15 ?_)
                  refine c_ret (e_ret1 (.inl rfl) Try.results7 (rv_tmp rfl) fun w1 hM => ?_)
                  exact ret_ok (by rw [decide_eq_true (Agg.riseOf_two na nb hxa hxb (by omega))]) hM
                ·
                  refine n_one (i := 14) rfl fun KN hKN => ?_
                  refine l_val (wg rfl rfl rfl) (r_ia (i := 0) rfl hd2 rfl (by omega) (by first | omega | decide | (simp only [List.length_cons, List.length_nil, List.length_append, List.length_take, List.length_set]; omega)) Try.underlying22 inf29) rfl ?_
                  refine l_nil (hKN _ _ (fun _ h => (h.sel [1, 3, 4] (by decide) rfl)) ?_)
                  refine n_run (f := 8) [15] rfl rfl (by kernel_rfl) (by kernel_rfl) (fun _ h => (h.sel [1, 3, 4] (by decide) rfl)) fun KS hKS => ?_
                  refine s_val (wg rfl rfl rfl) (r_fe rfl fld29_1) rfl ?_
                  refine s_end hKS ?_
                  refine n_step2 (f := 7) (i := 10) (j := 16) rfl (by kernel_rfl) ?_ ?_
                  ·
                    refine n_one (i := 10) rfl fun KN hKN => ?_
                    refine l_callF (wg rfl rfl rfl) rfl Try.call13 rfl (fun w1 hM => c_Of _ (((Agg.riseOf a).1) ++ ((Agg.riseOf b).1)) w1 (RowSl encSample hM 0 rfl)) ?_
                    refine l_nil (hKN _ _ (fun _ h => (h.sel [1, 3, 4] (by decide) rfl)) ?_)
                    refine n_run (f := 6) [11] rfl rfl (by kernel_rfl) (by kernel_rfl) (fun _ h => (h.sel [1, 3, 4] (by decide) rfl)) fun KS hKS => ?_
                    refine s_val (wg rfl rfl rfl) (r_fieldv rfl fld24_6 fty24_6 flat3 rfl) rfl ?_
                    refine s_end hKS ?_
                    refine n_step1 (f := 5) (i := 16) rfl (by kernel_rfl) ?_
                    refine n_one (i := 16) rfl fun KN hKN => ?_
                    refine l_val (wg rfl rfl rfl) (r_rl 2 encSample rfl rfl hd2 hs2 rfl flat3) rfl ?_
                    refine l_nil (hKN _ _ (fun _ h => (h.sel [1, 3, 4] (by decide) rfl)) ?_)
                    refine n_run (f := 0) [17, 19, 20, 21, 22] rfl rfl (by kernel_rfl) (by kernel_rfl) (fun _ h => (h.sel [1, 3, 4] (by decide) rfl)) fun KS hKS => ?_
                    refine s_val (wg rfl rfl rfl) (r_subn rfl rfl (by omega)) rfl ?_
                    refine s_val (wg rfl rfl rfl) (r_addn rfl rfl (by omega)) rfl ?_
                    refine s_val (wg rfl rfl rfl) (r_eql rfl rfl) rfl ?_
                    refine s_val wn (r_pick rfl rfl) rfl ?_
                    refine s_val wn (r_assign rfl) rfl ?_
                    refine s_end hKS ?_
                    refine n_done (by kernel_rfl) (e_go hK15 ?_)
                    refine c_ret (e_ret1 (.inl rfl) Try.results7 (rv_tmp rfl) fun w1 hM => ?_)
                    exact ret_ok (by rw [decide_eq_true (Agg.riseOf_two na nb hxa hxb (by omega))]) hM
                  ·
                    refine n_one (i := 16) rfl fun KN hKN => ?_
                    refine l_val (wg rfl rfl rfl) (r_rl 2 encSample rfl rfl hd2 hs2 rfl flat3) rfl ?_
                    refine l_nil (hKN _ _ (fun _ h => (h.sel [1, 3, 4] (by decide) rfl)) ?_)
                    refine n_run (f := 5) [17, 19] rfl rfl (by kernel_rfl) (by kernel_rfl) (fun _ h => (h.sel [1, 3, 4] (by decide) rfl)) fun KS hKS => ?_
                    refine s_val (wg rfl rfl rfl) (r_subn rfl rfl (by omega)) rfl ?_
                    refine s_val (wg rfl rfl rfl) (r_addn rfl rfl (by omega)) rfl ?_
                    refine s_end hKS ?_
                    refine n_step1 (f := 4) (i := 10) rfl (by kernel_rfl) ?_
                    refine n_one (i := 10) rfl fun KN hKN => ?_
                    refine l_callF (wg rfl rfl rfl) rfl Try.call13 rfl (fun w1 hM => c_Of _ (((Agg.riseOf a).1) ++ ((Agg.riseOf b).1)) w1 (RowSl encSample hM 0 rfl)) ?_
                    refine l_nil (hKN _ _ (fun _ h => (h.sel [1, 3, 4] (by decide) rfl)) ?_)
                    refine n_run (f := 0) [11, 20, 21, 22] rfl rfl (by kernel_rfl) (by kernel_rfl) (fun _ h => (h.sel [1, 3, 4] (by decide) rfl)) fun KS hKS => ?_
                    refine s_val (wg rfl rfl rfl) (r_fieldv rfl fld24_6 fty24_6 flat3 rfl) rfl ?_
                    refine s_val (wg rfl rfl rfl) (r_eql rfl rfl) rfl ?_
                    refine s_val wn (r_pick rfl rfl) rfl ?_
                    refine s_val wn (r_assign rfl) rfl ?_
                    refine s_end hKS ?_
                    refine n_done (by kernel_rfl) (e_go hK15 ?_)
                    refine c_ret (e_ret1 (.inl rfl) Try.results7 (rv_tmp rfl) fun w1 hM => ?_)
                    exact ret_ok (by rw [decide_eq_true (Agg.riseOf_two na nb hxa hxb (by omega))]) hM
            ·
              refine n_one (i := 14) rfl fun KN hKN => ?_
              refine l_val (wg rfl rfl rfl) (r_ia (i := 0) rfl hd2 rfl (by omega) (by first | omega | decide | (simp only [List.length_cons, List.length_nil, List.length_append, List.length_take, List.length_set]; omega)) Try.underlying22 inf29) rfl ?_
              refine l_nil (hKN _ _ (fun _ h => (h.sel [0, 2, 3] (by decide) rfl)) ?_)
              refine n_run (f := 9) [15] rfl rfl (by kernel_rfl) (by kernel_rfl) (fun _ h => (h.sel [0, 2, 3] (by decide) rfl)) fun KS hKS => ?_
              refine s_val (wg rfl rfl rfl) (r_fe rfl fld29_1) rfl ?_
              refine s_end hKS ?_
              refine n_step2 (f := 8) (i := 9) (j := 16) rfl (by kernel_rfl) ?_ ?_
              ·
                refine n_one (i := 9) rfl fun KN hKN => ?_
                refine l_app2 1 ((Agg.riseOf a).1) ((Agg.riseOf b).1) encSample (wg rfl rfl rfl) rfl rfl rfl (fun _ hM => (RowSl encSample hM 0 rfl)) Try.underlying22 inf29 rfl rfl (by omega) rfl na nb ?_ (fun A4 cp4 hc4 hm4 hA4 => ?_)
                ·
                  refine l_nil (hKN _ _ (fun _ h => (h.sel [0, 2, 3] (by decide) rfl)) ?_)
                  refine n_step2 (f := 7) (i := 10) (j := 16) rfl (by kernel_rfl) ?_ ?_
                  ·
                    refine n_one (i := 10) rfl fun KN hKN => ?_
                    refine l_callF (wg rfl rfl rfl) rfl Try.call13 rfl (fun w1 hM => c_Of _ (((Agg.riseOf a).1) ++ ((Agg.riseOf b).1)) w1 (RowSl encSample hM 1 rfl)) ?_
                    refine l_nil (hKN _ _ (fun _ h => (h.sel [0, 2, 3] (by decide) rfl)) ?_)
                    refine n_run (f := 6) [11] rfl rfl (by kernel_rfl) (by kernel_rfl) (fun _ h => (h.sel [0, 2, 3] (by decide) rfl)) fun KS hKS => ?_
                    refine s_val (wg rfl rfl rfl) (r_fieldv rfl fld24_6 fty24_6 flat3 rfl) rfl ?_
                    refine s_end hKS ?_
                    refine n_step1 (f := 5) (i := 16) rfl (by kernel_rfl) ?_
                    refine n_one (i := 16) rfl fun KN hKN => ?_
                    obtain ⟨s6, hs6⟩ : ∃ x, (((Agg.riseOf a).1) ++ ((Agg.riseOf b).1))[0]? = some x := ⟨_, List.getElem?_eq_getElem (by first | omega | decide | (simp only [List.length_cons, List.length_nil, List.length_append, List.length_take, List.length_set]; omega))⟩
                    obtain rfl : xa = s6 := Option.some.inj (hxa.symm.trans (by rw [← hs6, List.getElem?_append_left pa]))
                    refine l_val (wg rfl rfl rfl) (r_rl 1 encSample rfl rfl hd2 hs6 rfl flat3) rfl ?_
                    refine l_nil (hKN _ _ (fun _ h => (h.sel [0, 2, 3] (by decide) rfl)) ?_)
                    refine n_run (f := 0) [17, 19, 20, 21, 22] rfl rfl (by kernel_rfl) (by kernel_rfl) (fun _ h => (h.sel [0, 2, 3] (by decide) rfl)) fun KS hKS => ?_
                    refine s_val (wg rfl rfl rfl) (r_subn rfl rfl (by omega)) rfl ?_
                    refine s_val (wg rfl rfl rfl) (r_addn rfl rfl (by omega)) rfl ?_
                    refine s_val (wg rfl rfl rfl) (r_eql rfl rfl) rfl ?_
                    refine s_val wn (r_pick rfl rfl) rfl ?_
                    refine s_val wn (r_assign rfl) rfl ?_
                    refine s_end hKS ?_
                    refine n_done (by kernel_rfl) (e_go hK15 ?_)
                    refine c_ret (e_ret1 (.inl rfl) Try.results7 (rv_tmp rfl) fun w1 hM => ?_)
                    exact ret_ok (by rw [decide_eq_true (Agg.riseOf_two na nb hxa hxb (by omega))]) hM
                  ·
                    refine n_one (i := 16) rfl fun KN hKN => ?_
                    obtain ⟨s7, hs7⟩ : ∃ x, (((Agg.riseOf a).1) ++ ((Agg.riseOf b).1))[0]? = some x := ⟨_, List.getElem?_eq_getElem (by first | omega | decide | (simp only [List.length_cons, List.length_nil, List.length_append, List.length_take, List.length_set]; omega))⟩
                    obtain rfl : xa = s7 := Option.some.inj (hxa.symm.trans (by rw [← hs7, List.getElem?_append_left pa]))
                    refine l_val (wg rfl rfl rfl) (r_rl 1 encSample rfl rfl hd2 hs7 rfl flat3) rfl ?_
                    refine l_nil (hKN _ _ (fun _ h => (h.sel [0, 2, 3] (by decide) rfl)) ?_)
                    refine n_run (f := 5) [17, 19] rfl rfl (by kernel_rfl) (by kernel_rfl) (fun _ h => (h.sel [0, 2, 3] (by decide) rfl)) fun KS hKS => ?_
                    refine s_val (wg rfl rfl rfl) (r_subn rfl rfl (by omega)) rfl ?_
                    refine s_val (wg rfl rfl rfl) (r_addn rfl rfl (by omega)) rfl ?_
                    refine s_end hKS ?_
                    refine n_step1 (f := 4) (i := 10) rfl (by kernel_rfl) ?_
                    refine n_one (i := 10) rfl fun KN hKN => ?_
                    refine l_callF (wg rfl rfl rfl) rfl Try.call13 rfl (fun w1 hM => c_Of _ (((Agg.riseOf a).1) ++ ((Agg.riseOf b).1)) w1 (RowSl encSample hM 1 rfl)) ?_
                    refine l_nil (hKN _ _ (fun _ h => (h.sel [0, 2, 3] (by decide) rfl)) ?_)
                    refine n_run (f := 0) [11, 20, 21, 22] rfl rfl (by kernel_rfl) (by kernel_rfl) (fun _ h => (h.sel [0, 2, 3] (by decide) rfl)) fun KS hKS => ?_
                    refine s_val (wg rfl rfl rfl) (r_fieldv rfl fld24_6 fty24_6 flat3 rfl) rfl ?_
                    refine s_val (wg rfl rfl rfl) (r_eql rfl rfl) rfl ?_
                    refine s_val wn (r_pick rfl rfl) rfl ?_
                    refine s_val wn (r_assign rfl) rfl ?_
                    refine s_end hKS ?_
                    refine n_done (by kernel_rfl) (e_go hK15 ?_)
                    refine c_ret (e_ret1 (.inl rfl) Try.results7 (rv_tmp rfl) fun w1 hM => ?_)
                    exact ret_ok (by rw [decide_eq_true (Agg.riseOf_two na nb hxa hxb (by omega))]) hM
                ·
                  refine l_nil (hKN _ _ (fun _ h => (h.sel [1, 3, 4] (by decide) rfl)) ?_)
                  refine n_step2 (f := 7) (i := 10) (j := 16) rfl (by kernel_rfl) ?_ ?_
                  ·
                    refine n_one (i := 10) rfl fun KN hKN => ?_
                    refine l_callF (wg rfl rfl rfl) rfl Try.call13 rfl (fun w1 hM => c_Of _ (((Agg.riseOf a).1) ++ ((Agg.riseOf b).1)) w1 (RowSl encSample hM 0 rfl)) ?_
                    refine l_nil (hKN _ _ (fun _ h => (h.sel [1, 3, 4] (by decide) rfl)) ?_)
                    refine n_run (f := 6) [11] rfl rfl (by kernel_rfl) (by kernel_rfl) (fun _ h => (h.sel [1, 3, 4] (by decide) rfl)) fun KS hKS => ?_
                    refine s_val (wg rfl rfl rfl) (r_fieldv rfl fld24_6 fty24_6 flat3 rfl) rfl ?_
                    refine s_end hKS ?_
                    refine n_step1 (f := 5) (i := 16) rfl (by kernel_rfl) ?_
                    refine n_one (i := 16) rfl fun KN hKN => ?_
                    refine l_val (wg rfl rfl rfl) (r_rl 2 encSample rfl rfl hd2 hs2 rfl flat3) rfl ?_
                    refine l_nil (hKN _ _ (fun _ h => (h.sel [1, 3, 4] (by decide) rfl)) ?_)
                    refine n_run (f := 0) [17, 19, 20, 21, 22] rfl rfl (by kernel_rfl) (by kernel_rfl) (fun _ h => (h.sel [1, 3, 4] (by decide) rfl)) fun KS hKS => ?_
                    refine s_val (wg rfl rfl rfl) (r_subn rfl rfl (by omega)) rfl ?_
                    refine s_val (wg rfl rfl rfl) (r_addn rfl rfl (by omega)) rfl ?_
                    refine s_val (wg rfl rfl rfl) (r_eql rfl rfl) rfl ?_
                    refine s_val wn (r_pick rfl rfl) rfl ?_
                    refine s_val wn (r_assign rfl) rfl ?_
                    refine s_end hKS ?_
                    refine n_done (by kernel_rfl) (e_go hK15 ?_)
                    refine c_ret (e_ret1 (.inl rfl) Try.results7 (rv_tmp rfl) fun w1 hM => ?_)
                    exact ret_ok (by rw [decide_eq_true (Agg.riseOf_two na nb hxa hxb (by omega))]) hM
                  ·
                    refine n_one (i := 16) rfl fun KN hKN => ?_
                    refine l_val (wg rfl rfl rfl) (r_rl 2 encSample rfl rfl hd2 hs2 rfl flat3) rfl ?_
                    refine l_nil (hKN _ _ (fun _ h => (h.sel [1, 3, 4] (by decide) rfl)) ?_)
                    refine n_run (f := 5) [17, 19] rfl rfl (by kernel_rfl) (by kernel_rfl) (fun _ h => (h.sel [1, 3, 4] (by decide) rfl)) fun KS hKS => ?_
                    refine s_val (wg rfl rfl rfl) (r_subn rfl rfl (by omega)) rfl ?_
                    refine s_val (wg rfl rfl rfl) (r_addn rfl rfl (by omega)) rfl ?_
                    refine s_end hKS ?_
                    refine n_step1 (f := 4) (i := 10) rfl (by kernel_rfl) ?_
                    refine n_one (i := 10) rfl fun KN hKN => ?_
                    refine l_callF (wg rfl rfl rfl) rfl Try.call13 rfl (fun w1 hM => c_Of _ (((Agg.riseOf a).1) ++ ((Agg.riseOf b).1)) w1 (RowSl encSample hM 0 rfl)) ?_
                    refine l_nil (hKN _ _ (fun _ h => (h.sel [1, 3, 4] (by decide) rfl)) ?_)
                    refine n_run (f := 0) [11, 20, 21, 22] rfl rfl (by kernel_rfl) (by kernel_rfl) (fun _ h => (h.sel [1, 3, 4] (by decide) rfl)) fun KS hKS => ?_
                    refine s_val (wg rfl rfl rfl) (r_fieldv rfl fld24_6 fty24_6 flat3 rfl) rfl ?_
                    refine s_val (wg rfl rfl rfl) (r_eql rfl rfl) rfl ?_
                    refine s_val wn (r_pick rfl rfl) rfl ?_
                    refine s_val wn (r_assign rfl) rfl ?_
                    refine s_end hKS ?_
                    refine n_done (by kernel_rfl) (e_go hK15 ?_)
                    refine c_ret (e_ret1 (.inl rfl) Try.results7 (rv_tmp rfl) fun w1 hM => ?_)
                    exact ret_ok (by rw [decide_eq_true (Agg.riseOf_two na nb hxa hxb (by omega))]) hM
              ·
                refine n_one (i := 16) rfl fun KN hKN => ?_
                refine l_val (wg rfl rfl rfl) (r_rl 1 encSample rfl rfl hd2 hs2 rfl flat3) rfl ?_
                refine l_nil (hKN _ _ (fun _ h => (h.sel [0, 2, 3] (by decide) rfl)) ?_)
                refine n_run (f := 6) [17, 19] rfl rfl (by kernel_rfl) (by kernel_rfl) (fun _ h => (h.sel [0, 2, 3] (by decide) rfl)) fun KS hKS => ?_
                refine s_val (wg rfl rfl rfl) (r_subn rfl rfl (by omega)) rfl ?_
                refine s_val (wg rfl rfl rfl) (r_addn rfl rfl (by omega)) rfl ?_
                refine s_end hKS ?_
                refine n_step1 (f := 5) (i := 9) rfl (by kernel_rfl) ?_
                refine n_one (i := 9) rfl fun KN hKN => ?_
                refine l_app2 1 ((Agg.riseOf a).1) ((Agg.riseOf b).1) encSample (wg rfl rfl rfl) rfl rfl rfl (fun _ hM => (RowSl encSample hM 0 rfl)) Try.underlying22 inf29 rfl rfl (by omega) rfl na nb ?_ (fun A5 cp5 hc5 hm5 hA5 => ?_)
                ·
                  refine l_nil (hKN _ _ (fun _ h => (h.sel [0, 2, 3] (by decide) rfl)) ?_)
                  refine n_step1 (f := 4) (i := 10) rfl (by kernel_rfl) ?_
                  refine n_one (i := 10) rfl fun KN hKN => ?_
                  refine l_callF (wg rfl rfl rfl) rfl Try.call13 rfl (fun w1 hM => c_Of _ (((Agg.riseOf a).1) ++ ((Agg.riseOf b).1)) w1 (RowSl encSample hM 1 rfl)) ?_
                  refine l_nil (hKN _ _ (fun _ h => (h.sel [0, 2, 3] (by decide) rfl)) ?_)
                  refine n_run (f := 0) [11, 20, 21, 22] rfl rfl (by kernel_rfl) (by kernel_rfl) (fun _ h => (h.sel [0, 2, 3] (by decide) rfl)) fun KS hKS => ?_
                  refine s_val (wg rfl rfl rfl) (r_fieldv rfl fld24_6 fty24_6 flat3 rfl) rfl ?_
                  refine s_val (wg rfl rfl rfl) (r_eql rfl rfl) rfl ?_
                  refine s_val wn (r_pick rfl rfl) rfl ?_
                  refine s_val wn (r_assign rfl) rfl ?_
                  refine s_end hKS ?_
                  refine n_done (by kernel_rfl) (e_go hK15 ?_)
                  refine c_ret (e_ret1 (.inl rfl) Try.results7 (rv_tmp rfl) fun w1 hM => ?_)
                  exact ret_ok (by rw [decide_eq_true (Agg.riseOf_two na nb hxa hxb (by omega))]) hM
                ·
                  refine l_nil (hKN _ _ (fun _ h => (h.sel [1, 3, 4] (by decide) rfl)) ?_)
                  refine n_step1 (f := 4) (i := 10) rfl (by kernel_rfl) ?_
                  refine n_one (i := 10) rfl fun KN hKN => ?_
                  refine l_callF (wg rfl rfl rfl) rfl Try.call13 rfl (fun w1 hM => c_Of _ (((Agg.riseOf a).1) ++ ((Agg.riseOf b).1)) w1 (RowSl encSample hM 0 rfl)) ?_
                  refine l_nil (hKN _ _ (fun _ h => (h.sel [1, 3, 4] (by decide) rfl)) ?_)
                  refine n_run (f := 0) [11, 20, 21, 22] rfl rfl (by kernel_rfl) (by kernel_rfl) (fun _ h => (h.sel [1, 3, 4] (by decide) rfl)) fun KS hKS => ?_
                  refine s_val (wg rfl rfl rfl) (r_fieldv rfl fld24_6 fty24_6 flat3 rfl) rfl ?_
                  refine s_val (wg rfl rfl rfl) (r_eql rfl rfl) rfl ?_
                  refine s_val wn (r_pick rfl rfl) rfl ?_
                  refine s_val wn (r_assign rfl) rfl ?_
                  refine s_end hKS ?_
                  refine n_done (by kernel_rfl) (e_go hK15 ?_)
                  refine c_ret (e_ret1 (.inl rfl) Try.results7 (rv_tmp rfl) fun w1 hM => ?_)
                  exact ret_ok (by rw [decide_eq_true (Agg.riseOf_two na nb hxa hxb (by omega))]) hM
      ·
        refine l_skip (wg rfl rfl rfl) rfl ?_
        refine l_skip (wg rfl rfl rfl) rfl ?_
        refine l_skip (wg rfl rfl rfl) rfl ?_
        refine l_skip (wg rfl rfl rfl) rfl ?_
        refine l_skip (wg rfl rfl rfl) rfl ?_
        refine l_skip (wg rfl rfl rfl) rfl ?_
        refine l_val (wg rfl rfl rfl) (r_pick rfl rfl) rfl ?_
        refine l_val wn (r_pick rfl rfl) rfl ?_
        refine l_nil (e_go hK8 ?_)
        refine c_false rfl rfl ?_
        refine c_skip (e_go hK7 ?_)
        refine c_seq fun K16 hK16 => ?_
        refine c_seq fun K17 hK17 => ?_
        refine c_quiet mix (by kernel_rfl) (fun _ h => h.drew) ?_
        refine q_val wn (r_move rfl) rfl ?_
        refine q_callF wn rfl Try.call13 rfl (fun w1 hM => c_Of _ ((Agg.riseOf a).1) w1 (RowSl encSample hM 1 rfl)) ?_
        refine q_val wn (r_fieldv rfl fld24_6 fty24_6 flat3 rfl) rfl ?_
        refine q_val wn (r_move rfl) rfl ?_
        refine q_val wn (r_move rfl) rfl ?_
        obtain ⟨ad3, hd3⟩ := hA1 (ne_nil (i := 0) (by first | omega | decide | (simp only [List.length_cons, List.length_nil, List.length_append, List.length_take, List.length_set]; omega)))
        refine q_val wn (r_ia (i := 0) rfl hd3 rfl (by omega) (by first | omega | decide | (simp only [List.length_cons, List.length_nil, List.length_append, List.length_take, List.length_set]; omega)) Try.underlying22 inf29) rfl ?_
        refine q_val wn (r_fe rfl fld29_1) rfl ?_
        obtain ⟨s8, hs8⟩ : ∃ x, ((Agg.riseOf a).1)[0]? = some x := ⟨_, List.getElem?_eq_getElem (by first | omega | decide | (simp only [List.length_cons, List.length_nil, List.length_append, List.length_take, List.length_set]; omega))⟩
        obtain rfl : xa = s8 := Option.some.inj (hxa.symm.trans hs8)
        refine q_val wn (r_rl 1 encSample rfl rfl hd3 hs8 rfl flat3) rfl ?_
        refine q_val wn (r_subn rfl rfl (by omega)) rfl ?_
        refine q_val wn (r_neq rfl rfl) rfl ?_
        refine q_end (e_go hK17 ?_)
        refine c_cond rfl (fun h6 => ?_) (fun h6 => ?_)
        ·
          refine c_seq fun K18 hK18 => ?_
          refine c_region ?_
          refine l_val wn (r_assign rfl) rfl ?_
          refine l_nil (e_go hK18 ?_)
          refine c_ret (e_then_r (e_ret1 (.inl rfl) Try.results7 (rv_tmp rfl) fun w1 hM => ?_))
          exact absurd ga.1 h6
        ·
          refine c_skip (e_go hK16 ?_)
          refine c_seq fun K19 hK19 => ?_
          refine c_nodes (Mem w no [Row (.slice A2 (((Agg.riseOf b).1).length) cp2) 29 2 sampleE ((Agg.riseOf b).1), slO (In w) 1 intE (.slice aA a.length ac) a, slO (In w) 1 intE (.slice bA b.length bc) b]) mix (fun _ h => h.drew) rfl ?_
          refine n_run (f := 11) [0, 1, 2, 3, 4, 5, 6, 7, 8, 12, 13, 18] rfl rfl (by kernel_rfl) (by kernel_rfl) (fun _ h => (h.sel [0, 2, 3] (by decide) rfl)) fun KS hKS => ?_
          refine s_val wn (r_move rfl) rfl ?_
          obtain ⟨ad4, hd4⟩ := hA2 (ne_nil (i := 0) (by first | omega | decide | (simp only [List.length_cons, List.length_nil, List.length_append, List.length_take, List.length_set]; omega)))
          refine s_val wn (r_ia (i := 0) rfl hd4 rfl (by omega) (by first | omega | decide | (simp only [List.length_cons, List.length_nil, List.length_append, List.length_take, List.length_set]; omega)) Try.underlying22 inf29) rfl ?_
          refine s_val wn (r_fe rfl fld29_1) rfl ?_
          obtain ⟨s9, hs9⟩ : ∃ x, ((Agg.riseOf b).1)[0]? = some x := ⟨_, List.getElem?_eq_getElem (by first | omega | decide | (simp only [List.length_cons, List.length_nil, List.length_append, List.length_take, List.length_set]; omega))⟩
          obtain rfl : xb = s9 := Option.some.inj (hxb.symm.trans hs9)
          refine s_val wn (r_rl 0 encSample rfl rfl hd4 hs9 rfl flat3) rfl ?_
          refine s_val wn (r_move rfl) rfl ?_
          refine s_val wn (r_geq rfl rfl) rfl ?_
          refine s_val wn (r_move rfl) rfl ?_
          refine s_case (t := 61) rfl (fun h7 => ?_) (fun h7 => ?_)
          ·
            refine s_skip (wg rfl rfl rfl) rfl ?_
            refine s_skip (wg rfl rfl rfl) rfl ?_
            refine s_skip (wg rfl rfl rfl) rfl ?_
            refine s_skip (wg rfl rfl rfl) rfl ?_
            refine s_skip (wg rfl rfl rfl) rfl ?_
            refine s_end hKS ?_
            refine n_step2 (f := 10) (i := 9) (j := 14) rfl (by kernel_rfl) ?_ ?_
            ·
              refine n_one (i := 9) rfl fun KN hKN => ?_
              refine l_skip (wg rfl rfl rfl) rfl ?_
              refine l_nil (hKN _ _ (fun _ h => (h.sel [0, 2, 3] (by decide) rfl)) ?_)
              refine n_step2 (f := 9) (i := 10) (j := 14) rfl (by kernel_rfl) ?_ ?_
              ·
                refine n_one (i := 10) rfl fun KN hKN => ?_
                refine l_skip (wg rfl rfl rfl) rfl ?_
                refine l_nil (hKN _ _ (fun _ h => (h.sel [0, 2, 3] (by decide) rfl)) ?_)
                refine n_run (f := 8) [11] rfl rfl (by kernel_rfl) (by kernel_rfl) (fun _ h => (h.sel [0, 2, 3] (by decide) rfl)) fun KS hKS => ?_
                refine s_skip (wg rfl rfl rfl) rfl ?_
                refine s_end hKS ?_
                refine n_step1 (f := 7) (i := 14) rfl (by kernel_rfl) ?_
                refine n_one (i := 14) rfl fun KN hKN => ?_
                refine l_skip (wg rfl rfl rfl) rfl ?_
                refine l_nil (hKN _ _ (fun _ h => (h.sel [0, 2, 3] (by decide) rfl)) ?_)
                refine n_run (f := 0) [15, 16, 17, 19, 20, 21, 22] rfl rfl (by kernel_rfl) (by kernel_rfl) (fun _ h => (h.sel [0, 2, 3] (by decide) rfl)) fun KS hKS => ?_
                refine s_skip (wg rfl rfl rfl) rfl ?_
                refine s_skip (wg rfl rfl rfl) rfl ?_
                refine s_skip (wg rfl rfl rfl) rfl ?_
                refine s_skip (wg rfl rfl rfl) rfl ?_
                refine s_skip (wg rfl rfl rfl) rfl ?_
                refine s_val wn (r_pick rfl rfl) rfl ?_
                refine s_val wn (r_assign rfl) rfl ?_
                refine s_end hKS ?_
                refine n_done (by kernel_rfl) (e_go hK19 ?_)
                refine c_ret (e_ret1 (.inl rfl) Try.results7 (rv_tmp rfl) fun w1 hM => ?_)
                exact ret_ok rfl hM
              ·
                refine n_one (i := 14) rfl fun KN hKN => ?_
                refine l_skip (wg rfl rfl rfl) rfl ?_
                refine l_nil (hKN _ _ (fun _ h => (h.sel [0, 2, 3] (by decide) rfl)) ?_)
                refine n_run (f := 5) [15, 16, 17, 19] rfl rfl (by kernel_rfl) (by kernel_rfl) (fun _ h => (h.sel [0, 2, 3] (by decide) rfl)) fun KS hKS => ?_
                refine s_skip (wg rfl rfl rfl) rfl ?_
                refine s_skip (wg rfl rfl rfl) rfl ?_
                refine s_skip (wg rfl rfl rfl) rfl ?_
                refine s_skip (wg rfl rfl rfl) rfl ?_
                refine s_end hKS ?_
                refine n_step1 (f := 4) (i := 10) rfl (by kernel_rfl) ?_
                refine n_one (i := 10) rfl fun KN hKN => ?_
                refine l_skip (wg rfl rfl rfl) rfl ?_
                refine l_nil (hKN _ _ (fun _ h => (h.sel [0, 2, 3] (by decide) rfl)) ?_)
                refine n_run (f := 0) [11, 20, 21, 22] rfl rfl (by kernel_rfl) (by kernel_rfl) (fun _ h => (h.sel [0, 2, 3] (by decide) rfl)) fun KS hKS => ?_
                refine s_skip (wg rfl rfl rfl) rfl ?_
                refine s_skip (wg rfl rfl rfl) rfl ?_
                refine s_val wn (r_pick rfl rfl) rfl ?_
                refine s_val wn (r_assign rfl) rfl ?_
                refine s_end hKS ?_
                refine n_done (by kernel_rfl) (e_go hK19 ?_)
                refine c_ret (e_ret1 (.inl rfl) Try.results7 (rv_tmp rfl) fun w1 hM => ?_)
                exact ret_ok rfl hM
            ·
              refine n_one (i := 14) rfl fun KN hKN => ?_
              refine l_skip (wg rfl rfl rfl) rfl ?_
              refine l_nil (hKN _ _ (fun _ h => (h.sel [0, 2, 3] (by decide) rfl)) ?_)
              refine n_run (f := 6) [15, 16, 17, 19] rfl rfl (by kernel_rfl) (by kernel_rfl) (fun _ h => (h.sel [0, 2, 3] (by decide) rfl)) fun KS hKS => ?_
              refine s_skip (wg rfl rfl rfl) rfl ?_
              refine s_skip (wg rfl rfl rfl) rfl ?_
              refine s_skip (wg rfl rfl rfl) rfl ?_
              refine s_skip (wg rfl rfl rfl) rfl ?_
              refine s_end hKS ?_
              refine n_step1 (f := 5) (i := 9) rfl (by kernel_rfl) ?_
              refine n_one (i := 9) rfl fun KN hKN => ?_
              refine l_skip (wg rfl rfl rfl) rfl ?_
              refine l_nil (hKN _ _ (fun _ h => (h.sel [0, 2, 3] (by decide) rfl)) ?_)
              refine n_step1 (f := 4) (i := 10) rfl (by kernel_rfl) ?_
              refine n_one (i := 10) rfl fun KN hKN => ?_
              refine l_skip (wg rfl rfl rfl) rfl ?_
              refine l_nil (hKN _ _ (fun _ h => (h.sel [0, 2, 3] (by decide) rfl)) ?_)
              refine n_run (f := 0) [11, 20, 21, 22] rfl rfl (by kernel_rfl) (by kernel_rfl) (fun _ h => (h.sel [0, 2, 3] (by decide) rfl)) fun KS hKS => ?_
              refine s_skip (wg rfl rfl rfl) rfl ?_
              refine s_skip (wg rfl rfl rfl) rfl ?_
              refine s_val wn (r_pick rfl rfl) rfl ?_
              refine s_val wn (r_assign rfl) rfl ?_
              refine s_end hKS ?_
              refine n_done (by kernel_rfl) (e_go hK19 ?_)
              refine c_ret (e_ret1 (.inl rfl) Try.results7 (rv_tmp rfl) fun w1 hM => ?_)
              exact ret_ok rfl hM
          ·
            refine s_val (wg rfl rfl rfl) (r_move rfl) rfl ?_
            refine s_val (wg rfl rfl rfl) (r_move rfl) rfl ?_
            refine s_val (wg rfl rfl rfl) (r_move rfl) rfl ?_
            refine s_val (wg rfl rfl rfl) (r_move rfl) rfl ?_
            refine s_val (wg rfl rfl rfl) (r_move rfl) rfl ?_
            refine s_end hKS ?_
            refine n_step2 (f := 10) (i := 9) (j := 14) rfl (by kernel_rfl) ?_ ?_
            ·
              refine n_one (i := 9) rfl fun KN hKN => ?_
              refine l_app2 1 ((Agg.riseOf a).1) ((Agg.riseOf b).1) encSample (wg rfl rfl rfl) rfl rfl rfl (fun _ hM => (RowSl encSample hM 0 rfl)) Try.underlying22 inf29 rfl rfl (by omega) rfl na nb ?_ (fun A6 cp6 hc6 hm6 hA6 => ?_)
              ·
                refine l_nil (hKN _ _ (fun _ h => (h.sel [0, 2, 3] (by decide) rfl)) ?_)
                refine n_step2 (f := 9) (i := 10) (j := 14) rfl (by kernel_rfl) ?_ ?_
                ·
                  refine n_one (i := 10) rfl fun KN hKN => ?_
                  refine l_callF (wg rfl rfl rfl) rfl Try.call13 rfl (fun w1 hM => c_Of _ (((Agg.riseOf a).1) ++ ((Agg.riseOf b).1)) w1 (RowSl encSample hM 1 rfl)) ?_
                  refine l_nil (hKN _ _ (fun _ h => (h.sel [0, 2, 3] (by decide) rfl)) ?_)
                  refine n_run (f := 8) [11] rfl rfl (by kernel_rfl) (by kernel_rfl) (fun _ h => (h.sel [0, 2, 3] (by decide) rfl)) fun KS hKS => ?_
                  refine s_val (wg rfl rfl rfl) (r_fieldv rfl fld24_6 fty24_6 flat3 rfl) rfl ?_
                  refine s_end hKS ?_
                  refine n_step1 (f := 7) (i := 14) rfl (by kernel_rfl) ?_
                  refine n_one (i := 14) rfl fun KN hKN => ?_
                  refine l_val (wg rfl rfl rfl) (r_ia (i := 0) rfl hd3 rfl (by omega) (by first | omega | decide | (simp only [List.length_cons, List.length_nil, List.length_append, List.length_take, List.length_set]; omega)) Try.underlying22 inf29) rfl ?_
                  refine l_nil (hKN _ _ (fun _ h => (h.sel [0, 2, 3] (by decide) rfl)) ?_)
                  refine n_run (f := 6) [15] rfl rfl (by kernel_rfl) (by kernel_rfl) (fun _ h => (h.sel [0, 2, 3] (by decide) rfl)) fun KS hKS => ?_
                  refine s_val (wg rfl rfl rfl) (r_fe rfl fld29_1) rfl ?_
                  refine s_end hKS ?_
                  refine n_step1 (f := 5) (i := 16) rfl (by kernel_rfl) ?_
                  refine n_one (i := 16) rfl fun KN hKN => ?_
                  obtain ⟨s10, hs10⟩ : ∃ x, (((Agg.riseOf a).1) ++ ((Agg.riseOf b).1))[0]? = some x := ⟨_, List.getElem?_eq_getElem (by first | omega | decide | (simp only [List.length_cons, List.length_nil, List.length_append, List.length_take, List.length_set]; omega))⟩
                  obtain rfl : xa = s10 := Option.some.inj (hxa.symm.trans (by rw [← hs10, List.getElem?_append_left pa]))
                  refine l_val (wg rfl rfl rfl) (r_rl 1 encSample rfl rfl hd3 hs10 rfl flat3) rfl ?_
                  refine l_nil (hKN _ _ (fun _ h => (h.sel [0, 2, 3] (by decide) rfl)) ?_)
                  refine n_run (f := 0) [17, 19, 20, 21, 22] rfl rfl (by kernel_rfl) (by kernel_rfl) (fun _ h => (h.sel [0, 2, 3] (by decide) rfl)) fun KS hKS => ?_
                  refine s_val (wg rfl rfl rfl) (r_subn rfl rfl (by omega)) rfl ?_
                  refine s_val (wg rfl rfl rfl) (r_addn rfl rfl (by omega)) rfl ?_
                  refine s_val (wg rfl rfl rfl) (r_eql rfl rfl) rfl ?_
                  refine s_val wn (r_pick rfl rfl) rfl ?_
                  refine s_val wn (r_assign rfl) rfl ?_
                  refine s_end hKS ?_
                  refine n_done (by kernel_rfl) (e_go hK19 ?_)
                  refine c_ret (e_ret1 (.inl rfl) Try.results7 (rv_tmp rfl) fun w1 hM => ?_)
                  exact ret_ok (by rw [decide_eq_true (Agg.riseOf_two na nb hxa hxb (by omega))]) hM
                ·
                  refine n_one (i := 14) rfl fun KN hKN => ?_
                  refine l_val (wg rfl rfl rfl) (r_ia (i := 0) rfl hd3 rfl (by omega) (by first | omega | decide | (simp only [List.length_cons, List.length_nil, List.length_append, List.length_take, List.length_set]; omega)) Try.underlying22 inf29) rfl ?_
                  refine l_nil (hKN _ _ (fun _ h => (h.sel [0, 2, 3] (by decide) rfl)) ?_)
                  refine n_run (f := 8) [15] rfl rfl (by kernel_rfl) (by kernel_rfl) (fun _ h => (h.sel [0, 2, 3] (by decide) rfl)) fun KS hKS => ?_
                  refine s_val (wg rfl rfl rfl) (r_fe rfl fld29_1) rfl ?_
                  refine s_end hKS ?_
                  refine n_step2 (f := 7) (i := 10) (j := 16) rfl (by kernel_rfl) ?_ ?_
                  ·
                    refine n_one (i := 10) rfl fun KN hKN => ?_
                    refine l_callF (wg rfl rfl rfl) rfl Try.call13 rfl (fun w1 hM => c_Of _ (((Agg.riseOf a).1) ++ ((Agg.riseOf b).1)) w1 (RowSl encSample hM 1 rfl)) ?_
                    refine l_nil (hKN _ _ (fun _ h => (h.sel [0, 2, 3] (by decide) rfl)) ?_)
                    refine n_run (f := 6) [11] rfl rfl (by kernel_rfl) (by kernel_rfl) (fun _ h => (h.sel [0, 2, 3] (by decide) rfl)) fun KS hKS => ?_
                    refine s_val (wg rfl rfl rfl) (r_fieldv rfl fld24_6 fty24_6 flat3 rfl) rfl ?_
                    refine s_end hKS ?_
                    refine n_step1 (f := 5) (i := 16) rfl (by kernel_rfl) ?_
                    refine n_one (i := 16) rfl fun KN hKN => ?_
                    obtain ⟨s11, hs11⟩ : ∃ x, (((Agg.riseOf a).1) ++ ((Agg.riseOf b).1))[0]? = some x := ⟨_, List.getElem?_eq_getElem (by first | omega | decide | (simp only [List.length_cons, List.length_nil, List.length_append, List.length_take, List.length_set]; omega))⟩
                    obtain rfl : xa = s11 := Option.some.inj (hxa.symm.trans (by rw [← hs11, List.getElem?_append_left pa]))
                    refine l_val (wg rfl rfl rfl) (r_rl 1 encSample rfl rfl hd3 hs11 rfl flat3) rfl ?_
                    refine l_nil (hKN _ _ (fun _ h => (h.sel [0, 2, 3] (by decide) rfl)) ?_)
                    refine n_run (f := 0) [17, 19, 20, 21, 22] rfl rfl (by kernel_rfl) (by kernel_rfl) (fun _ h => (h.sel [0, 2, 3] (by decide) rfl)) fun KS hKS => ?_
                    refine s_val (wg rfl rfl rfl) (r_subn rfl rfl (by omega)) rfl ?_
                    refine s_val (wg rfl rfl rfl) (r_addn rfl rfl (by omega)) rfl ?_
                    refine s_val (wg rfl rfl rfl) (r_eql rfl rfl) rfl ?_
                    refine s_val wn (r_pick rfl rfl) rfl ?_
                    refine s_val wn (r_assign rfl) rfl ?_
                    refine s_end hKS ?_
                    refine n_done (by kernel_rfl) (e_go hK19 ?_)
                    refine c_ret (e_ret1 (.inl rfl) Try.results7 (rv_tmp rfl) fun w1 hM => ?_)
                    exact ret_ok (by rw [decide_eq_true (Agg.riseOf_two na nb hxa hxb (by omega))]) hM
                  ·
                    refine n_one (i := 16) rfl fun KN hKN => ?_
                    obtain ⟨s12, hs12⟩ : ∃ x, (((Agg.riseOf a).1) ++ ((Agg.riseOf b).1))[0]? = some x := ⟨_, List.getElem?_eq_getElem (by first | omega | decide | (simp only [List.length_cons, List.length_nil, List.length_append, List.length_take, List.length_set]; omega))⟩
                    obtain rfl : xa = s12 := Option.some.inj (hxa.symm.trans (by rw [← hs12, List.getElem?_append_left pa]))
                    refine l_val (wg rfl rfl rfl) (r_rl 1 encSample rfl rfl hd3 hs12 rfl flat3) rfl ?_
                    refine l_nil (hKN _ _ (fun _ h => (h.sel [0, 2, 3] (by decide) rfl)) ?_)
                    refine n_run (f := 5) [17, 19] rfl rfl (by kernel_rfl) (by kernel_rfl) (fun _ h => (h.sel [0, 2, 3] (by decide) rfl)) fun KS hKS => ?_
                    refine s_val (wg rfl rfl rfl) (r_subn rfl rfl (by omega)) rfl ?_
                    refine s_val (wg rfl rfl rfl) (r_addn rfl rfl (by omega)) rfl ?_
                    refine s_end hKS ?_
                    refine n_step1 (f := 4) (i := 10) rfl (by kernel_rfl) ?_
                    refine n_one (i := 10) rfl fun KN hKN => ?_
                    refine l_callF (wg rfl rfl rfl) rfl Try.call13 rfl (fun w1 hM => c_Of _ (((Agg.riseOf a).1) ++ ((Agg.riseOf b).1)) w1 (RowSl encSample hM 1 rfl)) ?_
                    refine l_nil (hKN _ _ (fun _ h => (h.sel [0, 2, 3] (by decide) rfl)) ?_)
                    refine n_run (f := 0) [11, 20, 21, 22] rfl rfl (by kernel_rfl) (by kernel_rfl) (fun _ h => (h.sel [0, 2, 3] (by decide) rfl)) fun KS hKS => ?_
                    refine s_val (wg rfl rfl rfl) (r_fieldv rfl fld24_6 fty24_6 flat3 rfl) rfl ?_
                    refine s_val (wg rfl rfl rfl) (r_eql rfl rfl) rfl ?_
                    refine s_val wn (r_pick rfl rfl) rfl ?_
                    refine s_val wn (r_assign rfl) rfl ?_
                    refine s_end hKS ?_
                    refine n_done (by kernel_rfl) (e_go hK19 ?_)
                    refine c_ret (e_ret1 (.inl rfl) Try.results7 (rv_tmp rfl) fun w1 hM => ?_)
                    exact ret_ok (by rw [decide_eq_true (Agg.riseOf_two na nb hxa hxb (by omega))]) hM
              ·
                refine l_nil (hKN _ _ (fun _ h => (h.sel [1, 3, 4] (by decide) rfl)) ?_)
                refine n_step2 (f := 9) (i := 10) (j := 14) rfl (by kernel_rfl) ?_ ?_
                ·
                  refine n_one (i := 10) rfl fun KN hKN => ?_
                  refine l_callF (wg rfl rfl rfl) rfl Try.call13 rfl (fun w1 hM => c_Of _ (((Agg.riseOf a).1) ++ ((Agg.riseOf b).1)) w1 (RowSl encSample hM 0 rfl)) ?_
                  refine l_nil (hKN _ _ (fun _ h => (h.sel [1, 3, 4] (by decide) rfl)) ?_)
                  refine n_run (f := 8) [11] rfl rfl (by kernel_rfl) (by kernel_rfl) (fun _ h => (h.sel [1, 3, 4] (by decide) rfl)) fun KS hKS => ?_
                  refine s_val (wg rfl rfl rfl) (r_fieldv rfl fld24_6 fty24_6 flat3 rfl) rfl ?_
                  refine s_end hKS ?_
                  refine n_step1 (f := 7) (i := 14) rfl (by kernel_rfl) ?_
                  refine n_one (i := 14) rfl fun KN hKN => ?_
                  refine l_val (wg rfl rfl rfl) (r_ia (i := 0) rfl hd3 rfl (by omega) (by first | omega | decide | (simp only [List.length_cons, List.length_nil, List.length_append, List.length_take, List.length_set]; omega)) Try.underlying22 inf29) rfl ?_
                  refine l_nil (hKN _ _ (fun _ h => (h.sel [1, 3, 4] (by decide) rfl)) ?_)
                  refine n_run (f := 6) [15] rfl rfl (by kernel_rfl) (by kernel_rfl) (fun _ h => (h.sel [1, 3, 4] (by decide) rfl)) fun KS hKS => ?_
                  refine s_val (wg rfl rfl rfl) (r_fe rfl fld29_1) rfl ?_
                  refine s_end hKS ?_
                  refine n_step1 (f := 5) (i := 16) rfl (by kernel_rfl) ?_
                  refine n_one (i := 16) rfl fun KN hKN => ?_
                  refine l_val (wg rfl rfl rfl) (r_rl 2 encSample rfl rfl hd3 hs8 rfl flat3) rfl ?_
                  refine l_nil (hKN _ _ (fun _ h => (h.sel [1, 3, 4] (by decide) rfl)) ?_)
                  refine n_run (f := 0) [17, 19, 20, 21, 22] rfl rfl (by kernel_rfl) (by kernel_rfl) (fun _ h => (h.sel [1, 3, 4] (by decide) rfl)) fun KS hKS => ?_
                  refine s_val (wg rfl rfl rfl) (r_subn rfl rfl (by omega)) rfl ?_
                  refine s_val (wg rfl rfl rfl) (r_addn rfl rfl (by omega)) rfl ?_
                  refine s_val (wg rfl rfl rfl) (r_eql rfl rfl) rfl ?_
                  refine s_val wn (r_pick rfl rfl) rfl ?_
                  refine s_val wn (r_assign rfl) rfl ?_
                  refine s_end hKS ?_
                  refine n_done (by kernel_rfl) (e_go hK19 ?_)
                  refine c_ret (e_ret1 (.inl rfl) Try.results7 (rv_tmp rfl) fun w1 hM => ?_)
                  exact ret_ok (by rw [decide_eq_true (Agg.riseOf_two na nb hxa hxb (by omega))]) hM
                ·
                  refine n_one (i := 14) rfl fun KN hKN => ?_
                  refine l_val (wg rfl rfl rfl) (r_ia (i := 0) rfl hd3 rfl (by omega) (by first | omega | decide | (simp only [List.length_cons, List.length_nil, List.length_append, List.length_take, List.length_set]; omega)) Try.underlying22 inf29) rfl ?_
                  refine l_nil (hKN _ _ (fun _ h => (h.sel [1, 3, 4] (by decide) rfl)) ?_)
                  refine n_run (f := 8) [15] rfl rfl (by kernel_rfl) (by kernel_rfl) (fun _ h => (h.sel [1, 3, 4] (by decide) rfl)) fun KS hKS => ?_
                  refine s_val (wg rfl rfl rfl) (r_fe rfl fld29_1) rfl ?_
                  refine s_end hKS ?_
                  refine n_step2 (f := 7) (i := 10) (j := 16) rfl (by kernel_rfl) ?_ ?_
                  ·
                    refine n_one (i := 10) rfl fun KN hKN => ?_
                    refine l_callF (wg rfl rfl rfl) rfl Try.call13 rfl (fun w1 hM => c_Of _ (((Agg.riseOf a).1) ++ ((Agg.riseOf b).1)) w1 (RowSl encSample hM 0 rfl)) ?_
                    refine l_nil (hKN _ _ (fun _ h => (h.sel [1, 3, 4] (by decide) rfl)) ?_)
                    refine n_run (f := 6) [11] rfl rfl (by kernel_rfl) (by kernel_rfl) (fun _ h => (h.sel [1, 3, 4] (by decide) rfl)) fun KS hKS => ?_
                    refine s_val (wg rfl rfl rfl) (r_fieldv rfl fld24_6 fty24_6 flat3 rfl) rfl ?_
                    refine s_end hKS ?_
                    refine n_step1 (f := 5) (i := 16) rfl (by kernel_rfl) ?_
                    refine n_one (i := 16) rfl fun KN hKN => ?_
                    refine l_val (wg rfl rfl rfl) (r_rl 2 encSample rfl rfl hd3 hs8 rfl flat3) rfl ?_
                    refine l_nil (hKN _ _ (fun _ h => (h.sel [1, 3, 4] (by decide) rfl)) ?_)
                    refine n_run (f := 0) [17, 19, 20, 21, 22] rfl rfl (by kernel_rfl) (by kernel_rfl) (fun _ h => (h.sel [1, 3, 4] (by decide) rfl)) fun KS hKS => ?_
                    refine s_val (wg rfl rfl rfl) (r_subn rfl rfl (by omega)) rfl ?_
                    refine s_val (wg rfl rfl rfl) (r_addn rfl rfl (by omega)) rfl ?_
                    refine s_val (wg rfl rfl rfl) (r_eql rfl rfl) rfl ?_
                    refine s_val wn (r_pick rfl rfl) rfl ?_
                    refine s_val wn (r_assign rfl) rfl ?_
                    refine s_end hKS ?_
                    refine n_done (by kernel_rfl) (e_go hK19 ?_)
                    refine c_ret (e_ret1 (.inl rfl) Try.results7 (rv_tmp rfl) fun w1 hM => ?_)
                    exact ret_ok (by rw [decide_eq_true (Agg.riseOf_two na nb hxa hxb (by omega))]) hM
                  ·
                    refine n_one (i := 16) rfl fun KN hKN => ?_
                    refine l_val (wg rfl rfl rfl) (r_rl 2 encSample rfl rfl hd3 hs8 rfl flat3) rfl ?_
                    refine l_nil (hKN _ _ (fun _ h => (h.sel [1, 3, 4] (by decide) rfl)) ?_)
                    refine n_run (f := 5) [17, 19] rfl rfl (by kernel_rfl) (by kernel_rfl) (fun _ h => (h.sel [1, 3, 4] (by decide) rfl)) fun KS hKS => ?_
                    refine s_val (wg rfl rfl rfl) (r_subn rfl rfl (by omega)) rfl ?_
                    refine s_val (wg rfl rfl rfl) (r_addn rfl rfl (by omega)) rfl ?_
                    refine s_end hKS ?_
                    refine n_step1 (f := 4) (i := 10) rfl (by kernel_rfl) ?_
                    refine n_one (i := 10) rfl fun KN hKN => ?_
                    refine l_callF (wg rfl rfl rfl) rfl Try.call13 rfl (fun w1 hM => c_Of _ (((Agg.riseOf a).1) ++ ((Agg.riseOf b).1)) w1 (RowSl encSample hM 0 rfl)) ?_
                    refine l_nil (hKN _ _ (fun _ h => (h.sel [1, 3, 4] (by decide) rfl)) ?_)
                    refine n_run (f := 0) [11, 20, 21, 22] rfl rfl (by kernel_rfl) (by kernel_rfl) (fun _ h => (h.sel [1, 3, 4] (by decide) rfl)) fun KS hKS => ?_
                    refine s_val (wg rfl rfl rfl) (r_fieldv rfl fld24_6 fty24_6 flat3 rfl) rfl ?_
                    refine s_val (wg rfl rfl rfl) (r_eql rfl rfl) rfl ?_
                    refine s_val wn (r_pick rfl rfl) rfl ?_
                    refine s_val wn (r_assign rfl) rfl ?_
                    refine s_end hKS ?_
                    refine n_done (by kernel_rfl) (e_go hK19 ?_)
                    refine c_ret (e_ret1 (.inl rfl) Try.results7 (rv_tmp rfl) fun w1 hM => ?_)
                    exact ret_ok (by rw [decide_eq_true (Agg.riseOf_two na nb hxa hxb (by omega))]) hM
            ·
              refine n_one (i := 14) rfl fun KN hKN => ?_
              refine l_val (wg rfl rfl rfl) (r_ia (i := 0) rfl hd3 rfl (by omega) (by first | omega | decide | (simp only [List.length_cons, List.length_nil, List.length_append, List.length_take, List.length_set]; omega)) Try.underlying22 inf29) rfl ?_
              refine l_nil (hKN _ _ (fun _ h => (h.sel [0, 2, 3] (by decide) rfl)) ?_)
              refine n_run (f := 9) [15] rfl rfl (by kernel_rfl) (by kernel_rfl) (fun _ h => (h.sel [0, 2, 3] (by decide) rfl)) fun KS hKS => ?_
              refine s_val (wg rfl rfl rfl) (r_fe rfl fld29_1) rfl ?_
              refine s_end hKS ?_
              refine n_step2 (f := 8) (i := 9) (j := 16) rfl (by kernel_rfl) ?_ ?_
              ·
                refine n_one (i := 9) rfl fun KN hKN => ?_
                refine l_app2 1 ((Agg.riseOf a).1) ((Agg.riseOf b).1) encSample (wg rfl rfl rfl) rfl rfl rfl (fun _ hM => (RowSl encSample hM 0 rfl)) Try.underlying22 inf29 rfl rfl (by omega) rfl na nb ?_ (fun A7 cp7 hc7 hm7 hA7 => ?_)
                ·
                  refine l_nil (hKN _ _ (fun _ h => (h.sel [0, 2, 3] (by decide) rfl)) ?_)
                  refine n_step2 (f := 7) (i := 10) (j := 16) rfl (by kernel_rfl) ?_ ?_
                  ·
                    refine n_one (i := 10) rfl fun KN hKN => ?_
                    refine l_callF (wg rfl rfl rfl) rfl Try.call13 rfl (fun w1 hM => c_Of _ (((Agg.riseOf a).1) ++ ((Agg.riseOf b).1)) w1 (RowSl encSample hM 1 rfl)) ?_
                    refine l_nil (hKN _ _ (fun _ h => (h.sel [0, 2, 3] (by decide) rfl)) ?_)
                    refine n_run (f := 6) [11] rfl rfl (by kernel_rfl) (by kernel_rfl) (fun _ h => (h.sel [0, 2, 3] (by decide) rfl)) fun KS hKS => ?_
                    refine s_val (wg rfl rfl rfl) (r_fieldv rfl fld24_6 fty24_6 flat3 rfl) rfl ?_
                    refine s_end hKS ?_
                    refine n_step1 (f := 5) (i := 16) rfl (by kernel_rfl) ?_
                    refine n_one (i := 16) rfl fun KN hKN => ?_
                    obtain ⟨s13, hs13⟩ : ∃ x, (((Agg.riseOf a).1) ++ ((Agg.riseOf b).1))[0]? = some x := ⟨_, List.getElem?_eq_getElem (by first | omega | decide | (simp only [List.length_cons, List.length_nil, List.length_append, List.length_take, List.length_set]; omega))⟩
                    obtain rfl : xa = s13 := Option.some.inj (hxa.symm.trans (by rw [← hs13, List.getElem?_append_left pa]))
                    refine l_val (wg rfl rfl rfl) (r_rl 1 encSample rfl rfl hd3 hs13 rfl flat3) rfl ?_
                    refine l_nil (hKN _ _ (fun _ h => (h.sel [0, 2, 3] (by decide) rfl)) ?_)
                    refine n_run (f := 0) [17, 19, 20, 21, 22] rfl rfl (by kernel_rfl) (by kernel_rfl) (fun _ h => (h.sel [0, 2, 3] (by decide) rfl)) fun KS hKS => ?_
                    refine s_val (wg rfl rfl rfl) (r_subn rfl rfl (by omega)) rfl ?_
                    refine s_val (wg rfl rfl rfl) (r_addn rfl rfl (by omega)) rfl ?_
                    refine s_val (wg rfl rfl rfl) (r_eql rfl rfl) rfl ?_
                    refine s_val wn (r_pick rfl rfl) rfl ?_
                    refine s_val wn (r_assign rfl) rfl ?_
                    refine s_end hKS ?_
                    refine n_done (by kernel_rfl) (e_go hK19 ?_)
                    refine c_ret (e_ret1 (.inl rfl) Try.results7 (rv_tmp rfl) fun w1 hM => ?_)
                    exact ret_ok (by rw [decide_eq_true (Agg.riseOf_two na nb hxa hxb (by omega))]) hM
                  ·
                    refine n_one (i := 16) rfl fun KN hKN => ?_
                    obtain ⟨s14, hs14⟩ : ∃ x, (((Agg.riseOf a).1) ++ ((Agg.riseOf b).1))[0]? = some x := ⟨_, List.getElem?_eq_getElem (by first | omega | decide | (simp only [List.length_cons, List.length_nil, List.length_append, List.length_take, List.length_set]; omega))⟩
                    obtain rfl : xa = s14 := Option.some.inj (hxa.symm.trans (by rw [← hs14, List.getElem?_append_left pa]))
                    refine l_val (wg rfl rfl rfl) (r_rl 1 encSample rfl rfl hd3 hs14 rfl flat3) rfl ?_
                    refine l_nil (hKN _ _ (fun _ h => (h.sel [0, 2, 3] (by decide) rfl)) ?_)
                    refine n_run (f := 5) [17, 19] rfl rfl (by kernel_rfl) (by kernel_rfl) (fun _ h => (h.sel [0, 2, 3] (by decide) rfl)) fun KS hKS => ?_
                    refine s_val (wg rfl rfl rfl) (r_subn rfl rfl (by omega)) rfl ?_
                    refine s_val (wg rfl rfl rfl) (r_addn rfl rfl (by omega)) rfl ?_
                    refine s_end hKS ?_
                    refine n_step1 (f := 4) (i := 10) rfl (by kernel_rfl) ?_
                    refine n_one (i := 10) rfl fun KN hKN => ?_
                    refine l_callF (wg rfl rfl rfl) rfl Try.call13 rfl (fun w1 hM => c_Of _ (((Agg.riseOf a).1) ++ ((Agg.riseOf b).1)) w1 (RowSl encSample hM 1 rfl)) ?_
                    refine l_nil (hKN _ _ (fun _ h => (h.sel [0, 2, 3] (by decide) rfl)) ?_)
                    refine n_run (f := 0) [11, 20, 21, 22] rfl rfl (by kernel_rfl) (by kernel_rfl) (fun _ h => (h.sel [0, 2, 3] (by decide) rfl)) fun KS hKS => ?_
                    refine s_val (wg rfl rfl rfl) (r_fieldv rfl fld24_6 fty24_6 flat3 rfl) rfl ?_
                    refine s_val (wg rfl rfl rfl) (r_eql rfl rfl) rfl ?_
                    refine s_val wn (r_pick rfl rfl) rfl ?_
                    refine s_val wn (r_assign rfl) rfl ?_
                    refine s_end hKS ?_
                    refine n_done (by kernel_rfl) (e_go hK19 ?_)
                    refine c_ret (e_ret1 (.inl rfl) Try.results7 (rv_tmp rfl) fun w1 hM => ?_)
                    exact ret_ok (by rw [decide_eq_true (Agg.riseOf_two na nb hxa hxb (by omega))]) hM
                ·
                  refine l_nil (hKN _ _ (fun _ h => (h.sel [1, 3, 4] (by decide) rfl)) ?_)
                  refine n_step2 (f := 7) (i := 10) (j := 16) rfl (by kernel_rfl) ?_ ?_
                  ·
                    refine n_one (i := 10) rfl fun KN hKN => ?_
                    refine l_callF (wg rfl rfl rfl) rfl Try.call13 rfl (fun w1 hM => c_Of _ (((Agg.riseOf a).1) ++ ((Agg.riseOf b).1)) w1 (RowSl encSample hM 0 rfl)) ?_
                    refine l_nil (hKN _ _ (fun _ h => (h.sel [1, 3, 4] (by decide) rfl)) ?_)
                    refine n_run (f := 6) [11] rfl rfl (by kernel_rfl) (by kernel_rfl) (fun _ h => (h.sel [1, 3, 4] (by decide) rfl)) fun KS hKS => ?_
                    refine s_val (wg rfl rfl rfl) (r_fieldv rfl fld24_6 fty24_6 flat3 rfl) rfl ?_
                    refine s_end hKS ?_
                    refine n_step1 (f := 5) (i := 16) rfl (by kernel_rfl) ?_
                    refine n_one (i := 16) rfl fun KN hKN => ?_
                    refine l_val (wg rfl rfl rfl) (r_rl 2 encSample rfl rfl hd3 hs8 rfl flat3) rfl ?_
                    refine l_nil (hKN _ _ (fun _ h => (h.sel [1, 3, 4] (by decide) rfl)) ?_)
                    refine n_run (f := 0) [17, 19, 20, 21, 22] rfl rfl (by kernel_rfl) (by kernel_rfl) (fun _ h => (h.sel [1, 3, 4] (by decide) rfl)) fun KS hKS => ?_
                    refine s_val (wg rfl rfl rfl) (r_subn rfl rfl (by omega)) rfl ?_
                    refine s_val (wg rfl rfl rfl) (r_addn rfl rfl (by omega)) rfl ?_
                    refine s_val (wg rfl rfl rfl) (r_eql rfl rfl) rfl ?_
                    refine s_val wn (r_pick rfl rfl) rfl ?_
                    refine s_val wn (r_assign rfl) rfl ?_
                    refine s_end hKS ?_
                    refine n_done (by kernel_rfl) (e_go hK19 ?_)
                    refine c_ret (e_ret1 (.inl rfl) Try.results7 (rv_tmp rfl) fun w1 hM => ?_)
                    exact ret_ok (by rw [decide_eq_true (Agg.riseOf_two na nb hxa hxb (by omega))]) hM
                  ·
                    refine n_one (i := 16) rfl fun KN hKN => ?_
                    refine l_val (wg rfl rfl rfl) (r_rl 2 encSample rfl rfl hd3 hs8 rfl flat3) rfl ?_
                    refine l_nil (hKN _ _ (fun _ h => (h.sel [1, 3, 4] (by decide) rfl)) ?_)
                    refine n_run (f := 5) [17, 19] rfl rfl (by kernel_rfl) (by kernel_rfl) (fun _ h => (h.sel [1, 3, 4] (by decide) rfl)) fun KS hKS => ?_
                    refine s_val (wg rfl rfl rfl) (r_subn rfl rfl (by omega)) rfl ?_
                    refine s_val (wg rfl rfl rfl) (r_addn rfl rfl (by omega)) rfl ?_
                    refine s_end hKS ?_
                    refine n_step1 (f := 4) (i := 10) rfl (by kernel_rfl) ?_
                    refine n_one (i := 10) rfl fun KN hKN => ?_
                    refine l_callF (wg rfl rfl rfl) rfl Try.call13 rfl (fun w1 hM => c_Of _ (((Agg.riseOf a).1) ++ ((Agg.riseOf b).1)) w1 (RowSl encSample hM 0 rfl)) ?_
                    refine l_nil (hKN _ _ (fun _ h => (h.sel [1, 3, 4] (by decide) rfl)) ?_)
                    refine n_run (f := 0) [11, 20, 21, 22] rfl rfl (by kernel_rfl) (by kernel_rfl) (fun _ h => (h.sel [1, 3, 4] (by decide) rfl)) fun KS hKS => ?_
                    refine s_val (wg rfl rfl rfl) (r_fieldv rfl fld24_6 fty24_6 flat3 rfl) rfl ?_
                    refine s_val (wg rfl rfl rfl) (r_eql rfl rfl) rfl ?_
                    refine s_val wn (r_pick rfl rfl) rfl ?_
                    refine s_val wn (r_assign rfl) rfl ?_
                    refine s_end hKS ?_
                    refine n_done (by kernel_rfl) (e_go hK19 ?_)
                    refine c_ret (e_ret1 (.inl rfl) Try.results7 (rv_tmp rfl) fun w1 hM => ?_)
                    exact ret_ok (by rw [decide_eq_true (Agg.riseOf_two na nb hxa hxb (by omega))]) hM
              ·
                refine n_one (i := 16) rfl fun KN hKN => ?_
                refine l_val (wg rfl rfl rfl) (r_rl 1 encSample rfl rfl hd3 hs8 rfl flat3) rfl ?_
                refine l_nil (hKN _ _ (fun _ h => (h.sel [0, 2, 3] (by decide) rfl)) ?_)
                refine n_run (f := 6) [17, 19] rfl rfl (by kernel_rfl) (by kernel_rfl) (fun _ h => (h.sel [0, 2, 3] (by decide) rfl)) fun KS hKS => ?_
                refine s_val (wg rfl rfl rfl) (r_subn rfl rfl (by omega)) rfl ?_
                refine s_val (wg rfl rfl rfl) (r_addn rfl rfl (by omega)) rfl ?_
                refine s_end hKS ?_
                refine n_step1 (f := 5) (i := 9) rfl (by kernel_rfl) ?_
                refine n_one (i := 9) rfl fun KN hKN => ?_
                refine l_app2 1 ((Agg.riseOf a).1) ((Agg.riseOf b).1) encSample (wg rfl rfl rfl) rfl rfl rfl (fun _ hM => (RowSl encSample hM 0 rfl)) Try.underlying22 inf29 rfl rfl (by omega) rfl na nb ?_ (fun A8 cp8 hc8 hm8 hA8 => ?_)
                ·
                  refine l_nil (hKN _ _ (fun _ h => (h.sel [0, 2, 3] (by decide) rfl)) ?_)
                  refine n_step1 (f := 4) (i := 10) rfl (by kernel_rfl) ?_
                  refine n_one (i := 10) rfl fun KN hKN => ?_
                  refine l_callF (wg rfl rfl rfl) rfl Try.call13 rfl (fun w1 hM => c_Of _ (((Agg.riseOf a).1) ++ ((Agg.riseOf b).1)) w1 (RowSl encSample hM 1 rfl)) ?_
                  refine l_nil (hKN _ _ (fun _ h => (h.sel [0, 2, 3] (by decide) rfl)) ?_)
                  refine n_run (f := 0) [11, 20, 21, 22] rfl rfl (by kernel_rfl) (by kernel_rfl) (fun _ h => (h.sel [0, 2, 3] (by decide) rfl)) fun KS hKS => ?_
                  refine s_val (wg rfl rfl rfl) (r_fieldv rfl fld24_6 fty24_6 flat3 rfl) rfl ?_
                  refine s_val (wg rfl rfl rfl) (r_eql rfl rfl) rfl ?_
                  refine s_val wn (r_pick rfl rfl) rfl ?_
                  refine s_val wn (r_assign rfl) rfl ?_
                  refine s_end hKS ?_
                  refine n_done (by kernel_rfl) (e_go hK19 ?_)
                  refine c_ret (e_ret1 (.inl rfl) Try.results7 (rv_tmp rfl) fun w1 hM => ?_)
                  exact ret_ok (by rw [decide_eq_true (Agg.riseOf_two na nb hxa hxb (by omega))]) hM
                ·
                  refine l_nil (hKN _ _ (fun _ h => (h.sel [1, 3, 4] (by decide) rfl)) ?_)
                  refine n_step1 (f := 4) (i := 10) rfl (by kernel_rfl) ?_
                  refine n_one (i := 10) rfl fun KN hKN => ?_
                  refine l_callF (wg rfl rfl rfl) rfl Try.call13 rfl (fun w1 hM => c_Of _ (((Agg.riseOf a).1) ++ ((Agg.riseOf b).1)) w1 (RowSl encSample hM 0 rfl)) ?_
                  refine l_nil (hKN _ _ (fun _ h => (h.sel [1, 3, 4] (by decide) rfl)) ?_)
                  refine n_run (f := 0) [11, 20, 21, 22] rfl rfl (by kernel_rfl) (by kernel_rfl) (fun _ h => (h.sel [1, 3, 4] (by decide) rfl)) fun KS hKS => ?_
                  refine s_val (wg rfl rfl rfl) (r_fieldv rfl fld24_6 fty24_6 flat3 rfl) rfl ?_
                  refine s_val (wg rfl rfl rfl) (r_eql rfl rfl) rfl ?_
                  refine s_val wn (r_pick rfl rfl) rfl ?_
                  refine s_val wn (r_assign rfl) rfl ?_
                  refine s_end hKS ?_
                  refine n_done (by kernel_rfl) (e_go hK19 ?_)
                  refine c_ret (e_ret1 (.inl rfl) Try.results7 (rv_tmp rfl) fun w1 hM => ?_)
                  exact ret_ok (by rw [decide_eq_true (Agg.riseOf_two na nb hxa hxb (by omega))]) hM

end Go.Proofs.Yteogkbpcibnifaa
