/-
  Walks: what each function hands back.
-/
import Derived.Test.YteogkbpcibnifaaWroll
import Derived.Test.YteogkbpcibnifaaWcodec
namespace Go.Proofs.Yteogkbpcibnifaa
open Ex
set_option linter.unusedVariables false
set_option linter.unusedSimpArgs false
theorem law_RollExact (lv : Value) (l : List Sample) (tier : Int) (a : Int) (b : Int) (w : World) (hl : FlatSl (In w) 2 sampleE lv l w)  :
    Calls Try.prog 11 #[lv, .int .i64 tier, .int .i64 a, .int .i64 b] w (Ret w (.bool true)) := by
  obtain ⟨lA, lc, rfl, hlc, hlm, hlA⟩ := hl.form
  refine fstart (N := 87) (vals := [.slice lA l.length lc, .int .i64 tier, .int .i64 a, .int .i64 b]) (S := Mem w no [slO (In w) 2 sampleE (.slice lA l.length lc) l]) Try.func11 rfl rfl rfl (Mem.ofDats (dc (dl hl) dn)) ?_
  refine c_seq fun K1 hK1 => ?_
  refine c_region ?_
  refine l_val wn (r_assign rfl) rfl ?_
  refine l_nil (e_go hK1 ?_)
  refine c_seq fun K2 hK2 => ?_
  refine c_seq fun K3 hK3 => ?_
  refine c_region ?_
  refine l_callF wn rfl Try.call23 rfl (fun w1 hM => c_alive3  w1) ?_
  refine l_val wn (r_notb rfl) rfl ?_
  refine l_nil (e_go hK3 ?_)
  refine c_false rfl rfl ?_
  refine c_skip (e_go hK2 ?_)
  refine c_seq fun K4 hK4 => ?_
  refine c_region ?_
  refine l_val wn (r_move rfl) rfl ?_
  refine l_callF wn rfl Try.call28 rfl (fun w1 hM => c_Step tier w1) ?_
  refine l_val wn (r_assign rfl) rfl ?_
  refine l_nil (e_go hK4 ?_)
  refine c_seq fun K5 hK5 => ?_
  refine c_cut [(0, .slice lA l.length lc), (1, .int .i64 tier), (2, .int .i64 a), (3, .int .i64 b), (9, .int .i64 (Roll.step tier)), (40, .bool (decide (((Codec.wrong l).err ≠ 0) ∨ (((Roll.step tier) = 0) ∨ ((a < 0) ∨ ((b < a) ∨ ((1000000 / (Roll.step tier)) < b)))))))] (Mem w no [slO (In w) 2 sampleE (.slice lA l.length lc) l]) (fun K6 hK6 => ?_) ?_
  ·
    refine c_region ?_
    refine l_val wn (r_move rfl) rfl ?_
    refine l_callF wn rfl Try.call24 rfl (fun w1 hM => c_codecWrong _ l w1 (hM.sl 0 rfl)) ?_
    refine l_val wn (r_fieldv rfl fld45_0 fty45_0 flat43 rfl) rfl ?_
    refine l_val wn (r_neq rfl rfl) rfl ?_
    refine l_val wn (r_move rfl) rfl ?_
    refine l_case (t := 22) rfl (fun h1 => ?_) (fun h1 => ?_)
    ·
      refine l_skip (wg rfl rfl rfl) rfl ?_
      refine l_skip (wg rfl rfl rfl) rfl ?_
      refine l_val wn (r_pick rfl rfl) rfl ?_
      refine l_val wn (r_move rfl) rfl ?_
      refine l_skip (wg rfl rfl rfl) rfl ?_
      refine l_skip (wg rfl rfl rfl) rfl ?_
      refine l_val wn (r_pick rfl rfl) rfl ?_
      refine l_val wn (r_move rfl) rfl ?_
      refine l_skip (wg rfl rfl rfl) rfl ?_
      refine l_skip (wg rfl rfl rfl) rfl ?_
      refine l_skip (wg rfl rfl rfl) rfl ?_
      refine l_val wn (r_pick rfl rfl) rfl ?_
      refine l_val wn (r_move rfl) rfl ?_
      refine l_skip (wg rfl rfl rfl) rfl ?_
      refine l_skip (wg rfl rfl rfl) rfl ?_
      refine l_skip (wg rfl rfl rfl) rfl ?_
      refine l_skip (wg rfl rfl rfl) rfl ?_
      refine l_val wn (r_pick rfl rfl) rfl ?_
      refine l_nil (e_cut hK6 (sc rfl (sc rfl (sc rfl (sc rfl (sc rfl (sc (jt (Or.inl h1)) sn)))))) (fun _ h => h))
    ·
      refine l_val (wg rfl rfl rfl) (r_move rfl) rfl ?_
      refine l_val (wg rfl rfl rfl) (r_eql rfl rfl) rfl ?_
      refine l_val wn (r_pick rfl rfl) rfl ?_
      refine l_val wn (r_move rfl) rfl ?_
      refine l_case (t := 26) rfl (fun h2 => ?_) (fun h2 => ?_)
      ·
        refine l_skip (wg rfl rfl rfl) rfl ?_
        refine l_skip (wg rfl rfl rfl) rfl ?_
        refine l_val wn (r_pick rfl rfl) rfl ?_
        refine l_val wn (r_move rfl) rfl ?_
        refine l_skip (wg rfl rfl rfl) rfl ?_
        refine l_skip (wg rfl rfl rfl) rfl ?_
        refine l_skip (wg rfl rfl rfl) rfl ?_
        refine l_val wn (r_pick rfl rfl) rfl ?_
        refine l_val wn (r_move rfl) rfl ?_
        refine l_skip (wg rfl rfl rfl) rfl ?_
        refine l_skip (wg rfl rfl rfl) rfl ?_
        refine l_skip (wg rfl rfl rfl) rfl ?_
        refine l_skip (wg rfl rfl rfl) rfl ?_
        refine l_val wn (r_pick rfl rfl) rfl ?_
        refine l_nil (e_cut hK6 (sc rfl (sc rfl (sc rfl (sc rfl (sc rfl (sc (jt (Or.inr (Or.inl h2))) sn)))))) (fun _ h => h))
      ·
        have hsp : 0 < Roll.step tier := by rcases Roll.step_cases h2 with e | e <;> rw [e] <;> decide
        refine l_val (wg rfl rfl rfl) (r_move rfl) rfl ?_
        refine l_val (wg rfl rfl rfl) (r_lss rfl rfl) rfl ?_
        refine l_val wn (r_pick rfl rfl) rfl ?_
        refine l_val wn (r_move rfl) rfl ?_
        refine l_case (t := 30) rfl (fun h3 => ?_) (fun h3 => ?_)
        ·
          refine l_skip (wg rfl rfl rfl) rfl ?_
          refine l_skip (wg rfl rfl rfl) rfl ?_
          refine l_skip (wg rfl rfl rfl) rfl ?_
          refine l_val wn (r_pick rfl rfl) rfl ?_
          refine l_val wn (r_move rfl) rfl ?_
          refine l_skip (wg rfl rfl rfl) rfl ?_
          refine l_skip (wg rfl rfl rfl) rfl ?_
          refine l_skip (wg rfl rfl rfl) rfl ?_
          refine l_skip (wg rfl rfl rfl) rfl ?_
          refine l_val wn (r_pick rfl rfl) rfl ?_
          refine l_nil (e_cut hK6 (sc rfl (sc rfl (sc rfl (sc rfl (sc rfl (sc (jt (Or.inr (Or.inr (Or.inl h3)))) sn)))))) (fun _ h => h))
        ·
          refine l_val (wg rfl rfl rfl) (r_move rfl) rfl ?_
          refine l_val (wg rfl rfl rfl) (r_move rfl) rfl ?_
          refine l_val (wg rfl rfl rfl) (r_lss rfl rfl) rfl ?_
          refine l_val wn (r_pick rfl rfl) rfl ?_
          refine l_val wn (r_move rfl) rfl ?_
          refine l_case (t := 35) rfl (fun h4 => ?_) (fun h4 => ?_)
          ·
            refine l_skip (wg rfl rfl rfl) rfl ?_
            refine l_skip (wg rfl rfl rfl) rfl ?_
            refine l_skip (wg rfl rfl rfl) rfl ?_
            refine l_skip (wg rfl rfl rfl) rfl ?_
            refine l_val wn (r_pick rfl rfl) rfl ?_
            refine l_nil (e_cut hK6 (sc rfl (sc rfl (sc rfl (sc rfl (sc rfl (sc (jt (Or.inr (Or.inr (Or.inr (Or.inl h4))))) sn)))))) (fun _ h => h))
          ·
            refine l_val (wg rfl rfl rfl) (r_move rfl) rfl ?_
            refine l_val (wg rfl rfl rfl) (r_move rfl) rfl ?_
            refine l_val (wg rfl rfl rfl) (r_quon rfl rfl (by omega) (by omega)) rfl ?_
            refine l_val (wg rfl rfl rfl) (r_gtr rfl rfl) rfl ?_
            refine l_val wn (r_pick rfl rfl) rfl ?_
            refine l_nil (e_cut hK6 (sc rfl (sc rfl (sc rfl (sc rfl (sc rfl (sc (jp (iff_or_right h1 (iff_or_right h2 (iff_or_right h3 (iff_or_right h4 Iff.rfl))))) sn)))))) (fun _ h => h))
  ·
    refine c_cond rfl (fun h5 => ?_) (fun h5 => ?_)
    ·
      refine c_seq fun K7 hK7 => ?_
      refine c_region ?_
      refine l_val wn (r_assign rfl) rfl ?_
      refine l_nil (e_go hK7 ?_)
      refine c_ret (e_then_r (e_ret1 (.inl rfl) Try.results11 (rv_tmp rfl) fun w1 hM => ?_))
      exact ret_ok rfl hM
    ·
      have hr := Codec.right_of (Classical.not_not.1 (fun g => h5 (Or.inl g)))
      have hln := hr.len
      have hst : Roll.step tier ≠ 0 := fun g => h5 (Or.inr (Or.inl g))
      refine c_skip (e_go hK5 ?_)
      refine c_seq fun K8 hK8 => ?_
      refine c_region ?_
      refine l_nilRow (sampleE : Sample → List Value) 29 2 ?_
      refine l_val wn (r_assign rfl) rfl ?_
      refine l_nil (e_go hK8 ?_)
      refine c_seq fun K9 hK9 => ?_
      refine c_seq fun K10 hK10 => ?_
      refine c_region ?_
      refine l_val wn (r_move rfl) rfl ?_
      refine l_val wn (r_len rfl Try.underlying22) rfl ?_
      refine l_val wn (r_move rfl) rfl ?_
      refine l_nil (e_go hK10 ?_)
      refine c_block ?_
      refine c_loop2 (fun (k : Nat) (vr : Value) => [(0, .slice lA l.length lc), (1, .int .i64 tier), (2, .int .i64 a), (3, .int .i64 b), (9, .int .i64 (Roll.step tier)), (10, vr), (41, .slice lA l.length lc), (42, .int .i64 (l.length : Int)), (43, .int .i64 (k : Int))]) (fun (k : Nat) (vr : Value) => [Row vr 29 2 sampleE (Roll.inT (l.take k) (IntKind.wrap .i64 (a * (Roll.step tier))) (IntKind.wrap .i64 (b * (Roll.step tier)))), slO (In w) 2 sampleE (.slice lA l.length lc) l]) (fun (k : Nat) (vr : Value) => k ≤ l.length) (fun (k : Nat) (vr : Value) => l.length - k) 0 (.slice none 0 0) (sc rfl (sc rfl (sc rfl (sc rfl (sc rfl (sc rfl (sc rfl (sc rfl (sc (ji (by omega)) sn))))))))) (fun _ h => h) ?_ (fun k vr hI1 => ?_)
      · omega
      ·
        have hlen := Nat.le_trans (Roll.inT_len (l.take k) (IntKind.wrap .i64 (a * (Roll.step tier))) (IntKind.wrap .i64 (b * (Roll.step tier)))) (List.length_take_le k l)
        refine c_open 0 (l := (Roll.inT (l.take k) (IntKind.wrap .i64 (a * (Roll.step tier))) (IntKind.wrap .i64 (b * (Roll.step tier))))) rfl fun A1 cp1 hv1 hc1 hm1 hA1 => ?_
        subst hv1
        refine c_seq fun K11 hK11 => ?_
        refine c_region ?_
        refine l_val wn (r_lss rfl rfl) rfl ?_
        refine l_nil (e_go hK11 ?_)
        refine c_seq fun K12 hK12 => ?_
        refine c_cond rfl (fun h6 => ?_) (fun h6 => ?_)
        ·
          refine c_skip (e_go hK12 ?_)
          refine c_seq fun K13 hK13 => ?_
          refine c_block ?_
          refine c_seq fun K14 hK14 => ?_
          refine c_region ?_
          obtain ⟨ad1, hd1⟩ := hlA (ne_nil (i := k) (by first | omega | decide | (simp only [List.length_cons, List.length_nil, List.length_append, List.length_take, List.length_set]; omega)))
          refine l_val wn (r_ia (i := k) rfl hd1 rfl (by omega) (by first | omega | decide | (simp only [List.length_cons, List.length_nil, List.length_append, List.length_take, List.length_set]; omega)) Try.underlying22 inf29) rfl ?_
          obtain ⟨s1, hs1⟩ : ∃ x, l[k]? = some x := ⟨_, List.getElem?_eq_getElem (by first | omega | decide | (simp only [List.length_cons, List.length_nil, List.length_append, List.length_take, List.length_set]; omega))⟩
          refine l_val wn (r_eln 1 [.int .i64 s1.time, .int .i64 s1.value] rfl rfl hd1 hs1 rfl rfl agg29 inf29) rfl ?_
          refine l_alloc wn inf29 rfl fun b12 => ?_
          refine l_stn 0 wn rfl rfl rfl inf29 rfl rfl rfl ?_
          refine l_nil (e_go hK14 ?_)
          refine c_cut [(0, .slice lA l.length lc), (1, .int .i64 tier), (2, .int .i64 a), (3, .int .i64 b), (9, .int .i64 (Roll.step tier)), (10, .slice A1 ((Roll.inT (l.take k) (IntKind.wrap .i64 (a * (Roll.step tier))) (IntKind.wrap .i64 (b * (Roll.step tier)))).length) cp1), (12, .pointer (some ⟨b12, 0, none⟩)), (41, .slice lA l.length lc), (42, .int .i64 (l.length : Int)), (43, .int .i64 (k : Int)), (60, .bool (decide (((IntKind.wrap .i64 (a * (Roll.step tier))) ≤ s1.time) ∧ (s1.time < (IntKind.wrap .i64 (b * (Roll.step tier)))))))] (Mem w no [.blk b12 [.int .i64 s1.time, .int .i64 s1.value] 29, Row (.slice A1 ((Roll.inT (l.take k) (IntKind.wrap .i64 (a * (Roll.step tier))) (IntKind.wrap .i64 (b * (Roll.step tier)))).length) cp1) 29 2 sampleE (Roll.inT (l.take k) (IntKind.wrap .i64 (a * (Roll.step tier))) (IntKind.wrap .i64 (b * (Roll.step tier)))), slO (In w) 2 sampleE (.slice lA l.length lc) l]) (fun K15 hK15 => ?_) ?_
          ·
            refine c_region ?_
            refine l_val wn (r_fa rfl fld29_0) rfl ?_
            refine l_val wn (r_lb 0 rfl rfl rfl flat3) rfl ?_
            refine l_val wn (r_move rfl) rfl ?_
            refine l_val wn (r_move rfl) rfl ?_
            refine l_val wn (r_mul rfl rfl) rfl ?_
            refine l_val wn (r_geq rfl rfl) rfl ?_
            refine l_val wn (r_move rfl) rfl ?_
            refine l_case (t := 53) rfl (fun h7 => ?_) (fun h7 => ?_)
            ·
              refine l_val (wg rfl rfl rfl) (r_fa rfl fld29_0) rfl ?_
              refine l_val (wg rfl rfl rfl) (r_lb 0 rfl rfl rfl flat3) rfl ?_
              refine l_val (wg rfl rfl rfl) (r_move rfl) rfl ?_
              refine l_val (wg rfl rfl rfl) (r_move rfl) rfl ?_
              refine l_val (wg rfl rfl rfl) (r_mul rfl rfl) rfl ?_
              refine l_val (wg rfl rfl rfl) (r_lss rfl rfl) rfl ?_
              refine l_val wn (r_pick rfl rfl) rfl ?_
              refine l_nil (e_cut hK15 (sc rfl (sc rfl (sc rfl (sc rfl (sc rfl (sc rfl (sc rfl (sc rfl (sc rfl (sc rfl (sc (jp (iff_and_right h7 Iff.rfl)) sn))))))))))) (fun _ h => h))
            ·
              refine l_skip (wg rfl rfl rfl) rfl ?_
              refine l_skip (wg rfl rfl rfl) rfl ?_
              refine l_skip (wg rfl rfl rfl) rfl ?_
              refine l_skip (wg rfl rfl rfl) rfl ?_
              refine l_skip (wg rfl rfl rfl) rfl ?_
              refine l_skip (wg rfl rfl rfl) rfl ?_
              refine l_val wn (r_pick rfl rfl) rfl ?_
              refine l_nil (e_cut hK15 (sc rfl (sc rfl (sc rfl (sc rfl (sc rfl (sc rfl (sc rfl (sc rfl (sc rfl (sc rfl (sc (jf (fun g => h7 g.1)) sn))))))))))) (fun _ h => h))
          ·
            refine c_cond rfl (fun h8 => ?_) (fun h8 => ?_)
            ·
              refine c_region ?_
              refine l_val wn (r_move rfl) rfl ?_
              refine l_val wn (r_lbn 0 [.int .i64 s1.time, .int .i64 s1.value] rfl rfl rfl rfl agg29 inf29) rfl ?_
              refine l_bsL sampleE ([s1] : List Sample) wn Try.underlying22 inf29 rfl rfl rfl rfl (by decide) (by decide) rfl fun b63 => ?_
              refine l_app 2 (Roll.inT (l.take k) (IntKind.wrap .i64 (a * (Roll.step tier))) (IntKind.wrap .i64 (b * (Roll.step tier)))) ([s1] : List Sample) encSample wn rfl rfl rfl (fun _ hM => (RowSl encSample hM 0 rfl)) Try.underlying22 inf29 rfl rfl (by simp only [List.length_append, List.length_cons, List.length_nil]; omega) rfl fun A2 cp2 hc2 hm2 hA2 => ?_
              refine l_val wn (r_assign rfl) rfl ?_
              refine l_nil (e_in_n (e_go hK13 ?_))
              refine c_region ?_
              refine l_val wn (r_addn rfl rfl (by omega)) rfl ?_
              refine l_val wn (r_move rfl) rfl ?_
              refine l_nil (e_round2 (k + 1) (.slice A2 (((Roll.inT (l.take k) (IntKind.wrap .i64 (a * (Roll.step tier))) (IntKind.wrap .i64 (b * (Roll.step tier)))) ++ ([s1] : List Sample)).length) cp2) (sc rfl (sc rfl (sc rfl (sc rfl (sc rfl (sc rfl (sc rfl (sc rfl (sc (ji (by omega)) sn))))))))) (fun _ h => by rw [(Roll.inT_succ (a := (IntKind.wrap .i64 (a * (Roll.step tier)))) (b := (IntKind.wrap .i64 (b * (Roll.step tier)))) hs1).trans (if_pos h8)]; exact (h.sel [2, 3] (by decide) rfl)) ?_ ?_)
              · omega
              · omega
            ·
              refine c_skip (e_in_n (e_go hK13 ?_))
              refine c_region ?_
              refine l_val wn (r_addn rfl rfl (by omega)) rfl ?_
              refine l_val wn (r_move rfl) rfl ?_
              refine l_nil (e_round2 (k + 1) (.slice A1 ((Roll.inT (l.take k) (IntKind.wrap .i64 (a * (Roll.step tier))) (IntKind.wrap .i64 (b * (Roll.step tier)))).length) cp1) (sc rfl (sc rfl (sc rfl (sc rfl (sc rfl (sc rfl (sc rfl (sc rfl (sc (ji (by omega)) sn))))))))) (fun _ h => by rw [(Roll.inT_succ (a := (IntKind.wrap .i64 (a * (Roll.step tier)))) (b := (IntKind.wrap .i64 (b * (Roll.step tier)))) hs1).trans (if_neg h8)]; exact (h.sel [1, 2] (by decide) rfl)) ?_ ?_)
              · omega
              · omega
        ·
          refine c_exit (e_then_x (e_loop2_x (e_in_hit (e_go hK9 ?_))))
          refine c_seq fun K16 hK16 => ?_
          refine c_region ?_
          refine l_val wn (r_move rfl) rfl ?_
          refine l_val wn (r_move rfl) rfl ?_
          refine l_callL (Roll.up l tier) wn rfl Try.call27 rfl (fun w1 hM => c_Up _ l tier w1 (hM.sl 1 rfl) (by first | assumption | omega | (simp only [List.length_cons, List.length_nil]; omega) | exact Nat.le_trans (Roll.up_len _ _) (by first | omega | simp))) fun A3 cp3 hc3 hm3 hA3 => ?_
          refine l_val wn (r_assign rfl) rfl ?_
          refine l_nil (e_go hK16 ?_)
          refine c_seq fun K17 hK17 => ?_
          refine c_region ?_
          refine l_val wn (r_move rfl) rfl ?_
          refine l_val wn (r_move rfl) rfl ?_
          refine l_callF wn rfl Try.call29 rfl (fun w1 hM => c_rollWrong _ (Roll.up l tier) tier w1 (RowSl encBucket hM 0 rfl)) ?_
          refine l_val wn (r_fieldv rfl fld45_0 fty45_0 flat43 rfl) rfl ?_
          refine l_val wn (r_eql rfl rfl) rfl ?_
          refine l_val wn (r_move rfl) rfl ?_
          refine l_litt (t := 74) rfl (Roll.up_right hr hst) ?_
          refine l_val (wg rfl rfl rfl) (r_move rfl) rfl ?_
          refine l_val (wg rfl rfl rfl) (r_move rfl) rfl ?_
          refine l_val (wg rfl rfl rfl) (r_move rfl) rfl ?_
          refine l_val (wg rfl rfl rfl) (r_mul rfl rfl) rfl ?_
          refine l_val (wg rfl rfl rfl) (r_move rfl) rfl ?_
          refine l_val (wg rfl rfl rfl) (r_move rfl) rfl ?_
          refine l_val (wg rfl rfl rfl) (r_mul rfl rfl) rfl ?_
          refine l_callF (wg rfl rfl rfl) rfl Try.call31 rfl (fun w1 hM => c_rollOf _ (Roll.up l tier) (IntKind.wrap .i64 (a * (Roll.step tier))) (IntKind.wrap .i64 (b * (Roll.step tier))) w1 (RowSl encBucket hM 0 rfl)) ?_
          refine l_val (wg rfl rfl rfl) (r_move rfl) rfl ?_
          refine l_callF (wg rfl rfl rfl) rfl Try.call13 rfl (fun w1 hM => c_Of _ (Roll.inT (l.take k) (IntKind.wrap .i64 (a * (Roll.step tier))) (IntKind.wrap .i64 (b * (Roll.step tier)))) w1 (RowSl encSample hM 1 rfl)) ?_
          refine l_val (wg rfl rfl rfl) (r_eqlS (a := (Roll.of (Roll.up l tier) (IntKind.wrap .i64 (a * (Roll.step tier))) (IntKind.wrap .i64 (b * (Roll.step tier))))) (b := (Agg.of (Roll.inT (l.take k) (IntKind.wrap .i64 (a * (Roll.step tier))) (IntKind.wrap .i64 (b * (Roll.step tier)))))) rfl rfl eqv24) rfl ?_
          refine l_val wn (r_pick rfl rfl) rfl ?_
          refine l_val wn (r_assign rfl) rfl ?_
          refine l_nil (e_go hK17 ?_)
          refine c_ret (e_ret1 (.inl rfl) Try.results11 (rv_tmp rfl) fun w1 hM => ?_)
          exact ret_ok (by rw [List.take_of_length_le (by omega), decide_eq_true (Roll.exact_ hr hst (by omega) (by omega) (by omega))]) hM

end Go.Proofs.Yteogkbpcibnifaa
