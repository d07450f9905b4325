/-
  Walks: what each function hands back.
-/
import Derived.Test.YtekamocheffppaaWcodec
namespace Go.Proofs.Ytekamocheffppaa
open Ex
set_option linter.unusedVariables false
set_option linter.unusedSimpArgs false
theorem law_NamesOrder (av : Value) (a : List Label) (bv : Value) (b : List Label) (cv : Value) (c : List Label) (w : World) (ha : FlatSl (In w) 2 labelE av a w) (hb : FlatSl (In w) 2 labelE bv b w) (hc : FlatSl (In w) 2 labelE cv c w)  :
    Calls Try.prog 7 #[av, bv, cv] w (Ret w (.bool true)) := by
  obtain ⟨aA, ac, rfl, hac, ham, haA⟩ := ha.form
  obtain ⟨bA, bc, rfl, hbc, hbm, hbA⟩ := hb.form
  obtain ⟨cA, cc, rfl, hcc, hcm, hcA⟩ := hc.form
  refine fstart (N := 52) (vals := [.slice aA a.length ac, .slice bA b.length bc, .slice cA c.length cc]) (S := Mem w no [slO (In w) 2 labelE (.slice aA a.length ac) a, slO (In w) 2 labelE (.slice bA b.length bc) b, slO (In w) 2 labelE (.slice cA c.length cc) c]) Try.func7 rfl rfl rfl (Mem.ofDats (dc (dl ha) (dc (dl hb) (dc (dl hc) dn)))) ?_
  refine c_seq fun K1 hK1 => ?_
  refine c_region ?_
  refine l_val wn (r_assign rfl) rfl ?_
  refine l_nil (e_go hK1 ?_)
  refine c_seq fun K2 hK2 => ?_
  refine c_seq fun K3 hK3 => ?_
  refine c_region ?_
  refine l_callF wn rfl Try.call18 rfl (fun w1 hM => c_alive4  w1) ?_
  refine l_val wn (r_notb rfl) rfl ?_
  refine l_nil (e_go hK3 ?_)
  refine c_false rfl rfl ?_
  refine c_skip (e_go hK2 ?_)
  refine c_seq fun K4 hK4 => ?_
  refine c_region ?_
  refine l_val wn (r_move rfl) rfl ?_
  refine l_val wn (r_move rfl) rfl ?_
  refine l_callF wn rfl Try.call19 rfl (fun w1 hM => c_compare _ a _ b w1 (hM.sl 0 rfl) (hM.sl 1 rfl)) ?_
  refine l_val wn (r_move rfl) rfl ?_
  refine l_val wn (r_move rfl) rfl ?_
  refine l_callF wn rfl Try.call19 rfl (fun w1 hM => c_compare _ b _ a w1 (hM.sl 1 rfl) (hM.sl 0 rfl)) ?_
  refine l_val wn (r_assign rfl) rfl ?_
  refine l_val wn (r_assign rfl) rfl ?_
  refine l_nil (e_go hK4 ?_)
  refine c_seq fun K5 hK5 => ?_
  refine c_cut [(0, .slice aA a.length ac), (1, .slice bA b.length bc), (2, .slice cA c.length cc), (7, .int .i64 (Names.compare a b)), (36, .bool (decide (((decide ((Names.compare a b) < 0)) ≠ (decide (0 < (Names.compare b a)))) ∨ (((decide ((Names.compare a b) = 0)) ≠ (decide (a = b))) ∨ ((decide ((Names.compare b a) = 0)) ≠ (decide ((Names.compare a b) = 0)))))))] (Mem w no [slO (In w) 2 labelE (.slice aA a.length ac) a, slO (In w) 2 labelE (.slice bA b.length bc) b, slO (In w) 2 labelE (.slice cA c.length cc) c]) (fun K6 hK6 => ?_) ?_
  ·
    refine c_region ?_
    refine l_val wn (r_move rfl) rfl ?_
    refine l_val wn (r_lss rfl rfl) rfl ?_
    refine l_val wn (r_move rfl) rfl ?_
    refine l_val wn (r_gtr rfl rfl) rfl ?_
    refine l_val wn (r_bneq rfl rfl flat4 Try.underlying4) rfl ?_
    refine l_val wn (r_move rfl) rfl ?_
    refine l_case (t := 22) rfl (fun h1 => ?_) (fun h1 => ?_)
    ·
      refine l_skip (wg rfl rfl rfl) rfl ?_
      refine l_skip (wg rfl rfl rfl) rfl ?_
      refine l_skip (wg rfl rfl rfl) rfl ?_
      refine l_skip (wg rfl rfl rfl) rfl ?_
      refine l_skip (wg rfl rfl rfl) rfl ?_
      refine l_skip (wg rfl rfl rfl) rfl ?_
      refine l_val wn (r_pick rfl rfl) rfl ?_
      refine l_val wn (r_move rfl) rfl ?_
      refine l_skip (wg rfl rfl rfl) rfl ?_
      refine l_skip (wg rfl rfl rfl) rfl ?_
      refine l_skip (wg rfl rfl rfl) rfl ?_
      refine l_skip (wg rfl rfl rfl) rfl ?_
      refine l_skip (wg rfl rfl rfl) rfl ?_
      refine l_val wn (r_pick rfl rfl) rfl ?_
      refine l_nil (e_cut hK6 (sc rfl (sc rfl (sc rfl (sc rfl (sc (jt (Or.inl h1)) sn))))) (fun _ h => h))
    ·
      refine l_val (wg rfl rfl rfl) (r_move rfl) rfl ?_
      refine l_val (wg rfl rfl rfl) (r_eql rfl rfl) rfl ?_
      refine l_val (wg rfl rfl rfl) (r_move rfl) rfl ?_
      refine l_val (wg rfl rfl rfl) (r_move rfl) rfl ?_
      refine l_callF (wg rfl rfl rfl) rfl Try.call20 rfl (fun w1 hM => c_SameSeries _ a _ b w1 (hM.sl 0 rfl) (hM.sl 1 rfl)) ?_
      refine l_val (wg rfl rfl rfl) (r_bneq rfl rfl flat4 Try.underlying4) rfl ?_
      refine l_val wn (r_pick rfl rfl) rfl ?_
      refine l_val wn (r_move rfl) rfl ?_
      refine l_case (t := 30) rfl (fun h2 => ?_) (fun h2 => ?_)
      ·
        refine l_skip (wg rfl rfl rfl) rfl ?_
        refine l_skip (wg rfl rfl rfl) rfl ?_
        refine l_skip (wg rfl rfl rfl) rfl ?_
        refine l_skip (wg rfl rfl rfl) rfl ?_
        refine l_skip (wg rfl rfl rfl) rfl ?_
        refine l_val wn (r_pick rfl rfl) rfl ?_
        refine l_nil (e_cut hK6 (sc rfl (sc rfl (sc rfl (sc rfl (sc (jt (Or.inr (Or.inl h2))) sn))))) (fun _ h => h))
      ·
        refine l_val (wg rfl rfl rfl) (r_move rfl) rfl ?_
        refine l_val (wg rfl rfl rfl) (r_eql rfl rfl) rfl ?_
        refine l_val (wg rfl rfl rfl) (r_move rfl) rfl ?_
        refine l_val (wg rfl rfl rfl) (r_eql rfl rfl) rfl ?_
        refine l_val (wg rfl rfl rfl) (r_bneq rfl rfl flat4 Try.underlying4) rfl ?_
        refine l_val wn (r_pick rfl rfl) rfl ?_
        refine l_nil (e_cut hK6 (sc rfl (sc rfl (sc rfl (sc rfl (sc (jp (iff_or_right h1 (iff_or_right h2 Iff.rfl))) sn))))) (fun _ h => h))
  ·
    refine c_cond rfl (fun h3 => ?_) (fun h3 => ?_)
    ·
      refine c_seq fun K7 hK7 => ?_
      refine c_region ?_
      refine l_val wn (r_assign rfl) rfl ?_
      refine l_nil (e_go hK7 ?_)
      refine c_ret (e_then_r (e_ret1 (.inl rfl) Try.results7 (rv_tmp rfl) fun w1 hM => ?_))
      exact absurd h3 (Names.order1 a b)
    ·
      refine c_skip (e_go hK5 ?_)
      refine c_seq fun K8 hK8 => ?_
      refine c_region ?_
      refine l_val wn (r_move rfl) rfl ?_
      refine l_val wn (r_lss rfl rfl) rfl ?_
      refine l_val wn (r_move rfl) rfl ?_
      refine l_case (t := 39) rfl (fun h4 => ?_) (fun h4 => ?_)
      ·
        refine l_val (wg rfl rfl rfl) (r_move rfl) rfl ?_
        refine l_val (wg rfl rfl rfl) (r_move rfl) rfl ?_
        refine l_callF (wg rfl rfl rfl) rfl Try.call19 rfl (fun w1 hM => c_compare _ b _ c w1 (hM.sl 1 rfl) (hM.sl 2 rfl)) ?_
        refine l_val (wg rfl rfl rfl) (r_lss rfl rfl) rfl ?_
        refine l_val wn (r_pick rfl rfl) rfl ?_
        refine l_val wn (r_not rfl) rfl ?_
        refine l_val wn (r_move rfl) rfl ?_
        refine l_case (t := 46) rfl (fun h5 => ?_) (fun h5 => ?_)
        ·
          refine l_skip (wg rfl rfl rfl) rfl ?_
          refine l_skip (wg rfl rfl rfl) rfl ?_
          refine l_skip (wg rfl rfl rfl) rfl ?_
          refine l_skip (wg rfl rfl rfl) rfl ?_
          refine l_val wn (r_pick rfl rfl) rfl ?_
          refine l_val wn (r_assign rfl) rfl ?_
          refine l_nil (e_go hK8 ?_)
          refine c_ret (e_ret1 (.inl rfl) Try.results7 (rv_tmp rfl) fun w1 hM => ?_)
          exact ret_ok rfl hM
        ·
          refine l_val (wg rfl rfl rfl) (r_move rfl) rfl ?_
          refine l_val (wg rfl rfl rfl) (r_move rfl) rfl ?_
          refine l_callF (wg rfl rfl rfl) rfl Try.call19 rfl (fun w1 hM => c_compare _ a _ c w1 (hM.sl 0 rfl) (hM.sl 2 rfl)) ?_
          refine l_val (wg rfl rfl rfl) (r_lss rfl rfl) rfl ?_
          refine l_val wn (r_pick rfl rfl) rfl ?_
          refine l_val wn (r_assign rfl) rfl ?_
          refine l_nil (e_go hK8 ?_)
          refine c_ret (e_ret1 (.inl rfl) Try.results7 (rv_tmp rfl) fun w1 hM => ?_)
          exact ret_ok (by rw [decide_eq_true (Names.compare_is.trans a b c h4 (Classical.not_not.1 h5))]) hM
      ·
        refine l_skip (wg rfl rfl rfl) rfl ?_
        refine l_skip (wg rfl rfl rfl) rfl ?_
        refine l_skip (wg rfl rfl rfl) rfl ?_
        refine l_skip (wg rfl rfl rfl) rfl ?_
        refine l_val wn (r_pick rfl rfl) rfl ?_
        refine l_val wn (r_notb rfl) rfl ?_
        refine l_val wn (r_move rfl) rfl ?_
        refine l_skip (wg rfl rfl rfl) rfl ?_
        refine l_skip (wg rfl rfl rfl) rfl ?_
        refine l_skip (wg rfl rfl rfl) rfl ?_
        refine l_skip (wg rfl rfl rfl) rfl ?_
        refine l_val wn (r_pick rfl rfl) rfl ?_
        refine l_val wn (r_assign rfl) rfl ?_
        refine l_nil (e_go hK8 ?_)
        refine c_ret (e_ret1 (.inl rfl) Try.results7 (rv_tmp rfl) fun w1 hM => ?_)
        exact ret_ok rfl hM

theorem law_NamesNot (rv : Value) (r : List Label) (lv : Value) (l : List Match) (w : World) (hr : FlatSl (In w) 2 labelE rv r w) (hl : FlatSl (In w) 3 matchE lv l w)  :
    Calls Try.prog 8 #[rv, lv] w (Ret w (.bool true)) := by
  obtain ⟨rA, rc, rfl, hrc, hrm, hrA⟩ := hr.form
  obtain ⟨lA, lc, rfl, hlc, hlm, hlA⟩ := hl.form
  refine fstart (N := 57) (vals := [.slice rA r.length rc, .slice lA l.length lc]) (S := Mem w no [slO (In w) 2 labelE (.slice rA r.length rc) r, slO (In w) 3 matchE (.slice lA l.length lc) l]) Try.func8 rfl rfl rfl (Mem.ofDats (dc (dl hr) (dc (dl hl) dn))) ?_
  refine c_seq fun K1 hK1 => ?_
  refine c_region ?_
  refine l_val wn (r_assign rfl) rfl ?_
  refine l_nil (e_go hK1 ?_)
  refine c_seq fun K2 hK2 => ?_
  refine c_seq fun K3 hK3 => ?_
  refine c_region ?_
  refine l_callF wn rfl Try.call18 rfl (fun w1 hM => c_alive4  w1) ?_
  refine l_val wn (r_notb rfl) rfl ?_
  refine l_nil (e_go hK3 ?_)
  refine c_false rfl rfl ?_
  refine c_skip (e_go hK2 ?_)
  refine c_seq fun K4 hK4 => ?_
  refine c_region ?_
  refine l_val wn (r_assign rfl) rfl ?_
  refine l_nil (e_go hK4 ?_)
  refine c_seq fun K5 hK5 => ?_
  refine c_seq fun K6 hK6 => ?_
  refine c_region ?_
  refine l_val wn (r_move rfl) rfl ?_
  refine l_val wn (r_len rfl Try.underlying44) rfl ?_
  refine l_val wn (r_move rfl) rfl ?_
  refine l_nil (e_go hK6 ?_)
  refine c_block ?_
  refine c_loop1 (fun (k : Nat) => [(0, .slice rA r.length rc), (1, .slice lA l.length lc), (5, .bool (Names.matches_ r (l.take k))), (12, .slice lA l.length lc), (13, .int .i64 (l.length : Int)), (14, .int .i64 (k : Int))]) (fun (k : Nat) => [slO (In w) 2 labelE (.slice rA r.length rc) r, slO (In w) 3 matchE (.slice lA l.length lc) l]) (fun (k : Nat) => k ≤ l.length) (fun (k : Nat) => l.length - k) 0 (sc rfl (sc rfl (sc (jv (by first | (show Value.bool true = Value.bool (Names.matches_ r (List.take 0 l)); rfl) | rw [Names.take_matches hs1]; first | (rw [(by assumption : Names.matches_ r (l.take k) = true), Bool.true_and]) | (rw [Bool.eq_false_iff.2 (by assumption : ¬ Names.matches_ r (l.take k) = true), Bool.false_and]) | rfl)) (sc rfl (sc rfl (sc (ji (by omega)) sn)))))) (fun _ h => h) ?_ (fun k hI1 => ?_)
  · simp
  ·
    refine c_seq fun K7 hK7 => ?_
    refine c_region ?_
    refine l_val wn (r_lss rfl rfl) rfl ?_
    refine l_nil (e_go hK7 ?_)
    refine c_seq fun K8 hK8 => ?_
    refine c_cond rfl (fun h1 => ?_) (fun h1 => ?_)
    ·
      refine c_skip (e_go hK8 ?_)
      refine c_seq fun K9 hK9 => ?_
      refine c_block ?_
      refine c_seq fun K10 hK10 => ?_
      refine c_region ?_
      obtain ⟨ad1, hd1⟩ := hlA (ne_nil (i := k) (by first | omega | decide | (simp only [List.length_cons, List.length_nil, List.length_append, List.length_take, List.length_set]; omega)))
      refine l_val wn (r_ia (i := k) rfl hd1 rfl (by omega) (by first | omega | decide | (simp only [List.length_cons, List.length_nil, List.length_append, List.length_take, List.length_set]; omega)) Try.underlying44 inf46) rfl ?_
      obtain ⟨s1, hs1⟩ : ∃ x, l[k]? = some x := ⟨_, List.getElem?_eq_getElem (by first | omega | decide | (simp only [List.length_cons, List.length_nil, List.length_append, List.length_take, List.length_set]; omega))⟩
      refine l_val wn (r_eln 1 [.int .i64 s1.kind, .string s1.key, .string s1.val] rfl rfl hd1 hs1 rfl rfl agg46 inf46) rfl ?_
      refine l_alloc wn inf46 rfl fun b7 => ?_
      refine l_stn 0 wn rfl rfl rfl inf46 rfl rfl rfl ?_
      refine l_nil (e_go hK10 ?_)
      refine c_seq fun K11 hK11 => ?_
      refine c_region ?_
      refine l_val wn (r_lbn 0 [.int .i64 s1.kind, .string s1.key, .string s1.val] rfl rfl rfl rfl agg46 inf46) rfl ?_
      refine l_alloc wn inf46 rfl fun b8 => ?_
      refine l_stn 0 wn rfl rfl rfl inf46 rfl rfl rfl ?_
      refine l_nil (e_go hK11 ?_)
      refine c_seq fun K12 hK12 => ?_
      refine c_seq fun K13 hK13 => ?_
      refine c_region ?_
      refine l_val wn (r_fa rfl fld46_0) rfl ?_
      refine l_val wn (r_lb 1 rfl rfl rfl flat3) rfl ?_
      refine l_nil (e_go hK13 ?_)
      refine c_block ?_
      refine c_seq fun K14 hK14 => ?_
      refine c_region ?_
      refine l_val wn (r_eql rfl rfl) rfl ?_
      refine l_val wn (r_assign rfl) rfl ?_
      refine l_nil (e_go hK14 ?_)
      refine c_cond rfl (fun h2 => ?_) (fun h2 => ?_)
      ·
        refine c_region ?_
        refine l_val wn (r_fa rfl fld46_0) rfl ?_
        refine l_st1 0 wn rfl rfl rfl rfl inf3 rfl rfl ?_
        refine l_nil (e_in_n (e_go hK12 ?_))
        refine c_seq fun K15 hK15 => ?_
        refine c_region ?_
        refine l_val wn (r_move rfl) rfl ?_
        refine l_val wn (r_lbn 1 [.int .i64 s1.kind, .string s1.key, .string s1.val] rfl rfl rfl rfl agg46 inf46) rfl ?_
        refine l_bsL matchE ([s1] : List Match) wn Try.underlying44 inf46 rfl rfl rfl rfl (by decide) (by decide) rfl fun b39 => ?_
        refine l_callF wn rfl Try.call21 rfl (fun w1 hM => c_matches _ r _ ([s1] : List Match) w1 (hM.sl 3 rfl) (RowSl encMatch hM 0 rfl)) ?_
        refine l_val wn (r_assign rfl) rfl ?_
        refine l_nil (e_go hK15 ?_)
        refine c_seq fun K16 hK16 => ?_
        refine c_seq fun K17 hK17 => ?_
        refine c_region ?_
        refine l_val wn (r_move rfl) rfl ?_
        refine l_val wn (r_move rfl) rfl ?_
        refine l_val wn (r_lbn 1 [.int .i64 2, .string s1.key, .string s1.val] rfl rfl rfl rfl agg46 inf46) rfl ?_
        refine l_bsL matchE ([(⟨2, s1.key, s1.val⟩ : Match)] : List Match) wn Try.underlying44 inf46 rfl rfl rfl rfl (by decide) (by decide) rfl fun b44 => ?_
        refine l_callF wn rfl Try.call21 rfl (fun w1 hM => c_matches _ r _ ([(⟨2, s1.key, s1.val⟩ : Match)] : List Match) w1 (hM.sl 4 rfl) (RowSl encMatch hM 0 rfl)) ?_
        refine l_val wn (r_beql rfl rfl flat4 Try.underlying4) rfl ?_
        refine l_nil (e_go hK17 ?_)
        refine c_cond rfl (fun h3 => ?_) (fun h3 => ?_)
        ·
          refine c_seq fun K18 hK18 => ?_
          refine c_region ?_
          refine l_val wn (r_assign rfl) rfl ?_
          refine l_nil (e_go hK18 ?_)
          refine c_ret (e_then_r (e_in_r (e_then_r (e_loop1_r (e_in_r (e_then_r (e_ret1 (.inl rfl) Try.results8 (rv_tmp rfl) fun w1 hM => ?_)))))))
          exact absurd h3 (Names.swap_ne (by omega))
        ·
          refine c_skip (e_go hK16 ?_)
          refine c_region ?_
          refine l_val wn (r_move rfl) rfl ?_
          refine l_val wn (r_move rfl) rfl ?_
          refine l_caseb (t := 48) rfl (fun h4 => ?_) (fun h4 => ?_)
          ·
            refine l_val (wg rfl rfl rfl) (r_move rfl) rfl ?_
            refine l_val wn (r_pick rfl rfl) rfl ?_
            refine l_val wn (r_assign rfl) rfl ?_
            refine l_nil (e_in_n (e_go hK9 ?_))
            refine c_region ?_
            refine l_val wn (r_addn rfl rfl (by omega)) rfl ?_
            refine l_val wn (r_move rfl) rfl ?_
            refine l_nil (e_round1 (k + 1) (sc rfl (sc rfl (sc (jv (by first | (show Value.bool true = Value.bool (Names.matches_ r (List.take 0 l)); rfl) | rw [Names.take_matches hs1]; first | (rw [(by assumption : Names.matches_ r (l.take k) = true), Bool.true_and]) | (rw [Bool.eq_false_iff.2 (by assumption : ¬ Names.matches_ r (l.take k) = true), Bool.false_and]) | rfl)) (sc rfl (sc rfl (sc (ji (by omega)) sn)))))) (fun _ h => (h.sel [4, 5] (by decide) rfl)) ?_ ?_)
            · omega
            · omega
          ·
            refine l_skip (wg rfl rfl rfl) rfl ?_
            refine l_val wn (r_pick rfl rfl) rfl ?_
            refine l_val wn (r_assign rfl) rfl ?_
            refine l_nil (e_in_n (e_go hK9 ?_))
            refine c_region ?_
            refine l_val wn (r_addn rfl rfl (by omega)) rfl ?_
            refine l_val wn (r_move rfl) rfl ?_
            refine l_nil (e_round1 (k + 1) (sc rfl (sc rfl (sc (jv (by first | (show Value.bool true = Value.bool (Names.matches_ r (List.take 0 l)); rfl) | rw [Names.take_matches hs1]; first | (rw [(by assumption : Names.matches_ r (l.take k) = true), Bool.true_and]) | (rw [Bool.eq_false_iff.2 (by assumption : ¬ Names.matches_ r (l.take k) = true), Bool.false_and]) | rfl)) (sc rfl (sc rfl (sc (ji (by omega)) sn)))))) (fun _ h => (h.sel [4, 5] (by decide) rfl)) ?_ ?_)
            · omega
            · omega
      ·
        refine c_seq fun K19 hK19 => ?_
        refine c_region ?_
        refine l_val wn (r_eql rfl rfl) rfl ?_
        refine l_val wn (r_assign rfl) rfl ?_
        refine l_nil (e_go hK19 ?_)
        refine c_cond rfl (fun h5 => ?_) (fun h5 => ?_)
        ·
          refine c_region ?_
          refine l_val wn (r_fa rfl fld46_0) rfl ?_
          refine l_st1 0 wn rfl rfl rfl rfl inf3 rfl rfl ?_
          refine l_nil (e_in_n (e_go hK12 ?_))
          refine c_seq fun K20 hK20 => ?_
          refine c_region ?_
          refine l_val wn (r_move rfl) rfl ?_
          refine l_val wn (r_lbn 1 [.int .i64 s1.kind, .string s1.key, .string s1.val] rfl rfl rfl rfl agg46 inf46) rfl ?_
          refine l_bsL matchE ([s1] : List Match) wn Try.underlying44 inf46 rfl rfl rfl rfl (by decide) (by decide) rfl fun b39 => ?_
          refine l_callF wn rfl Try.call21 rfl (fun w1 hM => c_matches _ r _ ([s1] : List Match) w1 (hM.sl 3 rfl) (RowSl encMatch hM 0 rfl)) ?_
          refine l_val wn (r_assign rfl) rfl ?_
          refine l_nil (e_go hK20 ?_)
          refine c_seq fun K21 hK21 => ?_
          refine c_seq fun K22 hK22 => ?_
          refine c_region ?_
          refine l_val wn (r_move rfl) rfl ?_
          refine l_val wn (r_move rfl) rfl ?_
          refine l_val wn (r_lbn 1 [.int .i64 1, .string s1.key, .string s1.val] rfl rfl rfl rfl agg46 inf46) rfl ?_
          refine l_bsL matchE ([(⟨1, s1.key, s1.val⟩ : Match)] : List Match) wn Try.underlying44 inf46 rfl rfl rfl rfl (by decide) (by decide) rfl fun b44 => ?_
          refine l_callF wn rfl Try.call21 rfl (fun w1 hM => c_matches _ r _ ([(⟨1, s1.key, s1.val⟩ : Match)] : List Match) w1 (hM.sl 4 rfl) (RowSl encMatch hM 0 rfl)) ?_
          refine l_val wn (r_beql rfl rfl flat4 Try.underlying4) rfl ?_
          refine l_nil (e_go hK22 ?_)
          refine c_cond rfl (fun h6 => ?_) (fun h6 => ?_)
          ·
            refine c_seq fun K23 hK23 => ?_
            refine c_region ?_
            refine l_val wn (r_assign rfl) rfl ?_
            refine l_nil (e_go hK23 ?_)
            refine c_ret (e_then_r (e_in_r (e_then_r (e_loop1_r (e_in_r (e_then_r (e_ret1 (.inl rfl) Try.results8 (rv_tmp rfl) fun w1 hM => ?_)))))))
            exact absurd h6 (Names.swap_ne (by omega))
          ·
            refine c_skip (e_go hK21 ?_)
            refine c_region ?_
            refine l_val wn (r_move rfl) rfl ?_
            refine l_val wn (r_move rfl) rfl ?_
            refine l_caseb (t := 48) rfl (fun h7 => ?_) (fun h7 => ?_)
            ·
              refine l_val (wg rfl rfl rfl) (r_move rfl) rfl ?_
              refine l_val wn (r_pick rfl rfl) rfl ?_
              refine l_val wn (r_assign rfl) rfl ?_
              refine l_nil (e_in_n (e_go hK9 ?_))
              refine c_region ?_
              refine l_val wn (r_addn rfl rfl (by omega)) rfl ?_
              refine l_val wn (r_move rfl) rfl ?_
              refine l_nil (e_round1 (k + 1) (sc rfl (sc rfl (sc (jv (by first | (show Value.bool true = Value.bool (Names.matches_ r (List.take 0 l)); rfl) | rw [Names.take_matches hs1]; first | (rw [(by assumption : Names.matches_ r (l.take k) = true), Bool.true_and]) | (rw [Bool.eq_false_iff.2 (by assumption : ¬ Names.matches_ r (l.take k) = true), Bool.false_and]) | rfl)) (sc rfl (sc rfl (sc (ji (by omega)) sn)))))) (fun _ h => (h.sel [4, 5] (by decide) rfl)) ?_ ?_)
              · omega
              · omega
            ·
              refine l_skip (wg rfl rfl rfl) rfl ?_
              refine l_val wn (r_pick rfl rfl) rfl ?_
              refine l_val wn (r_assign rfl) rfl ?_
              refine l_nil (e_in_n (e_go hK9 ?_))
              refine c_region ?_
              refine l_val wn (r_addn rfl rfl (by omega)) rfl ?_
              refine l_val wn (r_move rfl) rfl ?_
              refine l_nil (e_round1 (k + 1) (sc rfl (sc rfl (sc (jv (by first | (show Value.bool true = Value.bool (Names.matches_ r (List.take 0 l)); rfl) | rw [Names.take_matches hs1]; first | (rw [(by assumption : Names.matches_ r (l.take k) = true), Bool.true_and]) | (rw [Bool.eq_false_iff.2 (by assumption : ¬ Names.matches_ r (l.take k) = true), Bool.false_and]) | rfl)) (sc rfl (sc rfl (sc (ji (by omega)) sn)))))) (fun _ h => (h.sel [4, 5] (by decide) rfl)) ?_ ?_)
              · omega
              · omega
        ·
          refine c_seq fun K24 hK24 => ?_
          refine c_region ?_
          refine l_val wn (r_eql rfl rfl) rfl ?_
          refine l_val wn (r_assign rfl) rfl ?_
          refine l_nil (e_go hK24 ?_)
          refine c_cond rfl (fun h8 => ?_) (fun h8 => ?_)
          ·
            refine c_region ?_
            refine l_val wn (r_fa rfl fld46_0) rfl ?_
            refine l_st1 0 wn rfl rfl rfl rfl inf3 rfl rfl ?_
            refine l_nil (e_in_n (e_go hK12 ?_))
            refine c_seq fun K25 hK25 => ?_
            refine c_region ?_
            refine l_val wn (r_move rfl) rfl ?_
            refine l_val wn (r_lbn 1 [.int .i64 s1.kind, .string s1.key, .string s1.val] rfl rfl rfl rfl agg46 inf46) rfl ?_
            refine l_bsL matchE ([s1] : List Match) wn Try.underlying44 inf46 rfl rfl rfl rfl (by decide) (by decide) rfl fun b39 => ?_
            refine l_callF wn rfl Try.call21 rfl (fun w1 hM => c_matches _ r _ ([s1] : List Match) w1 (hM.sl 3 rfl) (RowSl encMatch hM 0 rfl)) ?_
            refine l_val wn (r_assign rfl) rfl ?_
            refine l_nil (e_go hK25 ?_)
            refine c_seq fun K26 hK26 => ?_
            refine c_seq fun K27 hK27 => ?_
            refine c_region ?_
            refine l_val wn (r_move rfl) rfl ?_
            refine l_val wn (r_move rfl) rfl ?_
            refine l_val wn (r_lbn 1 [.int .i64 4, .string s1.key, .string s1.val] rfl rfl rfl rfl agg46 inf46) rfl ?_
            refine l_bsL matchE ([(⟨4, s1.key, s1.val⟩ : Match)] : List Match) wn Try.underlying44 inf46 rfl rfl rfl rfl (by decide) (by decide) rfl fun b44 => ?_
            refine l_callF wn rfl Try.call21 rfl (fun w1 hM => c_matches _ r _ ([(⟨4, s1.key, s1.val⟩ : Match)] : List Match) w1 (hM.sl 4 rfl) (RowSl encMatch hM 0 rfl)) ?_
            refine l_val wn (r_beql rfl rfl flat4 Try.underlying4) rfl ?_
            refine l_nil (e_go hK27 ?_)
            refine c_cond rfl (fun h9 => ?_) (fun h9 => ?_)
            ·
              refine c_seq fun K28 hK28 => ?_
              refine c_region ?_
              refine l_val wn (r_assign rfl) rfl ?_
              refine l_nil (e_go hK28 ?_)
              refine c_ret (e_then_r (e_in_r (e_then_r (e_loop1_r (e_in_r (e_then_r (e_ret1 (.inl rfl) Try.results8 (rv_tmp rfl) fun w1 hM => ?_)))))))
              exact absurd h9 (Names.swap_ne (by omega))
            ·
              refine c_skip (e_go hK26 ?_)
              refine c_region ?_
              refine l_val wn (r_move rfl) rfl ?_
              refine l_val wn (r_move rfl) rfl ?_
              refine l_caseb (t := 48) rfl (fun h10 => ?_) (fun h10 => ?_)
              ·
                refine l_val (wg rfl rfl rfl) (r_move rfl) rfl ?_
                refine l_val wn (r_pick rfl rfl) rfl ?_
                refine l_val wn (r_assign rfl) rfl ?_
                refine l_nil (e_in_n (e_go hK9 ?_))
                refine c_region ?_
                refine l_val wn (r_addn rfl rfl (by omega)) rfl ?_
                refine l_val wn (r_move rfl) rfl ?_
                refine l_nil (e_round1 (k + 1) (sc rfl (sc rfl (sc (jv (by first | (show Value.bool true = Value.bool (Names.matches_ r (List.take 0 l)); rfl) | rw [Names.take_matches hs1]; first | (rw [(by assumption : Names.matches_ r (l.take k) = true), Bool.true_and]) | (rw [Bool.eq_false_iff.2 (by assumption : ¬ Names.matches_ r (l.take k) = true), Bool.false_and]) | rfl)) (sc rfl (sc rfl (sc (ji (by omega)) sn)))))) (fun _ h => (h.sel [4, 5] (by decide) rfl)) ?_ ?_)
                · omega
                · omega
              ·
                refine l_skip (wg rfl rfl rfl) rfl ?_
                refine l_val wn (r_pick rfl rfl) rfl ?_
                refine l_val wn (r_assign rfl) rfl ?_
                refine l_nil (e_in_n (e_go hK9 ?_))
                refine c_region ?_
                refine l_val wn (r_addn rfl rfl (by omega)) rfl ?_
                refine l_val wn (r_move rfl) rfl ?_
                refine l_nil (e_round1 (k + 1) (sc rfl (sc rfl (sc (jv (by first | (show Value.bool true = Value.bool (Names.matches_ r (List.take 0 l)); rfl) | rw [Names.take_matches hs1]; first | (rw [(by assumption : Names.matches_ r (l.take k) = true), Bool.true_and]) | (rw [Bool.eq_false_iff.2 (by assumption : ¬ Names.matches_ r (l.take k) = true), Bool.false_and]) | rfl)) (sc rfl (sc rfl (sc (ji (by omega)) sn)))))) (fun _ h => (h.sel [4, 5] (by decide) rfl)) ?_ ?_)
                · omega
                · omega
          ·
            refine c_seq fun K29 hK29 => ?_
            refine c_region ?_
            refine l_val wn (r_eql rfl rfl) rfl ?_
            refine l_val wn (r_assign rfl) rfl ?_
            refine l_nil (e_go hK29 ?_)
            refine c_cond rfl (fun h11 => ?_) (fun h11 => ?_)
            ·
              refine c_region ?_
              refine l_val wn (r_fa rfl fld46_0) rfl ?_
              refine l_st1 0 wn rfl rfl rfl rfl inf3 rfl rfl ?_
              refine l_nil (e_in_n (e_go hK12 ?_))
              refine c_seq fun K30 hK30 => ?_
              refine c_region ?_
              refine l_val wn (r_move rfl) rfl ?_
              refine l_val wn (r_lbn 1 [.int .i64 s1.kind, .string s1.key, .string s1.val] rfl rfl rfl rfl agg46 inf46) rfl ?_
              refine l_bsL matchE ([s1] : List Match) wn Try.underlying44 inf46 rfl rfl rfl rfl (by decide) (by decide) rfl fun b39 => ?_
              refine l_callF wn rfl Try.call21 rfl (fun w1 hM => c_matches _ r _ ([s1] : List Match) w1 (hM.sl 3 rfl) (RowSl encMatch hM 0 rfl)) ?_
              refine l_val wn (r_assign rfl) rfl ?_
              refine l_nil (e_go hK30 ?_)
              refine c_seq fun K31 hK31 => ?_
              refine c_seq fun K32 hK32 => ?_
              refine c_region ?_
              refine l_val wn (r_move rfl) rfl ?_
              refine l_val wn (r_move rfl) rfl ?_
              refine l_val wn (r_lbn 1 [.int .i64 3, .string s1.key, .string s1.val] rfl rfl rfl rfl agg46 inf46) rfl ?_
              refine l_bsL matchE ([(⟨3, s1.key, s1.val⟩ : Match)] : List Match) wn Try.underlying44 inf46 rfl rfl rfl rfl (by decide) (by decide) rfl fun b44 => ?_
              refine l_callF wn rfl Try.call21 rfl (fun w1 hM => c_matches _ r _ ([(⟨3, s1.key, s1.val⟩ : Match)] : List Match) w1 (hM.sl 4 rfl) (RowSl encMatch hM 0 rfl)) ?_
              refine l_val wn (r_beql rfl rfl flat4 Try.underlying4) rfl ?_
              refine l_nil (e_go hK32 ?_)
              refine c_cond rfl (fun h12 => ?_) (fun h12 => ?_)
              ·
                refine c_seq fun K33 hK33 => ?_
                refine c_region ?_
                refine l_val wn (r_assign rfl) rfl ?_
                refine l_nil (e_go hK33 ?_)
                refine c_ret (e_then_r (e_in_r (e_then_r (e_loop1_r (e_in_r (e_then_r (e_ret1 (.inl rfl) Try.results8 (rv_tmp rfl) fun w1 hM => ?_)))))))
                exact absurd h12 (Names.swap_ne (by omega))
              ·
                refine c_skip (e_go hK31 ?_)
                refine c_region ?_
                refine l_val wn (r_move rfl) rfl ?_
                refine l_val wn (r_move rfl) rfl ?_
                refine l_caseb (t := 48) rfl (fun h13 => ?_) (fun h13 => ?_)
                ·
                  refine l_val (wg rfl rfl rfl) (r_move rfl) rfl ?_
                  refine l_val wn (r_pick rfl rfl) rfl ?_
                  refine l_val wn (r_assign rfl) rfl ?_
                  refine l_nil (e_in_n (e_go hK9 ?_))
                  refine c_region ?_
                  refine l_val wn (r_addn rfl rfl (by omega)) rfl ?_
                  refine l_val wn (r_move rfl) rfl ?_
                  refine l_nil (e_round1 (k + 1) (sc rfl (sc rfl (sc (jv (by first | (show Value.bool true = Value.bool (Names.matches_ r (List.take 0 l)); rfl) | rw [Names.take_matches hs1]; first | (rw [(by assumption : Names.matches_ r (l.take k) = true), Bool.true_and]) | (rw [Bool.eq_false_iff.2 (by assumption : ¬ Names.matches_ r (l.take k) = true), Bool.false_and]) | rfl)) (sc rfl (sc rfl (sc (ji (by omega)) sn)))))) (fun _ h => (h.sel [4, 5] (by decide) rfl)) ?_ ?_)
                  · omega
                  · omega
                ·
                  refine l_skip (wg rfl rfl rfl) rfl ?_
                  refine l_val wn (r_pick rfl rfl) rfl ?_
                  refine l_val wn (r_assign rfl) rfl ?_
                  refine l_nil (e_in_n (e_go hK9 ?_))
                  refine c_region ?_
                  refine l_val wn (r_addn rfl rfl (by omega)) rfl ?_
                  refine l_val wn (r_move rfl) rfl ?_
                  refine l_nil (e_round1 (k + 1) (sc rfl (sc rfl (sc (jv (by first | (show Value.bool true = Value.bool (Names.matches_ r (List.take 0 l)); rfl) | rw [Names.take_matches hs1]; first | (rw [(by assumption : Names.matches_ r (l.take k) = true), Bool.true_and]) | (rw [Bool.eq_false_iff.2 (by assumption : ¬ Names.matches_ r (l.take k) = true), Bool.false_and]) | rfl)) (sc rfl (sc rfl (sc (ji (by omega)) sn)))))) (fun _ h => (h.sel [4, 5] (by decide) rfl)) ?_ ?_)
                  · omega
                  · omega
            ·
              refine c_seq fun K34 hK34 => ?_
              refine c_region ?_
              refine l_val wn (r_move rfl) rfl ?_
              refine l_val wn (r_move rfl) rfl ?_
              refine l_callF wn rfl Try.call21 rfl (fun w1 hM => c_matches _ r _ l w1 (hM.sl 2 rfl) (hM.sl 3 rfl)) ?_
              refine l_val wn (r_notb rfl) rfl ?_
              refine l_val wn (r_assign rfl) rfl ?_
              refine l_nil (e_go hK34 ?_)
              refine c_ret (e_in_r (e_then_r (e_in_r (e_then_r (e_loop1_r (e_in_r (e_then_r (e_ret1 (.inl rfl) Try.results8 (rv_tmp rfl) fun w1 hM => ?_))))))))
              exact ret_ok (by rw [Names.matches_stop hs1 (Names.match1_odd (by omega) (by omega) (by omega) (by omega))]; rfl) hM
    ·
      refine c_exit (e_then_x (e_loop1_x (e_in_hit (e_go hK5 ?_))))
      refine c_seq fun K35 hK35 => ?_
      refine c_region ?_
      refine l_val wn (r_move rfl) rfl ?_
      refine l_val wn (r_move rfl) rfl ?_
      refine l_callF wn rfl Try.call21 rfl (fun w1 hM => c_matches _ r _ l w1 (hM.sl 0 rfl) (hM.sl 1 rfl)) ?_
      refine l_val wn (r_move rfl) rfl ?_
      refine l_val wn (r_beql rfl rfl flat4 Try.underlying4) rfl ?_
      refine l_val wn (r_assign rfl) rfl ?_
      refine l_nil (e_go hK35 ?_)
      refine c_ret (e_ret1 (.inl rfl) Try.results8 (rv_tmp rfl) fun w1 hM => ?_)
      exact ret_ok (by rw [List.take_of_length_le (by omega)]; simp) hM

end Go.Proofs.Ytekamocheffppaa
