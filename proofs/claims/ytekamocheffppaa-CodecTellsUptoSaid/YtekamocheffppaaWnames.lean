/-
  Walks: what each function hands back.
-/
import Derived.Test.YtekamocheffppaaFacts
import Derived.Test.YtekamocheffppaaPNames
namespace Go.Proofs.Ytekamocheffppaa
open Ex
set_option linter.unusedVariables false
set_option linter.unusedSimpArgs false
theorem c_isNaN (a : ByteArray) (w : World)   :
    Calls Try.prog 41 #[.string a] w (Ret w (.bool false)) := by
  refine fstart (N := 6) (vals := [.string a]) (S := Mem w no []) Try.func41 rfl rfl rfl (Mem.ofDats dn) ?_
  refine c_seq fun K1 hK1 => ?_
  refine c_region ?_
  refine l_val wn (r_assign rfl) rfl ?_
  refine l_nil (e_go hK1 ?_)
  refine c_seq fun K2 hK2 => ?_
  refine c_region ?_
  refine l_val wn (r_move rfl) rfl ?_
  refine l_val wn (r_move rfl) rfl ?_
  refine l_val wn (r_sneq rfl rfl) rfl ?_
  refine l_val wn (r_assign rfl) rfl ?_
  refine l_nil (e_go hK2 ?_)
  refine c_ret (e_ret1 (.inl rfl) Try.results41 (rv_tmp rfl) fun w1 hM => ?_)
  exact ret_ok (by simp) hM

theorem c_cmpS (a : ByteArray) (b : ByteArray) (w : World)   :
    Calls Try.prog 39 #[.string a, .string b] w (Ret w (.int .i64 (Names.cmpS a b))) := by
  refine fstart (N := 20) (vals := [.string a, .string b]) (S := Mem w no []) Try.func39 rfl rfl rfl (Mem.ofDats dn) ?_
  refine c_seq fun K1 hK1 => ?_
  refine c_region ?_
  refine l_val wn (r_assign rfl) rfl ?_
  refine l_nil (e_go hK1 ?_)
  refine c_seq fun K2 hK2 => ?_
  refine c_region ?_
  refine l_val wn (r_move rfl) rfl ?_
  refine l_callF wn rfl Try.call41 rfl (fun w1 hM => c_isNaN a w1) ?_
  refine l_val wn (r_assign rfl) rfl ?_
  refine l_nil (e_go hK2 ?_)
  refine c_seq fun K3 hK3 => ?_
  refine c_region ?_
  refine l_val wn (r_move rfl) rfl ?_
  refine l_callF wn rfl Try.call41 rfl (fun w1 hM => c_isNaN b w1) ?_
  refine l_val wn (r_assign rfl) rfl ?_
  refine l_nil (e_go hK3 ?_)
  refine c_seq fun K4 hK4 => ?_
  refine c_seq fun K5 hK5 => ?_
  refine c_region ?_
  refine l_val wn (r_move rfl) rfl ?_
  refine l_nil (e_go hK5 ?_)
  refine c_false rfl rfl ?_
  refine c_skip (e_go hK4 ?_)
  refine c_seq fun K6 hK6 => ?_
  refine c_seq fun K7 hK7 => ?_
  refine c_region ?_
  refine l_val wn (r_move rfl) rfl ?_
  refine l_nil (e_go hK7 ?_)
  refine c_false rfl rfl ?_
  refine c_skip (e_go hK6 ?_)
  refine c_seq fun K8 hK8 => ?_
  refine c_seq fun K9 hK9 => ?_
  refine c_region ?_
  refine l_val wn (r_move rfl) rfl ?_
  refine l_val wn (r_move rfl) rfl ?_
  refine l_val wn (r_slss' rfl rfl) rfl ?_
  refine l_nil (e_go hK9 ?_)
  refine c_condb rfl (fun h1 => ?_) (fun h1 => ?_)
  ·
    refine c_seq fun K10 hK10 => ?_
    refine c_region ?_
    refine l_val wn (r_assign rfl) rfl ?_
    refine l_nil (e_go hK10 ?_)
    refine c_ret (e_then_r (e_ret1 (.inl rfl) Try.results39 (rv_tmp rfl) fun w1 hM => ?_))
    exact ret_ok (by simp [Names.cmpS, h1]) hM
  ·
    refine c_skip (e_go hK8 ?_)
    refine c_seq fun K11 hK11 => ?_
    refine c_seq fun K12 hK12 => ?_
    refine c_region ?_
    refine l_val wn (r_move rfl) rfl ?_
    refine l_val wn (r_move rfl) rfl ?_
    refine l_val wn (r_sgtr' rfl rfl) rfl ?_
    refine l_nil (e_go hK12 ?_)
    refine c_condb rfl (fun h2 => ?_) (fun h2 => ?_)
    ·
      refine c_seq fun K13 hK13 => ?_
      refine c_region ?_
      refine l_val wn (r_assign rfl) rfl ?_
      refine l_nil (e_go hK13 ?_)
      refine c_ret (e_then_r (e_ret1 (.inl rfl) Try.results39 (rv_tmp rfl) fun w1 hM => ?_))
      exact ret_ok (by simp [Names.cmpS, h1, h2]) hM
    ·
      refine c_skip (e_go hK11 ?_)
      refine c_seq fun K14 hK14 => ?_
      refine c_region ?_
      refine l_val wn (r_assign rfl) rfl ?_
      refine l_nil (e_go hK14 ?_)
      refine c_ret (e_ret1 (.inl rfl) Try.results39 (rv_tmp rfl) fun w1 hM => ?_)
      exact ret_ok (by simp [Names.cmpS, h1, h2]) hM

theorem c_or (lv : Value) (l : List Int) (w : World) (hl : FlatSl (In w) 1 intE lv l w)  :
    Calls Try.prog 38 #[lv] w (Ret w (.int .i64 (Names.orI l))) := by
  obtain ⟨lA, lc, rfl, hlc, hlm, hlA⟩ := hl.form
  refine fstart (N := 18) (vals := [.slice lA l.length lc]) (S := Mem w no [slO (In w) 1 intE (.slice lA l.length lc) l]) Try.func38 rfl rfl rfl (Mem.ofDats (dc (dl hl) dn)) ?_
  refine c_seq fun K1 hK1 => ?_
  refine c_region ?_
  refine l_val wn (r_assign rfl) rfl ?_
  refine l_nil (e_go hK1 ?_)
  refine c_seq fun K2 hK2 => ?_
  refine c_region ?_
  refine l_val wn (r_assign rfl) rfl ?_
  refine l_nil (e_go hK2 ?_)
  refine c_seq fun K3 hK3 => ?_
  refine c_seq fun K4 hK4 => ?_
  refine c_region ?_
  refine l_val wn (r_move rfl) rfl ?_
  refine l_val wn (r_len rfl Try.underlying75) rfl ?_
  refine l_val wn (r_move rfl) rfl ?_
  refine l_nil (e_go hK4 ?_)
  refine c_block ?_
  refine c_loop1 (fun (k : Nat) => [(3, .int .i64 0), (6, .slice lA l.length lc), (7, .int .i64 (l.length : Int)), (8, .int .i64 (k : Int))]) (fun (k : Nat) => [slO (In w) 1 intE (.slice lA l.length lc) l]) (fun (k : Nat) => k ≤ l.length ∧ Names.orI l = Names.orI (l.drop k)) (fun (k : Nat) => l.length - k) 0 (sc rfl (sc rfl (sc rfl (sc (ji (by omega)) sn)))) (fun _ h => h) ?_ (fun k hI1 => ?_)
  · simp
  ·
    refine c_seq fun K5 hK5 => ?_
    refine c_region ?_
    refine l_val wn (r_lss rfl rfl) rfl ?_
    refine l_nil (e_go hK5 ?_)
    refine c_seq fun K6 hK6 => ?_
    refine c_cond rfl (fun h1 => ?_) (fun h1 => ?_)
    ·
      refine c_skip (e_go hK6 ?_)
      refine c_seq fun K7 hK7 => ?_
      refine c_block ?_
      refine c_seq fun K8 hK8 => ?_
      refine c_region ?_
      obtain ⟨ad1, hd1⟩ := hlA (ne_nil (i := k) (by first | omega | decide | (simp only [List.length_cons, List.length_nil, List.length_append, List.length_take, List.length_set]; omega)))
      refine l_val wn (r_ia (i := k) rfl hd1 rfl (by omega) (by first | omega | decide | (simp only [List.length_cons, List.length_nil, List.length_append, List.length_take, List.length_set]; omega)) Try.underlying75 inf3) rfl ?_
      obtain ⟨s1, hs1⟩ : ∃ x, l[k]? = some x := ⟨_, List.getElem?_eq_getElem (by first | omega | decide | (simp only [List.length_cons, List.length_nil, List.length_append, List.length_take, List.length_set]; omega))⟩
      refine l_val wn (r_el 0 rfl rfl hd1 hs1 rfl flat3) rfl ?_
      refine l_val wn (r_assign rfl) rfl ?_
      refine l_nil (e_go hK8 ?_)
      refine c_seq fun K9 hK9 => ?_
      refine c_region ?_
      refine l_val wn (r_move rfl) rfl ?_
      refine l_val wn (r_move rfl) rfl ?_
      refine l_val wn (r_neq rfl rfl) rfl ?_
      refine l_nil (e_go hK9 ?_)
      refine c_cond rfl (fun h2 => ?_) (fun h2 => ?_)
      ·
        refine c_seq fun K10 hK10 => ?_
        refine c_region ?_
        refine l_val wn (r_move rfl) rfl ?_
        refine l_val wn (r_assign rfl) rfl ?_
        refine l_nil (e_go hK10 ?_)
        refine c_ret (e_in_r (e_then_r (e_loop1_r (e_in_r (e_then_r (e_ret1 (.inl rfl) Try.results38 (rv_tmp rfl) fun w1 hM => ?_))))))
        exact ret_ok (by rw [hI1.2, Names.or_step hs1, if_pos h2]) hM
      ·
        refine c_skip (e_in_n (e_go hK7 ?_))
        refine c_region ?_
        refine l_val wn (r_addn rfl rfl (by omega)) rfl ?_
        refine l_val wn (r_move rfl) rfl ?_
        refine l_nil (e_round1 (k + 1) (sc rfl (sc rfl (sc rfl (sc (ji (by omega)) sn)))) (fun _ h => h) ?_ ?_)
        · exact ⟨by omega, by rw [hI1.2, Names.or_step hs1, if_neg (by simpa using h2)]⟩
        · omega
    ·
      refine c_exit (e_then_x (e_loop1_x (e_in_hit (e_go hK3 ?_))))
      refine c_seq fun K11 hK11 => ?_
      refine c_region ?_
      refine l_val wn (r_move rfl) rfl ?_
      refine l_val wn (r_assign rfl) rfl ?_
      refine l_nil (e_go hK11 ?_)
      refine c_ret (e_ret1 (.inl rfl) Try.results38 (rv_tmp rfl) fun w1 hM => ?_)
      exact ret_ok (by rw [hI1.2, Names.or_end (by omega)]) hM

theorem c_cmpL (a : Label) (b : Label) (w : World)   :
    Calls Try.prog 37 #[.agg (labelE a).toArray, .agg (labelE b).toArray] w (Ret w (.int .i64 (Names.cmpL a b))) := by
  refine fstart (N := 17) (vals := [.agg (labelE a).toArray, .agg (labelE b).toArray]) (S := Mem w no []) Try.func37 rfl rfl rfl (Mem.ofDats dn) ?_
  refine c_seq fun K1 hK1 => ?_
  refine c_region ?_
  refine l_box wn rfl rfl fun b2 => ?_
  refine l_box wn rfl rfl fun b3 => ?_
  refine l_val wn (r_assign rfl) rfl ?_
  refine l_nil (e_go hK1 ?_)
  refine c_seq fun K2 hK2 => ?_
  refine c_quietT 10 mix (by kernel_rfl) (fun _ h => h.drew) fun _ hT1 => ?_
  refine q_val wn (r_fa rfl fld55_0) rfl ?_
  refine q_val wn (r_lb 1 rfl rfl rfl flat9) rfl ?_
  refine q_val wn (r_fa rfl fld55_0) rfl ?_
  refine q_val wn (r_lb 0 rfl rfl rfl flat9) rfl ?_
  refine q_callF wn rfl Try.call39 rfl (fun w1 hM => c_cmpS a.key b.key w1) ?_
  refine q_val wn (r_fa rfl fld55_1) rfl ?_
  refine q_val wn (r_lb 1 rfl rfl rfl flat9) rfl ?_
  refine q_val wn (r_fa rfl fld55_1) rfl ?_
  refine q_val wn (r_lb 0 rfl rfl rfl flat9) rfl ?_
  refine q_callF wn rfl Try.call39 rfl (fun w1 hM => c_cmpS a.val b.val w1) ?_
  refine q_tail hT1 ?_
  refine l_bsL intE ([(Names.cmpS a.key b.key), (Names.cmpS a.val b.val)] : List Int) wn Try.underlying75 inf3 rfl rfl rfl rfl (by decide) (by decide) rfl fun b15 => ?_
  refine l_callF wn rfl Try.call38 rfl (fun w1 hM => c_or _ ([(Names.cmpS a.key b.key), (Names.cmpS a.val b.val)] : List Int) w1 (RowSl encInt hM 0 rfl)) ?_
  refine l_val wn (r_assign rfl) rfl ?_
  refine l_nil (e_go hK2 ?_)
  refine c_ret (e_ret1 (.inl rfl) Try.results37 (rv_tmp rfl) fun w1 hM => ?_)
  exact ret_ok (by rw [Names.orI_two]; rfl) hM

theorem c_compareFunc (av : Value) (a : List Label) (bv : Value) (b : List Label) (w : World) (ha : FlatSl (In w) 2 labelE av a w) (hb : FlatSl (In w) 2 labelE bv b w)  :
    Calls Try.prog 36 #[av, bv, .func (.func 37) #[] #[]] w (Ret w (.int .i64 (Names.compare a b))) := by
  obtain ⟨aA, ac, rfl, hac, ham, haA⟩ := ha.form
  obtain ⟨bA, bc, rfl, hbc, hbm, hbA⟩ := hb.form
  refine fstart (N := 39) (vals := [.slice aA a.length ac, .slice bA b.length bc, .func (.func 37) #[] #[]]) (S := Mem w no [slO (In w) 2 labelE (.slice aA a.length ac) a, slO (In w) 2 labelE (.slice bA b.length bc) b]) Try.func36 rfl rfl rfl (Mem.ofDats (dc (dl ha) (dc (dl hb) dn))) ?_
  refine c_seq fun K1 hK1 => ?_
  refine c_region ?_
  refine l_val wn (r_assign rfl) rfl ?_
  refine l_nil (e_go hK1 ?_)
  refine c_seq fun K2 hK2 => ?_
  refine c_seq fun K3 hK3 => ?_
  refine c_region ?_
  refine l_val wn (r_move rfl) rfl ?_
  refine l_val wn (r_len rfl Try.underlying40) rfl ?_
  refine l_val wn (r_move rfl) rfl ?_
  refine l_nil (e_go hK3 ?_)
  refine c_block ?_
  refine c_loop1 (fun (k : Nat) => [(0, .slice aA a.length ac), (1, .slice bA b.length bc), (2, .func (.func 37) #[] #[]), (11, .slice aA a.length ac), (12, .int .i64 (a.length : Int)), (13, .int .i64 (k : Int))]) (fun (k : Nat) => [slO (In w) 2 labelE (.slice aA a.length ac) a, slO (In w) 2 labelE (.slice bA b.length bc) b]) (fun (k : Nat) => k ≤ a.length ∧ Names.compare a b = Names.compare (a.drop k) (b.drop k)) (fun (k : Nat) => a.length - k) 0 (sc rfl (sc rfl (sc rfl (sc rfl (sc rfl (sc (ji (by omega)) sn)))))) (fun _ h => h) ?_ (fun k hI1 => ?_)
  · simp
  ·
    refine c_seq fun K4 hK4 => ?_
    refine c_region ?_
    refine l_val wn (r_lss rfl rfl) rfl ?_
    refine l_nil (e_go hK4 ?_)
    refine c_seq fun K5 hK5 => ?_
    refine c_cond rfl (fun h1 => ?_) (fun h1 => ?_)
    ·
      refine c_skip (e_go hK5 ?_)
      refine c_seq fun K6 hK6 => ?_
      refine c_block ?_
      refine c_seq fun K7 hK7 => ?_
      refine c_region ?_
      refine l_val wn (r_move rfl) rfl ?_
      obtain ⟨ad1, hd1⟩ := haA (ne_nil (i := k) (by first | omega | decide | (simp only [List.length_cons, List.length_nil, List.length_append, List.length_take, List.length_set]; omega)))
      refine l_val wn (r_ia (i := k) rfl hd1 rfl (by omega) (by first | omega | decide | (simp only [List.length_cons, List.length_nil, List.length_append, List.length_take, List.length_set]; omega)) Try.underlying40 inf55) rfl ?_
      obtain ⟨s1, hs1⟩ : ∃ x, a[k]? = some x := ⟨_, List.getElem?_eq_getElem (by first | omega | decide | (simp only [List.length_cons, List.length_nil, List.length_append, List.length_take, List.length_set]; omega))⟩
      refine l_val wn (r_eln 0 [.string s1.key, .string s1.val] rfl rfl hd1 hs1 rfl rfl agg55 inf55) rfl ?_
      refine l_alloc wn inf55 rfl fun b8 => ?_
      refine l_val wn (r_assign rfl) rfl ?_
      refine l_stn 0 wn rfl rfl rfl inf55 rfl rfl rfl ?_
      refine l_nil (e_go hK7 ?_)
      refine c_seq fun K8 hK8 => ?_
      refine c_seq fun K9 hK9 => ?_
      refine c_region ?_
      refine l_val wn (r_move rfl) rfl ?_
      refine l_val wn (r_move rfl) rfl ?_
      refine l_val wn (r_len rfl Try.underlying40) rfl ?_
      refine l_val wn (r_geq rfl rfl) rfl ?_
      refine l_nil (e_go hK9 ?_)
      refine c_cond rfl (fun h2 => ?_) (fun h2 => ?_)
      ·
        refine c_seq fun K10 hK10 => ?_
        refine c_region ?_
        refine l_val wn (r_assign rfl) rfl ?_
        refine l_nil (e_go hK10 ?_)
        refine c_ret (e_then_r (e_in_r (e_then_r (e_loop1_r (e_in_r (e_then_r (e_ret1 (.inl rfl) Try.results36 (rv_tmp rfl) fun w1 hM => ?_)))))))
        exact ret_ok (by rw [hI1.2, Names.compare_over hs1 (by omega)]) hM
      ·
        refine c_skip (e_go hK8 ?_)
        refine c_seq fun K11 hK11 => ?_
        refine c_region ?_
        refine l_val wn (r_move rfl) rfl ?_
        refine l_val wn (r_move rfl) rfl ?_
        obtain ⟨ad2, hd2⟩ := hbA (ne_nil (i := k) (by first | omega | decide | (simp only [List.length_cons, List.length_nil, List.length_append, List.length_take, List.length_set]; omega)))
        refine l_val wn (r_ia (i := k) rfl hd2 rfl (by omega) (by first | omega | decide | (simp only [List.length_cons, List.length_nil, List.length_append, List.length_take, List.length_set]; omega)) Try.underlying40 inf55) rfl ?_
        obtain ⟨s2, hs2⟩ : ∃ x, b[k]? = some x := ⟨_, List.getElem?_eq_getElem (by first | omega | decide | (simp only [List.length_cons, List.length_nil, List.length_append, List.length_take, List.length_set]; omega))⟩
        refine l_val wn (r_eln 2 [.string s2.key, .string s2.val] rfl rfl hd2 hs2 rfl rfl agg55 inf55) rfl ?_
        refine l_alloc wn inf55 rfl fun b9 => ?_
        refine l_stn 0 wn rfl rfl rfl inf55 rfl rfl rfl ?_
        refine l_nil (e_go hK11 ?_)
        refine c_seq fun K12 hK12 => ?_
        refine c_region ?_
        refine l_val wn (r_move rfl) rfl ?_
        refine l_val wn (r_lbn 1 [.string s1.key, .string s1.val] rfl rfl rfl rfl agg55 inf55) rfl ?_
        refine l_val wn (r_lbn 0 [.string s2.key, .string s2.val] rfl rfl rfl rfl agg55 inf55) rfl ?_
        refine l_callV wn rfl rfl Try.call37 rfl (fun w1 hM => c_cmpL s1 s2 w1) ?_
        refine l_val wn (r_assign rfl) rfl ?_
        refine l_nil (e_go hK12 ?_)
        refine c_seq fun K13 hK13 => ?_
        refine c_region ?_
        refine l_val wn (r_move rfl) rfl ?_
        refine l_val wn (r_neq rfl rfl) rfl ?_
        refine l_nil (e_go hK13 ?_)
        refine c_cond rfl (fun h3 => ?_) (fun h3 => ?_)
        ·
          refine c_seq fun K14 hK14 => ?_
          refine c_region ?_
          refine l_val wn (r_move rfl) rfl ?_
          refine l_val wn (r_assign rfl) rfl ?_
          refine l_nil (e_go hK14 ?_)
          refine c_ret (e_in_r (e_then_r (e_loop1_r (e_in_r (e_then_r (e_ret1 (.inl rfl) Try.results36 (rv_tmp rfl) fun w1 hM => ?_))))))
          exact ret_ok (by rw [hI1.2, Names.compare_step hs1 hs2, if_pos h3]) hM
        ·
          refine c_skip (e_in_n (e_go hK6 ?_))
          refine c_region ?_
          refine l_val wn (r_addn rfl rfl (by omega)) rfl ?_
          refine l_val wn (r_move rfl) rfl ?_
          refine l_nil (e_round1 (k + 1) (sc rfl (sc rfl (sc rfl (sc rfl (sc rfl (sc (ji (by omega)) sn)))))) (fun _ h => (h.sel [2, 3] (by decide) rfl)) ?_ ?_)
          · exact ⟨by omega, by rw [hI1.2, Names.compare_step hs1 hs2, if_neg (by simpa using h3)]⟩
          · omega
    ·
      refine c_exit (e_then_x (e_loop1_x (e_in_hit (e_go hK2 ?_))))
      refine c_seq fun K15 hK15 => ?_
      refine c_seq fun K16 hK16 => ?_
      refine c_region ?_
      refine l_val wn (r_move rfl) rfl ?_
      refine l_val wn (r_len rfl Try.underlying40) rfl ?_
      refine l_val wn (r_move rfl) rfl ?_
      refine l_val wn (r_len rfl Try.underlying40) rfl ?_
      refine l_val wn (r_lss rfl rfl) rfl ?_
      refine l_nil (e_go hK16 ?_)
      refine c_cond rfl (fun h4 => ?_) (fun h4 => ?_)
      ·
        refine c_seq fun K17 hK17 => ?_
        refine c_region ?_
        refine l_val wn (r_assign rfl) rfl ?_
        refine l_nil (e_go hK17 ?_)
        refine c_ret (e_then_r (e_ret1 (.inl rfl) Try.results36 (rv_tmp rfl) fun w1 hM => ?_))
        exact ret_ok (by rw [hI1.2, Names.compare_end (by omega) (by omega), if_pos (by omega)]) hM
      ·
        refine c_skip (e_go hK15 ?_)
        refine c_seq fun K18 hK18 => ?_
        refine c_region ?_
        refine l_val wn (r_assign rfl) rfl ?_
        refine l_nil (e_go hK18 ?_)
        refine c_ret (e_ret1 (.inl rfl) Try.results36 (rv_tmp rfl) fun w1 hM => ?_)
        exact ret_ok (by rw [hI1.2, Names.compare_end (by omega) (by omega), if_neg (by omega)]) hM

theorem c_compare (av : Value) (a : List Label) (bv : Value) (b : List Label) (w : World) (ha : FlatSl (In w) 2 labelE av a w) (hb : FlatSl (In w) 2 labelE bv b w)  :
    Calls Try.prog 19 #[av, bv] w (Ret w (.int .i64 (Names.compare a b))) := by
  obtain ⟨aA, ac, rfl, hac, ham, haA⟩ := ha.form
  obtain ⟨bA, bc, rfl, hbc, hbm, hbA⟩ := hb.form
  refine fstart (N := 8) (vals := [.slice aA a.length ac, .slice bA b.length bc]) (S := Mem w no [slO (In w) 2 labelE (.slice aA a.length ac) a, slO (In w) 2 labelE (.slice bA b.length bc) b]) Try.func19 rfl rfl rfl (Mem.ofDats (dc (dl ha) (dc (dl hb) dn))) ?_
  refine c_seq fun K1 hK1 => ?_
  refine c_region ?_
  refine l_val wn (r_assign rfl) rfl ?_
  refine l_nil (e_go hK1 ?_)
  refine c_seq fun K2 hK2 => ?_
  refine c_region ?_
  refine l_val wn (r_move rfl) rfl ?_
  refine l_val wn (r_move rfl) rfl ?_
  refine l_callF wn rfl Try.call36 rfl (fun w1 hM => c_compareFunc _ a _ b w1 (hM.sl 0 rfl) (hM.sl 1 rfl)) ?_
  refine l_val wn (r_assign rfl) rfl ?_
  refine l_nil (e_go hK2 ?_)
  refine c_ret (e_ret1 (.inl rfl) Try.results19 (rv_tmp rfl) fun w1 hM => ?_)
  exact ret_ok rfl hM

theorem c_get (lv : Value) (l : List Label) (key : ByteArray) (w : World) (hl : FlatSl (In w) 2 labelE lv l w)  :
    Calls Try.prog 30 #[lv, .string key] w (Ret w (.tuple #[.string (Names.get l key).1, .bool (Names.get l key).2])) := by
  obtain ⟨lA, lc, rfl, hlc, hlm, hlA⟩ := hl.form
  refine fstart (N := 21) (vals := [.slice lA l.length lc, .string key]) (S := Mem w no [slO (In w) 2 labelE (.slice lA l.length lc) l]) Try.func30 rfl rfl rfl (Mem.ofDats (dc (dl hl) dn)) ?_
  refine c_seq fun K1 hK1 => ?_
  refine c_region ?_
  refine l_val wn (r_assign rfl) rfl ?_
  refine l_val wn (r_assign rfl) rfl ?_
  refine l_nil (e_go hK1 ?_)
  refine c_seq fun K2 hK2 => ?_
  refine c_seq fun K3 hK3 => ?_
  refine c_region ?_
  refine l_val wn (r_move rfl) rfl ?_
  refine l_val wn (r_len rfl Try.underlying40) rfl ?_
  refine l_val wn (r_move rfl) rfl ?_
  refine l_nil (e_go hK3 ?_)
  refine c_block ?_
  refine c_loop1 (fun (k : Nat) => [(1, .string key), (8, .slice lA l.length lc), (9, .int .i64 (l.length : Int)), (10, .int .i64 (k : Int))]) (fun (k : Nat) => [slO (In w) 2 labelE (.slice lA l.length lc) l]) (fun (k : Nat) => k ≤ l.length ∧ Names.get l key = Names.get (l.drop k) key) (fun (k : Nat) => l.length - k) 0 (sc rfl (sc rfl (sc rfl (sc (ji (by omega)) sn)))) (fun _ h => h) ?_ (fun k hI1 => ?_)
  · simp
  ·
    refine c_seq fun K4 hK4 => ?_
    refine c_region ?_
    refine l_val wn (r_lss rfl rfl) rfl ?_
    refine l_nil (e_go hK4 ?_)
    refine c_seq fun K5 hK5 => ?_
    refine c_cond rfl (fun h1 => ?_) (fun h1 => ?_)
    ·
      refine c_skip (e_go hK5 ?_)
      refine c_seq fun K6 hK6 => ?_
      refine c_block ?_
      refine c_seq fun K7 hK7 => ?_
      refine c_region ?_
      obtain ⟨ad1, hd1⟩ := hlA (ne_nil (i := k) (by first | omega | decide | (simp only [List.length_cons, List.length_nil, List.length_append, List.length_take, List.length_set]; omega)))
      refine l_val wn (r_ia (i := k) rfl hd1 rfl (by omega) (by first | omega | decide | (simp only [List.length_cons, List.length_nil, List.length_append, List.length_take, List.length_set]; omega)) Try.underlying40 inf55) rfl ?_
      obtain ⟨s1, hs1⟩ : ∃ x, l[k]? = some x := ⟨_, List.getElem?_eq_getElem (by first | omega | decide | (simp only [List.length_cons, List.length_nil, List.length_append, List.length_take, List.length_set]; omega))⟩
      refine l_val wn (r_eln 0 [.string s1.key, .string s1.val] rfl rfl hd1 hs1 rfl rfl agg55 inf55) rfl ?_
      refine l_alloc wn inf55 rfl fun b7 => ?_
      refine l_stn 0 wn rfl rfl rfl inf55 rfl rfl rfl ?_
      refine l_nil (e_go hK7 ?_)
      refine c_seq fun K8 hK8 => ?_
      refine c_region ?_
      refine l_val wn (r_fa rfl fld55_0) rfl ?_
      refine l_val wn (r_lb 0 rfl rfl rfl flat9) rfl ?_
      refine l_val wn (r_move rfl) rfl ?_
      refine l_val wn (r_seql rfl rfl) rfl ?_
      refine l_nil (e_go hK8 ?_)
      refine c_cond rfl (fun h2 => ?_) (fun h2 => ?_)
      ·
        refine c_seq fun K9 hK9 => ?_
        refine c_region ?_
        refine l_val wn (r_fa rfl fld55_1) rfl ?_
        refine l_val wn (r_lb 0 rfl rfl rfl flat9) rfl ?_
        refine l_val wn (r_assign rfl) rfl ?_
        refine l_val wn (r_assign rfl) rfl ?_
        refine l_nil (e_go hK9 ?_)
        refine c_ret (e_in_r (e_then_r (e_loop1_r (e_in_r (e_then_r (e_ret2 (.inl rfl) Try.results30 (rv_tmp rfl) (rv_tmp rfl) fun w1 hM => ?_))))))
        exact ret_ok (by rw [hI1.2, Names.get_step hs1, if_pos h2]) hM
      ·
        refine c_skip (e_in_n (e_go hK6 ?_))
        refine c_region ?_
        refine l_val wn (r_addn rfl rfl (by omega)) rfl ?_
        refine l_val wn (r_move rfl) rfl ?_
        refine l_nil (e_round1 (k + 1) (sc rfl (sc rfl (sc rfl (sc (ji (by omega)) sn)))) (fun _ h => (h.sel [1] (by decide) rfl)) ?_ ?_)
        · exact ⟨by omega, by rw [hI1.2, Names.get_step hs1, if_neg h2]⟩
        · omega
    ·
      refine c_exit (e_then_x (e_loop1_x (e_in_hit (e_go hK2 ?_))))
      refine c_seq fun K10 hK10 => ?_
      refine c_region ?_
      refine l_val wn (r_assign rfl) rfl ?_
      refine l_val wn (r_assign rfl) rfl ?_
      refine l_nil (e_go hK10 ?_)
      refine c_ret (e_ret2 (.inl rfl) Try.results30 (rv_tmp rfl) (rv_tmp rfl) fun w1 hM => ?_)
      exact ret_ok (by rw [hI1.2, Names.get_end (by omega)]) hM

theorem c_matches (rv : Value) (r : List Label) (lv : Value) (l : List Match) (w : World) (hr : FlatSl (In w) 2 labelE rv r w) (hl : FlatSl (In w) 3 matchE lv l w)  :
    Calls Try.prog 21 #[rv, lv] w (Ret w (.bool (Names.matches_ r l))) := by
  obtain ⟨rA, rc, rfl, hrc, hrm, hrA⟩ := hr.form
  obtain ⟨lA, lc, rfl, hlc, hlm, hlA⟩ := hl.form
  refine fstart (N := 54) (vals := [.slice rA r.length rc, .slice lA l.length lc]) (S := Mem w no [slO (In w) 2 labelE (.slice rA r.length rc) r, slO (In w) 3 matchE (.slice lA l.length lc) l]) Try.func21 rfl rfl rfl (Mem.ofDats (dc (dl hr) (dc (dl hl) dn))) ?_
  refine c_seq fun K1 hK1 => ?_
  refine c_region ?_
  refine l_val wn (r_assign rfl) rfl ?_
  refine l_nil (e_go hK1 ?_)
  refine c_seq fun K2 hK2 => ?_
  refine c_seq fun K3 hK3 => ?_
  refine c_region ?_
  refine l_val wn (r_move rfl) rfl ?_
  refine l_val wn (r_len rfl Try.underlying44) rfl ?_
  refine l_val wn (r_move rfl) rfl ?_
  refine l_nil (e_go hK3 ?_)
  refine c_block ?_
  refine c_loop1 (fun (k : Nat) => [(0, .slice rA r.length rc), (10, .slice lA l.length lc), (11, .int .i64 (l.length : Int)), (12, .int .i64 (k : Int))]) (fun (k : Nat) => [slO (In w) 2 labelE (.slice rA r.length rc) r, slO (In w) 3 matchE (.slice lA l.length lc) l]) (fun (k : Nat) => k ≤ l.length ∧ ∀ x ∈ l.take k, Names.match1 r x = true) (fun (k : Nat) => l.length - k) 0 (sc rfl (sc rfl (sc rfl (sc (ji (by omega)) sn)))) (fun _ h => h) ?_ (fun k hI1 => ?_)
  · simp
  ·
    refine c_seq fun K4 hK4 => ?_
    refine c_region ?_
    refine l_val wn (r_lss rfl rfl) rfl ?_
    refine l_nil (e_go hK4 ?_)
    refine c_seq fun K5 hK5 => ?_
    refine c_cond rfl (fun h1 => ?_) (fun h1 => ?_)
    ·
      refine c_skip (e_go hK5 ?_)
      refine c_seq fun K6 hK6 => ?_
      refine c_block ?_
      refine c_seq fun K7 hK7 => ?_
      refine c_region ?_
      obtain ⟨ad1, hd1⟩ := hlA (ne_nil (i := k) (by first | omega | decide | (simp only [List.length_cons, List.length_nil, List.length_append, List.length_take, List.length_set]; omega)))
      refine l_val wn (r_ia (i := k) rfl hd1 rfl (by omega) (by first | omega | decide | (simp only [List.length_cons, List.length_nil, List.length_append, List.length_take, List.length_set]; omega)) Try.underlying44 inf46) rfl ?_
      obtain ⟨s1, hs1⟩ : ∃ x, l[k]? = some x := ⟨_, List.getElem?_eq_getElem (by first | omega | decide | (simp only [List.length_cons, List.length_nil, List.length_append, List.length_take, List.length_set]; omega))⟩
      refine l_val wn (r_eln 1 [.int .i64 s1.kind, .string s1.key, .string s1.val] rfl rfl hd1 hs1 rfl rfl agg46 inf46) rfl ?_
      refine l_alloc wn inf46 rfl fun b6 => ?_
      refine l_stn 0 wn rfl rfl rfl inf46 rfl rfl rfl ?_
      refine l_nil (e_go hK7 ?_)
      refine c_seq fun K8 hK8 => ?_
      refine c_region ?_
      refine l_val wn (r_move rfl) rfl ?_
      refine l_val wn (r_fa rfl fld46_1) rfl ?_
      refine l_val wn (r_lb 0 rfl rfl rfl flat9) rfl ?_
      refine l_callF wn rfl Try.call30 rfl (fun w1 hM => c_get _ r s1.key w1 (hM.sl 1 rfl)) ?_
      refine l_val wn (r_move rfl) rfl ?_
      refine l_val wn (r_extract rfl rfl) rfl ?_
      refine l_val wn (r_extract rfl rfl) rfl ?_
      refine l_val wn (r_assign rfl) rfl ?_
      refine l_val wn (r_assign rfl) rfl ?_
      refine l_nil (e_go hK8 ?_)
      refine c_seq fun K9 hK9 => ?_
      refine c_region ?_
      refine l_val wn (r_assign rfl) rfl ?_
      refine l_nil (e_go hK9 ?_)
      refine c_seq fun K10 hK10 => ?_
      refine c_seq fun K11 hK11 => ?_
      refine c_region ?_
      refine l_val wn (r_fa rfl fld46_0) rfl ?_
      refine l_val wn (r_lb 0 rfl rfl rfl flat3) rfl ?_
      refine l_nil (e_go hK11 ?_)
      refine c_block ?_
      refine c_seq fun K12 hK12 => ?_
      refine c_region ?_
      refine l_val wn (r_eql rfl rfl) rfl ?_
      refine l_val wn (r_assign rfl) rfl ?_
      refine l_nil (e_go hK12 ?_)
      refine c_cond rfl (fun h2 => ?_) (fun h2 => ?_)
      ·
        refine c_region ?_
        refine l_val wn (r_move rfl) rfl ?_
        refine l_val wn (r_move rfl) rfl ?_
        refine l_caseb (t := 28) rfl (fun h3 => ?_) (fun h3 => ?_)
        ·
          refine l_val (wg rfl rfl rfl) (r_move rfl) rfl ?_
          refine l_val (wg rfl rfl rfl) (r_fa rfl fld46_2) rfl ?_
          refine l_val (wg rfl rfl rfl) (r_lb 0 rfl rfl rfl flat9) rfl ?_
          refine l_val (wg rfl rfl rfl) (r_seql rfl rfl) rfl ?_
          refine l_val wn (r_pick rfl rfl) rfl ?_
          refine l_val wn (r_assign rfl) rfl ?_
          refine l_nil (e_in_n (e_go hK10 ?_))
          refine c_seq fun K13 hK13 => ?_
          refine c_region ?_
          refine l_val wn (r_move rfl) rfl ?_
          refine l_val wn (r_not rfl) rfl ?_
          refine l_nil (e_go hK13 ?_)
          refine c_cond rfl (fun h4 => ?_) (fun h4 => ?_)
          ·
            refine c_seq fun K14 hK14 => ?_
            refine c_region ?_
            refine l_val wn (r_assign rfl) rfl ?_
            refine l_nil (e_go hK14 ?_)
            refine c_ret (e_in_r (e_then_r (e_loop1_r (e_in_r (e_then_r (e_ret1 (.inl rfl) Try.results21 (rv_tmp rfl) fun w1 hM => ?_))))))
            exact ret_ok (by rw [Names.matches_stop hs1 (by (try simp at h2); (try simp at h3); (try simp at h4); simp [Names.match1, h2, h3, h4])]) hM
          ·
            refine c_skip (e_in_n (e_go hK6 ?_))
            refine c_region ?_
            refine l_val wn (r_addn rfl rfl (by omega)) rfl ?_
            refine l_val wn (r_move rfl) rfl ?_
            refine l_nil (e_round1 (k + 1) (sc rfl (sc rfl (sc rfl (sc (ji (by omega)) sn)))) (fun _ h => (h.sel [1, 2] (by decide) rfl)) ?_ ?_)
            · exact ⟨by omega, Names.matches_step hs1 (by (try simp at h2); (try simp at h3); (try simp at h4); simp [Names.match1, h2, h3, h4]) hI1.2⟩
            · omega
        ·
          refine l_skip (wg rfl rfl rfl) rfl ?_
          refine l_skip (wg rfl rfl rfl) rfl ?_
          refine l_skip (wg rfl rfl rfl) rfl ?_
          refine l_skip (wg rfl rfl rfl) rfl ?_
          refine l_val wn (r_pick rfl rfl) rfl ?_
          refine l_val wn (r_assign rfl) rfl ?_
          refine l_nil (e_in_n (e_go hK10 ?_))
          refine c_seq fun K15 hK15 => ?_
          refine c_region ?_
          refine l_val wn (r_move rfl) rfl ?_
          refine l_val wn (r_notb rfl) rfl ?_
          refine l_nil (e_go hK15 ?_)
          refine c_true rfl rfl ?_
          refine c_seq fun K16 hK16 => ?_
          refine c_region ?_
          refine l_val wn (r_assign rfl) rfl ?_
          refine l_nil (e_go hK16 ?_)
          refine c_ret (e_in_r (e_then_r (e_loop1_r (e_in_r (e_then_r (e_ret1 (.inl rfl) Try.results21 (rv_tmp rfl) fun w1 hM => ?_))))))
          exact ret_ok (by rw [Names.matches_stop hs1 (by (try simp at h2); (try simp at h3); simp [Names.match1, h2, h3])]) hM
      ·
        refine c_seq fun K17 hK17 => ?_
        refine c_region ?_
        refine l_val wn (r_eql rfl rfl) rfl ?_
        refine l_val wn (r_assign rfl) rfl ?_
        refine l_nil (e_go hK17 ?_)
        refine c_cond rfl (fun h5 => ?_) (fun h5 => ?_)
        ·
          refine c_region ?_
          refine l_val wn (r_move rfl) rfl ?_
          refine l_val wn (r_notb rfl) rfl ?_
          refine l_val wn (r_move rfl) rfl ?_
          refine l_caseb (t := 38) rfl (fun h6 => ?_) (fun h6 => ?_)
          ·
            refine l_skip (wg rfl rfl rfl) rfl ?_
            refine l_skip (wg rfl rfl rfl) rfl ?_
            refine l_skip (wg rfl rfl rfl) rfl ?_
            refine l_skip (wg rfl rfl rfl) rfl ?_
            refine l_val wn (r_pick rfl rfl) rfl ?_
            refine l_val wn (r_assign rfl) rfl ?_
            refine l_nil (e_in_n (e_go hK10 ?_))
            refine c_seq fun K18 hK18 => ?_
            refine c_region ?_
            refine l_val wn (r_move rfl) rfl ?_
            refine l_val wn (r_notb rfl) rfl ?_
            refine l_nil (e_go hK18 ?_)
            refine c_false rfl rfl ?_
            refine c_skip (e_in_n (e_go hK6 ?_))
            refine c_region ?_
            refine l_val wn (r_addn rfl rfl (by omega)) rfl ?_
            refine l_val wn (r_move rfl) rfl ?_
            refine l_nil (e_round1 (k + 1) (sc rfl (sc rfl (sc rfl (sc (ji (by omega)) sn)))) (fun _ h => (h.sel [1, 2] (by decide) rfl)) ?_ ?_)
            · exact ⟨by omega, Names.matches_step hs1 (by (try simp at h2); (try simp at h5); (try simp at h6); simp [Names.match1, h2, h5, h6]) hI1.2⟩
            · omega
          ·
            refine l_val (wg rfl rfl rfl) (r_move rfl) rfl ?_
            refine l_val (wg rfl rfl rfl) (r_fa rfl fld46_2) rfl ?_
            refine l_val (wg rfl rfl rfl) (r_lb 0 rfl rfl rfl flat9) rfl ?_
            refine l_val (wg rfl rfl rfl) (r_sneq rfl rfl) rfl ?_
            refine l_val wn (r_pick rfl rfl) rfl ?_
            refine l_val wn (r_assign rfl) rfl ?_
            refine l_nil (e_in_n (e_go hK10 ?_))
            refine c_seq fun K19 hK19 => ?_
            refine c_region ?_
            refine l_val wn (r_move rfl) rfl ?_
            refine l_val wn (r_not rfl) rfl ?_
            refine l_nil (e_go hK19 ?_)
            refine c_cond rfl (fun h7 => ?_) (fun h7 => ?_)
            ·
              refine c_seq fun K20 hK20 => ?_
              refine c_region ?_
              refine l_val wn (r_assign rfl) rfl ?_
              refine l_nil (e_go hK20 ?_)
              refine c_ret (e_in_r (e_then_r (e_loop1_r (e_in_r (e_then_r (e_ret1 (.inl rfl) Try.results21 (rv_tmp rfl) fun w1 hM => ?_))))))
              exact ret_ok (by rw [Names.matches_stop hs1 (by (try simp at h2); (try simp at h5); (try simp at h6); (try simp at h7); simp [Names.match1, h2, h5, h6, h7])]) hM
            ·
              refine c_skip (e_in_n (e_go hK6 ?_))
              refine c_region ?_
              refine l_val wn (r_addn rfl rfl (by omega)) rfl ?_
              refine l_val wn (r_move rfl) rfl ?_
              refine l_nil (e_round1 (k + 1) (sc rfl (sc rfl (sc rfl (sc (ji (by omega)) sn)))) (fun _ h => (h.sel [1, 2] (by decide) rfl)) ?_ ?_)
              · exact ⟨by omega, Names.matches_step hs1 (by (try simp at h2); (try simp at h5); (try simp at h6); (try simp at h7); simp [Names.match1, h2, h5, h6, h7]) hI1.2⟩
              · omega
        ·
          refine c_seq fun K21 hK21 => ?_
          refine c_region ?_
          refine l_val wn (r_eql rfl rfl) rfl ?_
          refine l_val wn (r_assign rfl) rfl ?_
          refine l_nil (e_go hK21 ?_)
          refine c_cond rfl (fun h8 => ?_) (fun h8 => ?_)
          ·
            refine c_region ?_
            refine l_val wn (r_move rfl) rfl ?_
            refine l_val wn (r_assign rfl) rfl ?_
            refine l_nil (e_in_n (e_go hK10 ?_))
            refine c_seq fun K22 hK22 => ?_
            refine c_region ?_
            refine l_val wn (r_move rfl) rfl ?_
            refine l_val wn (r_notb rfl) rfl ?_
            refine l_nil (e_go hK22 ?_)
            refine c_condb rfl (fun h9 => ?_) (fun h9 => ?_)
            ·
              refine c_seq fun K23 hK23 => ?_
              refine c_region ?_
              refine l_val wn (r_assign rfl) rfl ?_
              refine l_nil (e_go hK23 ?_)
              refine c_ret (e_in_r (e_then_r (e_loop1_r (e_in_r (e_then_r (e_ret1 (.inl rfl) Try.results21 (rv_tmp rfl) fun w1 hM => ?_))))))
              exact ret_ok (by rw [Names.matches_stop hs1 (by (try simp at h2); (try simp at h5); (try simp at h8); (try simp at h9); simp [Names.match1, h2, h5, h8, h9])]) hM
            ·
              refine c_skip (e_in_n (e_go hK6 ?_))
              refine c_region ?_
              refine l_val wn (r_addn rfl rfl (by omega)) rfl ?_
              refine l_val wn (r_move rfl) rfl ?_
              refine l_nil (e_round1 (k + 1) (sc rfl (sc rfl (sc rfl (sc (ji (by omega)) sn)))) (fun _ h => (h.sel [1, 2] (by decide) rfl)) ?_ ?_)
              · exact ⟨by omega, Names.matches_step hs1 (by (try simp at h2); (try simp at h5); (try simp at h8); (try simp at h9); simp [Names.match1, h2, h5, h8, h9]) hI1.2⟩
              · omega
          ·
            refine c_seq fun K24 hK24 => ?_
            refine c_region ?_
            refine l_val wn (r_eql rfl rfl) rfl ?_
            refine l_val wn (r_assign rfl) rfl ?_
            refine l_nil (e_go hK24 ?_)
            refine c_cond rfl (fun h10 => ?_) (fun h10 => ?_)
            ·
              refine c_region ?_
              refine l_val wn (r_move rfl) rfl ?_
              refine l_val wn (r_notb rfl) rfl ?_
              refine l_val wn (r_assign rfl) rfl ?_
              refine l_nil (e_in_n (e_go hK10 ?_))
              refine c_seq fun K25 hK25 => ?_
              refine c_region ?_
              refine l_val wn (r_move rfl) rfl ?_
              refine l_val wn (r_notb rfl) rfl ?_
              refine l_nil (e_go hK25 ?_)
              refine c_condb rfl (fun h11 => ?_) (fun h11 => ?_)
              ·
                refine c_seq fun K26 hK26 => ?_
                refine c_region ?_
                refine l_val wn (r_assign rfl) rfl ?_
                refine l_nil (e_go hK26 ?_)
                refine c_ret (e_in_r (e_then_r (e_loop1_r (e_in_r (e_then_r (e_ret1 (.inl rfl) Try.results21 (rv_tmp rfl) fun w1 hM => ?_))))))
                exact ret_ok (by rw [Names.matches_stop hs1 (by (try simp at h2); (try simp at h5); (try simp at h8); (try simp at h10); (try simp at h11); simp [Names.match1, h2, h5, h8, h10, h11])]) hM
              ·
                refine c_skip (e_in_n (e_go hK6 ?_))
                refine c_region ?_
                refine l_val wn (r_addn rfl rfl (by omega)) rfl ?_
                refine l_val wn (r_move rfl) rfl ?_
                refine l_nil (e_round1 (k + 1) (sc rfl (sc rfl (sc rfl (sc (ji (by omega)) sn)))) (fun _ h => (h.sel [1, 2] (by decide) rfl)) ?_ ?_)
                · exact ⟨by omega, Names.matches_step hs1 (by (try simp at h2); (try simp at h5); (try simp at h8); (try simp at h10); (try simp at h11); simp [Names.match1, h2, h5, h8, h10, h11]) hI1.2⟩
                · omega
            ·
              refine c_skip (e_in_n (e_go hK10 ?_))
              refine c_seq fun K27 hK27 => ?_
              refine c_region ?_
              refine l_val wn (r_move rfl) rfl ?_
              refine l_val wn (r_notb rfl) rfl ?_
              refine l_nil (e_go hK27 ?_)
              refine c_true rfl rfl ?_
              refine c_seq fun K28 hK28 => ?_
              refine c_region ?_
              refine l_val wn (r_assign rfl) rfl ?_
              refine l_nil (e_go hK28 ?_)
              refine c_ret (e_in_r (e_then_r (e_loop1_r (e_in_r (e_then_r (e_ret1 (.inl rfl) Try.results21 (rv_tmp rfl) fun w1 hM => ?_))))))
              exact ret_ok (by rw [Names.matches_stop hs1 (by (try simp at h2); (try simp at h5); (try simp at h8); (try simp at h10); simp [Names.match1, h2, h5, h8, h10])]) hM
    ·
      refine c_exit (e_then_x (e_loop1_x (e_in_hit (e_go hK2 ?_))))
      refine c_seq fun K29 hK29 => ?_
      refine c_region ?_
      refine l_val wn (r_assign rfl) rfl ?_
      refine l_nil (e_go hK29 ?_)
      refine c_ret (e_ret1 (.inl rfl) Try.results21 (rv_tmp rfl) fun w1 hM => ?_)
      exact ret_ok (by rw [Names.matches_done (by omega) hI1.2]) hM

theorem c_named (s : ByteArray) (w : World)   :
    Calls Try.prog 23 #[.string s] w (Ret w (.bool (Names.named s))) := by
  refine fstart (N := 44) (vals := [.string s]) (S := Mem w no []) Try.func23 rfl rfl rfl (Mem.ofDats dn) ?_
  refine c_seq fun K1 hK1 => ?_
  refine c_region ?_
  refine l_val wn (r_assign rfl) rfl ?_
  refine l_nil (e_go hK1 ?_)
  refine c_seq fun K2 hK2 => ?_
  refine c_cut [(0, .string s), (12, .bool (decide (((s.size : Int) < 1) ∨ (12 < (s.size : Int)))))] (Mem w no []) (fun K3 hK3 => ?_) ?_
  ·
    refine c_region ?_
    refine l_val wn (r_move rfl) rfl ?_
    refine l_val wn (r_slen rfl Try.underlying9) rfl ?_
    refine l_val wn (r_lss rfl rfl) rfl ?_
    refine l_val wn (r_move rfl) rfl ?_
    refine l_case (t := 8) rfl (fun h1 => ?_) (fun h1 => ?_)
    ·
      refine l_skip (wg rfl rfl rfl) rfl ?_
      refine l_skip (wg rfl rfl rfl) rfl ?_
      refine l_skip (wg rfl rfl rfl) rfl ?_
      refine l_val wn (r_pick rfl rfl) rfl ?_
      refine l_nil (e_cut hK3 (sc rfl (sc (jt (Or.inl h1)) sn)) (fun _ h => h))
    ·
      refine l_val (wg rfl rfl rfl) (r_move rfl) rfl ?_
      refine l_val (wg rfl rfl rfl) (r_slen rfl Try.underlying9) rfl ?_
      refine l_val (wg rfl rfl rfl) (r_gtr rfl rfl) rfl ?_
      refine l_val wn (r_pick rfl rfl) rfl ?_
      refine l_nil (e_cut hK3 (sc rfl (sc (jp (iff_or_right h1 Iff.rfl)) sn)) (fun _ h => h))
  ·
    refine c_cond rfl (fun h2 => ?_) (fun h2 => ?_)
    ·
      refine c_seq fun K4 hK4 => ?_
      refine c_region ?_
      refine l_val wn (r_assign rfl) rfl ?_
      refine l_nil (e_go hK4 ?_)
      refine c_ret (e_then_r (e_ret1 (.inl rfl) Try.results23 (rv_tmp rfl) fun w1 hM => ?_))
      exact ret_ok (by unfold Names.named; simp; omega) hM
    ·
      refine c_skip (e_go hK2 ?_)
      refine c_seq fun K5 hK5 => ?_
      refine c_seq fun K6 hK6 => ?_
      refine c_region ?_
      refine l_val wn (r_move rfl) rfl ?_
      refine l_val wn (r_slen rfl Try.underlying9) rfl ?_
      refine l_val wn (r_move rfl) rfl ?_
      refine l_nil (e_go hK6 ?_)
      refine c_block ?_
      refine c_loop1 (fun (k : Nat) => [(0, .string s), (14, .int .i64 (s.size : Int)), (15, .int .i64 (k : Int))]) (fun (k : Nat) => []) (fun (k : Nat) => k ≤ s.size ∧ Names.namedL 0 s.data.toList = Names.namedL k (s.data.toList.drop k)) (fun (k : Nat) => s.size - k) 0 (sc rfl (sc rfl (sc (ji (by omega)) sn))) (fun _ h => h) ?_ (fun k hI1 => ?_)
      · simp
      ·
        refine c_seq fun K7 hK7 => ?_
        refine c_region ?_
        refine l_val wn (r_lss rfl rfl) rfl ?_
        refine l_nil (e_go hK7 ?_)
        refine c_seq fun K8 hK8 => ?_
        refine c_cond rfl (fun h3 => ?_) (fun h3 => ?_)
        ·
          refine c_skip (e_go hK8 ?_)
          refine c_seq fun K9 hK9 => ?_
          refine c_block ?_
          refine c_seq fun K10 hK10 => ?_
          refine c_region ?_
          refine l_val wn (r_move rfl) rfl ?_
          refine l_val wn (r_assign rfl) rfl ?_
          refine l_nil (e_go hK10 ?_)
          refine c_seq fun K11 hK11 => ?_
          refine c_region ?_
          refine l_val wn (r_move rfl) rfl ?_
          refine l_val wn (r_move rfl) rfl ?_
          obtain ⟨c1, hc1⟩ : ∃ x, s[k]? = some x := ⟨_, byte_at (by first | omega | decide | (simp only [List.length_cons, List.length_nil, List.length_append, List.length_take, List.length_set]; omega))⟩
          refine l_val wn (r_sidx rfl rfl (by omega) hc1 Try.underlying9) rfl ?_
          refine l_val wn (r_assign rfl) rfl ?_
          refine l_nil (e_go hK11 ?_)
          refine c_cut [(0, .string s), (14, .int .i64 (s.size : Int)), (15, .int .i64 (k : Int)), (42, .bool (decide ((((c1.toNat : Int) < 97) ∧ (((k : Int) = 0) ∨ ((((c1.toNat : Int) < 48) ∧ ((c1.toNat : Int) ≠ 95)) ∨ (¬ ((c1.toNat : Int) < 48) ∧ ((57 < (c1.toNat : Int)) ∧ ((c1.toNat : Int) ≠ 95)))))) ∨ (¬ ((c1.toNat : Int) < 97) ∧ ((122 < (c1.toNat : Int)) ∧ (((k : Int) = 0) ∨ ((((c1.toNat : Int) < 48) ∧ ((c1.toNat : Int) ≠ 95)) ∨ (¬ ((c1.toNat : Int) < 48) ∧ ((57 < (c1.toNat : Int)) ∧ ((c1.toNat : Int) ≠ 95))))))))))] (Mem w no []) (fun K12 hK12 => ?_) ?_
          ·
            refine c_region ?_
            refine l_val wn (r_move rfl) rfl ?_
            refine l_val wn (r_lss rfl rfl) rfl ?_
            refine l_val wn (r_move rfl) rfl ?_
            refine l_case (t := 23) rfl (fun h4 => ?_) (fun h4 => ?_)
            ·
              refine l_skip (wg rfl rfl rfl) rfl ?_
              refine l_skip (wg rfl rfl rfl) rfl ?_
              refine l_val wn (r_pick rfl rfl) rfl ?_
              refine l_val wn (r_move rfl) rfl ?_
              refine l_val (wg rfl rfl rfl) (r_move rfl) rfl ?_
              refine l_val (wg rfl rfl rfl) (r_eql rfl rfl) rfl ?_
              refine l_val (wg rfl rfl rfl) (r_move rfl) rfl ?_
              refine l_case (t := 30) rfl (fun h5 => ?_) (fun h5 => ?_)
              ·
                refine l_skip (wg rfl rfl rfl) rfl ?_
                refine l_skip (wg rfl rfl rfl) rfl ?_
                refine l_skip (wg rfl rfl rfl) rfl ?_
                refine l_skip (wu rfl rfl) rfl ?_
                refine l_skip (wu rfl rfl) rfl ?_
                refine l_skip (wg rfl rfl rfl) rfl ?_
                refine l_skip (wg rfl rfl rfl) rfl ?_
                refine l_skip (wu rfl rfl) rfl ?_
                refine l_skip (wu rfl rfl) rfl ?_
                refine l_skip (wg rfl rfl rfl) rfl ?_
                refine l_val (wg rfl rfl rfl) (r_pick rfl rfl) rfl ?_
                refine l_val wn (r_pick rfl rfl) rfl ?_
                refine l_nil (e_cut hK12 (sc rfl (sc rfl (sc rfl (sc (jt (Or.inl ⟨h4, (Or.inl h5)⟩)) sn)))) (fun _ h => h))
              ·
                refine l_val (wg rfl rfl rfl) (r_move rfl) rfl ?_
                refine l_val (wg rfl rfl rfl) (r_lss rfl rfl) rfl ?_
                refine l_val (wg rfl rfl rfl) (r_move rfl) rfl ?_
                refine l_case (t := 33) rfl (fun h6 => ?_) (fun h6 => ?_)
                ·
                  refine l_skip (wg rfl rfl rfl) rfl ?_
                  refine l_skip (wg rfl rfl rfl) rfl ?_
                  refine l_val (wg rfl rfl rfl) (r_pick rfl rfl) rfl ?_
                  refine l_val (wg rfl rfl rfl) (r_move rfl) rfl ?_
                  refine l_val (wg rfl rfl rfl) (r_move rfl) rfl ?_
                  refine l_val (wg rfl rfl rfl) (r_neq rfl rfl) rfl ?_
                  refine l_val (wg rfl rfl rfl) (r_pick rfl rfl) rfl ?_
                  refine l_val (wg rfl rfl rfl) (r_pick rfl rfl) rfl ?_
                  refine l_val wn (r_pick rfl rfl) rfl ?_
                  refine l_nil (e_cut hK12 (sc rfl (sc rfl (sc rfl (sc (jp (iff_ite_l h4 (iff_or_right h5 (iff_ite_l h6 Iff.rfl)))) sn)))) (fun _ h => h))
                ·
                  refine l_val (wg rfl rfl rfl) (r_move rfl) rfl ?_
                  refine l_val (wg rfl rfl rfl) (r_gtr rfl rfl) rfl ?_
                  refine l_val (wg rfl rfl rfl) (r_pick rfl rfl) rfl ?_
                  refine l_val (wg rfl rfl rfl) (r_move rfl) rfl ?_
                  refine l_case (t := 37) rfl (fun h7 => ?_) (fun h7 => ?_)
                  ·
                    refine l_val (wg rfl rfl rfl) (r_move rfl) rfl ?_
                    refine l_val (wg rfl rfl rfl) (r_neq rfl rfl) rfl ?_
                    refine l_val (wg rfl rfl rfl) (r_pick rfl rfl) rfl ?_
                    refine l_val (wg rfl rfl rfl) (r_pick rfl rfl) rfl ?_
                    refine l_val wn (r_pick rfl rfl) rfl ?_
                    refine l_nil (e_cut hK12 (sc rfl (sc rfl (sc rfl (sc (jp (iff_ite_l h4 (iff_or_right h5 (iff_ite_r h6 (iff_and_right h7 Iff.rfl))))) sn)))) (fun _ h => h))
                  ·
                    refine l_skip (wg rfl rfl rfl) rfl ?_
                    refine l_skip (wg rfl rfl rfl) rfl ?_
                    refine l_val (wg rfl rfl rfl) (r_pick rfl rfl) rfl ?_
                    refine l_val (wg rfl rfl rfl) (r_pick rfl rfl) rfl ?_
                    refine l_val wn (r_pick rfl rfl) rfl ?_
                    refine l_nil (e_cut hK12 (sc rfl (sc rfl (sc rfl (sc (jf (fun g => g.elim (fun k => (fun g => g.elim h5 (fun g => g.elim (fun k => h6 k.1) (fun k => (fun g => h7 g.1) k.2))) k.2) (fun k => k.1 h4))) sn)))) (fun _ h => h))
            ·
              refine l_val (wg rfl rfl rfl) (r_move rfl) rfl ?_
              refine l_val (wg rfl rfl rfl) (r_gtr rfl rfl) rfl ?_
              refine l_val wn (r_pick rfl rfl) rfl ?_
              refine l_val wn (r_move rfl) rfl ?_
              refine l_case (t := 27) rfl (fun h8 => ?_) (fun h8 => ?_)
              ·
                refine l_val (wg rfl rfl rfl) (r_move rfl) rfl ?_
                refine l_val (wg rfl rfl rfl) (r_eql rfl rfl) rfl ?_
                refine l_val (wg rfl rfl rfl) (r_move rfl) rfl ?_
                refine l_case (t := 30) rfl (fun h9 => ?_) (fun h9 => ?_)
                ·
                  refine l_skip (wg rfl rfl rfl) rfl ?_
                  refine l_skip (wg rfl rfl rfl) rfl ?_
                  refine l_skip (wg rfl rfl rfl) rfl ?_
                  refine l_skip (wu rfl rfl) rfl ?_
                  refine l_skip (wu rfl rfl) rfl ?_
                  refine l_skip (wg rfl rfl rfl) rfl ?_
                  refine l_skip (wg rfl rfl rfl) rfl ?_
                  refine l_skip (wu rfl rfl) rfl ?_
                  refine l_skip (wu rfl rfl) rfl ?_
                  refine l_skip (wg rfl rfl rfl) rfl ?_
                  refine l_val (wg rfl rfl rfl) (r_pick rfl rfl) rfl ?_
                  refine l_val wn (r_pick rfl rfl) rfl ?_
                  refine l_nil (e_cut hK12 (sc rfl (sc rfl (sc rfl (sc (jt (Or.inr ⟨h4, ⟨h8, (Or.inl h9)⟩⟩)) sn)))) (fun _ h => h))
                ·
                  refine l_val (wg rfl rfl rfl) (r_move rfl) rfl ?_
                  refine l_val (wg rfl rfl rfl) (r_lss rfl rfl) rfl ?_
                  refine l_val (wg rfl rfl rfl) (r_move rfl) rfl ?_
                  refine l_case (t := 33) rfl (fun h10 => ?_) (fun h10 => ?_)
                  ·
                    refine l_skip (wg rfl rfl rfl) rfl ?_
                    refine l_skip (wg rfl rfl rfl) rfl ?_
                    refine l_val (wg rfl rfl rfl) (r_pick rfl rfl) rfl ?_
                    refine l_val (wg rfl rfl rfl) (r_move rfl) rfl ?_
                    refine l_val (wg rfl rfl rfl) (r_move rfl) rfl ?_
                    refine l_val (wg rfl rfl rfl) (r_neq rfl rfl) rfl ?_
                    refine l_val (wg rfl rfl rfl) (r_pick rfl rfl) rfl ?_
                    refine l_val (wg rfl rfl rfl) (r_pick rfl rfl) rfl ?_
                    refine l_val wn (r_pick rfl rfl) rfl ?_
                    refine l_nil (e_cut hK12 (sc rfl (sc rfl (sc rfl (sc (jp (iff_ite_r h4 (iff_and_right h8 (iff_or_right h9 (iff_ite_l h10 Iff.rfl))))) sn)))) (fun _ h => h))
                  ·
                    refine l_val (wg rfl rfl rfl) (r_move rfl) rfl ?_
                    refine l_val (wg rfl rfl rfl) (r_gtr rfl rfl) rfl ?_
                    refine l_val (wg rfl rfl rfl) (r_pick rfl rfl) rfl ?_
                    refine l_val (wg rfl rfl rfl) (r_move rfl) rfl ?_
                    refine l_case (t := 37) rfl (fun h11 => ?_) (fun h11 => ?_)
                    ·
                      refine l_val (wg rfl rfl rfl) (r_move rfl) rfl ?_
                      refine l_val (wg rfl rfl rfl) (r_neq rfl rfl) rfl ?_
                      refine l_val (wg rfl rfl rfl) (r_pick rfl rfl) rfl ?_
                      refine l_val (wg rfl rfl rfl) (r_pick rfl rfl) rfl ?_
                      refine l_val wn (r_pick rfl rfl) rfl ?_
                      refine l_nil (e_cut hK12 (sc rfl (sc rfl (sc rfl (sc (jp (iff_ite_r h4 (iff_and_right h8 (iff_or_right h9 (iff_ite_r h10 (iff_and_right h11 Iff.rfl)))))) sn)))) (fun _ h => h))
                    ·
                      refine l_skip (wg rfl rfl rfl) rfl ?_
                      refine l_skip (wg rfl rfl rfl) rfl ?_
                      refine l_val (wg rfl rfl rfl) (r_pick rfl rfl) rfl ?_
                      refine l_val (wg rfl rfl rfl) (r_pick rfl rfl) rfl ?_
                      refine l_val wn (r_pick rfl rfl) rfl ?_
                      refine l_nil (e_cut hK12 (sc rfl (sc rfl (sc rfl (sc (jf (fun g => g.elim (fun k => h4 k.1) (fun k => (fun g => (fun g => g.elim h9 (fun g => g.elim (fun k => h10 k.1) (fun k => (fun g => h11 g.1) k.2))) g.2) k.2))) sn)))) (fun _ h => h))
              ·
                refine l_skip (wg rfl rfl rfl) rfl ?_
                refine l_skip (wg rfl rfl rfl) rfl ?_
                refine l_skip (wg rfl rfl rfl) rfl ?_
                refine l_skip (wu rfl rfl) rfl ?_
                refine l_skip (wu rfl rfl) rfl ?_
                refine l_skip (wu rfl rfl) rfl ?_
                refine l_skip (wu rfl rfl) rfl ?_
                refine l_skip (wu rfl rfl) rfl ?_
                refine l_skip (wu rfl rfl) rfl ?_
                refine l_skip (wu rfl rfl) rfl ?_
                refine l_skip (wu rfl rfl) rfl ?_
                refine l_skip (wu rfl rfl) rfl ?_
                refine l_skip (wu rfl rfl) rfl ?_
                refine l_skip (wg rfl rfl rfl) rfl ?_
                refine l_val wn (r_pick rfl rfl) rfl ?_
                refine l_nil (e_cut hK12 (sc rfl (sc rfl (sc rfl (sc (jf (fun g => g.elim (fun k => h4 k.1) (fun k => (fun g => h8 g.1) k.2))) sn)))) (fun _ h => h))
          ·
            refine c_cond rfl (fun h12 => ?_) (fun h12 => ?_)
            ·
              refine c_seq fun K13 hK13 => ?_
              refine c_region ?_
              refine l_val wn (r_assign rfl) rfl ?_
              refine l_nil (e_go hK13 ?_)
              refine c_ret (e_in_r (e_then_r (e_loop1_r (e_in_r (e_then_r (e_ret1 (.inl rfl) Try.results23 (rv_tmp rfl) fun w1 hM => ?_))))))
              exact ret_ok (by unfold Names.named; rw [hI1.2, Names.named_step hc1, decide_eq_false (show ¬ Names.fineB k c1 from by unfold Names.fineB; omega)]; simp) hM
            ·
              refine c_skip (e_in_n (e_go hK9 ?_))
              refine c_region ?_
              refine l_val wn (r_addn rfl rfl (by omega)) rfl ?_
              refine l_val wn (r_move rfl) rfl ?_
              refine l_nil (e_round1 (k + 1) (sc rfl (sc rfl (sc (ji (by omega)) sn))) (fun _ h => h) ?_ ?_)
              · exact ⟨by omega, by rw [hI1.2, Names.named_step hc1, decide_eq_true (show Names.fineB k c1 from by unfold Names.fineB; omega), Bool.true_and]⟩
              · omega
        ·
          refine c_exit (e_then_x (e_loop1_x (e_in_hit (e_go hK5 ?_))))
          refine c_seq fun K14 hK14 => ?_
          refine c_region ?_
          refine l_val wn (r_assign rfl) rfl ?_
          refine l_nil (e_go hK14 ?_)
          refine c_ret (e_ret1 (.inl rfl) Try.results23 (rv_tmp rfl) fun w1 hM => ?_)
          exact ret_ok (by unfold Names.named; rw [decide_eq_true (by omega), decide_eq_true (by omega), hI1.2, Names.named_end (by omega)]; rfl) hM

theorem c_namesWrong (lv : Value) (l : List Label) (w : World) (hl : FlatSl (In w) 2 labelE lv l w)  :
    Calls Try.prog 25 #[lv] w (Ret w (.int .i64 (Names.wrong l))) := by
  obtain ⟨lA, lc, rfl, hlc, hlm, hlA⟩ := hl.form
  refine fstart (N := 39) (vals := [.slice lA l.length lc]) (S := Mem w no [slO (In w) 2 labelE (.slice lA l.length lc) l]) Try.func25 rfl rfl rfl (Mem.ofDats (dc (dl hl) dn)) ?_
  refine c_seq fun K1 hK1 => ?_
  refine c_region ?_
  refine l_val wn (r_assign rfl) rfl ?_
  refine l_nil (e_go hK1 ?_)
  refine c_seq fun K2 hK2 => ?_
  refine c_seq fun K3 hK3 => ?_
  refine c_region ?_
  refine l_val wn (r_move rfl) rfl ?_
  refine l_val wn (r_len rfl Try.underlying40) rfl ?_
  refine l_val wn (r_gtr rfl rfl) rfl ?_
  refine l_nil (e_go hK3 ?_)
  refine c_cond rfl (fun h1 => ?_) (fun h1 => ?_)
  ·
    refine c_seq fun K4 hK4 => ?_
    refine c_region ?_
    refine l_val wn (r_assign rfl) rfl ?_
    refine l_nil (e_go hK4 ?_)
    refine c_ret (e_then_r (e_ret1 (.inl rfl) Try.results25 (rv_tmp rfl) fun w1 hM => ?_))
    exact ret_ok (by rw [Names.wrong, if_pos (by omega)]) hM
  ·
    refine c_skip (e_go hK2 ?_)
    refine c_seq fun K5 hK5 => ?_
    refine c_seq fun K6 hK6 => ?_
    refine c_region ?_
    refine l_val wn (r_move rfl) rfl ?_
    refine l_val wn (r_len rfl Try.underlying40) rfl ?_
    refine l_val wn (r_move rfl) rfl ?_
    refine l_nil (e_go hK6 ?_)
    refine c_block ?_
    refine c_loop1 (fun (k : Nat) => [(0, .slice lA l.length lc), (8, .slice lA l.length lc), (9, .int .i64 (l.length : Int)), (10, .int .i64 (k : Int))]) (fun (k : Nat) => [slO (In w) 2 labelE (.slice lA l.length lc) l]) (fun (k : Nat) => k ≤ l.length ∧ Names.wrongFrom none l = Names.wrongFrom (Names.prevOf l k) (l.drop k)) (fun (k : Nat) => l.length - k) 0 (sc rfl (sc rfl (sc rfl (sc (ji (by omega)) sn)))) (fun _ h => h) ?_ (fun k hI1 => ?_)
    · exact ⟨by omega, Names.wrong_start l⟩
    ·
      refine c_seq fun K7 hK7 => ?_
      refine c_region ?_
      refine l_val wn (r_lss rfl rfl) rfl ?_
      refine l_nil (e_go hK7 ?_)
      refine c_seq fun K8 hK8 => ?_
      refine c_cond rfl (fun h2 => ?_) (fun h2 => ?_)
      ·
        refine c_skip (e_go hK8 ?_)
        refine c_seq fun K9 hK9 => ?_
        refine c_block ?_
        refine c_seq fun K10 hK10 => ?_
        refine c_region ?_
        refine l_val wn (r_move rfl) rfl ?_
        obtain ⟨ad1, hd1⟩ := hlA (ne_nil (i := k) (by first | omega | decide | (simp only [List.length_cons, List.length_nil, List.length_append, List.length_take, List.length_set]; omega)))
        refine l_val wn (r_ia (i := k) rfl hd1 rfl (by omega) (by first | omega | decide | (simp only [List.length_cons, List.length_nil, List.length_append, List.length_take, List.length_set]; omega)) Try.underlying40 inf55) rfl ?_
        obtain ⟨s1, hs1⟩ : ∃ x, l[k]? = some x := ⟨_, List.getElem?_eq_getElem (by first | omega | decide | (simp only [List.length_cons, List.length_nil, List.length_append, List.length_take, List.length_set]; omega))⟩
        refine l_val wn (r_eln 0 [.string s1.key, .string s1.val] rfl rfl hd1 hs1 rfl rfl agg55 inf55) rfl ?_
        refine l_alloc wn inf55 rfl fun b4 => ?_
        refine l_val wn (r_assign rfl) rfl ?_
        refine l_stn 0 wn rfl rfl rfl inf55 rfl rfl rfl ?_
        refine l_nil (e_go hK10 ?_)
        refine c_seq fun K11 hK11 => ?_
        refine c_cut [(0, .slice lA l.length lc), (3, .int .i64 (k : Int)), (4, .pointer (some ⟨b4, 0, none⟩)), (8, .slice lA l.length lc), (9, .int .i64 (l.length : Int)), (10, .int .i64 (k : Int)), (24, .bool (decide (((!(Names.named s1.key)) = true) ∨ ((!(Names.named s1.val)) = true))))] (Mem w no [.blk b4 [.string s1.key, .string s1.val] 55, slO (In w) 2 labelE (.slice lA l.length lc) l]) (fun K12 hK12 => ?_) ?_
        ·
          refine c_region ?_
          refine l_val wn (r_fa rfl fld55_0) rfl ?_
          refine l_val wn (r_lb 0 rfl rfl rfl flat9) rfl ?_
          refine l_callF wn rfl Try.call23 rfl (fun w1 hM => c_named s1.key w1) ?_
          refine l_val wn (r_notb rfl) rfl ?_
          refine l_val wn (r_move rfl) rfl ?_
          refine l_caseb (t := 19) rfl (fun h3 => ?_) (fun h3 => ?_)
          ·
            refine l_skip (wg rfl rfl rfl) rfl ?_
            refine l_skip (wg rfl rfl rfl) rfl ?_
            refine l_skip (wg rfl rfl rfl) rfl ?_
            refine l_skip (wg rfl rfl rfl) rfl ?_
            refine l_val wn (r_pick rfl rfl) rfl ?_
            refine l_nil (e_cut hK12 (sc rfl (sc rfl (sc rfl (sc rfl (sc rfl (sc rfl (sc (jt (Or.inl h3)) sn))))))) (fun _ h => h))
          ·
            refine l_val (wg rfl rfl rfl) (r_fa rfl fld55_1) rfl ?_
            refine l_val (wg rfl rfl rfl) (r_lb 0 rfl rfl rfl flat9) rfl ?_
            refine l_callF (wg rfl rfl rfl) rfl Try.call23 rfl (fun w1 hM => c_named s1.val w1) ?_
            refine l_val (wg rfl rfl rfl) (r_notb rfl) rfl ?_
            refine l_val wn (r_pick rfl rfl) rfl ?_
            refine l_nil (e_cut hK12 (sc rfl (sc rfl (sc rfl (sc rfl (sc rfl (sc rfl (sc (jpb (iff_or_right h3 Iff.rfl)) sn))))))) (fun _ h => h))
        ·
          refine c_cond rfl (fun h4 => ?_) (fun h4 => ?_)
          ·
            refine c_seq fun K13 hK13 => ?_
            refine c_region ?_
            refine l_val wn (r_assign rfl) rfl ?_
            refine l_nil (e_go hK13 ?_)
            refine c_ret (e_then_r (e_in_r (e_then_r (e_loop1_r (e_in_r (e_then_r (e_ret1 (.inl rfl) Try.results25 (rv_tmp rfl) fun w1 hM => ?_)))))))
            exact ret_ok (by rw [Names.wrong, if_neg (by omega), hI1.2, Names.wrong_step hs1, if_pos h4]) hM
          ·
            refine c_skip (e_go hK11 ?_)
            refine c_seq fun K14 hK14 => ?_
            refine c_quiet mix (by kernel_rfl) (fun _ h => h.drew) ?_
            refine q_val wn (r_move rfl) rfl ?_
            refine q_val wn (r_gtr rfl rfl) rfl ?_
            refine q_val wn (r_move rfl) rfl ?_
            refine q_case (t := 27) rfl (fun h5 => ?_) (fun h5 => ?_)
            ·
              refine q_val (wg rfl rfl rfl) (r_move rfl) rfl ?_
              refine q_val (wg rfl rfl rfl) (r_move rfl) rfl ?_
              refine q_val (wg rfl rfl rfl) (r_subn rfl rfl (by omega)) rfl ?_
              refine q_val (wg rfl rfl rfl) (r_ia (i := (k - 1)) rfl hd1 rfl (by omega) (by first | omega | decide | (simp only [List.length_cons, List.length_nil, List.length_append, List.length_take, List.length_set]; omega)) Try.underlying40 inf55) rfl ?_
              refine q_val (wg rfl rfl rfl) (r_fe rfl fld55_0) rfl ?_
              obtain ⟨s2, hs2⟩ : ∃ x, l[(k - 1)]? = some x := ⟨_, List.getElem?_eq_getElem (by first | omega | decide | (simp only [List.length_cons, List.length_nil, List.length_append, List.length_take, List.length_set]; omega))⟩
              refine q_val (wg rfl rfl rfl) (r_el 1 rfl rfl hd1 hs2 rfl flat9) rfl ?_
              refine q_val (wg rfl rfl rfl) (r_fa rfl fld55_0) rfl ?_
              refine q_val (wg rfl rfl rfl) (r_lb 0 rfl rfl rfl flat9) rfl ?_
              refine q_val (wg rfl rfl rfl) (r_sgeq' rfl rfl) rfl ?_
              refine q_val wn (r_pick rfl rfl) rfl ?_
              refine q_end (e_go hK14 ?_)
              refine c_condb rfl (fun h6 => ?_) (fun h6 => ?_)
              ·
                refine c_seq fun K15 hK15 => ?_
                refine c_region ?_
                refine l_val wn (r_assign rfl) rfl ?_
                refine l_nil (e_go hK15 ?_)
                refine c_ret (e_in_r (e_then_r (e_loop1_r (e_in_r (e_then_r (e_ret1 (.inl rfl) Try.results25 (rv_tmp rfl) fun w1 hM => ?_))))))
                exact ret_ok (by rw [Names.wrong, if_neg (by omega), hI1.2, Names.wrong_step hs1, if_neg h4, if_pos (by rw [Names.prevOf, if_neg (by omega), hs2]; simpa [Names.behind] using h6)]) hM
              ·
                refine c_skip (e_in_n (e_go hK9 ?_))
                refine c_region ?_
                refine l_val wn (r_addn rfl rfl (by omega)) rfl ?_
                refine l_val wn (r_move rfl) rfl ?_
                refine l_nil (e_round1 (k + 1) (sc rfl (sc rfl (sc rfl (sc (ji (by omega)) sn)))) (fun _ h => (h.sel [1] (by decide) rfl)) ?_ ?_)
                · exact ⟨by omega, by rw [hI1.2, Names.wrong_step hs1, if_neg h4, if_neg (by rw [Names.prevOf, if_neg (by omega), hs2]; simpa [Names.behind] using h6)]⟩
                · omega
            ·
              refine q_skip (wg rfl rfl rfl) rfl ?_
              refine q_skip (wg rfl rfl rfl) rfl ?_
              refine q_skip (wg rfl rfl rfl) rfl ?_
              refine q_skip (wg rfl rfl rfl) rfl ?_
              refine q_skip (wg rfl rfl rfl) rfl ?_
              refine q_skip (wg rfl rfl rfl) rfl ?_
              refine q_skip (wg rfl rfl rfl) rfl ?_
              refine q_skip (wg rfl rfl rfl) rfl ?_
              refine q_skip (wg rfl rfl rfl) rfl ?_
              refine q_val wn (r_pick rfl rfl) rfl ?_
              refine q_end (e_go hK14 ?_)
              refine c_false rfl rfl ?_
              refine c_skip (e_in_n (e_go hK9 ?_))
              refine c_region ?_
              refine l_val wn (r_addn rfl rfl (by omega)) rfl ?_
              refine l_val wn (r_move rfl) rfl ?_
              refine l_nil (e_round1 (k + 1) (sc rfl (sc rfl (sc rfl (sc (ji (by omega)) sn)))) (fun _ h => (h.sel [1] (by decide) rfl)) ?_ ?_)
              · exact ⟨by omega, by rw [hI1.2, Names.wrong_step hs1, if_neg h4, if_neg (by rw [Names.prevOf, if_pos (by omega)]; simp [Names.behind])]⟩
              · omega
      ·
        refine c_exit (e_then_x (e_loop1_x (e_in_hit (e_go hK5 ?_))))
        refine c_seq fun K16 hK16 => ?_
        refine c_region ?_
        refine l_val wn (r_assign rfl) rfl ?_
        refine l_nil (e_go hK16 ?_)
        refine c_ret (e_ret1 (.inl rfl) Try.results25 (rv_tmp rfl) fun w1 hM => ?_)
        exact ret_ok (by rw [Names.wrong, if_neg (by omega), hI1.2, Names.wrong_end (by omega)]) hM

theorem c_index (lv : Value) (l : List ByteArray) (v : ByteArray) (w : World) (hl : FlatSl (In w) 1 strE lv l w)  :
    Calls Try.prog 42 #[lv, .string v] w (Ret w (.int .i64 (Names.indexOf l v 0))) := by
  obtain ⟨lA, lc, rfl, hlc, hlm, hlA⟩ := hl.form
  refine fstart (N := 19) (vals := [.slice lA l.length lc, .string v]) (S := Mem w no [slO (In w) 1 strE (.slice lA l.length lc) l]) Try.func42 rfl rfl rfl (Mem.ofDats (dc (dl hl) dn)) ?_
  refine c_seq fun K1 hK1 => ?_
  refine c_region ?_
  refine l_val wn (r_assign rfl) rfl ?_
  refine l_nil (e_go hK1 ?_)
  refine c_seq fun K2 hK2 => ?_
  refine c_seq fun K3 hK3 => ?_
  refine c_region ?_
  refine l_val wn (r_move rfl) rfl ?_
  refine l_val wn (r_len rfl Try.underlying48) rfl ?_
  refine l_val wn (r_move rfl) rfl ?_
  refine l_nil (e_go hK3 ?_)
  refine c_block ?_
  refine c_loop1 (fun (k : Nat) => [(0, .slice lA l.length lc), (1, .string v), (7, .int .i64 (l.length : Int)), (8, .int .i64 (k : Int))]) (fun (k : Nat) => [slO (In w) 1 strE (.slice lA l.length lc) l]) (fun (k : Nat) => k ≤ l.length ∧ Names.indexOf l v 0 = Names.indexOf (l.drop k) v k) (fun (k : Nat) => l.length - k) 0 (sc rfl (sc rfl (sc rfl (sc (ji (by omega)) sn)))) (fun _ h => h) ?_ (fun k hI1 => ?_)
  · simp
  ·
    refine c_seq fun K4 hK4 => ?_
    refine c_region ?_
    refine l_val wn (r_lss rfl rfl) rfl ?_
    refine l_nil (e_go hK4 ?_)
    refine c_seq fun K5 hK5 => ?_
    refine c_cond rfl (fun h1 => ?_) (fun h1 => ?_)
    ·
      refine c_skip (e_go hK5 ?_)
      refine c_seq fun K6 hK6 => ?_
      refine c_block ?_
      refine c_seq fun K7 hK7 => ?_
      refine c_region ?_
      refine l_val wn (r_move rfl) rfl ?_
      refine l_val wn (r_assign rfl) rfl ?_
      refine l_nil (e_go hK7 ?_)
      refine c_seq fun K8 hK8 => ?_
      refine c_region ?_
      refine l_val wn (r_move rfl) rfl ?_
      refine l_val wn (r_move rfl) rfl ?_
      refine l_val wn (r_move rfl) rfl ?_
      obtain ⟨ad1, hd1⟩ := hlA (ne_nil (i := k) (by first | omega | decide | (simp only [List.length_cons, List.length_nil, List.length_append, List.length_take, List.length_set]; omega)))
      refine l_val wn (r_ia (i := k) rfl hd1 rfl (by omega) (by first | omega | decide | (simp only [List.length_cons, List.length_nil, List.length_append, List.length_take, List.length_set]; omega)) Try.underlying48 inf9) rfl ?_
      obtain ⟨s1, hs1⟩ : ∃ x, l[k]? = some x := ⟨_, List.getElem?_eq_getElem (by first | omega | decide | (simp only [List.length_cons, List.length_nil, List.length_append, List.length_take, List.length_set]; omega))⟩
      refine l_val wn (r_el 0 rfl rfl hd1 hs1 rfl flat9) rfl ?_
      refine l_val wn (r_seql rfl rfl) rfl ?_
      refine l_nil (e_go hK8 ?_)
      refine c_cond rfl (fun h2 => ?_) (fun h2 => ?_)
      ·
        refine c_seq fun K9 hK9 => ?_
        refine c_region ?_
        refine l_val wn (r_move rfl) rfl ?_
        refine l_val wn (r_assign rfl) rfl ?_
        refine l_nil (e_go hK9 ?_)
        refine c_ret (e_in_r (e_then_r (e_loop1_r (e_in_r (e_then_r (e_ret1 (.inl rfl) Try.results42 (rv_tmp rfl) fun w1 hM => ?_))))))
        exact ret_ok (by rw [hI1.2, Names.index_step hs1, if_pos h2]) hM
      ·
        refine c_skip (e_in_n (e_go hK6 ?_))
        refine c_region ?_
        refine l_val wn (r_addn rfl rfl (by omega)) rfl ?_
        refine l_val wn (r_move rfl) rfl ?_
        refine l_nil (e_round1 (k + 1) (sc rfl (sc rfl (sc rfl (sc (ji (by omega)) sn)))) (fun _ h => h) ?_ ?_)
        · exact ⟨by omega, by rw [hI1.2, Names.index_step hs1, if_neg h2]⟩
        · omega
    ·
      refine c_exit (e_then_x (e_loop1_x (e_in_hit (e_go hK2 ?_))))
      refine c_seq fun K10 hK10 => ?_
      refine c_region ?_
      refine l_val wn (r_assign rfl) rfl ?_
      refine l_nil (e_go hK10 ?_)
      refine c_ret (e_ret1 (.inl rfl) Try.results42 (rv_tmp rfl) fun w1 hM => ?_)
      exact ret_ok (by rw [hI1.2, Names.index_end (by omega)]) hM

theorem c_contains (lv : Value) (l : List ByteArray) (v : ByteArray) (w : World) (hl : FlatSl (In w) 1 strE lv l w)  :
    Calls Try.prog 40 #[lv, .string v] w (Ret w (.bool (decide (0 ≤ Names.indexOf l v 0)))) := by
  obtain ⟨lA, lc, rfl, hlc, hlm, hlA⟩ := hl.form
  refine fstart (N := 9) (vals := [.slice lA l.length lc, .string v]) (S := Mem w no [slO (In w) 1 strE (.slice lA l.length lc) l]) Try.func40 rfl rfl rfl (Mem.ofDats (dc (dl hl) dn)) ?_
  refine c_seq fun K1 hK1 => ?_
  refine c_region ?_
  refine l_val wn (r_assign rfl) rfl ?_
  refine l_nil (e_go hK1 ?_)
  refine c_seq fun K2 hK2 => ?_
  refine c_region ?_
  refine l_val wn (r_move rfl) rfl ?_
  refine l_val wn (r_move rfl) rfl ?_
  refine l_callF wn rfl Try.call42 rfl (fun w1 hM => c_index _ l v w1 (hM.sl 0 rfl)) ?_
  refine l_val wn (r_geq rfl rfl) rfl ?_
  refine l_val wn (r_assign rfl) rfl ?_
  refine l_nil (e_go hK2 ?_)
  refine c_ret (e_ret1 (.inl rfl) Try.results40 (rv_tmp rfl) fun w1 hM => ?_)
  exact ret_ok rfl hM

theorem c_only (lv : Value) (l : List Label) (by_v : Value) (by_ : List ByteArray) (w : World) (hl : FlatSl (In w) 2 labelE lv l w) (hby_ : FlatSl (In w) 1 strE by_v by_ w) (hl1 : l.length ≤ 1048576) :
    Calls Try.prog 28 #[lv, by_v] w (RetL w 55 2 labelE (Names.only l by_)) := by
  obtain ⟨lA, lc, rfl, hlc, hlm, hlA⟩ := hl.form
  obtain ⟨by_A, by_c, rfl, hby_c, hby_m, hby_A⟩ := hby_.form
  refine fstart (N := 24) (vals := [.slice lA l.length lc, .slice by_A by_.length by_c]) (S := Mem w no [slO (In w) 2 labelE (.slice lA l.length lc) l, slO (In w) 1 strE (.slice by_A by_.length by_c) by_]) Try.func28 rfl rfl rfl (Mem.ofDats (dc (dl hl) (dc (dl hby_) dn))) ?_
  refine c_seq fun K1 hK1 => ?_
  refine c_region ?_
  refine l_nilRow (labelE : Label → List Value) 55 2 ?_
  refine l_val wn (r_assign rfl) rfl ?_
  refine l_nil (e_go hK1 ?_)
  refine c_seq fun K2 hK2 => ?_
  refine c_region ?_
  refine l_nilRow (labelE : Label → List Value) 55 2 ?_
  refine l_val wn (r_assign rfl) rfl ?_
  refine l_nil (e_go hK2 ?_)
  refine c_seq fun K3 hK3 => ?_
  refine c_seq fun K4 hK4 => ?_
  refine c_region ?_
  refine l_val wn (r_move rfl) rfl ?_
  refine l_val wn (r_len rfl Try.underlying40) rfl ?_
  refine l_val wn (r_move rfl) rfl ?_
  refine l_nil (e_go hK4 ?_)
  refine c_block ?_
  refine c_loop2 (fun (k : Nat) (vr : Value) => [(1, .slice by_A by_.length by_c), (5, vr), (8, .slice lA l.length lc), (9, .int .i64 (l.length : Int)), (10, .int .i64 (k : Int))]) (fun (k : Nat) (vr : Value) => [Row vr 55 2 labelE (Names.only (l.take k) by_), Row (.slice none 0 0) 55 2 labelE ([] : List Label), slO (In w) 2 labelE (.slice lA l.length lc) l, slO (In w) 1 strE (.slice by_A by_.length by_c) by_]) (fun (k : Nat) (vr : Value) => k ≤ l.length) (fun (k : Nat) (vr : Value) => l.length - k) 0 (.slice none 0 0) (sc rfl (sc rfl (sc rfl (sc rfl (sc (ji (by omega)) sn))))) (fun _ h => h) ?_ (fun k vr hI1 => ?_)
  · omega
  ·
    have hlen := Nat.le_trans (Names.only_len (l.take k) by_) (List.length_take_le k l)
    refine c_open 0 (l := (Names.only (l.take k) by_)) rfl fun A1 cp1 hv1 hc1 hm1 hA1 => ?_
    subst hv1
    refine c_seq fun K5 hK5 => ?_
    refine c_region ?_
    refine l_val wn (r_lss rfl rfl) rfl ?_
    refine l_nil (e_go hK5 ?_)
    refine c_seq fun K6 hK6 => ?_
    refine c_cond rfl (fun h1 => ?_) (fun h1 => ?_)
    ·
      refine c_skip (e_go hK6 ?_)
      refine c_seq fun K7 hK7 => ?_
      refine c_block ?_
      refine c_seq fun K8 hK8 => ?_
      refine c_region ?_
      obtain ⟨ad1, hd1⟩ := hlA (ne_nil (i := k) (by first | omega | decide | (simp only [List.length_cons, List.length_nil, List.length_append, List.length_take, List.length_set]; omega)))
      refine l_val wn (r_ia (i := k) rfl hd1 rfl (by omega) (by first | omega | decide | (simp only [List.length_cons, List.length_nil, List.length_append, List.length_take, List.length_set]; omega)) Try.underlying40 inf55) rfl ?_
      obtain ⟨s1, hs1⟩ : ∃ x, l[k]? = some x := ⟨_, List.getElem?_eq_getElem (by first | omega | decide | (simp only [List.length_cons, List.length_nil, List.length_append, List.length_take, List.length_set]; omega))⟩
      refine l_val wn (r_eln 2 [.string s1.key, .string s1.val] rfl rfl hd1 hs1 rfl rfl agg55 inf55) rfl ?_
      refine l_alloc wn inf55 rfl fun b7 => ?_
      refine l_stn 0 wn rfl rfl rfl inf55 rfl rfl rfl ?_
      refine l_nil (e_go hK8 ?_)
      refine c_seq fun K9 hK9 => ?_
      refine c_region ?_
      refine l_val wn (r_move rfl) rfl ?_
      refine l_val wn (r_fa rfl fld55_0) rfl ?_
      refine l_val wn (r_lb 0 rfl rfl rfl flat9) rfl ?_
      refine l_callF wn rfl Try.call40 rfl (fun w1 hM => c_contains _ by_ s1.key w1 (hM.sl 4 rfl)) ?_
      refine l_nil (e_go hK9 ?_)
      refine c_cond rfl (fun h2 => ?_) (fun h2 => ?_)
      ·
        refine c_region ?_
        refine l_val wn (r_move rfl) rfl ?_
        refine l_val wn (r_lbn 0 [.string s1.key, .string s1.val] rfl rfl rfl rfl agg55 inf55) rfl ?_
        refine l_bsL labelE ([s1] : List Label) wn Try.underlying40 inf55 rfl rfl rfl rfl (by decide) (by decide) rfl fun b20 => ?_
        refine l_app 2 (Names.only (l.take k) by_) ([s1] : List Label) encLabel wn rfl rfl rfl (fun _ hM => (RowSl encLabel hM 0 rfl)) Try.underlying40 inf55 rfl rfl (by simp only [List.length_append, List.length_cons, List.length_nil]; omega) rfl fun A2 cp2 hc2 hm2 hA2 => ?_
        refine l_val wn (r_assign rfl) rfl ?_
        refine l_nil (e_in_n (e_go hK7 ?_))
        refine c_region ?_
        refine l_val wn (r_addn rfl rfl (by omega)) rfl ?_
        refine l_val wn (r_move rfl) rfl ?_
        refine l_nil (e_round2 (k + 1) (.slice A2 (((Names.only (l.take k) by_) ++ ([s1] : List Label)).length) cp2) (sc rfl (sc rfl (sc rfl (sc rfl (sc (ji (by omega)) sn))))) (fun _ h => by rw [(Names.only_succ hs1).trans (if_pos h2)]; exact (h.sel [2, 3, 4, 5] (by decide) rfl)) ?_ ?_)
        · omega
        · omega
      ·
        refine c_skip (e_in_n (e_go hK7 ?_))
        refine c_region ?_
        refine l_val wn (r_addn rfl rfl (by omega)) rfl ?_
        refine l_val wn (r_move rfl) rfl ?_
        refine l_nil (e_round2 (k + 1) (.slice A1 ((Names.only (l.take k) by_).length) cp1) (sc rfl (sc rfl (sc rfl (sc rfl (sc (ji (by omega)) sn))))) (fun _ h => by rw [(Names.only_succ hs1).trans (if_neg h2)]; exact (h.sel [1, 2, 3, 4] (by decide) rfl)) ?_ ?_)
        · omega
        · omega
    ·
      refine c_exit (e_then_x (e_loop2_x (e_in_hit (e_go hK3 ?_))))
      refine c_seq fun K10 hK10 => ?_
      refine c_region ?_
      refine l_val wn (r_move rfl) rfl ?_
      refine l_val wn (r_assign rfl) rfl ?_
      refine l_nil (e_go hK10 ?_)
      refine c_ret (e_ret1 (.inl rfl) Try.results28 (rv_tmp rfl) fun w1 hM => ?_)
      exact hM.retL' 0 rfl (by rw [List.take_of_length_le (by omega)])

theorem c_host (v : ByteArray) (w : World)   :
    Calls Try.prog 35 #[.string v] w (RetL w 55 2 labelE [⟨⟨#[104, 111, 115, 116]⟩, v⟩]) := by
  refine fstart (N := 6) (vals := [.string v]) (S := Mem w no []) Try.func35 rfl rfl rfl (Mem.ofDats dn) ?_
  refine c_seq fun K1 hK1 => ?_
  refine c_region ?_
  refine l_val wn (r_assign rfl) rfl ?_
  refine l_nil (e_go hK1 ?_)
  refine c_seq fun K2 hK2 => ?_
  refine c_region ?_
  refine l_val wn (r_move rfl) rfl ?_
  refine l_val wn (r_build [.string ⟨#[104, 111, 115, 116]⟩, .string v] pl55 inf55 rfl rfl) rfl ?_
  refine l_bsL labelE ([(⟨⟨#[104, 111, 115, 116]⟩, v⟩ : Label)] : List Label) wn Try.underlying40 inf55 rfl rfl rfl rfl (by decide) (by decide) rfl fun b5 => ?_
  refine l_val wn (r_assign rfl) rfl ?_
  refine l_nil (e_go hK2 ?_)
  refine c_ret (e_ret1 (.inl rfl) Try.results35 (rv_tmp rfl) fun w1 hM => ?_)
  exact hM.retL' 0 rfl rfl

end Go.Proofs.Ytekamocheffppaa
