/-
  Walks: what each function hands back.
-/
import Derived.Test.YtldecdningjkoaaFacts
import Derived.Test.YtldecdningjkoaaPNames
namespace Go.Proofs.Ytldecdningjkoaa
open Ex
set_option linter.unusedVariables false
set_option linter.unusedSimpArgs false
theorem c_isNaN (a : ByteArray) (w : World)   :
    Calls Try.prog 66 #[.string a] w (Ret w (.bool false)) := by
 refine fstart (N := 6) (vals := [.string a]) (S := Mem w no []) Try.func66 rfl rfl rfl (Mem.ofDats dn) ?_
 refine c_seq fun _ hK1 => ?_
 refine c_region ?_
 refine l_val wn (r_assign rfl) rfl ?_
 refine l_nil (e_go hK1 ?_)
 refine c_seq fun _ hK2 => ?_
 refine c_region ?_
 refine l_val wn (r_move rfl) rfl ?_
 refine l_val wn (r_move rfl) rfl ?_
 refine l_val wn (r_sneq rfl rfl) rfl ?_
 refine l_val wn (r_assign rfl) rfl ?_
 refine l_nil (e_go hK2 ?_)
 refine c_ret (e_ret1 (.inl rfl) Try.results66 (rv_tmp rfl) fun w1 hM => ?_)
 exact ret_ok (by simp) hM

theorem c_cmpS (a : ByteArray) (b : ByteArray) (w : World)   :
    Calls Try.prog 54 #[.string a, .string b] w (Ret w (.int .i64 (Names.cmpS a b))) := by
 refine fstart (N := 20) (vals := [.string a, .string b]) (S := Mem w no []) Try.func54 rfl rfl rfl (Mem.ofDats dn) ?_
 refine c_seq fun _ hK1 => ?_
 refine c_region ?_
 refine l_val wn (r_assign rfl) rfl ?_
 refine l_nil (e_go hK1 ?_)
 refine c_seq fun _ hK2 => ?_
 refine c_region ?_
 refine l_val wn (r_move rfl) rfl ?_
 refine l_callF wn rfl Try.call66 rfl (fun w1 hM => c_isNaN a w1) ?_
 refine l_val wn (r_assign rfl) rfl ?_
 refine l_nil (e_go hK2 ?_)
 refine c_seq fun _ hK3 => ?_
 refine c_region ?_
 refine l_val wn (r_move rfl) rfl ?_
 refine l_callF wn rfl Try.call66 rfl (fun w1 hM => c_isNaN b w1) ?_
 refine l_val wn (r_assign rfl) rfl ?_
 refine l_nil (e_go hK3 ?_)
 refine c_seq fun _ hK4 => ?_
 refine c_seq fun _ hK5 => ?_
 refine c_region ?_
 refine l_val wn (r_move rfl) rfl ?_
 refine l_nil (e_go hK5 ?_)
 refine c_false rfl rfl ?_
 refine c_skip (e_go hK4 ?_)
 refine c_seq fun _ hK6 => ?_
 refine c_seq fun _ hK7 => ?_
 refine c_region ?_
 refine l_val wn (r_move rfl) rfl ?_
 refine l_nil (e_go hK7 ?_)
 refine c_false rfl rfl ?_
 refine c_skip (e_go hK6 ?_)
 refine c_seq fun _ hK8 => ?_
 refine c_seq fun _ hK9 => ?_
 refine c_region ?_
 refine l_val wn (r_move rfl) rfl ?_
 refine l_val wn (r_move rfl) rfl ?_
 refine l_val wn (r_slss' rfl rfl) rfl ?_
 refine l_nil (e_go hK9 ?_)
 refine c_condb rfl (fun h1 => ?_) (fun h1 => ?_)
 · refine c_seq fun _ hK10 => ?_
   refine c_region ?_
   refine l_val wn (r_assign rfl) rfl ?_
   refine l_nil (e_go hK10 ?_)
   refine c_ret (e_then_r (e_ret1 (.inl rfl) Try.results54 (rv_tmp rfl) fun w1 hM => ?_))
   exact ret_ok (by simp [Names.cmpS, h1]) hM
 refine c_skip (e_go hK8 ?_)
 refine c_seq fun _ hK11 => ?_
 refine c_seq fun _ hK12 => ?_
 refine c_region ?_
 refine l_val wn (r_move rfl) rfl ?_
 refine l_val wn (r_move rfl) rfl ?_
 refine l_val wn (r_sgtr' rfl rfl) rfl ?_
 refine l_nil (e_go hK12 ?_)
 refine c_condb rfl (fun h2 => ?_) (fun h2 => ?_)
 · refine c_seq fun _ hK13 => ?_
   refine c_region ?_
   refine l_val wn (r_assign rfl) rfl ?_
   refine l_nil (e_go hK13 ?_)
   refine c_ret (e_then_r (e_ret1 (.inl rfl) Try.results54 (rv_tmp rfl) fun w1 hM => ?_))
   exact ret_ok (by simp [Names.cmpS, h1, h2]) hM
 refine c_skip (e_go hK11 ?_)
 refine c_seq fun _ hK14 => ?_
 refine c_region ?_
 refine l_val wn (r_assign rfl) rfl ?_
 refine l_nil (e_go hK14 ?_)
 refine c_ret (e_ret1 (.inl rfl) Try.results54 (rv_tmp rfl) fun w1 hM => ?_)
 exact ret_ok (by simp [Names.cmpS, h1, h2]) hM

theorem c_or (lv : Value) (l : List Int) (w : World) (hl : FlatSl (In w) 1 intE lv l w)  :
    Calls Try.prog 53 #[lv] w (Ret w (.int .i64 (Names.orI l))) := by
 obtain ⟨lA, lc, rfl, hlc, hlm, hlA⟩ := hl.form
 refine fstart (N := 18) (vals := [.slice lA l.length lc]) (S := Mem w no [slO (In w) 1 intE (.slice lA l.length lc) l]) Try.func53 rfl rfl rfl (Mem.ofDats (dc (dl hl) dn)) ?_
 refine c_seq fun _ hK1 => ?_
 refine c_region ?_
 refine l_val wn (r_assign rfl) rfl ?_
 refine l_nil (e_go hK1 ?_)
 refine c_seq fun _ hK2 => ?_
 refine c_region ?_
 refine l_val wn (r_assign rfl) rfl ?_
 refine l_nil (e_go hK2 ?_)
 refine c_seq fun _ hK3 => ?_
 refine c_seq fun _ hK4 => ?_
 refine c_region ?_
 refine l_val wn (r_move rfl) rfl ?_
 refine l_val wn (r_len rfl Try.underlying118) rfl ?_
 refine l_val wn (r_move rfl) rfl ?_
 refine l_nil (e_go hK4 ?_)
 refine c_block ?_
 refine c_loop1 (fun (k : Nat) => [(3, .int .i64 0), (6, .slice lA l.length lc), (7, .int .i64 (l.length : Int)), (8, .int .i64 (k : Int))]) (fun (k : Nat) => [slO (In w) 1 intE (.slice lA l.length lc) l]) (fun (k : Nat) => k ≤ l.length ∧ Names.orI l = Names.orI (l.drop k)) (fun (k : Nat) => l.length - k) 0 (sc rfl (sc rfl (sc rfl (sc (ji (by omega)) sn)))) (fun _ h => h) ?_ (fun k hI1 => ?_)
 · simp
 refine c_seq fun _ hK5 => ?_
 refine c_region ?_
 refine l_val wn (r_lss rfl rfl) rfl ?_
 refine l_nil (e_go hK5 ?_)
 refine c_seq fun _ hK6 => ?_
 refine c_cond rfl (fun h1 => ?_) (fun h1 => ?_)
 · refine c_skip (e_go hK6 ?_)
   refine c_seq fun _ hK7 => ?_
   refine c_block ?_
   refine c_seq fun _ hK8 => ?_
   refine c_region ?_
   obtain ⟨ad1, hd1⟩ := hlA (ne_nil (i := k) (by first | omega | decide | (simp only [List.length_cons, List.length_nil, List.length_append, List.length_take, List.length_set]; omega)))
   refine l_val wn (r_ia (i := k) rfl hd1 rfl (by omega) (by first | omega | decide | (simp only [List.length_cons, List.length_nil, List.length_append, List.length_take, List.length_set]; omega)) Try.underlying118 inf3) rfl ?_
   obtain ⟨s1, hs1⟩ : ∃ x, l[k]? = some x := ⟨_, List.getElem?_eq_getElem (by first | omega | decide | (simp only [List.length_cons, List.length_nil, List.length_append, List.length_take, List.length_set]; omega))⟩
   refine l_val wn (r_el 0 rfl rfl hd1 hs1 rfl flat3) rfl ?_
   refine l_val wn (r_assign rfl) rfl ?_
   refine l_nil (e_go hK8 ?_)
   refine c_seq fun _ hK9 => ?_
   refine c_region ?_
   refine l_val wn (r_move rfl) rfl ?_
   refine l_val wn (r_move rfl) rfl ?_
   refine l_val wn (r_neq rfl rfl) rfl ?_
   refine l_nil (e_go hK9 ?_)
   refine c_cond rfl (fun h2 => ?_) (fun h2 => ?_)
   · refine c_seq fun _ hK10 => ?_
     refine c_region ?_
     refine l_val wn (r_move rfl) rfl ?_
     refine l_val wn (r_assign rfl) rfl ?_
     refine l_nil (e_go hK10 ?_)
     refine c_ret (e_in_r (e_then_r (e_loop1_r (e_in_r (e_then_r (e_ret1 (.inl rfl) Try.results53 (rv_tmp rfl) fun w1 hM => ?_))))))
     exact ret_ok (by rw [hI1.2, Names.or_step hs1, if_pos h2]) hM
   refine c_skip (e_in_n (e_go hK7 ?_))
   refine c_region ?_
   refine l_val wn (r_addn rfl rfl (by omega)) rfl ?_
   refine l_val wn (r_move rfl) rfl ?_
   refine l_nil (e_round1 (k + 1) (sc rfl (sc rfl (sc rfl (sc (ji (by omega)) sn)))) (fun _ h => h) ?_ ?_)
   · exact ⟨by omega, by rw [hI1.2, Names.or_step hs1, if_neg (by simpa using h2)]⟩
   omega
 refine c_exit (e_then_x (e_loop1_x (e_in_hit (e_go hK3 ?_))))
 refine c_seq fun _ hK11 => ?_
 refine c_region ?_
 refine l_val wn (r_move rfl) rfl ?_
 refine l_val wn (r_assign rfl) rfl ?_
 refine l_nil (e_go hK11 ?_)
 refine c_ret (e_ret1 (.inl rfl) Try.results53 (rv_tmp rfl) fun w1 hM => ?_)
 exact ret_ok (by rw [hI1.2, Names.or_end (by omega)]) hM

theorem c_cmpL (a : Label) (b : Label) (w : World)   :
    Calls Try.prog 52 #[.agg (labelE a).toArray, .agg (labelE b).toArray] w (Ret w (.int .i64 (Names.cmpL a b))) := by
 refine fstart (N := 17) (vals := [.agg (labelE a).toArray, .agg (labelE b).toArray]) (S := Mem w no []) Try.func52 rfl rfl rfl (Mem.ofDats dn) ?_
 refine c_seq fun _ hK1 => ?_
 refine c_region ?_
 refine l_box wn rfl rfl fun b2 => ?_
 refine l_box wn rfl rfl fun b3 => ?_
 refine l_val wn (r_assign rfl) rfl ?_
 refine l_nil (e_go hK1 ?_)
 refine c_seq fun _ hK2 => ?_
 refine c_quietT 10 mix (by kernel_rfl) (fun _ h => h.drew) fun _ hT1 => ?_
 refine q_val wn (r_fa rfl fld51_0) rfl ?_
 refine q_val wn (r_lb 1 rfl rfl rfl flat9) rfl ?_
 refine q_val wn (r_fa rfl fld51_0) rfl ?_
 refine q_val wn (r_lb 0 rfl rfl rfl flat9) rfl ?_
 refine q_callF wn rfl Try.call54 rfl (fun w1 hM => c_cmpS a.key b.key w1) ?_
 refine q_val wn (r_fa rfl fld51_1) rfl ?_
 refine q_val wn (r_lb 1 rfl rfl rfl flat9) rfl ?_
 refine q_val wn (r_fa rfl fld51_1) rfl ?_
 refine q_val wn (r_lb 0 rfl rfl rfl flat9) rfl ?_
 refine q_callF wn rfl Try.call54 rfl (fun w1 hM => c_cmpS a.val b.val w1) ?_
 refine q_tail hT1 ?_
 refine l_bsL intE ([(Names.cmpS a.key b.key), (Names.cmpS a.val b.val)] : List Int) wn Try.underlying118 inf3 rfl rfl rfl rfl (by decide) (by decide) rfl fun b15 => ?_
 refine l_callF wn rfl Try.call53 rfl (fun w1 hM => c_or _ ([(Names.cmpS a.key b.key), (Names.cmpS a.val b.val)] : List Int) w1 (RowSl encInt hM 0 rfl)) ?_
 refine l_val wn (r_assign rfl) rfl ?_
 refine l_nil (e_go hK2 ?_)
 refine c_ret (e_ret1 (.inl rfl) Try.results52 (rv_tmp rfl) fun w1 hM => ?_)
 exact ret_ok (by rw [Names.orI_two]; rfl) hM

theorem c_compareFunc (av : Value) (a : List Label) (bv : Value) (b : List Label) (w : World) (ha : FlatSl (In w) 2 labelE av a w) (hb : FlatSl (In w) 2 labelE bv b w)  :
    Calls Try.prog 51 #[av, bv, .func (.func 52) #[] #[]] w (Ret w (.int .i64 (Names.compare a b))) := by
 obtain ⟨aA, ac, rfl, hac, ham, haA⟩ := ha.form
 obtain ⟨bA, bc, rfl, hbc, hbm, hbA⟩ := hb.form
 refine fstart (N := 39) (vals := [.slice aA a.length ac, .slice bA b.length bc, .func (.func 52) #[] #[]]) (S := Mem w no [slO (In w) 2 labelE (.slice aA a.length ac) a, slO (In w) 2 labelE (.slice bA b.length bc) b]) Try.func51 rfl rfl rfl (Mem.ofDats (dc (dl ha) (dc (dl hb) dn))) ?_
 refine c_seq fun _ hK1 => ?_
 refine c_region ?_
 refine l_val wn (r_assign rfl) rfl ?_
 refine l_nil (e_go hK1 ?_)
 refine c_seq fun _ hK2 => ?_
 refine c_seq fun _ hK3 => ?_
 refine c_region ?_
 refine l_val wn (r_move rfl) rfl ?_
 refine l_val wn (r_len rfl Try.underlying42) rfl ?_
 refine l_val wn (r_move rfl) rfl ?_
 refine l_nil (e_go hK3 ?_)
 refine c_block ?_
 refine c_loop1 (fun (k : Nat) => [(0, .slice aA a.length ac), (1, .slice bA b.length bc), (2, .func (.func 52) #[] #[]), (11, .slice aA a.length ac), (12, .int .i64 (a.length : Int)), (13, .int .i64 (k : Int))]) (fun (k : Nat) => [slO (In w) 2 labelE (.slice aA a.length ac) a, slO (In w) 2 labelE (.slice bA b.length bc) b]) (fun (k : Nat) => k ≤ a.length ∧ Names.compare a b = Names.compare (a.drop k) (b.drop k)) (fun (k : Nat) => a.length - k) 0 (sc rfl (sc rfl (sc rfl (sc rfl (sc rfl (sc (ji (by omega)) sn)))))) (fun _ h => h) ?_ (fun k hI1 => ?_)
 · simp
 refine c_seq fun _ hK4 => ?_
 refine c_region ?_
 refine l_val wn (r_lss rfl rfl) rfl ?_
 refine l_nil (e_go hK4 ?_)
 refine c_seq fun _ hK5 => ?_
 refine c_cond rfl (fun h1 => ?_) (fun h1 => ?_)
 · refine c_skip (e_go hK5 ?_)
   refine c_seq fun _ hK6 => ?_
   refine c_block ?_
   refine c_seq fun _ hK7 => ?_
   refine c_region ?_
   refine l_val wn (r_move rfl) rfl ?_
   obtain ⟨ad1, hd1⟩ := haA (ne_nil (i := k) (by first | omega | decide | (simp only [List.length_cons, List.length_nil, List.length_append, List.length_take, List.length_set]; omega)))
   refine l_val wn (r_ia (i := k) rfl hd1 rfl (by omega) (by first | omega | decide | (simp only [List.length_cons, List.length_nil, List.length_append, List.length_take, List.length_set]; omega)) Try.underlying42 inf51) rfl ?_
   obtain ⟨s1, hs1⟩ : ∃ x, a[k]? = some x := ⟨_, List.getElem?_eq_getElem (by first | omega | decide | (simp only [List.length_cons, List.length_nil, List.length_append, List.length_take, List.length_set]; omega))⟩
   refine l_val wn (r_eln 0 [.string s1.key, .string s1.val] rfl rfl hd1 hs1 rfl rfl agg51 inf51) rfl ?_
   refine l_alloc wn inf51 rfl fun b8 => ?_
   refine l_val wn (r_assign rfl) rfl ?_
   refine l_stn 0 wn rfl rfl rfl inf51 rfl rfl rfl ?_
   refine l_nil (e_go hK7 ?_)
   refine c_seq fun _ hK8 => ?_
   refine c_seq fun _ hK9 => ?_
   refine c_region ?_
   refine l_val wn (r_move rfl) rfl ?_
   refine l_val wn (r_move rfl) rfl ?_
   refine l_val wn (r_len rfl Try.underlying42) rfl ?_
   refine l_val wn (r_geq rfl rfl) rfl ?_
   refine l_nil (e_go hK9 ?_)
   refine c_cond rfl (fun h2 => ?_) (fun h2 => ?_)
   · refine c_seq fun _ hK10 => ?_
     refine c_region ?_
     refine l_val wn (r_assign rfl) rfl ?_
     refine l_nil (e_go hK10 ?_)
     refine c_ret (e_then_r (e_in_r (e_then_r (e_loop1_r (e_in_r (e_then_r (e_ret1 (.inl rfl) Try.results51 (rv_tmp rfl) fun w1 hM => ?_)))))))
     exact ret_ok (by rw [hI1.2, Names.compare_over hs1 (by omega)]) hM
   refine c_skip (e_go hK8 ?_)
   refine c_seq fun _ hK11 => ?_
   refine c_region ?_
   refine l_val wn (r_move rfl) rfl ?_
   refine l_val wn (r_move rfl) rfl ?_
   obtain ⟨ad2, hd2⟩ := hbA (ne_nil (i := k) (by first | omega | decide | (simp only [List.length_cons, List.length_nil, List.length_append, List.length_take, List.length_set]; omega)))
   refine l_val wn (r_ia (i := k) rfl hd2 rfl (by omega) (by first | omega | decide | (simp only [List.length_cons, List.length_nil, List.length_append, List.length_take, List.length_set]; omega)) Try.underlying42 inf51) rfl ?_
   obtain ⟨s2, hs2⟩ : ∃ x, b[k]? = some x := ⟨_, List.getElem?_eq_getElem (by first | omega | decide | (simp only [List.length_cons, List.length_nil, List.length_append, List.length_take, List.length_set]; omega))⟩
   refine l_val wn (r_eln 2 [.string s2.key, .string s2.val] rfl rfl hd2 hs2 rfl rfl agg51 inf51) rfl ?_
   refine l_alloc wn inf51 rfl fun b9 => ?_
   refine l_stn 0 wn rfl rfl rfl inf51 rfl rfl rfl ?_
   refine l_nil (e_go hK11 ?_)
   refine c_seq fun _ hK12 => ?_
   refine c_region ?_
   refine l_val wn (r_move rfl) rfl ?_
   refine l_val wn (r_lbn 1 [.string s1.key, .string s1.val] rfl rfl rfl rfl agg51 inf51) rfl ?_
   refine l_val wn (r_lbn 0 [.string s2.key, .string s2.val] rfl rfl rfl rfl agg51 inf51) rfl ?_
   refine l_callV wn rfl rfl Try.call52 rfl (fun w1 hM => c_cmpL s1 s2 w1) ?_
   refine l_val wn (r_assign rfl) rfl ?_
   refine l_nil (e_go hK12 ?_)
   refine c_seq fun _ hK13 => ?_
   refine c_region ?_
   refine l_val wn (r_move rfl) rfl ?_
   refine l_val wn (r_neq rfl rfl) rfl ?_
   refine l_nil (e_go hK13 ?_)
   refine c_cond rfl (fun h3 => ?_) (fun h3 => ?_)
   · refine c_seq fun _ hK14 => ?_
     refine c_region ?_
     refine l_val wn (r_move rfl) rfl ?_
     refine l_val wn (r_assign rfl) rfl ?_
     refine l_nil (e_go hK14 ?_)
     refine c_ret (e_in_r (e_then_r (e_loop1_r (e_in_r (e_then_r (e_ret1 (.inl rfl) Try.results51 (rv_tmp rfl) fun w1 hM => ?_))))))
     exact ret_ok (by rw [hI1.2, Names.compare_step hs1 hs2, if_pos h3]) hM
   refine c_skip (e_in_n (e_go hK6 ?_))
   refine c_region ?_
   refine l_val wn (r_addn rfl rfl (by omega)) rfl ?_
   refine l_val wn (r_move rfl) rfl ?_
   refine l_nil (e_round1 (k + 1) (sc rfl (sc rfl (sc rfl (sc rfl (sc rfl (sc (ji (by omega)) sn)))))) (fun _ h => (h.sel [2, 3] (by decide) rfl)) ?_ ?_)
   · exact ⟨by omega, by rw [hI1.2, Names.compare_step hs1 hs2, if_neg (by simpa using h3)]⟩
   omega
 refine c_exit (e_then_x (e_loop1_x (e_in_hit (e_go hK2 ?_))))
 refine c_seq fun _ hK15 => ?_
 refine c_seq fun _ hK16 => ?_
 refine c_region ?_
 refine l_val wn (r_move rfl) rfl ?_
 refine l_val wn (r_len rfl Try.underlying42) rfl ?_
 refine l_val wn (r_move rfl) rfl ?_
 refine l_val wn (r_len rfl Try.underlying42) rfl ?_
 refine l_val wn (r_lss rfl rfl) rfl ?_
 refine l_nil (e_go hK16 ?_)
 refine c_cond rfl (fun h4 => ?_) (fun h4 => ?_)
 · refine c_seq fun _ hK17 => ?_
   refine c_region ?_
   refine l_val wn (r_assign rfl) rfl ?_
   refine l_nil (e_go hK17 ?_)
   refine c_ret (e_then_r (e_ret1 (.inl rfl) Try.results51 (rv_tmp rfl) fun w1 hM => ?_))
   exact ret_ok (by rw [hI1.2, Names.compare_end (by omega) (by omega), if_pos (by omega)]) hM
 refine c_skip (e_go hK15 ?_)
 refine c_seq fun _ hK18 => ?_
 refine c_region ?_
 refine l_val wn (r_assign rfl) rfl ?_
 refine l_nil (e_go hK18 ?_)
 refine c_ret (e_ret1 (.inl rfl) Try.results51 (rv_tmp rfl) fun w1 hM => ?_)
 exact ret_ok (by rw [hI1.2, Names.compare_end (by omega) (by omega), if_neg (by omega)]) hM

theorem c_compare (av : Value) (a : List Label) (bv : Value) (b : List Label) (w : World) (ha : FlatSl (In w) 2 labelE av a w) (hb : FlatSl (In w) 2 labelE bv b w)  :
    Calls Try.prog 31 #[av, bv] w (Ret w (.int .i64 (Names.compare a b))) := by
 obtain ⟨aA, ac, rfl, hac, ham, haA⟩ := ha.form
 obtain ⟨bA, bc, rfl, hbc, hbm, hbA⟩ := hb.form
 refine fstart (N := 8) (vals := [.slice aA a.length ac, .slice bA b.length bc]) (S := Mem w no [slO (In w) 2 labelE (.slice aA a.length ac) a, slO (In w) 2 labelE (.slice bA b.length bc) b]) Try.func31 rfl rfl rfl (Mem.ofDats (dc (dl ha) (dc (dl hb) dn))) ?_
 refine c_seq fun _ hK1 => ?_
 refine c_region ?_
 refine l_val wn (r_assign rfl) rfl ?_
 refine l_nil (e_go hK1 ?_)
 refine c_seq fun _ hK2 => ?_
 refine c_region ?_
 refine l_val wn (r_move rfl) rfl ?_
 refine l_val wn (r_move rfl) rfl ?_
 refine l_callF wn rfl Try.call51 rfl (fun w1 hM => c_compareFunc _ a _ b w1 (hM.sl 0 rfl) (hM.sl 1 rfl)) ?_
 refine l_val wn (r_assign rfl) rfl ?_
 refine l_nil (e_go hK2 ?_)
 refine c_ret (e_ret1 (.inl rfl) Try.results31 (rv_tmp rfl) fun w1 hM => ?_)
 exact ret_ok rfl hM

theorem c_get (lv : Value) (l : List Label) (key : ByteArray) (w : World) (hl : FlatSl (In w) 2 labelE lv l w)  :
    Calls Try.prog 43 #[lv, .string key] w (Ret w (.tuple #[.string (Names.get l key).1, .bool (Names.get l key).2])) := by
 obtain ⟨lA, lc, rfl, hlc, hlm, hlA⟩ := hl.form
 refine fstart (N := 21) (vals := [.slice lA l.length lc, .string key]) (S := Mem w no [slO (In w) 2 labelE (.slice lA l.length lc) l]) Try.func43 rfl rfl rfl (Mem.ofDats (dc (dl hl) dn)) ?_
 refine c_seq fun _ hK1 => ?_
 refine c_region ?_
 refine l_val wn (r_assign rfl) rfl ?_
 refine l_val wn (r_assign rfl) rfl ?_
 refine l_nil (e_go hK1 ?_)
 refine c_seq fun _ hK2 => ?_
 refine c_seq fun _ hK3 => ?_
 refine c_region ?_
 refine l_val wn (r_move rfl) rfl ?_
 refine l_val wn (r_len rfl Try.underlying42) rfl ?_
 refine l_val wn (r_move rfl) rfl ?_
 refine l_nil (e_go hK3 ?_)
 refine c_block ?_
 refine c_loop1 (fun (k : Nat) => [(1, .string key), (8, .slice lA l.length lc), (9, .int .i64 (l.length : Int)), (10, .int .i64 (k : Int))]) (fun (k : Nat) => [slO (In w) 2 labelE (.slice lA l.length lc) l]) (fun (k : Nat) => k ≤ l.length ∧ Names.get l key = Names.get (l.drop k) key) (fun (k : Nat) => l.length - k) 0 (sc rfl (sc rfl (sc rfl (sc (ji (by omega)) sn)))) (fun _ h => h) ?_ (fun k hI1 => ?_)
 · simp
 refine c_seq fun _ hK4 => ?_
 refine c_region ?_
 refine l_val wn (r_lss rfl rfl) rfl ?_
 refine l_nil (e_go hK4 ?_)
 refine c_seq fun _ hK5 => ?_
 refine c_cond rfl (fun h1 => ?_) (fun h1 => ?_)
 · refine c_skip (e_go hK5 ?_)
   refine c_seq fun _ hK6 => ?_
   refine c_block ?_
   refine c_seq fun _ hK7 => ?_
   refine c_region ?_
   obtain ⟨ad1, hd1⟩ := hlA (ne_nil (i := k) (by first | omega | decide | (simp only [List.length_cons, List.length_nil, List.length_append, List.length_take, List.length_set]; omega)))
   refine l_val wn (r_ia (i := k) rfl hd1 rfl (by omega) (by first | omega | decide | (simp only [List.length_cons, List.length_nil, List.length_append, List.length_take, List.length_set]; omega)) Try.underlying42 inf51) rfl ?_
   obtain ⟨s1, hs1⟩ : ∃ x, l[k]? = some x := ⟨_, List.getElem?_eq_getElem (by first | omega | decide | (simp only [List.length_cons, List.length_nil, List.length_append, List.length_take, List.length_set]; omega))⟩
   refine l_val wn (r_eln 0 [.string s1.key, .string s1.val] rfl rfl hd1 hs1 rfl rfl agg51 inf51) rfl ?_
   refine l_alloc wn inf51 rfl fun b7 => ?_
   refine l_stn 0 wn rfl rfl rfl inf51 rfl rfl rfl ?_
   refine l_nil (e_go hK7 ?_)
   refine c_seq fun _ hK8 => ?_
   refine c_region ?_
   refine l_val wn (r_fa rfl fld51_0) rfl ?_
   refine l_val wn (r_lb 0 rfl rfl rfl flat9) rfl ?_
   refine l_val wn (r_move rfl) rfl ?_
   refine l_val wn (r_seql rfl rfl) rfl ?_
   refine l_nil (e_go hK8 ?_)
   refine c_cond rfl (fun h2 => ?_) (fun h2 => ?_)
   · refine c_seq fun _ hK9 => ?_
     refine c_region ?_
     refine l_val wn (r_fa rfl fld51_1) rfl ?_
     refine l_val wn (r_lb 0 rfl rfl rfl flat9) rfl ?_
     refine l_val wn (r_assign rfl) rfl ?_
     refine l_val wn (r_assign rfl) rfl ?_
     refine l_nil (e_go hK9 ?_)
     refine c_ret (e_in_r (e_then_r (e_loop1_r (e_in_r (e_then_r (e_ret2 (.inl rfl) Try.results43 (rv_tmp rfl) (rv_tmp rfl) fun w1 hM => ?_))))))
     exact ret_ok (by rw [hI1.2, Names.get_step hs1, if_pos h2]) hM
   refine c_skip (e_in_n (e_go hK6 ?_))
   refine c_region ?_
   refine l_val wn (r_addn rfl rfl (by omega)) rfl ?_
   refine l_val wn (r_move rfl) rfl ?_
   refine l_nil (e_round1 (k + 1) (sc rfl (sc rfl (sc rfl (sc (ji (by omega)) sn)))) (fun _ h => (h.sel [1] (by decide) rfl)) ?_ ?_)
   · exact ⟨by omega, by rw [hI1.2, Names.get_step hs1, if_neg h2]⟩
   omega
 refine c_exit (e_then_x (e_loop1_x (e_in_hit (e_go hK2 ?_))))
 refine c_seq fun _ hK10 => ?_
 refine c_region ?_
 refine l_val wn (r_assign rfl) rfl ?_
 refine l_val wn (r_assign rfl) rfl ?_
 refine l_nil (e_go hK10 ?_)
 refine c_ret (e_ret2 (.inl rfl) Try.results43 (rv_tmp rfl) (rv_tmp rfl) fun w1 hM => ?_)
 exact ret_ok (by rw [hI1.2, Names.get_end (by omega)]) hM

theorem c_matches (rv : Value) (r : List Label) (lv : Value) (l : List Match) (w : World) (hr : FlatSl (In w) 2 labelE rv r w) (hl : FlatSl (In w) 3 matchE lv l w)  :
    Calls Try.prog 22 #[rv, lv] w (Ret w (.bool (Names.matches_ r l))) := by
 obtain ⟨rA, rc, rfl, hrc, hrm, hrA⟩ := hr.form
 obtain ⟨lA, lc, rfl, hlc, hlm, hlA⟩ := hl.form
 refine fstart (N := 54) (vals := [.slice rA r.length rc, .slice lA l.length lc]) (S := Mem w no [slO (In w) 2 labelE (.slice rA r.length rc) r, slO (In w) 3 matchE (.slice lA l.length lc) l]) Try.func22 rfl rfl rfl (Mem.ofDats (dc (dl hr) (dc (dl hl) dn))) ?_
 refine c_seq fun _ hK1 => ?_
 refine c_region ?_
 refine l_val wn (r_assign rfl) rfl ?_
 refine l_nil (e_go hK1 ?_)
 refine c_seq fun _ hK2 => ?_
 refine c_seq fun _ hK3 => ?_
 refine c_region ?_
 refine l_val wn (r_move rfl) rfl ?_
 refine l_val wn (r_len rfl Try.underlying23) rfl ?_
 refine l_val wn (r_move rfl) rfl ?_
 refine l_nil (e_go hK3 ?_)
 refine c_block ?_
 refine c_loop1 (fun (k : Nat) => [(0, .slice rA r.length rc), (10, .slice lA l.length lc), (11, .int .i64 (l.length : Int)), (12, .int .i64 (k : Int))]) (fun (k : Nat) => [slO (In w) 2 labelE (.slice rA r.length rc) r, slO (In w) 3 matchE (.slice lA l.length lc) l]) (fun (k : Nat) => k ≤ l.length ∧ ∀ x ∈ l.take k, Names.match1 r x = true) (fun (k : Nat) => l.length - k) 0 (sc rfl (sc rfl (sc rfl (sc (ji (by omega)) sn)))) (fun _ h => h) ?_ (fun k hI1 => ?_)
 · simp
 refine c_seq fun _ hK4 => ?_
 refine c_region ?_
 refine l_val wn (r_lss rfl rfl) rfl ?_
 refine l_nil (e_go hK4 ?_)
 refine c_seq fun _ hK5 => ?_
 refine c_cond rfl (fun h1 => ?_) (fun h1 => ?_)
 · refine c_skip (e_go hK5 ?_)
   refine c_seq fun _ hK6 => ?_
   refine c_block ?_
   refine c_seq fun _ hK7 => ?_
   refine c_region ?_
   obtain ⟨ad1, hd1⟩ := hlA (ne_nil (i := k) (by first | omega | decide | (simp only [List.length_cons, List.length_nil, List.length_append, List.length_take, List.length_set]; omega)))
   refine l_val wn (r_ia (i := k) rfl hd1 rfl (by omega) (by first | omega | decide | (simp only [List.length_cons, List.length_nil, List.length_append, List.length_take, List.length_set]; omega)) Try.underlying23 inf85) rfl ?_
   obtain ⟨s1, hs1⟩ : ∃ x, l[k]? = some x := ⟨_, List.getElem?_eq_getElem (by first | omega | decide | (simp only [List.length_cons, List.length_nil, List.length_append, List.length_take, List.length_set]; omega))⟩
   refine l_val wn (r_eln 1 [.int .i64 s1.kind, .string s1.key, .string s1.val] rfl rfl hd1 hs1 rfl rfl agg85 inf85) rfl ?_
   refine l_alloc wn inf85 rfl fun b6 => ?_
   refine l_stn 0 wn rfl rfl rfl inf85 rfl rfl rfl ?_
   refine l_nil (e_go hK7 ?_)
   refine c_seq fun _ hK8 => ?_
   refine c_region ?_
   refine l_val wn (r_move rfl) rfl ?_
   refine l_val wn (r_fa rfl fld85_1) rfl ?_
   refine l_val wn (r_lb 0 rfl rfl rfl flat9) rfl ?_
   refine l_callF wn rfl Try.call43 rfl (fun w1 hM => c_get _ r s1.key w1 (hM.sl 1 rfl)) ?_
   refine l_val wn (r_move rfl) rfl ?_
   refine l_val wn (r_extract rfl rfl) rfl ?_
   refine l_val wn (r_extract rfl rfl) rfl ?_
   refine l_val wn (r_assign rfl) rfl ?_
   refine l_val wn (r_assign rfl) rfl ?_
   refine l_nil (e_go hK8 ?_)
   refine c_seq fun _ hK9 => ?_
   refine c_region ?_
   refine l_val wn (r_assign rfl) rfl ?_
   refine l_nil (e_go hK9 ?_)
   refine c_seq fun _ hK10 => ?_
   refine c_seq fun _ hK11 => ?_
   refine c_region ?_
   refine l_val wn (r_fa rfl fld85_0) rfl ?_
   refine l_val wn (r_lb 0 rfl rfl rfl flat3) rfl ?_
   refine l_nil (e_go hK11 ?_)
   refine c_block ?_
   refine c_seq fun _ hK12 => ?_
   refine c_region ?_
   refine l_val wn (r_eql rfl rfl) rfl ?_
   refine l_val wn (r_assign rfl) rfl ?_
   refine l_nil (e_go hK12 ?_)
   refine c_cond rfl (fun h2 => ?_) (fun h2 => ?_)
   · refine c_region ?_
     refine l_val wn (r_move rfl) rfl ?_
     refine l_val wn (r_move rfl) rfl ?_
     refine l_caseb (t := 28) rfl (fun h3 => ?_) (fun h3 => ?_)
     · refine l_val (wg rfl rfl rfl) (r_move rfl) rfl ?_
       refine l_val (wg rfl rfl rfl) (r_fa rfl fld85_2) rfl ?_
       refine l_val (wg rfl rfl rfl) (r_lb 0 rfl rfl rfl flat9) rfl ?_
       refine l_val (wg rfl rfl rfl) (r_seql rfl rfl) rfl ?_
       refine l_val wn (r_pick rfl rfl) rfl ?_
       refine l_val wn (r_assign rfl) rfl ?_
       refine l_nil (e_in_n (e_go hK10 ?_))
       refine c_seq fun _ hK13 => ?_
       refine c_region ?_
       refine l_val wn (r_move rfl) rfl ?_
       refine l_val wn (r_not rfl) rfl ?_
       refine l_nil (e_go hK13 ?_)
       refine c_cond rfl (fun h4 => ?_) (fun h4 => ?_)
       · refine c_seq fun _ hK14 => ?_
         refine c_region ?_
         refine l_val wn (r_assign rfl) rfl ?_
         refine l_nil (e_go hK14 ?_)
         refine c_ret (e_in_r (e_then_r (e_loop1_r (e_in_r (e_then_r (e_ret1 (.inl rfl) Try.results22 (rv_tmp rfl) fun w1 hM => ?_))))))
         exact ret_ok (by rw [Names.matches_stop hs1 (by (try simp at h2); (try simp at h3); (try simp at h4); simp [Names.match1, h2, h3, h4])]) hM
       refine c_skip (e_in_n (e_go hK6 ?_))
       refine c_region ?_
       refine l_val wn (r_addn rfl rfl (by omega)) rfl ?_
       refine l_val wn (r_move rfl) rfl ?_
       refine l_nil (e_round1 (k + 1) (sc rfl (sc rfl (sc rfl (sc (ji (by omega)) sn)))) (fun _ h => (h.sel [1, 2] (by decide) rfl)) ?_ ?_)
       · exact ⟨by omega, Names.matches_step hs1 (by (try simp at h2); (try simp at h3); (try simp at h4); simp [Names.match1, h2, h3, h4]) hI1.2⟩
       omega
     refine l_skip (wg rfl rfl rfl) rfl ?_
     refine l_skip (wg rfl rfl rfl) rfl ?_
     refine l_skip (wg rfl rfl rfl) rfl ?_
     refine l_skip (wg rfl rfl rfl) rfl ?_
     refine l_val wn (r_pick rfl rfl) rfl ?_
     refine l_val wn (r_assign rfl) rfl ?_
     refine l_nil (e_in_n (e_go hK10 ?_))
     refine c_seq fun _ hK15 => ?_
     refine c_region ?_
     refine l_val wn (r_move rfl) rfl ?_
     refine l_val wn (r_notb rfl) rfl ?_
     refine l_nil (e_go hK15 ?_)
     refine c_true rfl rfl ?_
     refine c_seq fun _ hK16 => ?_
     refine c_region ?_
     refine l_val wn (r_assign rfl) rfl ?_
     refine l_nil (e_go hK16 ?_)
     refine c_ret (e_in_r (e_then_r (e_loop1_r (e_in_r (e_then_r (e_ret1 (.inl rfl) Try.results22 (rv_tmp rfl) fun w1 hM => ?_))))))
     exact ret_ok (by rw [Names.matches_stop hs1 (by (try simp at h2); (try simp at h3); simp [Names.match1, h2, h3])]) hM
   refine c_seq fun _ hK17 => ?_
   refine c_region ?_
   refine l_val wn (r_eql rfl rfl) rfl ?_
   refine l_val wn (r_assign rfl) rfl ?_
   refine l_nil (e_go hK17 ?_)
   refine c_cond rfl (fun h5 => ?_) (fun h5 => ?_)
   · refine c_region ?_
     refine l_val wn (r_move rfl) rfl ?_
     refine l_val wn (r_notb rfl) rfl ?_
     refine l_val wn (r_move rfl) rfl ?_
     refine l_caseb (t := 38) rfl (fun h6 => ?_) (fun h6 => ?_)
     · refine l_skip (wg rfl rfl rfl) rfl ?_
       refine l_skip (wg rfl rfl rfl) rfl ?_
       refine l_skip (wg rfl rfl rfl) rfl ?_
       refine l_skip (wg rfl rfl rfl) rfl ?_
       refine l_val wn (r_pick rfl rfl) rfl ?_
       refine l_val wn (r_assign rfl) rfl ?_
       refine l_nil (e_in_n (e_go hK10 ?_))
       refine c_seq fun _ hK18 => ?_
       refine c_region ?_
       refine l_val wn (r_move rfl) rfl ?_
       refine l_val wn (r_notb rfl) rfl ?_
       refine l_nil (e_go hK18 ?_)
       refine c_false rfl rfl ?_
       refine c_skip (e_in_n (e_go hK6 ?_))
       refine c_region ?_
       refine l_val wn (r_addn rfl rfl (by omega)) rfl ?_
       refine l_val wn (r_move rfl) rfl ?_
       refine l_nil (e_round1 (k + 1) (sc rfl (sc rfl (sc rfl (sc (ji (by omega)) sn)))) (fun _ h => (h.sel [1, 2] (by decide) rfl)) ?_ ?_)
       · exact ⟨by omega, Names.matches_step hs1 (by (try simp at h2); (try simp at h5); (try simp at h6); simp [Names.match1, h2, h5, h6]) hI1.2⟩
       omega
     refine l_val (wg rfl rfl rfl) (r_move rfl) rfl ?_
     refine l_val (wg rfl rfl rfl) (r_fa rfl fld85_2) rfl ?_
     refine l_val (wg rfl rfl rfl) (r_lb 0 rfl rfl rfl flat9) rfl ?_
     refine l_val (wg rfl rfl rfl) (r_sneq rfl rfl) rfl ?_
     refine l_val wn (r_pick rfl rfl) rfl ?_
     refine l_val wn (r_assign rfl) rfl ?_
     refine l_nil (e_in_n (e_go hK10 ?_))
     refine c_seq fun _ hK19 => ?_
     refine c_region ?_
     refine l_val wn (r_move rfl) rfl ?_
     refine l_val wn (r_not rfl) rfl ?_
     refine l_nil (e_go hK19 ?_)
     refine c_cond rfl (fun h7 => ?_) (fun h7 => ?_)
     · refine c_seq fun _ hK20 => ?_
       refine c_region ?_
       refine l_val wn (r_assign rfl) rfl ?_
       refine l_nil (e_go hK20 ?_)
       refine c_ret (e_in_r (e_then_r (e_loop1_r (e_in_r (e_then_r (e_ret1 (.inl rfl) Try.results22 (rv_tmp rfl) fun w1 hM => ?_))))))
       exact ret_ok (by rw [Names.matches_stop hs1 (by (try simp at h2); (try simp at h5); (try simp at h6); (try simp at h7); simp [Names.match1, h2, h5, h6, h7])]) hM
     refine c_skip (e_in_n (e_go hK6 ?_))
     refine c_region ?_
     refine l_val wn (r_addn rfl rfl (by omega)) rfl ?_
     refine l_val wn (r_move rfl) rfl ?_
     refine l_nil (e_round1 (k + 1) (sc rfl (sc rfl (sc rfl (sc (ji (by omega)) sn)))) (fun _ h => (h.sel [1, 2] (by decide) rfl)) ?_ ?_)
     · exact ⟨by omega, Names.matches_step hs1 (by (try simp at h2); (try simp at h5); (try simp at h6); (try simp at h7); simp [Names.match1, h2, h5, h6, h7]) hI1.2⟩
     omega
   refine c_seq fun _ hK21 => ?_
   refine c_region ?_
   refine l_val wn (r_eql rfl rfl) rfl ?_
   refine l_val wn (r_assign rfl) rfl ?_
   refine l_nil (e_go hK21 ?_)
   refine c_cond rfl (fun h8 => ?_) (fun h8 => ?_)
   · refine c_region ?_
     refine l_val wn (r_move rfl) rfl ?_
     refine l_val wn (r_assign rfl) rfl ?_
     refine l_nil (e_in_n (e_go hK10 ?_))
     refine c_seq fun _ hK22 => ?_
     refine c_region ?_
     refine l_val wn (r_move rfl) rfl ?_
     refine l_val wn (r_notb rfl) rfl ?_
     refine l_nil (e_go hK22 ?_)
     refine c_condb rfl (fun h9 => ?_) (fun h9 => ?_)
     · refine c_seq fun _ hK23 => ?_
       refine c_region ?_
       refine l_val wn (r_assign rfl) rfl ?_
       refine l_nil (e_go hK23 ?_)
       refine c_ret (e_in_r (e_then_r (e_loop1_r (e_in_r (e_then_r (e_ret1 (.inl rfl) Try.results22 (rv_tmp rfl) fun w1 hM => ?_))))))
       exact ret_ok (by rw [Names.matches_stop hs1 (by (try simp at h2); (try simp at h5); (try simp at h8); (try simp at h9); simp [Names.match1, h2, h5, h8, h9])]) hM
     refine c_skip (e_in_n (e_go hK6 ?_))
     refine c_region ?_
     refine l_val wn (r_addn rfl rfl (by omega)) rfl ?_
     refine l_val wn (r_move rfl) rfl ?_
     refine l_nil (e_round1 (k + 1) (sc rfl (sc rfl (sc rfl (sc (ji (by omega)) sn)))) (fun _ h => (h.sel [1, 2] (by decide) rfl)) ?_ ?_)
     · exact ⟨by omega, Names.matches_step hs1 (by (try simp at h2); (try simp at h5); (try simp at h8); (try simp at h9); simp [Names.match1, h2, h5, h8, h9]) hI1.2⟩
     omega
   refine c_seq fun _ hK24 => ?_
   refine c_region ?_
   refine l_val wn (r_eql rfl rfl) rfl ?_
   refine l_val wn (r_assign rfl) rfl ?_
   refine l_nil (e_go hK24 ?_)
   refine c_cond rfl (fun h10 => ?_) (fun h10 => ?_)
   · refine c_region ?_
     refine l_val wn (r_move rfl) rfl ?_
     refine l_val wn (r_notb rfl) rfl ?_
     refine l_val wn (r_assign rfl) rfl ?_
     refine l_nil (e_in_n (e_go hK10 ?_))
     refine c_seq fun _ hK25 => ?_
     refine c_region ?_
     refine l_val wn (r_move rfl) rfl ?_
     refine l_val wn (r_notb rfl) rfl ?_
     refine l_nil (e_go hK25 ?_)
     refine c_condb rfl (fun h11 => ?_) (fun h11 => ?_)
     · refine c_seq fun _ hK26 => ?_
       refine c_region ?_
       refine l_val wn (r_assign rfl) rfl ?_
       refine l_nil (e_go hK26 ?_)
       refine c_ret (e_in_r (e_then_r (e_loop1_r (e_in_r (e_then_r (e_ret1 (.inl rfl) Try.results22 (rv_tmp rfl) fun w1 hM => ?_))))))
       exact ret_ok (by rw [Names.matches_stop hs1 (by (try simp at h2); (try simp at h5); (try simp at h8); (try simp at h10); (try simp at h11); simp [Names.match1, h2, h5, h8, h10, h11])]) hM
     refine c_skip (e_in_n (e_go hK6 ?_))
     refine c_region ?_
     refine l_val wn (r_addn rfl rfl (by omega)) rfl ?_
     refine l_val wn (r_move rfl) rfl ?_
     refine l_nil (e_round1 (k + 1) (sc rfl (sc rfl (sc rfl (sc (ji (by omega)) sn)))) (fun _ h => (h.sel [1, 2] (by decide) rfl)) ?_ ?_)
     · exact ⟨by omega, Names.matches_step hs1 (by (try simp at h2); (try simp at h5); (try simp at h8); (try simp at h10); (try simp at h11); simp [Names.match1, h2, h5, h8, h10, h11]) hI1.2⟩
     omega
   refine c_skip (e_in_n (e_go hK10 ?_))
   refine c_seq fun _ hK27 => ?_
   refine c_region ?_
   refine l_val wn (r_move rfl) rfl ?_
   refine l_val wn (r_notb rfl) rfl ?_
   refine l_nil (e_go hK27 ?_)
   refine c_true rfl rfl ?_
   refine c_seq fun _ hK28 => ?_
   refine c_region ?_
   refine l_val wn (r_assign rfl) rfl ?_
   refine l_nil (e_go hK28 ?_)
   refine c_ret (e_in_r (e_then_r (e_loop1_r (e_in_r (e_then_r (e_ret1 (.inl rfl) Try.results22 (rv_tmp rfl) fun w1 hM => ?_))))))
   exact ret_ok (by rw [Names.matches_stop hs1 (by (try simp at h2); (try simp at h5); (try simp at h8); (try simp at h10); simp [Names.match1, h2, h5, h8, h10])]) hM
 refine c_exit (e_then_x (e_loop1_x (e_in_hit (e_go hK2 ?_))))
 refine c_seq fun _ hK29 => ?_
 refine c_region ?_
 refine l_val wn (r_assign rfl) rfl ?_
 refine l_nil (e_go hK29 ?_)
 refine c_ret (e_ret1 (.inl rfl) Try.results22 (rv_tmp rfl) fun w1 hM => ?_)
 exact ret_ok (by rw [Names.matches_done (by omega) hI1.2]) hM

theorem c_named (s : ByteArray) (w : World)   :
    Calls Try.prog 50 #[.string s] w (Ret w (.bool (Names.named s))) := by
 refine fstart (N := 44) (vals := [.string s]) (S := Mem w no []) Try.func50 rfl rfl rfl (Mem.ofDats dn) ?_
 refine c_seq fun _ hK1 => ?_
 refine c_region ?_
 refine l_val wn (r_assign rfl) rfl ?_
 refine l_nil (e_go hK1 ?_)
 refine c_seq fun _ hK2 => ?_
 refine c_cut [(0, .string s), (12, .bool (decide (((s.size : Int) < 1) ∨ (12 < (s.size : Int)))))] (Mem w no []) (fun _ hK3 => ?_) ?_
 · refine c_region ?_
   refine l_val wn (r_move rfl) rfl ?_
   refine l_val wn (r_slen rfl Try.underlying9) rfl ?_
   refine l_val wn (r_lss rfl rfl) rfl ?_
   refine l_val wn (r_move rfl) rfl ?_
   refine l_case (t := 8) rfl (fun h1 => ?_) (fun h1 => ?_)
   · refine l_skip (wg rfl rfl rfl) rfl ?_
     refine l_skip (wg rfl rfl rfl) rfl ?_
     refine l_skip (wg rfl rfl rfl) rfl ?_
     refine l_val wn (r_pick rfl rfl) rfl ?_
     refine l_nil (e_cut hK3 (sc rfl (sc (jt (Or.inl h1)) sn)) (fun _ h => h))
   refine l_val (wg rfl rfl rfl) (r_move rfl) rfl ?_
   refine l_val (wg rfl rfl rfl) (r_slen rfl Try.underlying9) rfl ?_
   refine l_val (wg rfl rfl rfl) (r_gtr rfl rfl) rfl ?_
   refine l_val wn (r_pick rfl rfl) rfl ?_
   refine l_nil (e_cut hK3 (sc rfl (sc (jp (iff_or_right h1 Iff.rfl)) sn)) (fun _ h => h))
 refine c_cond rfl (fun h2 => ?_) (fun h2 => ?_)
 · refine c_seq fun _ hK4 => ?_
   refine c_region ?_
   refine l_val wn (r_assign rfl) rfl ?_
   refine l_nil (e_go hK4 ?_)
   refine c_ret (e_then_r (e_ret1 (.inl rfl) Try.results50 (rv_tmp rfl) fun w1 hM => ?_))
   exact ret_ok (by unfold Names.named; simp; omega) hM
 refine c_skip (e_go hK2 ?_)
 refine c_seq fun _ hK5 => ?_
 refine c_seq fun _ hK6 => ?_
 refine c_region ?_
 refine l_val wn (r_move rfl) rfl ?_
 refine l_val wn (r_slen rfl Try.underlying9) rfl ?_
 refine l_val wn (r_move rfl) rfl ?_
 refine l_nil (e_go hK6 ?_)
 refine c_block ?_
 refine c_loop1 (fun (k : Nat) => [(0, .string s), (14, .int .i64 (s.size : Int)), (15, .int .i64 (k : Int))]) (fun (k : Nat) => []) (fun (k : Nat) => k ≤ s.size ∧ Names.namedL 0 s.data.toList = Names.namedL k (s.data.toList.drop k)) (fun (k : Nat) => s.size - k) 0 (sc rfl (sc rfl (sc (ji (by omega)) sn))) (fun _ h => h) ?_ (fun k hI1 => ?_)
 · simp
 refine c_seq fun _ hK7 => ?_
 refine c_region ?_
 refine l_val wn (r_lss rfl rfl) rfl ?_
 refine l_nil (e_go hK7 ?_)
 refine c_seq fun _ hK8 => ?_
 refine c_cond rfl (fun h3 => ?_) (fun h3 => ?_)
 · refine c_skip (e_go hK8 ?_)
   refine c_seq fun _ hK9 => ?_
   refine c_block ?_
   refine c_seq fun _ hK10 => ?_
   refine c_region ?_
   refine l_val wn (r_move rfl) rfl ?_
   refine l_val wn (r_assign rfl) rfl ?_
   refine l_nil (e_go hK10 ?_)
   refine c_seq fun _ hK11 => ?_
   refine c_region ?_
   refine l_val wn (r_move rfl) rfl ?_
   refine l_val wn (r_move rfl) rfl ?_
   obtain ⟨c1, hc1⟩ : ∃ x, s[k]? = some x := ⟨_, byte_at (by first | omega | decide | (simp only [List.length_cons, List.length_nil, List.length_append, List.length_take, List.length_set]; omega))⟩
   refine l_val wn (r_sidx rfl rfl (by omega) hc1 Try.underlying9) rfl ?_
   refine l_val wn (r_assign rfl) rfl ?_
   refine l_nil (e_go hK11 ?_)
   refine c_cut [(0, .string s), (14, .int .i64 (s.size : Int)), (15, .int .i64 (k : Int)), (42, .bool (decide ((((c1.toNat : Int) < 97) ∧ (((k : Int) = 0) ∨ ((((c1.toNat : Int) < 48) ∧ ((c1.toNat : Int) ≠ 95)) ∨ (¬ ((c1.toNat : Int) < 48) ∧ ((57 < (c1.toNat : Int)) ∧ ((c1.toNat : Int) ≠ 95)))))) ∨ (¬ ((c1.toNat : Int) < 97) ∧ ((122 < (c1.toNat : Int)) ∧ (((k : Int) = 0) ∨ ((((c1.toNat : Int) < 48) ∧ ((c1.toNat : Int) ≠ 95)) ∨ (¬ ((c1.toNat : Int) < 48) ∧ ((57 < (c1.toNat : Int)) ∧ ((c1.toNat : Int) ≠ 95))))))))))] (Mem w no []) (fun _ hK12 => ?_) ?_
   · refine c_region ?_
     refine l_val wn (r_move rfl) rfl ?_
     refine l_val wn (r_lss rfl rfl) rfl ?_
     refine l_val wn (r_move rfl) rfl ?_
     refine l_case (t := 23) rfl (fun h4 => ?_) (fun h4 => ?_)
     · refine l_skip (wg rfl rfl rfl) rfl ?_
       refine l_skip (wg rfl rfl rfl) rfl ?_
       refine l_val wn (r_pick rfl rfl) rfl ?_
       refine l_val wn (r_move rfl) rfl ?_
       refine l_val (wg rfl rfl rfl) (r_move rfl) rfl ?_
       refine l_val (wg rfl rfl rfl) (r_eql rfl rfl) rfl ?_
       refine l_val (wg rfl rfl rfl) (r_move rfl) rfl ?_
       refine l_case (t := 30) rfl (fun h5 => ?_) (fun h5 => ?_)
       · refine l_skip (wg rfl rfl rfl) rfl ?_
         refine l_skip (wg rfl rfl rfl) rfl ?_
         refine l_skip (wg rfl rfl rfl) rfl ?_
         refine l_skip (wu rfl rfl) rfl ?_
         refine l_skip (wu rfl rfl) rfl ?_
         refine l_skip (wg rfl rfl rfl) rfl ?_
         refine l_skip (wg rfl rfl rfl) rfl ?_
         refine l_skip (wu rfl rfl) rfl ?_
         refine l_skip (wu rfl rfl) rfl ?_
         refine l_skip (wg rfl rfl rfl) rfl ?_
         refine l_val (wg rfl rfl rfl) (r_pick rfl rfl) rfl ?_
         refine l_val wn (r_pick rfl rfl) rfl ?_
         refine l_nil (e_cut hK12 (sc rfl (sc rfl (sc rfl (sc (jt (Or.inl ⟨h4, (Or.inl h5)⟩)) sn)))) (fun _ h => h))
       refine l_val (wg rfl rfl rfl) (r_move rfl) rfl ?_
       refine l_val (wg rfl rfl rfl) (r_lss rfl rfl) rfl ?_
       refine l_val (wg rfl rfl rfl) (r_move rfl) rfl ?_
       refine l_case (t := 33) rfl (fun h6 => ?_) (fun h6 => ?_)
       · refine l_skip (wg rfl rfl rfl) rfl ?_
         refine l_skip (wg rfl rfl rfl) rfl ?_
         refine l_val (wg rfl rfl rfl) (r_pick rfl rfl) rfl ?_
         refine l_val (wg rfl rfl rfl) (r_move rfl) rfl ?_
         refine l_val (wg rfl rfl rfl) (r_move rfl) rfl ?_
         refine l_val (wg rfl rfl rfl) (r_neq rfl rfl) rfl ?_
         refine l_val (wg rfl rfl rfl) (r_pick rfl rfl) rfl ?_
         refine l_val (wg rfl rfl rfl) (r_pick rfl rfl) rfl ?_
         refine l_val wn (r_pick rfl rfl) rfl ?_
         refine l_nil (e_cut hK12 (sc rfl (sc rfl (sc rfl (sc (jp (iff_ite_l h4 (iff_or_right h5 (iff_ite_l h6 Iff.rfl)))) sn)))) (fun _ h => h))
       refine l_val (wg rfl rfl rfl) (r_move rfl) rfl ?_
       refine l_val (wg rfl rfl rfl) (r_gtr rfl rfl) rfl ?_
       refine l_val (wg rfl rfl rfl) (r_pick rfl rfl) rfl ?_
       refine l_val (wg rfl rfl rfl) (r_move rfl) rfl ?_
       refine l_case (t := 37) rfl (fun h7 => ?_) (fun h7 => ?_)
       · refine l_val (wg rfl rfl rfl) (r_move rfl) rfl ?_
         refine l_val (wg rfl rfl rfl) (r_neq rfl rfl) rfl ?_
         refine l_val (wg rfl rfl rfl) (r_pick rfl rfl) rfl ?_
         refine l_val (wg rfl rfl rfl) (r_pick rfl rfl) rfl ?_
         refine l_val wn (r_pick rfl rfl) rfl ?_
         refine l_nil (e_cut hK12 (sc rfl (sc rfl (sc rfl (sc (jp (iff_ite_l h4 (iff_or_right h5 (iff_ite_r h6 (iff_and_right h7 Iff.rfl))))) sn)))) (fun _ h => h))
       refine l_skip (wg rfl rfl rfl) rfl ?_
       refine l_skip (wg rfl rfl rfl) rfl ?_
       refine l_val (wg rfl rfl rfl) (r_pick rfl rfl) rfl ?_
       refine l_val (wg rfl rfl rfl) (r_pick rfl rfl) rfl ?_
       refine l_val wn (r_pick rfl rfl) rfl ?_
       refine l_nil (e_cut hK12 (sc rfl (sc rfl (sc rfl (sc (jf (fun g => g.elim (fun k => (fun g => g.elim h5 (fun g => g.elim (fun k => h6 k.1) (fun k => (fun g => h7 g.1) k.2))) k.2) (fun k => k.1 h4))) sn)))) (fun _ h => h))
     refine l_val (wg rfl rfl rfl) (r_move rfl) rfl ?_
     refine l_val (wg rfl rfl rfl) (r_gtr rfl rfl) rfl ?_
     refine l_val wn (r_pick rfl rfl) rfl ?_
     refine l_val wn (r_move rfl) rfl ?_
     refine l_case (t := 27) rfl (fun h8 => ?_) (fun h8 => ?_)
     · refine l_val (wg rfl rfl rfl) (r_move rfl) rfl ?_
       refine l_val (wg rfl rfl rfl) (r_eql rfl rfl) rfl ?_
       refine l_val (wg rfl rfl rfl) (r_move rfl) rfl ?_
       refine l_case (t := 30) rfl (fun h9 => ?_) (fun h9 => ?_)
       · refine l_skip (wg rfl rfl rfl) rfl ?_
         refine l_skip (wg rfl rfl rfl) rfl ?_
         refine l_skip (wg rfl rfl rfl) rfl ?_
         refine l_skip (wu rfl rfl) rfl ?_
         refine l_skip (wu rfl rfl) rfl ?_
         refine l_skip (wg rfl rfl rfl) rfl ?_
         refine l_skip (wg rfl rfl rfl) rfl ?_
         refine l_skip (wu rfl rfl) rfl ?_
         refine l_skip (wu rfl rfl) rfl ?_
         refine l_skip (wg rfl rfl rfl) rfl ?_
         refine l_val (wg rfl rfl rfl) (r_pick rfl rfl) rfl ?_
         refine l_val wn (r_pick rfl rfl) rfl ?_
         refine l_nil (e_cut hK12 (sc rfl (sc rfl (sc rfl (sc (jt (Or.inr ⟨h4, ⟨h8, (Or.inl h9)⟩⟩)) sn)))) (fun _ h => h))
       refine l_val (wg rfl rfl rfl) (r_move rfl) rfl ?_
       refine l_val (wg rfl rfl rfl) (r_lss rfl rfl) rfl ?_
       refine l_val (wg rfl rfl rfl) (r_move rfl) rfl ?_
       refine l_case (t := 33) rfl (fun h10 => ?_) (fun h10 => ?_)
       · refine l_skip (wg rfl rfl rfl) rfl ?_
         refine l_skip (wg rfl rfl rfl) rfl ?_
         refine l_val (wg rfl rfl rfl) (r_pick rfl rfl) rfl ?_
         refine l_val (wg rfl rfl rfl) (r_move rfl) rfl ?_
         refine l_val (wg rfl rfl rfl) (r_move rfl) rfl ?_
         refine l_val (wg rfl rfl rfl) (r_neq rfl rfl) rfl ?_
         refine l_val (wg rfl rfl rfl) (r_pick rfl rfl) rfl ?_
         refine l_val (wg rfl rfl rfl) (r_pick rfl rfl) rfl ?_
         refine l_val wn (r_pick rfl rfl) rfl ?_
         refine l_nil (e_cut hK12 (sc rfl (sc rfl (sc rfl (sc (jp (iff_ite_r h4 (iff_and_right h8 (iff_or_right h9 (iff_ite_l h10 Iff.rfl))))) sn)))) (fun _ h => h))
       refine l_val (wg rfl rfl rfl) (r_move rfl) rfl ?_
       refine l_val (wg rfl rfl rfl) (r_gtr rfl rfl) rfl ?_
       refine l_val (wg rfl rfl rfl) (r_pick rfl rfl) rfl ?_
       refine l_val (wg rfl rfl rfl) (r_move rfl) rfl ?_
       refine l_case (t := 37) rfl (fun h11 => ?_) (fun h11 => ?_)
       · refine l_val (wg rfl rfl rfl) (r_move rfl) rfl ?_
         refine l_val (wg rfl rfl rfl) (r_neq rfl rfl) rfl ?_
         refine l_val (wg rfl rfl rfl) (r_pick rfl rfl) rfl ?_
         refine l_val (wg rfl rfl rfl) (r_pick rfl rfl) rfl ?_
         refine l_val wn (r_pick rfl rfl) rfl ?_
         refine l_nil (e_cut hK12 (sc rfl (sc rfl (sc rfl (sc (jp (iff_ite_r h4 (iff_and_right h8 (iff_or_right h9 (iff_ite_r h10 (iff_and_right h11 Iff.rfl)))))) sn)))) (fun _ h => h))
       refine l_skip (wg rfl rfl rfl) rfl ?_
       refine l_skip (wg rfl rfl rfl) rfl ?_
       refine l_val (wg rfl rfl rfl) (r_pick rfl rfl) rfl ?_
       refine l_val (wg rfl rfl rfl) (r_pick rfl rfl) rfl ?_
       refine l_val wn (r_pick rfl rfl) rfl ?_
       refine l_nil (e_cut hK12 (sc rfl (sc rfl (sc rfl (sc (jf (fun g => g.elim (fun k => h4 k.1) (fun k => (fun g => (fun g => g.elim h9 (fun g => g.elim (fun k => h10 k.1) (fun k => (fun g => h11 g.1) k.2))) g.2) k.2))) sn)))) (fun _ h => h))
     refine l_skip (wg rfl rfl rfl) rfl ?_
     refine l_skip (wg rfl rfl rfl) rfl ?_
     refine l_skip (wg rfl rfl rfl) rfl ?_
     refine l_skip (wu rfl rfl) rfl ?_
     refine l_skip (wu rfl rfl) rfl ?_
     refine l_skip (wu rfl rfl) rfl ?_
     refine l_skip (wu rfl rfl) rfl ?_
     refine l_skip (wu rfl rfl) rfl ?_
     refine l_skip (wu rfl rfl) rfl ?_
     refine l_skip (wu rfl rfl) rfl ?_
     refine l_skip (wu rfl rfl) rfl ?_
     refine l_skip (wu rfl rfl) rfl ?_
     refine l_skip (wu rfl rfl) rfl ?_
     refine l_skip (wg rfl rfl rfl) rfl ?_
     refine l_val wn (r_pick rfl rfl) rfl ?_
     refine l_nil (e_cut hK12 (sc rfl (sc rfl (sc rfl (sc (jf (fun g => g.elim (fun k => h4 k.1) (fun k => (fun g => h8 g.1) k.2))) sn)))) (fun _ h => h))
   refine c_cond rfl (fun h12 => ?_) (fun h12 => ?_)
   · refine c_seq fun _ hK13 => ?_
     refine c_region ?_
     refine l_val wn (r_assign rfl) rfl ?_
     refine l_nil (e_go hK13 ?_)
     refine c_ret (e_in_r (e_then_r (e_loop1_r (e_in_r (e_then_r (e_ret1 (.inl rfl) Try.results50 (rv_tmp rfl) fun w1 hM => ?_))))))
     exact ret_ok (by unfold Names.named; rw [hI1.2, Names.named_step hc1, decide_eq_false (show ¬ Names.fineB k c1 from by unfold Names.fineB; omega)]; simp) hM
   refine c_skip (e_in_n (e_go hK9 ?_))
   refine c_region ?_
   refine l_val wn (r_addn rfl rfl (by omega)) rfl ?_
   refine l_val wn (r_move rfl) rfl ?_
   refine l_nil (e_round1 (k + 1) (sc rfl (sc rfl (sc (ji (by omega)) sn))) (fun _ h => h) ?_ ?_)
   · exact ⟨by omega, by rw [hI1.2, Names.named_step hc1, decide_eq_true (show Names.fineB k c1 from by unfold Names.fineB; omega), Bool.true_and]⟩
   omega
 refine c_exit (e_then_x (e_loop1_x (e_in_hit (e_go hK5 ?_))))
 refine c_seq fun _ hK14 => ?_
 refine c_region ?_
 refine l_val wn (r_assign rfl) rfl ?_
 refine l_nil (e_go hK14 ?_)
 refine c_ret (e_ret1 (.inl rfl) Try.results50 (rv_tmp rfl) fun w1 hM => ?_)
 exact ret_ok (by unfold Names.named; rw [decide_eq_true (by omega), decide_eq_true (by omega), hI1.2, Names.named_end (by omega)]; rfl) hM

theorem c_namesWrong (lv : Value) (l : List Label) (w : World) (hl : FlatSl (In w) 2 labelE lv l w)  :
    Calls Try.prog 29 #[lv] w (Ret w (.int .i64 (Names.wrong l))) := by
 obtain ⟨lA, lc, rfl, hlc, hlm, hlA⟩ := hl.form
 refine fstart (N := 39) (vals := [.slice lA l.length lc]) (S := Mem w no [slO (In w) 2 labelE (.slice lA l.length lc) l]) Try.func29 rfl rfl rfl (Mem.ofDats (dc (dl hl) dn)) ?_
 refine c_seq fun _ hK1 => ?_
 refine c_region ?_
 refine l_val wn (r_assign rfl) rfl ?_
 refine l_nil (e_go hK1 ?_)
 refine c_seq fun _ hK2 => ?_
 refine c_seq fun _ hK3 => ?_
 refine c_region ?_
 refine l_val wn (r_move rfl) rfl ?_
 refine l_val wn (r_len rfl Try.underlying42) rfl ?_
 refine l_val wn (r_gtr rfl rfl) rfl ?_
 refine l_nil (e_go hK3 ?_)
 refine c_cond rfl (fun h1 => ?_) (fun h1 => ?_)
 · refine c_seq fun _ hK4 => ?_
   refine c_region ?_
   refine l_val wn (r_assign rfl) rfl ?_
   refine l_nil (e_go hK4 ?_)
   refine c_ret (e_then_r (e_ret1 (.inl rfl) Try.results29 (rv_tmp rfl) fun w1 hM => ?_))
   exact ret_ok (by rw [Names.wrong, if_pos (by omega)]) hM
 refine c_skip (e_go hK2 ?_)
 refine c_seq fun _ hK5 => ?_
 refine c_seq fun _ hK6 => ?_
 refine c_region ?_
 refine l_val wn (r_move rfl) rfl ?_
 refine l_val wn (r_len rfl Try.underlying42) rfl ?_
 refine l_val wn (r_move rfl) rfl ?_
 refine l_nil (e_go hK6 ?_)
 refine c_block ?_
 refine c_loop1 (fun (k : Nat) => [(0, .slice lA l.length lc), (8, .slice lA l.length lc), (9, .int .i64 (l.length : Int)), (10, .int .i64 (k : Int))]) (fun (k : Nat) => [slO (In w) 2 labelE (.slice lA l.length lc) l]) (fun (k : Nat) => k ≤ l.length ∧ Names.wrongFrom none l = Names.wrongFrom (Names.prevOf l k) (l.drop k)) (fun (k : Nat) => l.length - k) 0 (sc rfl (sc rfl (sc rfl (sc (ji (by omega)) sn)))) (fun _ h => h) ?_ (fun k hI1 => ?_)
 · exact ⟨by omega, Names.wrong_start l⟩
 refine c_seq fun _ hK7 => ?_
 refine c_region ?_
 refine l_val wn (r_lss rfl rfl) rfl ?_
 refine l_nil (e_go hK7 ?_)
 refine c_seq fun _ hK8 => ?_
 refine c_cond rfl (fun h2 => ?_) (fun h2 => ?_)
 · refine c_skip (e_go hK8 ?_)
   refine c_seq fun _ hK9 => ?_
   refine c_block ?_
   refine c_seq fun _ hK10 => ?_
   refine c_region ?_
   refine l_val wn (r_move rfl) rfl ?_
   obtain ⟨ad1, hd1⟩ := hlA (ne_nil (i := k) (by first | omega | decide | (simp only [List.length_cons, List.length_nil, List.length_append, List.length_take, List.length_set]; omega)))
   refine l_val wn (r_ia (i := k) rfl hd1 rfl (by omega) (by first | omega | decide | (simp only [List.length_cons, List.length_nil, List.length_append, List.length_take, List.length_set]; omega)) Try.underlying42 inf51) rfl ?_
   obtain ⟨s1, hs1⟩ : ∃ x, l[k]? = some x := ⟨_, List.getElem?_eq_getElem (by first | omega | decide | (simp only [List.length_cons, List.length_nil, List.length_append, List.length_take, List.length_set]; omega))⟩
   refine l_val wn (r_eln 0 [.string s1.key, .string s1.val] rfl rfl hd1 hs1 rfl rfl agg51 inf51) rfl ?_
   refine l_alloc wn inf51 rfl fun b4 => ?_
   refine l_val wn (r_assign rfl) rfl ?_
   refine l_stn 0 wn rfl rfl rfl inf51 rfl rfl rfl ?_
   refine l_nil (e_go hK10 ?_)
   refine c_seq fun _ hK11 => ?_
   refine c_cut [(0, .slice lA l.length lc), (3, .int .i64 (k : Int)), (4, .pointer (some ⟨b4, 0, none⟩)), (8, .slice lA l.length lc), (9, .int .i64 (l.length : Int)), (10, .int .i64 (k : Int)), (24, .bool (decide (((!(Names.named s1.key)) = true) ∨ ((!(Names.named s1.val)) = true))))] (Mem w no [.blk b4 [.string s1.key, .string s1.val] 51, slO (In w) 2 labelE (.slice lA l.length lc) l]) (fun _ hK12 => ?_) ?_
   · refine c_region ?_
     refine l_val wn (r_fa rfl fld51_0) rfl ?_
     refine l_val wn (r_lb 0 rfl rfl rfl flat9) rfl ?_
     refine l_callF wn rfl Try.call50 rfl (fun w1 hM => c_named s1.key w1) ?_
     refine l_val wn (r_notb rfl) rfl ?_
     refine l_val wn (r_move rfl) rfl ?_
     refine l_caseb (t := 19) rfl (fun h3 => ?_) (fun h3 => ?_)
     · refine l_skip (wg rfl rfl rfl) rfl ?_
       refine l_skip (wg rfl rfl rfl) rfl ?_
       refine l_skip (wg rfl rfl rfl) rfl ?_
       refine l_skip (wg rfl rfl rfl) rfl ?_
       refine l_val wn (r_pick rfl rfl) rfl ?_
       refine l_nil (e_cut hK12 (sc rfl (sc rfl (sc rfl (sc rfl (sc rfl (sc rfl (sc (jt (Or.inl h3)) sn))))))) (fun _ h => h))
     refine l_val (wg rfl rfl rfl) (r_fa rfl fld51_1) rfl ?_
     refine l_val (wg rfl rfl rfl) (r_lb 0 rfl rfl rfl flat9) rfl ?_
     refine l_callF (wg rfl rfl rfl) rfl Try.call50 rfl (fun w1 hM => c_named s1.val w1) ?_
     refine l_val (wg rfl rfl rfl) (r_notb rfl) rfl ?_
     refine l_val wn (r_pick rfl rfl) rfl ?_
     refine l_nil (e_cut hK12 (sc rfl (sc rfl (sc rfl (sc rfl (sc rfl (sc rfl (sc (jpb (iff_or_right h3 Iff.rfl)) sn))))))) (fun _ h => h))
   refine c_cond rfl (fun h4 => ?_) (fun h4 => ?_)
   · refine c_seq fun _ hK13 => ?_
     refine c_region ?_
     refine l_val wn (r_assign rfl) rfl ?_
     refine l_nil (e_go hK13 ?_)
     refine c_ret (e_then_r (e_in_r (e_then_r (e_loop1_r (e_in_r (e_then_r (e_ret1 (.inl rfl) Try.results29 (rv_tmp rfl) fun w1 hM => ?_)))))))
     exact ret_ok (by rw [Names.wrong, if_neg (by omega), hI1.2, Names.wrong_step hs1, if_pos h4]) hM
   refine c_skip (e_go hK11 ?_)
   refine c_seq fun _ hK14 => ?_
   refine c_quiet mix (by kernel_rfl) (fun _ h => h.drew) ?_
   refine q_val wn (r_move rfl) rfl ?_
   refine q_val wn (r_gtr rfl rfl) rfl ?_
   refine q_val wn (r_move rfl) rfl ?_
   refine q_case (t := 27) rfl (fun h5 => ?_) (fun h5 => ?_)
   · refine q_val (wg rfl rfl rfl) (r_move rfl) rfl ?_
     refine q_val (wg rfl rfl rfl) (r_move rfl) rfl ?_
     refine q_val (wg rfl rfl rfl) (r_subn rfl rfl (by omega)) rfl ?_
     refine q_val (wg rfl rfl rfl) (r_ia (i := (k - 1)) rfl hd1 rfl (by omega) (by first | omega | decide | (simp only [List.length_cons, List.length_nil, List.length_append, List.length_take, List.length_set]; omega)) Try.underlying42 inf51) rfl ?_
     refine q_val (wg rfl rfl rfl) (r_fe rfl fld51_0) rfl ?_
     obtain ⟨s2, hs2⟩ : ∃ x, l[(k - 1)]? = some x := ⟨_, List.getElem?_eq_getElem (by first | omega | decide | (simp only [List.length_cons, List.length_nil, List.length_append, List.length_take, List.length_set]; omega))⟩
     refine q_val (wg rfl rfl rfl) (r_el 1 rfl rfl hd1 hs2 rfl flat9) rfl ?_
     refine q_val (wg rfl rfl rfl) (r_fa rfl fld51_0) rfl ?_
     refine q_val (wg rfl rfl rfl) (r_lb 0 rfl rfl rfl flat9) rfl ?_
     refine q_val (wg rfl rfl rfl) (r_sgeq' rfl rfl) rfl ?_
     refine q_val wn (r_pick rfl rfl) rfl ?_
     refine q_end (e_go hK14 ?_)
     refine c_condb rfl (fun h6 => ?_) (fun h6 => ?_)
     · refine c_seq fun _ hK15 => ?_
       refine c_region ?_
       refine l_val wn (r_assign rfl) rfl ?_
       refine l_nil (e_go hK15 ?_)
       refine c_ret (e_in_r (e_then_r (e_loop1_r (e_in_r (e_then_r (e_ret1 (.inl rfl) Try.results29 (rv_tmp rfl) fun w1 hM => ?_))))))
       exact ret_ok (by rw [Names.wrong, if_neg (by omega), hI1.2, Names.wrong_step hs1, if_neg h4, if_pos (by rw [Names.prevOf, if_neg (by omega), hs2]; simpa [Names.behind] using h6)]) hM
     refine c_skip (e_in_n (e_go hK9 ?_))
     refine c_region ?_
     refine l_val wn (r_addn rfl rfl (by omega)) rfl ?_
     refine l_val wn (r_move rfl) rfl ?_
     refine l_nil (e_round1 (k + 1) (sc rfl (sc rfl (sc rfl (sc (ji (by omega)) sn)))) (fun _ h => (h.sel [1] (by decide) rfl)) ?_ ?_)
     · exact ⟨by omega, by rw [hI1.2, Names.wrong_step hs1, if_neg h4, if_neg (by rw [Names.prevOf, if_neg (by omega), hs2]; simpa [Names.behind] using h6)]⟩
     omega
   refine q_skip (wg rfl rfl rfl) rfl ?_
   refine q_skip (wg rfl rfl rfl) rfl ?_
   refine q_skip (wg rfl rfl rfl) rfl ?_
   refine q_skip (wg rfl rfl rfl) rfl ?_
   refine q_skip (wg rfl rfl rfl) rfl ?_
   refine q_skip (wg rfl rfl rfl) rfl ?_
   refine q_skip (wg rfl rfl rfl) rfl ?_
   refine q_skip (wg rfl rfl rfl) rfl ?_
   refine q_skip (wg rfl rfl rfl) rfl ?_
   refine q_val wn (r_pick rfl rfl) rfl ?_
   refine q_end (e_go hK14 ?_)
   refine c_false rfl rfl ?_
   refine c_skip (e_in_n (e_go hK9 ?_))
   refine c_region ?_
   refine l_val wn (r_addn rfl rfl (by omega)) rfl ?_
   refine l_val wn (r_move rfl) rfl ?_
   refine l_nil (e_round1 (k + 1) (sc rfl (sc rfl (sc rfl (sc (ji (by omega)) sn)))) (fun _ h => (h.sel [1] (by decide) rfl)) ?_ ?_)
   · exact ⟨by omega, by rw [hI1.2, Names.wrong_step hs1, if_neg h4, if_neg (by rw [Names.prevOf, if_pos (by omega)]; simp [Names.behind])]⟩
   omega
 refine c_exit (e_then_x (e_loop1_x (e_in_hit (e_go hK5 ?_))))
 refine c_seq fun _ hK16 => ?_
 refine c_region ?_
 refine l_val wn (r_assign rfl) rfl ?_
 refine l_nil (e_go hK16 ?_)
 refine c_ret (e_ret1 (.inl rfl) Try.results29 (rv_tmp rfl) fun w1 hM => ?_)
 exact ret_ok (by rw [Names.wrong, if_neg (by omega), hI1.2, Names.wrong_end (by omega)]) hM

theorem c_index (lv : Value) (l : List ByteArray) (v : ByteArray) (w : World) (hl : FlatSl (In w) 1 strE lv l w)  :
    Calls Try.prog 94 #[lv, .string v] w (Ret w (.int .i64 (Names.indexOf l v 0))) := by
 obtain ⟨lA, lc, rfl, hlc, hlm, hlA⟩ := hl.form
 refine fstart (N := 19) (vals := [.slice lA l.length lc, .string v]) (S := Mem w no [slO (In w) 1 strE (.slice lA l.length lc) l]) Try.func94 rfl rfl rfl (Mem.ofDats (dc (dl hl) dn)) ?_
 refine c_seq fun _ hK1 => ?_
 refine c_region ?_
 refine l_val wn (r_assign rfl) rfl ?_
 refine l_nil (e_go hK1 ?_)
 refine c_seq fun _ hK2 => ?_
 refine c_seq fun _ hK3 => ?_
 refine c_region ?_
 refine l_val wn (r_move rfl) rfl ?_
 refine l_val wn (r_len rfl Try.underlying24) rfl ?_
 refine l_val wn (r_move rfl) rfl ?_
 refine l_nil (e_go hK3 ?_)
 refine c_block ?_
 refine c_loop1 (fun (k : Nat) => [(0, .slice lA l.length lc), (1, .string v), (7, .int .i64 (l.length : Int)), (8, .int .i64 (k : Int))]) (fun (k : Nat) => [slO (In w) 1 strE (.slice lA l.length lc) l]) (fun (k : Nat) => k ≤ l.length ∧ Names.indexOf l v 0 = Names.indexOf (l.drop k) v k) (fun (k : Nat) => l.length - k) 0 (sc rfl (sc rfl (sc rfl (sc (ji (by omega)) sn)))) (fun _ h => h) ?_ (fun k hI1 => ?_)
 · simp
 refine c_seq fun _ hK4 => ?_
 refine c_region ?_
 refine l_val wn (r_lss rfl rfl) rfl ?_
 refine l_nil (e_go hK4 ?_)
 refine c_seq fun _ hK5 => ?_
 refine c_cond rfl (fun h1 => ?_) (fun h1 => ?_)
 · refine c_skip (e_go hK5 ?_)
   refine c_seq fun _ hK6 => ?_
   refine c_block ?_
   refine c_seq fun _ hK7 => ?_
   refine c_region ?_
   refine l_val wn (r_move rfl) rfl ?_
   refine l_val wn (r_assign rfl) rfl ?_
   refine l_nil (e_go hK7 ?_)
   refine c_seq fun _ hK8 => ?_
   refine c_region ?_
   refine l_val wn (r_move rfl) rfl ?_
   refine l_val wn (r_move rfl) rfl ?_
   refine l_val wn (r_move rfl) rfl ?_
   obtain ⟨ad1, hd1⟩ := hlA (ne_nil (i := k) (by first | omega | decide | (simp only [List.length_cons, List.length_nil, List.length_append, List.length_take, List.length_set]; omega)))
   refine l_val wn (r_ia (i := k) rfl hd1 rfl (by omega) (by first | omega | decide | (simp only [List.length_cons, List.length_nil, List.length_append, List.length_take, List.length_set]; omega)) Try.underlying24 inf9) rfl ?_
   obtain ⟨s1, hs1⟩ : ∃ x, l[k]? = some x := ⟨_, List.getElem?_eq_getElem (by first | omega | decide | (simp only [List.length_cons, List.length_nil, List.length_append, List.length_take, List.length_set]; omega))⟩
   refine l_val wn (r_el 0 rfl rfl hd1 hs1 rfl flat9) rfl ?_
   refine l_val wn (r_seql rfl rfl) rfl ?_
   refine l_nil (e_go hK8 ?_)
   refine c_cond rfl (fun h2 => ?_) (fun h2 => ?_)
   · refine c_seq fun _ hK9 => ?_
     refine c_region ?_
     refine l_val wn (r_move rfl) rfl ?_
     refine l_val wn (r_assign rfl) rfl ?_
     refine l_nil (e_go hK9 ?_)
     refine c_ret (e_in_r (e_then_r (e_loop1_r (e_in_r (e_then_r (e_ret1 (.inl rfl) Try.results94 (rv_tmp rfl) fun w1 hM => ?_))))))
     exact ret_ok (by rw [hI1.2, Names.index_step hs1, if_pos h2]) hM
   refine c_skip (e_in_n (e_go hK6 ?_))
   refine c_region ?_
   refine l_val wn (r_addn rfl rfl (by omega)) rfl ?_
   refine l_val wn (r_move rfl) rfl ?_
   refine l_nil (e_round1 (k + 1) (sc rfl (sc rfl (sc rfl (sc (ji (by omega)) sn)))) (fun _ h => h) ?_ ?_)
   · exact ⟨by omega, by rw [hI1.2, Names.index_step hs1, if_neg h2]⟩
   omega
 refine c_exit (e_then_x (e_loop1_x (e_in_hit (e_go hK2 ?_))))
 refine c_seq fun _ hK10 => ?_
 refine c_region ?_
 refine l_val wn (r_assign rfl) rfl ?_
 refine l_nil (e_go hK10 ?_)
 refine c_ret (e_ret1 (.inl rfl) Try.results94 (rv_tmp rfl) fun w1 hM => ?_)
 exact ret_ok (by rw [hI1.2, Names.index_end (by omega)]) hM

theorem c_contains (lv : Value) (l : List ByteArray) (v : ByteArray) (w : World) (hl : FlatSl (In w) 1 strE lv l w)  :
    Calls Try.prog 85 #[lv, .string v] w (Ret w (.bool (decide (0 ≤ Names.indexOf l v 0)))) := by
 obtain ⟨lA, lc, rfl, hlc, hlm, hlA⟩ := hl.form
 refine fstart (N := 9) (vals := [.slice lA l.length lc, .string v]) (S := Mem w no [slO (In w) 1 strE (.slice lA l.length lc) l]) Try.func85 rfl rfl rfl (Mem.ofDats (dc (dl hl) dn)) ?_
 refine c_seq fun _ hK1 => ?_
 refine c_region ?_
 refine l_val wn (r_assign rfl) rfl ?_
 refine l_nil (e_go hK1 ?_)
 refine c_seq fun _ hK2 => ?_
 refine c_region ?_
 refine l_val wn (r_move rfl) rfl ?_
 refine l_val wn (r_move rfl) rfl ?_
 refine l_callF wn rfl Try.call94 rfl (fun w1 hM => c_index _ l v w1 (hM.sl 0 rfl)) ?_
 refine l_val wn (r_geq rfl rfl) rfl ?_
 refine l_val wn (r_assign rfl) rfl ?_
 refine l_nil (e_go hK2 ?_)
 refine c_ret (e_ret1 (.inl rfl) Try.results85 (rv_tmp rfl) fun w1 hM => ?_)
 exact ret_ok rfl hM

theorem c_only (lv : Value) (l : List Label) (by_v : Value) (by_ : List ByteArray) (w : World) (hl : FlatSl (In w) 2 labelE lv l w) (hby_ : FlatSl (In w) 1 strE by_v by_ w) (hl1 : l.length ≤ 1048576) :
    Calls Try.prog 74 #[lv, by_v] w (RetL w 51 2 labelE (Names.only l by_)) := by
 obtain ⟨lA, lc, rfl, hlc, hlm, hlA⟩ := hl.form
 obtain ⟨by_A, by_c, rfl, hby_c, hby_m, hby_A⟩ := hby_.form
 refine fstart (N := 24) (vals := [.slice lA l.length lc, .slice by_A by_.length by_c]) (S := Mem w no [slO (In w) 2 labelE (.slice lA l.length lc) l, slO (In w) 1 strE (.slice by_A by_.length by_c) by_]) Try.func74 rfl rfl rfl (Mem.ofDats (dc (dl hl) (dc (dl hby_) dn))) ?_
 refine c_seq fun _ hK1 => ?_
 refine c_region ?_
 refine l_nilRow (labelE : Label → List Value) 51 2 ?_
 refine l_val wn (r_assign rfl) rfl ?_
 refine l_nil (e_go hK1 ?_)
 refine c_seq fun _ hK2 => ?_
 refine c_region ?_
 refine l_nilRow (labelE : Label → List Value) 51 2 ?_
 refine l_val wn (r_assign rfl) rfl ?_
 refine l_nil (e_go hK2 ?_)
 refine c_seq fun _ hK3 => ?_
 refine c_seq fun _ hK4 => ?_
 refine c_region ?_
 refine l_val wn (r_move rfl) rfl ?_
 refine l_val wn (r_len rfl Try.underlying42) rfl ?_
 refine l_val wn (r_move rfl) rfl ?_
 refine l_nil (e_go hK4 ?_)
 refine c_block ?_
 refine c_loop2 (fun (k : Nat) (vr : Value) => [(1, .slice by_A by_.length by_c), (5, vr), (8, .slice lA l.length lc), (9, .int .i64 (l.length : Int)), (10, .int .i64 (k : Int))]) (fun (k : Nat) (vr : Value) => [Row vr 51 2 labelE (Names.only (l.take k) by_), Row (.slice none 0 0) 51 2 labelE ([] : List Label), slO (In w) 2 labelE (.slice lA l.length lc) l, slO (In w) 1 strE (.slice by_A by_.length by_c) by_]) (fun (k : Nat) (vr : Value) => k ≤ l.length) (fun (k : Nat) (vr : Value) => l.length - k) 0 (.slice none 0 0) (sc rfl (sc rfl (sc rfl (sc rfl (sc (ji (by omega)) sn))))) (fun _ h => h) ?_ (fun k vr hI1 => ?_)
 · omega
 have hlen := Nat.le_trans (Names.only_len (l.take k) by_) (List.length_take_le k l)
 refine c_open 0 (l := (Names.only (l.take k) by_)) rfl fun A1 cp1 hv1 hc1 hm1 hA1 => ?_
 subst hv1
 refine c_seq fun _ hK5 => ?_
 refine c_region ?_
 refine l_val wn (r_lss rfl rfl) rfl ?_
 refine l_nil (e_go hK5 ?_)
 refine c_seq fun _ hK6 => ?_
 refine c_cond rfl (fun h1 => ?_) (fun h1 => ?_)
 · refine c_skip (e_go hK6 ?_)
   refine c_seq fun _ hK7 => ?_
   refine c_block ?_
   refine c_seq fun _ hK8 => ?_
   refine c_region ?_
   obtain ⟨ad1, hd1⟩ := hlA (ne_nil (i := k) (by first | omega | decide | (simp only [List.length_cons, List.length_nil, List.length_append, List.length_take, List.length_set]; omega)))
   refine l_val wn (r_ia (i := k) rfl hd1 rfl (by omega) (by first | omega | decide | (simp only [List.length_cons, List.length_nil, List.length_append, List.length_take, List.length_set]; omega)) Try.underlying42 inf51) rfl ?_
   obtain ⟨s1, hs1⟩ : ∃ x, l[k]? = some x := ⟨_, List.getElem?_eq_getElem (by first | omega | decide | (simp only [List.length_cons, List.length_nil, List.length_append, List.length_take, List.length_set]; omega))⟩
   refine l_val wn (r_eln 2 [.string s1.key, .string s1.val] rfl rfl hd1 hs1 rfl rfl agg51 inf51) rfl ?_
   refine l_alloc wn inf51 rfl fun b7 => ?_
   refine l_stn 0 wn rfl rfl rfl inf51 rfl rfl rfl ?_
   refine l_nil (e_go hK8 ?_)
   refine c_seq fun _ hK9 => ?_
   refine c_region ?_
   refine l_val wn (r_move rfl) rfl ?_
   refine l_val wn (r_fa rfl fld51_0) rfl ?_
   refine l_val wn (r_lb 0 rfl rfl rfl flat9) rfl ?_
   refine l_callF wn rfl Try.call85 rfl (fun w1 hM => c_contains _ by_ s1.key w1 (hM.sl 4 rfl)) ?_
   refine l_nil (e_go hK9 ?_)
   refine c_cond rfl (fun h2 => ?_) (fun h2 => ?_)
   · refine c_region ?_
     refine l_val wn (r_move rfl) rfl ?_
     refine l_val wn (r_lbn 0 [.string s1.key, .string s1.val] rfl rfl rfl rfl agg51 inf51) rfl ?_
     refine l_bsL labelE ([s1] : List Label) wn Try.underlying42 inf51 rfl rfl rfl rfl (by decide) (by decide) rfl fun b20 => ?_
     refine l_app 2 (Names.only (l.take k) by_) ([s1] : List Label) encLabel wn rfl rfl rfl (fun _ hM => (RowSl encLabel hM 0 rfl)) Try.underlying42 inf51 rfl rfl (by simp only [List.length_append, List.length_cons, List.length_nil]; omega) rfl fun A2 cp2 hc2 hm2 hA2 => ?_
     refine l_val wn (r_assign rfl) rfl ?_
     refine l_nil (e_in_n (e_go hK7 ?_))
     refine c_region ?_
     refine l_val wn (r_addn rfl rfl (by omega)) rfl ?_
     refine l_val wn (r_move rfl) rfl ?_
     refine l_nil (e_round2 (k + 1) (.slice A2 (((Names.only (l.take k) by_) ++ ([s1] : List Label)).length) cp2) (sc rfl (sc rfl (sc rfl (sc rfl (sc (ji (by omega)) sn))))) (fun _ h => by rw [(Names.only_succ hs1).trans (if_pos h2)]; exact (h.sel [2, 3, 4, 5] (by decide) rfl)) ?_ ?_)
     · omega
     omega
   refine c_skip (e_in_n (e_go hK7 ?_))
   refine c_region ?_
   refine l_val wn (r_addn rfl rfl (by omega)) rfl ?_
   refine l_val wn (r_move rfl) rfl ?_
   refine l_nil (e_round2 (k + 1) (.slice A1 ((Names.only (l.take k) by_).length) cp1) (sc rfl (sc rfl (sc rfl (sc rfl (sc (ji (by omega)) sn))))) (fun _ h => by rw [(Names.only_succ hs1).trans (if_neg h2)]; exact (h.sel [1, 2, 3, 4] (by decide) rfl)) ?_ ?_)
   · omega
   omega
 refine c_exit (e_then_x (e_loop2_x (e_in_hit (e_go hK3 ?_))))
 refine c_seq fun _ hK10 => ?_
 refine c_region ?_
 refine l_val wn (r_move rfl) rfl ?_
 refine l_val wn (r_assign rfl) rfl ?_
 refine l_nil (e_go hK10 ?_)
 refine c_ret (e_ret1 (.inl rfl) Try.results74 (rv_tmp rfl) fun w1 hM => ?_)
 exact hM.retL' 0 rfl (by rw [List.take_of_length_le (by omega)])

theorem c_refNamed (s : ByteArray) (w : World)  (hs1_ : s.size ≤ 9223372036854775807) :
    Calls Try.prog 55 #[.string s] w (Ret w (.bool (Names.named s))) := by
 refine fstart (N := 51) (vals := [.string s]) (S := Mem w no []) Try.func55 rfl rfl rfl (Mem.ofDats dn) ?_
 refine c_seq fun _ hK1 => ?_
 refine c_region ?_
 refine l_val wn (r_assign rfl) rfl ?_
 refine l_nil (e_go hK1 ?_)
 refine c_seq fun _ hK2 => ?_
 refine c_seq fun _ hK3 => ?_
 refine c_region ?_
 refine l_val wn (r_move rfl) rfl ?_
 refine l_strBytes wn rfl Try.underlying9 Try.underlying119 Try.underlying5 (by omega) rfl fun b1 cp1 hc1 hm1 => ?_
 refine l_val wn (r_len rfl Try.underlying119) rfl ?_
 refine l_val wn (r_move rfl) rfl ?_
 refine l_nil (e_go hK3 ?_)
 refine c_block ?_
 refine c_loop1 (fun (k : Nat) => [(0, .string s), (7, .slice (some ⟨b1, 0, none⟩) s.data.toList.length cp1), (8, .int .i64 (s.data.toList.length : Int)), (9, .int .i64 (k : Int))]) (fun (k : Nat) => [slP 1 byteE (.slice (some ⟨b1, 0, none⟩) s.data.toList.length cp1) s.data.toList]) (fun (k : Nat) => k ≤ s.data.toList.length ∧ Names.namedL 0 s.data.toList = Names.namedL k (s.data.toList.drop k)) (fun (k : Nat) => s.data.toList.length - k) 0 (sc rfl (sc rfl (sc rfl (sc (ji (by omega)) sn)))) (fun _ h => h) ?_ (fun k hI1 => ?_)
 · simp
 refine c_seq fun _ hK4 => ?_
 refine c_region ?_
 refine l_val wn (r_lss rfl rfl) rfl ?_
 refine l_nil (e_go hK4 ?_)
 refine c_seq fun _ hK5 => ?_
 refine c_cond rfl (fun h1 => ?_) (fun h1 => ?_)
 · refine c_skip (e_go hK5 ?_)
   refine c_seq fun _ hK6 => ?_
   refine c_block ?_
   refine c_seq fun _ hK7 => ?_
   refine c_region ?_
   refine l_val wn (r_move rfl) rfl ?_
   refine l_val wn (r_ia (i := k) rfl rfl rfl (by omega) (by first | omega | decide | (simp only [List.length_cons, List.length_nil, List.length_append, List.length_take, List.length_set]; omega)) Try.underlying119 inf5) rfl ?_
   obtain ⟨s1, hs1⟩ : ∃ x, s.data.toList[k]? = some x := ⟨_, List.getElem?_eq_getElem (by first | omega | decide | (simp only [List.length_cons, List.length_nil, List.length_append, List.length_take, List.length_set]; omega))⟩
   refine l_val wn (r_pl 0 rfl rfl rfl hs1 rfl flat5) rfl ?_
   refine l_val wn (r_assign rfl) rfl ?_
   refine l_val wn (r_assign rfl) rfl ?_
   refine l_nil (e_go hK7 ?_)
   refine c_cut [(0, .string s), (3, .int .i64 (k : Int)), (4, .int .u8 (s1.toNat : Int)), (5, .bool (decide ((97 ≤ (s1.toNat : Int)) ∧ ((s1.toNat : Int) ≤ 122)))), (7, .slice (some ⟨b1, 0, none⟩) s.data.toList.length cp1), (8, .int .i64 (s.data.toList.length : Int)), (9, .int .i64 (k : Int))] (Mem w no [slP 1 byteE (.slice (some ⟨b1, 0, none⟩) s.data.toList.length cp1) s.data.toList]) (fun _ hK8 => ?_) ?_
   · refine c_region ?_
     refine l_val wn (r_move rfl) rfl ?_
     refine l_val wn (r_geq rfl rfl) rfl ?_
     refine l_val wn (r_move rfl) rfl ?_
     refine l_case (t := 16) rfl (fun h2 => ?_) (fun h2 => ?_)
     · refine l_val (wg rfl rfl rfl) (r_move rfl) rfl ?_
       refine l_val (wg rfl rfl rfl) (r_leq rfl rfl) rfl ?_
       refine l_val wn (r_pick rfl rfl) rfl ?_
       refine l_val wn (r_assign rfl) rfl ?_
       refine l_nil (e_cut hK8 (sc rfl (sc rfl (sc rfl (sc (jp (iff_and_right h2 Iff.rfl)) (sc rfl (sc rfl (sc rfl sn))))))) (fun _ h => h))
     refine l_skip (wg rfl rfl rfl) rfl ?_
     refine l_skip (wg rfl rfl rfl) rfl ?_
     refine l_val wn (r_pick rfl rfl) rfl ?_
     refine l_val wn (r_assign rfl) rfl ?_
     refine l_nil (e_cut hK8 (sc rfl (sc rfl (sc rfl (sc (jf (fun g => h2 g.1)) (sc rfl (sc rfl (sc rfl sn))))))) (fun _ h => h))
   refine c_cut [(0, .string s), (7, .slice (some ⟨b1, 0, none⟩) s.data.toList.length cp1), (8, .int .i64 (s.data.toList.length : Int)), (9, .int .i64 (k : Int)), (41, .bool (decide ((((k : Int) = 0) ∧ (¬ ((97 ≤ (s1.toNat : Int)) ∧ ((s1.toNat : Int) ≤ 122)))) ∨ (¬ ((k : Int) = 0) ∧ ((¬ ((97 ≤ (s1.toNat : Int)) ∧ ((s1.toNat : Int) ≤ 122))) ∧ (((s1.toNat : Int) ≠ 95) ∧ (((s1.toNat : Int) < 48) ∨ (57 < (s1.toNat : Int)))))))))] (Mem w no [slP 1 byteE (.slice (some ⟨b1, 0, none⟩) s.data.toList.length cp1) s.data.toList]) (fun _ hK9 => ?_) ?_
   · refine c_region ?_
     refine l_val wn (r_move rfl) rfl ?_
     refine l_val wn (r_eql rfl rfl) rfl ?_
     refine l_val wn (r_move rfl) rfl ?_
     refine l_case (t := 22) rfl (fun h3 => ?_) (fun h3 => ?_)
     · refine l_val (wg rfl rfl rfl) (r_move rfl) rfl ?_
       refine l_val (wg rfl rfl rfl) (r_not rfl) rfl ?_
       refine l_val wn (r_pick rfl rfl) rfl ?_
       refine l_val wn (r_move rfl) rfl ?_
       refine l_case (t := 26) rfl (fun h4 => ?_) (fun h4 => ?_)
       · refine l_skip (wg rfl rfl rfl) rfl ?_
         refine l_skip (wg rfl rfl rfl) rfl ?_
         refine l_skip (wg rfl rfl rfl) rfl ?_
         refine l_skip (wu rfl rfl) rfl ?_
         refine l_skip (wu rfl rfl) rfl ?_
         refine l_skip (wg rfl rfl rfl) rfl ?_
         refine l_skip (wg rfl rfl rfl) rfl ?_
         refine l_skip (wu rfl rfl) rfl ?_
         refine l_skip (wu rfl rfl) rfl ?_
         refine l_skip (wu rfl rfl) rfl ?_
         refine l_skip (wu rfl rfl) rfl ?_
         refine l_skip (wu rfl rfl) rfl ?_
         refine l_skip (wu rfl rfl) rfl ?_
         refine l_skip (wg rfl rfl rfl) rfl ?_
         refine l_val wn (r_pick rfl rfl) rfl ?_
         refine l_nil (e_cut hK9 (sc rfl (sc rfl (sc rfl (sc rfl (sc (jt (Or.inl ⟨h3, h4⟩)) sn))))) (fun _ h => h))
       refine l_val (wg rfl rfl rfl) (r_move rfl) rfl ?_
       refine l_val (wg rfl rfl rfl) (r_not rfl) rfl ?_
       refine l_val (wg rfl rfl rfl) (r_move rfl) rfl ?_
       refine l_litf (t := 29) rfl h4 ?_
       refine l_skip (wg rfl rfl rfl) rfl ?_
       refine l_skip (wg rfl rfl rfl) rfl ?_
       refine l_val (wg rfl rfl rfl) (r_pick rfl rfl) rfl ?_
       refine l_val (wg rfl rfl rfl) (r_move rfl) rfl ?_
       refine l_skip (wg rfl rfl rfl) rfl ?_
       refine l_skip (wg rfl rfl rfl) rfl ?_
       refine l_skip (wg rfl rfl rfl) rfl ?_
       refine l_skip (wu rfl rfl) rfl ?_
       refine l_skip (wu rfl rfl) rfl ?_
       refine l_skip (wg rfl rfl rfl) rfl ?_
       refine l_val (wg rfl rfl rfl) (r_pick rfl rfl) rfl ?_
       refine l_val wn (r_pick rfl rfl) rfl ?_
       refine l_nil (e_cut hK9 (sc rfl (sc rfl (sc rfl (sc rfl (sc (jf (fun g => g.elim (fun k => h4 k.2) (fun k => k.1 h3))) sn))))) (fun _ h => h))
     refine l_skip (wg rfl rfl rfl) rfl ?_
     refine l_skip (wg rfl rfl rfl) rfl ?_
     refine l_val wn (r_pick rfl rfl) rfl ?_
     refine l_val wn (r_move rfl) rfl ?_
     refine l_val (wg rfl rfl rfl) (r_move rfl) rfl ?_
     refine l_val (wg rfl rfl rfl) (r_not rfl) rfl ?_
     refine l_val (wg rfl rfl rfl) (r_move rfl) rfl ?_
     refine l_case (t := 29) rfl (fun h5 => ?_) (fun h5 => ?_)
     · refine l_val (wg rfl rfl rfl) (r_move rfl) rfl ?_
       refine l_val (wg rfl rfl rfl) (r_neq rfl rfl) rfl ?_
       refine l_val (wg rfl rfl rfl) (r_pick rfl rfl) rfl ?_
       refine l_val (wg rfl rfl rfl) (r_move rfl) rfl ?_
       refine l_case (t := 33) rfl (fun h6 => ?_) (fun h6 => ?_)
       · refine l_val (wg rfl rfl rfl) (r_move rfl) rfl ?_
         refine l_val (wg rfl rfl rfl) (r_lss rfl rfl) rfl ?_
         refine l_val (wg rfl rfl rfl) (r_move rfl) rfl ?_
         refine l_case (t := 36) rfl (fun h7 => ?_) (fun h7 => ?_)
         · refine l_skip (wg rfl rfl rfl) rfl ?_
           refine l_skip (wg rfl rfl rfl) rfl ?_
           refine l_val (wg rfl rfl rfl) (r_pick rfl rfl) rfl ?_
           refine l_val (wg rfl rfl rfl) (r_pick rfl rfl) rfl ?_
           refine l_val wn (r_pick rfl rfl) rfl ?_
           refine l_nil (e_cut hK9 (sc rfl (sc rfl (sc rfl (sc rfl (sc (jt (Or.inr ⟨h3, ⟨h5, ⟨h6, (Or.inl h7)⟩⟩⟩)) sn))))) (fun _ h => h))
         refine l_val (wg rfl rfl rfl) (r_move rfl) rfl ?_
         refine l_val (wg rfl rfl rfl) (r_gtr rfl rfl) rfl ?_
         refine l_val (wg rfl rfl rfl) (r_pick rfl rfl) rfl ?_
         refine l_val (wg rfl rfl rfl) (r_pick rfl rfl) rfl ?_
         refine l_val wn (r_pick rfl rfl) rfl ?_
         refine l_nil (e_cut hK9 (sc rfl (sc rfl (sc rfl (sc rfl (sc (jp (iff_ite_r h3 (iff_and_right h5 (iff_and_right h6 (iff_or_right h7 Iff.rfl))))) sn))))) (fun _ h => h))
       refine l_skip (wg rfl rfl rfl) rfl ?_
       refine l_skip (wg rfl rfl rfl) rfl ?_
       refine l_skip (wg rfl rfl rfl) rfl ?_
       refine l_skip (wu rfl rfl) rfl ?_
       refine l_skip (wu rfl rfl) rfl ?_
       refine l_skip (wg rfl rfl rfl) rfl ?_
       refine l_val (wg rfl rfl rfl) (r_pick rfl rfl) rfl ?_
       refine l_val wn (r_pick rfl rfl) rfl ?_
       refine l_nil (e_cut hK9 (sc rfl (sc rfl (sc rfl (sc rfl (sc (jf (fun g => g.elim (fun k => h3 k.1) (fun k => (fun g => (fun g => h6 g.1) g.2) k.2))) sn))))) (fun _ h => h))
     refine l_skip (wg rfl rfl rfl) rfl ?_
     refine l_skip (wg rfl rfl rfl) rfl ?_
     refine l_val (wg rfl rfl rfl) (r_pick rfl rfl) rfl ?_
     refine l_val (wg rfl rfl rfl) (r_move rfl) rfl ?_
     refine l_skip (wg rfl rfl rfl) rfl ?_
     refine l_skip (wg rfl rfl rfl) rfl ?_
     refine l_skip (wg rfl rfl rfl) rfl ?_
     refine l_skip (wu rfl rfl) rfl ?_
     refine l_skip (wu rfl rfl) rfl ?_
     refine l_skip (wg rfl rfl rfl) rfl ?_
     refine l_val (wg rfl rfl rfl) (r_pick rfl rfl) rfl ?_
     refine l_val wn (r_pick rfl rfl) rfl ?_
     refine l_nil (e_cut hK9 (sc rfl (sc rfl (sc rfl (sc rfl (sc (jf (fun g => g.elim (fun k => h3 k.1) (fun k => (fun g => h5 g.1) k.2))) sn))))) (fun _ h => h))
   refine c_cond rfl (fun h8 => ?_) (fun h8 => ?_)
   · refine c_seq fun _ hK10 => ?_
     refine c_region ?_
     refine l_val wn (r_assign rfl) rfl ?_
     refine l_nil (e_go hK10 ?_)
     refine c_ret (e_in_r (e_then_r (e_loop1_r (e_in_r (e_then_r (e_ret1 (.inl rfl) Try.results55 (rv_tmp rfl) fun w1 hM => ?_))))))
     exact ret_ok (by unfold Names.named; rw [hI1.2, Names.namedD_step hs1, decide_eq_false (show ¬ Names.fineB k s1 from by unfold Names.fineB; omega)]; simp) hM
   refine c_skip (e_in_n (e_go hK6 ?_))
   refine c_region ?_
   refine l_val wn (r_addn rfl rfl (by omega)) rfl ?_
   refine l_val wn (r_move rfl) rfl ?_
   refine l_nil (e_round1 (k + 1) (sc rfl (sc rfl (sc rfl (sc (ji (by omega)) sn)))) (fun _ h => h) ?_ ?_)
   · exact ⟨by omega, by rw [hI1.2, Names.namedD_step hs1, decide_eq_true (show Names.fineB k s1 from by unfold Names.fineB; omega), Bool.true_and]⟩
   omega
 refine c_exit (e_then_x (e_loop1_x (e_in_hit (e_go hK2 ?_))))
 refine c_seq fun _ hK11 => ?_
 refine c_region ?_
 refine l_val wn (r_move rfl) rfl ?_
 refine l_val wn (r_slen rfl Try.underlying9) rfl ?_
 refine l_val wn (r_gtr rfl rfl) rfl ?_
 refine l_val wn (r_move rfl) rfl ?_
 refine l_case (t := 46) rfl (fun h9 => ?_) (fun h9 => ?_)
 · refine l_val (wg rfl rfl rfl) (r_move rfl) rfl ?_
   refine l_val (wg rfl rfl rfl) (r_slen rfl Try.underlying9) rfl ?_
   refine l_val (wg rfl rfl rfl) (r_leq rfl rfl) rfl ?_
   refine l_val wn (r_pick rfl rfl) rfl ?_
   refine l_val wn (r_assign rfl) rfl ?_
   refine l_nil (e_go hK11 ?_)
   refine c_ret (e_ret1 (.inl rfl) Try.results55 (rv_tmp rfl) fun w1 hM => ?_)
   exact ret_ok (by unfold Names.named; rw [hI1.2, Names.namedD_end (by omega), decide_eq_true (show 1 ≤ s.size by omega)]; simp only [Bool.true_and, Bool.and_true]; congr 1; exact decide_eq_decide.2 (by omega)) hM
 refine l_skip (wg rfl rfl rfl) rfl ?_
 refine l_skip (wg rfl rfl rfl) rfl ?_
 refine l_skip (wg rfl rfl rfl) rfl ?_
 refine l_val wn (r_pick rfl rfl) rfl ?_
 refine l_val wn (r_assign rfl) rfl ?_
 refine l_nil (e_go hK11 ?_)
 refine c_ret (e_ret1 (.inl rfl) Try.results55 (rv_tmp rfl) fun w1 hM => ?_)
 exact ret_ok (by unfold Names.named; rw [decide_eq_false (show ¬ 1 ≤ s.size by omega)]; rfl) hM

theorem c_refWrongSeries (lv : Value) (l : List Label) (w : World) (hl : FlatSl (In w) 2 labelE lv l w) (hok : ∀ x ∈ l, x.key.size ≤ 9223372036854775807 ∧ x.val.size ≤ 9223372036854775807) :
    Calls Try.prog 33 #[lv] w (Ret w (.int .i64 (Names.wrong l))) := by
 obtain ⟨lA, lc, rfl, hlc, hlm, hlA⟩ := hl.form
 refine fstart (N := 39) (vals := [.slice lA l.length lc]) (S := Mem w no [slO (In w) 2 labelE (.slice lA l.length lc) l]) Try.func33 rfl rfl rfl (Mem.ofDats (dc (dl hl) dn)) ?_
 refine c_seq fun _ hK1 => ?_
 refine c_region ?_
 refine l_val wn (r_assign rfl) rfl ?_
 refine l_nil (e_go hK1 ?_)
 refine c_seq fun _ hK2 => ?_
 refine c_seq fun _ hK3 => ?_
 refine c_region ?_
 refine l_val wn (r_move rfl) rfl ?_
 refine l_val wn (r_len rfl Try.underlying42) rfl ?_
 refine l_val wn (r_gtr rfl rfl) rfl ?_
 refine l_nil (e_go hK3 ?_)
 refine c_cond rfl (fun h1 => ?_) (fun h1 => ?_)
 · refine c_seq fun _ hK4 => ?_
   refine c_region ?_
   refine l_val wn (r_assign rfl) rfl ?_
   refine l_nil (e_go hK4 ?_)
   refine c_ret (e_then_r (e_ret1 (.inl rfl) Try.results33 (rv_tmp rfl) fun w1 hM => ?_))
   exact ret_ok (by rw [Names.wrong, if_pos (by omega)]) hM
 refine c_skip (e_go hK2 ?_)
 refine c_seq fun _ hK5 => ?_
 refine c_seq fun _ hK6 => ?_
 refine c_region ?_
 refine l_val wn (r_move rfl) rfl ?_
 refine l_val wn (r_len rfl Try.underlying42) rfl ?_
 refine l_val wn (r_move rfl) rfl ?_
 refine l_nil (e_go hK6 ?_)
 refine c_block ?_
 refine c_loop1 (fun (k : Nat) => [(0, .slice lA l.length lc), (8, .slice lA l.length lc), (9, .int .i64 (l.length : Int)), (10, .int .i64 (k : Int))]) (fun (k : Nat) => [slO (In w) 2 labelE (.slice lA l.length lc) l]) (fun (k : Nat) => k ≤ l.length ∧ Names.wrongFrom none l = Names.wrongFrom (Names.prevOf l k) (l.drop k)) (fun (k : Nat) => l.length - k) 0 (sc rfl (sc rfl (sc rfl (sc (ji (by omega)) sn)))) (fun _ h => h) ?_ (fun k hI1 => ?_)
 · exact ⟨by omega, Names.wrong_start l⟩
 refine c_seq fun _ hK7 => ?_
 refine c_region ?_
 refine l_val wn (r_lss rfl rfl) rfl ?_
 refine l_nil (e_go hK7 ?_)
 refine c_seq fun _ hK8 => ?_
 refine c_cond rfl (fun h2 => ?_) (fun h2 => ?_)
 · refine c_skip (e_go hK8 ?_)
   refine c_seq fun _ hK9 => ?_
   refine c_block ?_
   refine c_seq fun _ hK10 => ?_
   refine c_region ?_
   refine l_val wn (r_move rfl) rfl ?_
   obtain ⟨ad1, hd1⟩ := hlA (ne_nil (i := k) (by first | omega | decide | (simp only [List.length_cons, List.length_nil, List.length_append, List.length_take, List.length_set]; omega)))
   refine l_val wn (r_ia (i := k) rfl hd1 rfl (by omega) (by first | omega | decide | (simp only [List.length_cons, List.length_nil, List.length_append, List.length_take, List.length_set]; omega)) Try.underlying42 inf51) rfl ?_
   obtain ⟨s1, hs1⟩ : ∃ x, l[k]? = some x := ⟨_, List.getElem?_eq_getElem (by first | omega | decide | (simp only [List.length_cons, List.length_nil, List.length_append, List.length_take, List.length_set]; omega))⟩
   refine l_val wn (r_eln 0 [.string s1.key, .string s1.val] rfl rfl hd1 hs1 rfl rfl agg51 inf51) rfl ?_
   refine l_alloc wn inf51 rfl fun b4 => ?_
   refine l_val wn (r_assign rfl) rfl ?_
   refine l_stn 0 wn rfl rfl rfl inf51 rfl rfl rfl ?_
   refine l_nil (e_go hK10 ?_)
   refine c_seq fun _ hK11 => ?_
   refine c_cut [(0, .slice lA l.length lc), (3, .int .i64 (k : Int)), (4, .pointer (some ⟨b4, 0, none⟩)), (8, .slice lA l.length lc), (9, .int .i64 (l.length : Int)), (10, .int .i64 (k : Int)), (24, .bool (decide (((!(Names.named s1.key)) = true) ∨ ((!(Names.named s1.val)) = true))))] (Mem w no [.blk b4 [.string s1.key, .string s1.val] 51, slO (In w) 2 labelE (.slice lA l.length lc) l]) (fun _ hK12 => ?_) ?_
   · refine c_region ?_
     refine l_val wn (r_fa rfl fld51_0) rfl ?_
     refine l_val wn (r_lb 0 rfl rfl rfl flat9) rfl ?_
     refine l_callF wn rfl Try.call55 rfl (fun w1 hM => c_refNamed s1.key w1 (by first | assumption | omega | exact (hok _ (List.mem_of_getElem? hs1)).1 | exact (hok _ (List.mem_of_getElem? hs1)).2)) ?_
     refine l_val wn (r_notb rfl) rfl ?_
     refine l_val wn (r_move rfl) rfl ?_
     refine l_caseb (t := 19) rfl (fun h3 => ?_) (fun h3 => ?_)
     · refine l_skip (wg rfl rfl rfl) rfl ?_
       refine l_skip (wg rfl rfl rfl) rfl ?_
       refine l_skip (wg rfl rfl rfl) rfl ?_
       refine l_skip (wg rfl rfl rfl) rfl ?_
       refine l_val wn (r_pick rfl rfl) rfl ?_
       refine l_nil (e_cut hK12 (sc rfl (sc rfl (sc rfl (sc rfl (sc rfl (sc rfl (sc (jt (Or.inl h3)) sn))))))) (fun _ h => h))
     refine l_val (wg rfl rfl rfl) (r_fa rfl fld51_1) rfl ?_
     refine l_val (wg rfl rfl rfl) (r_lb 0 rfl rfl rfl flat9) rfl ?_
     refine l_callF (wg rfl rfl rfl) rfl Try.call55 rfl (fun w1 hM => c_refNamed s1.val w1 (by first | assumption | omega | exact (hok _ (List.mem_of_getElem? hs1)).1 | exact (hok _ (List.mem_of_getElem? hs1)).2)) ?_
     refine l_val (wg rfl rfl rfl) (r_notb rfl) rfl ?_
     refine l_val wn (r_pick rfl rfl) rfl ?_
     refine l_nil (e_cut hK12 (sc rfl (sc rfl (sc rfl (sc rfl (sc rfl (sc rfl (sc (jpb (iff_or_right h3 Iff.rfl)) sn))))))) (fun _ h => h))
   refine c_cond rfl (fun h4 => ?_) (fun h4 => ?_)
   · refine c_seq fun _ hK13 => ?_
     refine c_region ?_
     refine l_val wn (r_assign rfl) rfl ?_
     refine l_nil (e_go hK13 ?_)
     refine c_ret (e_then_r (e_in_r (e_then_r (e_loop1_r (e_in_r (e_then_r (e_ret1 (.inl rfl) Try.results33 (rv_tmp rfl) fun w1 hM => ?_)))))))
     exact ret_ok (by rw [Names.wrong, if_neg (by omega), hI1.2, Names.wrong_step hs1, if_pos h4]) hM
   refine c_skip (e_go hK11 ?_)
   refine c_seq fun _ hK14 => ?_
   refine c_quiet mix (by kernel_rfl) (fun _ h => h.drew) ?_
   refine q_val wn (r_move rfl) rfl ?_
   refine q_val wn (r_gtr rfl rfl) rfl ?_
   refine q_val wn (r_move rfl) rfl ?_
   refine q_case (t := 27) rfl (fun h5 => ?_) (fun h5 => ?_)
   · refine q_val (wg rfl rfl rfl) (r_fa rfl fld51_0) rfl ?_
     refine q_val (wg rfl rfl rfl) (r_lb 0 rfl rfl rfl flat9) rfl ?_
     refine q_val (wg rfl rfl rfl) (r_move rfl) rfl ?_
     refine q_val (wg rfl rfl rfl) (r_move rfl) rfl ?_
     refine q_val (wg rfl rfl rfl) (r_subn rfl rfl (by omega)) rfl ?_
     refine q_val (wg rfl rfl rfl) (r_ia (i := (k - 1)) rfl hd1 rfl (by omega) (by first | omega | decide | (simp only [List.length_cons, List.length_nil, List.length_append, List.length_take, List.length_set]; omega)) Try.underlying42 inf51) rfl ?_
     refine q_val (wg rfl rfl rfl) (r_fe rfl fld51_0) rfl ?_
     obtain ⟨s2, hs2⟩ : ∃ x, l[(k - 1)]? = some x := ⟨_, List.getElem?_eq_getElem (by first | omega | decide | (simp only [List.length_cons, List.length_nil, List.length_append, List.length_take, List.length_set]; omega))⟩
     refine q_val (wg rfl rfl rfl) (r_el 1 rfl rfl hd1 hs2 rfl flat9) rfl ?_
     refine q_val (wg rfl rfl rfl) (r_sleq' rfl rfl) rfl ?_
     refine q_val wn (r_pick rfl rfl) rfl ?_
     refine q_end (e_go hK14 ?_)
     refine c_condb rfl (fun h6 => ?_) (fun h6 => ?_)
     · refine c_seq fun _ hK15 => ?_
       refine c_region ?_
       refine l_val wn (r_assign rfl) rfl ?_
       refine l_nil (e_go hK15 ?_)
       refine c_ret (e_in_r (e_then_r (e_loop1_r (e_in_r (e_then_r (e_ret1 (.inl rfl) Try.results33 (rv_tmp rfl) fun w1 hM => ?_))))))
       exact ret_ok (by rw [Names.wrong, if_neg (by omega), hI1.2, Names.wrong_step hs1, if_neg h4, if_pos (by rw [Names.prevOf, if_neg (by omega), hs2]; simpa [Names.behind] using h6)]) hM
     refine c_skip (e_in_n (e_go hK9 ?_))
     refine c_region ?_
     refine l_val wn (r_addn rfl rfl (by omega)) rfl ?_
     refine l_val wn (r_move rfl) rfl ?_
     refine l_nil (e_round1 (k + 1) (sc rfl (sc rfl (sc rfl (sc (ji (by omega)) sn)))) (fun _ h => (h.sel [1] (by decide) rfl)) ?_ ?_)
     · exact ⟨by omega, by rw [hI1.2, Names.wrong_step hs1, if_neg h4, if_neg (by rw [Names.prevOf, if_neg (by omega), hs2]; simpa [Names.behind] using h6)]⟩
     omega
   refine q_skip (wg rfl rfl rfl) rfl ?_
   refine q_skip (wg rfl rfl rfl) rfl ?_
   refine q_skip (wg rfl rfl rfl) rfl ?_
   refine q_skip (wg rfl rfl rfl) rfl ?_
   refine q_skip (wg rfl rfl rfl) rfl ?_
   refine q_skip (wg rfl rfl rfl) rfl ?_
   refine q_skip (wg rfl rfl rfl) rfl ?_
   refine q_skip (wg rfl rfl rfl) rfl ?_
   refine q_skip (wg rfl rfl rfl) rfl ?_
   refine q_val wn (r_pick rfl rfl) rfl ?_
   refine q_end (e_go hK14 ?_)
   refine c_false rfl rfl ?_
   refine c_skip (e_in_n (e_go hK9 ?_))
   refine c_region ?_
   refine l_val wn (r_addn rfl rfl (by omega)) rfl ?_
   refine l_val wn (r_move rfl) rfl ?_
   refine l_nil (e_round1 (k + 1) (sc rfl (sc rfl (sc rfl (sc (ji (by omega)) sn)))) (fun _ h => (h.sel [1] (by decide) rfl)) ?_ ?_)
   · exact ⟨by omega, by rw [hI1.2, Names.wrong_step hs1, if_neg h4, if_neg (by rw [Names.prevOf, if_pos (by omega)]; simp [Names.behind])]⟩
   omega
 refine c_exit (e_then_x (e_loop1_x (e_in_hit (e_go hK5 ?_))))
 refine c_seq fun _ hK16 => ?_
 refine c_region ?_
 refine l_val wn (r_assign rfl) rfl ?_
 refine l_nil (e_go hK16 ?_)
 refine c_ret (e_ret1 (.inl rfl) Try.results33 (rv_tmp rfl) fun w1 hM => ?_)
 exact ret_ok (by rw [Names.wrong, if_neg (by omega), hI1.2, Names.wrong_end (by omega)]) hM

theorem c_refCompare (av : Value) (a : List Label) (bv : Value) (b : List Label) (w : World) (ha : FlatSl (In w) 2 labelE av a w) (hb : FlatSl (In w) 2 labelE bv b w)  :
    Calls Try.prog 35 #[av, bv] w (Ret w (.int .i64 (Names.compare a b))) := by
 obtain ⟨aA, ac, rfl, hac, ham, haA⟩ := ha.form
 obtain ⟨bA, bc, rfl, hbc, hbm, hbA⟩ := hb.form
 refine fstart (N := 62) (vals := [.slice aA a.length ac, .slice bA b.length bc]) (S := Mem w no [slO (In w) 2 labelE (.slice aA a.length ac) a, slO (In w) 2 labelE (.slice bA b.length bc) b]) Try.func35 rfl rfl rfl (Mem.ofDats (dc (dl ha) (dc (dl hb) dn))) ?_
 refine c_seq fun _ hK1 => ?_
 refine c_region ?_
 refine l_val wn (r_assign rfl) rfl ?_
 refine l_nil (e_go hK1 ?_)
 refine c_seq fun _ hK2 => ?_
 refine c_seq fun _ hK3 => ?_
 refine c_region ?_
 refine l_val wn (r_move rfl) rfl ?_
 refine l_val wn (r_len rfl Try.underlying42) rfl ?_
 refine l_val wn (r_move rfl) rfl ?_
 refine l_nil (e_go hK3 ?_)
 refine c_block ?_
 refine c_loop1 (fun (k : Nat) => [(0, .slice aA a.length ac), (1, .slice bA b.length bc), (9, .int .i64 (a.length : Int)), (10, .int .i64 (k : Int))]) (fun (k : Nat) => [slO (In w) 2 labelE (.slice aA a.length ac) a, slO (In w) 2 labelE (.slice bA b.length bc) b]) (fun (k : Nat) => k ≤ a.length ∧ Names.compare a b = Names.compare (a.drop k) (b.drop k)) (fun (k : Nat) => a.length - k) 0 (sc rfl (sc rfl (sc rfl (sc (ji (by omega)) sn)))) (fun _ h => h) ?_ (fun k hI1 => ?_)
 · simp
 refine c_seq fun _ hK4 => ?_
 refine c_region ?_
 refine l_val wn (r_lss rfl rfl) rfl ?_
 refine l_nil (e_go hK4 ?_)
 refine c_seq fun _ hK5 => ?_
 refine c_cond rfl (fun h1 => ?_) (fun h1 => ?_)
 · refine c_skip (e_go hK5 ?_)
   refine c_seq fun _ hK6 => ?_
   refine c_block ?_
   refine c_seq fun _ hK7 => ?_
   refine c_region ?_
   refine l_val wn (r_move rfl) rfl ?_
   refine l_val wn (r_assign rfl) rfl ?_
   refine l_nil (e_go hK7 ?_)
   refine c_seq fun _ hK8 => ?_
   refine c_seq fun _ hK9 => ?_
   refine c_region ?_
   refine l_val wn (r_move rfl) rfl ?_
   refine l_val wn (r_move rfl) rfl ?_
   refine l_val wn (r_len rfl Try.underlying42) rfl ?_
   refine l_val wn (r_geq rfl rfl) rfl ?_
   refine l_nil (e_go hK9 ?_)
   refine c_cond rfl (fun h2 => ?_) (fun h2 => ?_)
   · refine c_seq fun _ hK10 => ?_
     refine c_region ?_
     refine l_val wn (r_assign rfl) rfl ?_
     refine l_nil (e_go hK10 ?_)
     refine c_ret (e_then_r (e_in_r (e_then_r (e_loop1_r (e_in_r (e_then_r (e_ret1 (.inl rfl) Try.results35 (rv_tmp rfl) fun w1 hM => ?_)))))))
     obtain ⟨x, hx⟩ : ∃ x, a[k]? = some x := ⟨_, List.getElem?_eq_getElem (by omega)⟩
     exact ret_ok (by rw [hI1.2, Names.compare_over hx (by omega)]) hM
   refine c_skip (e_go hK8 ?_)
   refine c_seq fun _ hK11 => ?_
   refine c_nodes (Mem w no [slO (In w) 2 labelE (.slice aA a.length ac) a, slO (In w) 2 labelE (.slice bA b.length bc) b]) mix (fun _ h => h.drew) rfl ?_
   refine n_run (f := 2) [0, 1, 2, 3, 4, 5, 6, 7, 8, 9, 10, 11, 12, 13, 14, 15, 16, 17, 18, 19, 20, 21, 24] rfl rfl (by kernel_rfl) (by kernel_rfl) (fun _ h => h) fun KS hKS => ?_
   refine s_val wn (r_move rfl) rfl ?_
   refine s_val wn (r_move rfl) rfl ?_
   obtain ⟨ad1, hd1⟩ := haA (ne_nil (i := k) (by first | omega | decide | (simp only [List.length_cons, List.length_nil, List.length_append, List.length_take, List.length_set]; omega)))
   refine s_val wn (r_ia (i := k) rfl hd1 rfl (by omega) (by first | omega | decide | (simp only [List.length_cons, List.length_nil, List.length_append, List.length_take, List.length_set]; omega)) Try.underlying42 inf51) rfl ?_
   refine s_val wn (r_fe rfl fld51_0) rfl ?_
   obtain ⟨s1, hs1⟩ : ∃ x, a[k]? = some x := ⟨_, List.getElem?_eq_getElem (by first | omega | decide | (simp only [List.length_cons, List.length_nil, List.length_append, List.length_take, List.length_set]; omega))⟩
   refine s_val wn (r_el 0 rfl rfl hd1 hs1 rfl flat9) rfl ?_
   refine s_val wn (r_move rfl) rfl ?_
   refine s_val wn (r_move rfl) rfl ?_
   obtain ⟨ad2, hd2⟩ := hbA (ne_nil (i := k) (by first | omega | decide | (simp only [List.length_cons, List.length_nil, List.length_append, List.length_take, List.length_set]; omega)))
   refine s_val wn (r_ia (i := k) rfl hd2 rfl (by omega) (by first | omega | decide | (simp only [List.length_cons, List.length_nil, List.length_append, List.length_take, List.length_set]; omega)) Try.underlying42 inf51) rfl ?_
   refine s_val wn (r_fe rfl fld51_0) rfl ?_
   obtain ⟨s2, hs2⟩ : ∃ x, b[k]? = some x := ⟨_, List.getElem?_eq_getElem (by first | omega | decide | (simp only [List.length_cons, List.length_nil, List.length_append, List.length_take, List.length_set]; omega))⟩
   refine s_val wn (r_el 1 rfl rfl hd2 hs2 rfl flat9) rfl ?_
   refine s_val wn (r_buildA [.string s1.key, .string s2.key] Try.underlying102 inf102 inf9 rfl rfl rfl) rfl ?_
   refine s_val wn (r_move rfl) rfl ?_
   refine s_val wn (r_move rfl) rfl ?_
   refine s_val wn (r_ia (i := k) rfl hd1 rfl (by omega) (by first | omega | decide | (simp only [List.length_cons, List.length_nil, List.length_append, List.length_take, List.length_set]; omega)) Try.underlying42 inf51) rfl ?_
   refine s_val wn (r_fe rfl fld51_1) rfl ?_
   refine s_val wn (r_el 0 rfl rfl hd1 hs1 rfl flat9) rfl ?_
   refine s_val wn (r_move rfl) rfl ?_
   refine s_val wn (r_move rfl) rfl ?_
   refine s_val wn (r_ia (i := k) rfl hd2 rfl (by omega) (by first | omega | decide | (simp only [List.length_cons, List.length_nil, List.length_append, List.length_take, List.length_set]; omega)) Try.underlying42 inf51) rfl ?_
   refine s_val wn (r_fe rfl fld51_1) rfl ?_
   refine s_val wn (r_el 1 rfl rfl hd2 hs2 rfl flat9) rfl ?_
   refine s_val wn (r_buildA [.string s1.val, .string s2.val] Try.underlying102 inf102 inf9 rfl rfl rfl) rfl ?_
   refine s_val wn (r_move rfl) rfl ?_
   refine s_end hKS ?_
   refine n_step1 (f := 1) (i := 22) rfl (by kernel_rfl) ?_
   refine n_one (i := 22) rfl fun KN hKN => ?_
   refine l_bsL pair2E ([(⟨s1.key, s2.key⟩ : Pair2), (⟨s1.val, s2.val⟩ : Pair2)] : List Pair2) wn Try.underlying103 inf102 rfl rfl rfl rfl (by decide) (by decide) rfl fun b39 => ?_
   refine l_nil (hKN _ _ (fun _ h => (h.sel [1, 2] (by decide) rfl)) ?_)
   refine n_run (f := 0) [23] rfl rfl (by kernel_rfl) (by kernel_rfl) (fun _ h => (h.sel [1, 2] (by decide) rfl)) fun KS hKS => ?_
   refine s_val wn (r_len rfl Try.underlying103) rfl ?_
   refine s_end hKS ?_
   refine n_done (by kernel_rfl) (e_go hK11 ?_)
   refine c_block ?_
   refine c_loop1 (fun (j : Nat) => [(0, .slice aA a.length ac), (1, .slice bA b.length bc), (9, .int .i64 (a.length : Int)), (10, .int .i64 (k : Int)), (39, .slice (some ⟨b39, 0, none⟩) 2 2), (40, .int .i64 2), (41, .int .i64 (j : Int))]) (fun (j : Nat) => [Row (.slice (some ⟨b39, 0, none⟩) 2 2) 102 2 pair2E ([(⟨s1.key, s2.key⟩ : Pair2), (⟨s1.val, s2.val⟩ : Pair2)] : List Pair2), slO (In w) 2 labelE (.slice aA a.length ac) a, slO (In w) 2 labelE (.slice bA b.length bc) b]) (fun (j : Nat) => j ≤ 2 ∧ Names.cmpL s1 s2 = Names.cmpFrom s1 s2 j) (fun (j : Nat) => 2 - j) 0 (sc rfl (sc rfl (sc rfl (sc rfl (sc rfl (sc rfl (sc (ji (by omega)) sn))))))) (fun _ h => h) ?_ (fun j hI2 => ?_)
   · exact ⟨by omega, Names.cmpFrom_zero _ _⟩
   refine c_seq fun _ hK12 => ?_
   refine c_region ?_
   refine l_val wn (r_lss rfl rfl) rfl ?_
   refine l_nil (e_go hK12 ?_)
   refine c_seq fun _ hK13 => ?_
   refine c_cond rfl (fun h3 => ?_) (fun h3 => ?_)
   · refine c_skip (e_go hK13 ?_)
     refine c_seq fun _ hK14 => ?_
     refine c_block ?_
     refine c_seq fun _ hK15 => ?_
     refine c_region ?_
     refine l_val wn (r_ia (i := j) rfl rfl rfl (by omega) (by first | omega | decide | (simp only [List.length_cons, List.length_nil, List.length_append, List.length_take, List.length_set]; omega)) Try.underlying103 inf102) rfl ?_
     obtain ⟨s3, hs3⟩ : ∃ x, ([(⟨s1.key, s2.key⟩ : Pair2), (⟨s1.val, s2.val⟩ : Pair2)] : List Pair2)[j]? = some x := ⟨_, List.getElem?_eq_getElem (by first | omega | decide | (simp only [List.length_cons, List.length_nil, List.length_append, List.length_take, List.length_set]; omega))⟩
     refine l_val wn (r_rln 0 [.string s3.fst, .string s3.snd] encPair2 rfl rfl rfl hs3 rfl rfl agg102 inf102) rfl ?_
     refine l_alloc wn inf102 rfl fun b7 => ?_
     refine l_stn 0 wn rfl rfl rfl inf102 rfl rfl rfl ?_
     refine l_nil (e_go hK15 ?_)
     refine c_seq fun _ hK16 => ?_
     refine c_seq fun _ hK17 => ?_
     refine c_region ?_
     refine l_val wn (r_ib (i := 0) rfl rfl (by omega) (by omega) Try.underlying102 inf9) rfl ?_
     refine l_val wn (r_lb 0 rfl rfl rfl flat9) rfl ?_
     refine l_val wn (r_ib (i := 1) rfl rfl (by omega) (by omega) Try.underlying102 inf9) rfl ?_
     refine l_val wn (r_lb 0 rfl rfl rfl flat9) rfl ?_
     refine l_val wn (r_slss' rfl rfl) rfl ?_
     refine l_nil (e_go hK17 ?_)
     refine c_condb rfl (fun h4 => ?_) (fun h4 => ?_)
     · refine c_seq fun _ hK18 => ?_
       refine c_region ?_
       refine l_val wn (r_assign rfl) rfl ?_
       refine l_nil (e_go hK18 ?_)
       refine c_ret (e_then_r (e_in_r (e_then_r (e_loop1_r (e_in_r (e_in_r (e_then_r (e_loop1_r (e_in_r (e_then_r (e_ret1 (.inl rfl) Try.results35 (rv_tmp rfl) fun w1 hM => ?_)))))))))))
       have hz := Names.cmpS_lt h4
       have hc : Names.cmpL s1 s2 = -1 := by rw [hI2.2, Names.cmpFrom_step hs3, hz]; rfl
       exact ret_ok (by rw [hI1.2, Names.compare_step hs1 hs2, hc]; rfl) hM
     refine c_skip (e_go hK16 ?_)
     refine c_seq fun _ hK19 => ?_
     refine c_region ?_
     refine l_val wn (r_ib (i := 0) rfl rfl (by omega) (by omega) Try.underlying102 inf9) rfl ?_
     refine l_val wn (r_lb 0 rfl rfl rfl flat9) rfl ?_
     refine l_val wn (r_ib (i := 1) rfl rfl (by omega) (by omega) Try.underlying102 inf9) rfl ?_
     refine l_val wn (r_lb 0 rfl rfl rfl flat9) rfl ?_
     refine l_val wn (r_sgtr' rfl rfl) rfl ?_
     refine l_nil (e_go hK19 ?_)
     refine c_condb rfl (fun h5 => ?_) (fun h5 => ?_)
     · refine c_seq fun _ hK20 => ?_
       refine c_region ?_
       refine l_val wn (r_assign rfl) rfl ?_
       refine l_nil (e_go hK20 ?_)
       refine c_ret (e_in_r (e_then_r (e_loop1_r (e_in_r (e_in_r (e_then_r (e_loop1_r (e_in_r (e_then_r (e_ret1 (.inl rfl) Try.results35 (rv_tmp rfl) fun w1 hM => ?_))))))))))
       have hz := Names.cmpS_gt h4 h5
       have hc : Names.cmpL s1 s2 = 1 := by rw [hI2.2, Names.cmpFrom_step hs3, hz]; rfl
       exact ret_ok (by rw [hI1.2, Names.compare_step hs1 hs2, hc]; rfl) hM
     refine c_skip (e_in_n (e_go hK14 ?_))
     refine c_region ?_
     refine l_val wn (r_addn rfl rfl (by omega)) rfl ?_
     refine l_val wn (r_move rfl) rfl ?_
     refine l_nil (e_round1 (j + 1) (sc rfl (sc rfl (sc rfl (sc rfl (sc rfl (sc rfl (sc (ji (by omega)) sn))))))) (fun _ h => (h.sel [1, 2, 3] (by decide) rfl)) ?_ ?_)
     · exact ⟨by omega, by rw [hI2.2, Names.cmpFrom_step hs3, if_neg (by rw [Names.cmpS_eq h4 h5]; simp)]⟩
     omega
   refine c_exit (e_then_x (e_loop1_x (e_in_hit (e_in_n (e_go hK6 ?_)))))
   refine c_region ?_
   refine l_val wn (r_addn rfl rfl (by omega)) rfl ?_
   refine l_val wn (r_move rfl) rfl ?_
   refine l_nil (e_round1 (k + 1) (sc rfl (sc rfl (sc rfl (sc (ji (by omega)) sn)))) (fun _ h => (h.sel [1, 2] (by decide) rfl)) ?_ ?_)
   · exact ⟨by omega, by rw [hI1.2, Names.compare_step hs1 hs2, if_neg (by rw [hI2.2, Names.cmpFrom_end (by omega)]; simp)]⟩
   omega
 refine c_exit (e_then_x (e_loop1_x (e_in_hit (e_go hK2 ?_))))
 refine c_seq fun _ hK21 => ?_
 refine c_seq fun _ hK22 => ?_
 refine c_region ?_
 refine l_val wn (r_move rfl) rfl ?_
 refine l_val wn (r_len rfl Try.underlying42) rfl ?_
 refine l_val wn (r_move rfl) rfl ?_
 refine l_val wn (r_len rfl Try.underlying42) rfl ?_
 refine l_val wn (r_lss rfl rfl) rfl ?_
 refine l_nil (e_go hK22 ?_)
 refine c_cond rfl (fun h6 => ?_) (fun h6 => ?_)
 · refine c_seq fun _ hK23 => ?_
   refine c_region ?_
   refine l_val wn (r_assign rfl) rfl ?_
   refine l_nil (e_go hK23 ?_)
   refine c_ret (e_then_r (e_ret1 (.inl rfl) Try.results35 (rv_tmp rfl) fun w1 hM => ?_))
   exact ret_ok (by rw [hI1.2, Names.compare_end (by omega) (by omega), if_pos (by omega)]) hM
 refine c_skip (e_go hK21 ?_)
 refine c_seq fun _ hK24 => ?_
 refine c_region ?_
 refine l_val wn (r_assign rfl) rfl ?_
 refine l_nil (e_go hK24 ?_)
 refine c_ret (e_ret1 (.inl rfl) Try.results35 (rv_tmp rfl) fun w1 hM => ?_)
 exact ret_ok (by rw [hI1.2, Names.compare_end (by omega) (by omega), if_neg (by omega)]) hM

theorem c_refMatches (rv : Value) (r : List Label) (lv : Value) (l : List Match) (w : World) (hr : FlatSl (In w) 2 labelE rv r w) (hl : FlatSl (In w) 3 matchE lv l w)  :
    Calls Try.prog 27 #[rv, lv] w (Ret w (.bool (Names.matches_ r l))) := by
 obtain ⟨rA, rc, rfl, hrc, hrm, hrA⟩ := hr.form
 obtain ⟨lA, lc, rfl, hlc, hlm, hlA⟩ := hl.form
 refine fstart (N := 79) (vals := [.slice rA r.length rc, .slice lA l.length lc]) (S := Mem w no [slO (In w) 2 labelE (.slice rA r.length rc) r, slO (In w) 3 matchE (.slice lA l.length lc) l]) Try.func27 rfl rfl rfl (Mem.ofDats (dc (dl hr) (dc (dl hl) dn))) ?_
 refine c_seq fun _ hK1 => ?_
 refine c_region ?_
 refine l_val wn (r_assign rfl) rfl ?_
 refine l_nil (e_go hK1 ?_)
 refine c_seq fun _ hK2 => ?_
 refine c_seq fun _ hK3 => ?_
 refine c_region ?_
 refine l_val wn (r_move rfl) rfl ?_
 refine l_val wn (r_len rfl Try.underlying23) rfl ?_
 refine l_val wn (r_move rfl) rfl ?_
 refine l_nil (e_go hK3 ?_)
 refine c_block ?_
 refine c_loop1 (fun (k : Nat) => [(0, .slice rA r.length rc), (10, .slice lA l.length lc), (11, .int .i64 (l.length : Int)), (12, .int .i64 (k : Int))]) (fun (k : Nat) => [slO (In w) 2 labelE (.slice rA r.length rc) r, slO (In w) 3 matchE (.slice lA l.length lc) l]) (fun (k : Nat) => k ≤ l.length ∧ ∀ x ∈ l.take k, Names.match1 r x = true) (fun (k : Nat) => l.length - k) 0 (sc rfl (sc rfl (sc rfl (sc (ji (by omega)) sn)))) (fun _ h => h) ?_ (fun k hI1 => ?_)
 · simp
 refine c_seq fun _ hK4 => ?_
 refine c_region ?_
 refine l_val wn (r_lss rfl rfl) rfl ?_
 refine l_nil (e_go hK4 ?_)
 refine c_seq fun _ hK5 => ?_
 refine c_cond rfl (fun h1 => ?_) (fun h1 => ?_)
 · refine c_skip (e_go hK5 ?_)
   refine c_seq fun _ hK6 => ?_
   refine c_block ?_
   refine c_seq fun _ hK7 => ?_
   refine c_region ?_
   obtain ⟨ad1, hd1⟩ := hlA (ne_nil (i := k) (by first | omega | decide | (simp only [List.length_cons, List.length_nil, List.length_append, List.length_take, List.length_set]; omega)))
   refine l_val wn (r_ia (i := k) rfl hd1 rfl (by omega) (by first | omega | decide | (simp only [List.length_cons, List.length_nil, List.length_append, List.length_take, List.length_set]; omega)) Try.underlying23 inf85) rfl ?_
   obtain ⟨s1, hs1⟩ : ∃ x, l[k]? = some x := ⟨_, List.getElem?_eq_getElem (by first | omega | decide | (simp only [List.length_cons, List.length_nil, List.length_append, List.length_take, List.length_set]; omega))⟩
   refine l_val wn (r_eln 1 [.int .i64 s1.kind, .string s1.key, .string s1.val] rfl rfl hd1 hs1 rfl rfl agg85 inf85) rfl ?_
   refine l_alloc wn inf85 rfl fun b6 => ?_
   refine l_stn 0 wn rfl rfl rfl inf85 rfl rfl rfl ?_
   refine l_nil (e_go hK7 ?_)
   refine c_seq fun _ hK8 => ?_
   refine c_region ?_
   refine l_val wn (r_assign rfl) rfl ?_
   refine l_val wn (r_assign rfl) rfl ?_
   refine l_nil (e_go hK8 ?_)
   refine c_seq fun _ hK9 => ?_
   refine c_seq fun _ hK10 => ?_
   refine c_region ?_
   refine l_val wn (r_move rfl) rfl ?_
   refine l_val wn (r_len rfl Try.underlying42) rfl ?_
   refine l_val wn (r_subn rfl rfl (by omega)) rfl ?_
   refine l_val wn (r_assign rfl) rfl ?_
   refine l_nil (e_go hK10 ?_)
   refine c_block ?_
   refine c_loop1 (fun (j : Nat) => [(0, .slice rA r.length rc), (6, .pointer (some ⟨b6, 0, none⟩)), (7, .string ((Names.get (r.drop j) s1.key).1)), (8, .bool ((Names.get (r.drop j) s1.key).2)), (9, .int .i64 ((j : Int) - 1)), (10, .slice lA l.length lc), (11, .int .i64 (l.length : Int)), (12, .int .i64 (k : Int))]) (fun (j : Nat) => [.blk b6 [.int .i64 s1.kind, .string s1.key, .string s1.val] 85, slO (In w) 2 labelE (.slice rA r.length rc) r, slO (In w) 3 matchE (.slice lA l.length lc) l]) (fun (j : Nat) => j ≤ r.length) (fun (j : Nat) => j) r.length (sc rfl (sc rfl (sc (jv (by first | (show Value.string _ = Value.string (Names.get (r.drop r.length) s1.key).1; rw [List.drop_length]; rfl) | (show Value.bool _ = Value.bool (Names.get (r.drop r.length) s1.key).2; rw [List.drop_length]; rfl) | (simp only [Names.get_step hs2, if_pos (by assumption : s2.key = s1.key)]) | (simp only [Names.get_step hs2, if_neg (by assumption : ¬ s2.key = s1.key), show j - 1 + 1 = j from by omega]))) (sc (jv (by first | (show Value.string _ = Value.string (Names.get (r.drop r.length) s1.key).1; rw [List.drop_length]; rfl) | (show Value.bool _ = Value.bool (Names.get (r.drop r.length) s1.key).2; rw [List.drop_length]; rfl) | (simp only [Names.get_step hs2, if_pos (by assumption : s2.key = s1.key)]) | (simp only [Names.get_step hs2, if_neg (by assumption : ¬ s2.key = s1.key), show j - 1 + 1 = j from by omega]))) (sc rfl (sc rfl (sc rfl (sc rfl sn)))))))) (fun _ h => h) ?_ (fun j hI2 => ?_)
   · omega
   refine c_seq fun _ hK11 => ?_
   refine c_seq fun _ hK12 => ?_
   refine c_region ?_
   refine l_val wn (r_move rfl) rfl ?_
   refine l_val wn (r_geq rfl rfl) rfl ?_
   refine l_nil (e_go hK12 ?_)
   refine c_cond rfl (fun h2 => ?_) (fun h2 => ?_)
   · refine c_skip (e_go hK11 ?_)
     refine c_seq fun _ hK13 => ?_
     refine c_block ?_
     refine c_seq fun _ hK14 => ?_
     refine c_quiet mix (by kernel_rfl) (fun _ h => h.drew) ?_
     refine q_val wn (r_move rfl) rfl ?_
     refine q_val wn (r_move rfl) rfl ?_
     obtain ⟨ad2, hd2⟩ := hrA (ne_nil (i := (j - 1)) (by first | omega | decide | (simp only [List.length_cons, List.length_nil, List.length_append, List.length_take, List.length_set]; omega)))
     refine q_val wn (r_ia (i := (j - 1)) rfl hd2 rfl (by omega) (by first | omega | decide | (simp only [List.length_cons, List.length_nil, List.length_append, List.length_take, List.length_set]; omega)) Try.underlying42 inf51) rfl ?_
     refine q_val wn (r_fe rfl fld51_0) rfl ?_
     obtain ⟨s2, hs2⟩ : ∃ x, r[(j - 1)]? = some x := ⟨_, List.getElem?_eq_getElem (by first | omega | decide | (simp only [List.length_cons, List.length_nil, List.length_append, List.length_take, List.length_set]; omega))⟩
     refine q_val wn (r_el 1 rfl rfl hd2 hs2 rfl flat9) rfl ?_
     refine q_val wn (r_fa rfl fld85_1) rfl ?_
     refine q_val wn (r_lb 0 rfl rfl rfl flat9) rfl ?_
     refine q_val wn (r_seql rfl rfl) rfl ?_
     refine q_end (e_go hK14 ?_)
     refine c_cond rfl (fun h3 => ?_) (fun h3 => ?_)
     · refine c_region ?_
       refine l_val wn (r_move rfl) rfl ?_
       refine l_val wn (r_move rfl) rfl ?_
       refine l_val wn (r_ia (i := (j - 1)) rfl hd2 rfl (by omega) (by first | omega | decide | (simp only [List.length_cons, List.length_nil, List.length_append, List.length_take, List.length_set]; omega)) Try.underlying42 inf51) rfl ?_
       refine l_val wn (r_fe rfl fld51_1) rfl ?_
       refine l_val wn (r_el 1 rfl rfl hd2 hs2 rfl flat9) rfl ?_
       refine l_val wn (r_assign rfl) rfl ?_
       refine l_val wn (r_assign rfl) rfl ?_
       refine l_nil (e_in_n (e_go hK13 ?_))
       refine c_region ?_
       refine l_val wn (r_move rfl) rfl ?_
       refine l_val wn (r_subn rfl rfl (by omega)) rfl ?_
       refine l_val wn (r_assign rfl) rfl ?_
       refine l_nil (e_round1 (j - 1) (sc rfl (sc rfl (sc (jv (by first | (show Value.string _ = Value.string (Names.get (r.drop r.length) s1.key).1; rw [List.drop_length]; rfl) | (show Value.bool _ = Value.bool (Names.get (r.drop r.length) s1.key).2; rw [List.drop_length]; rfl) | (simp only [Names.get_step hs2, if_pos (by assumption : s2.key = s1.key)]) | (simp only [Names.get_step hs2, if_neg (by assumption : ¬ s2.key = s1.key), show j - 1 + 1 = j from by omega]))) (sc (jv (by first | (show Value.string _ = Value.string (Names.get (r.drop r.length) s1.key).1; rw [List.drop_length]; rfl) | (show Value.bool _ = Value.bool (Names.get (r.drop r.length) s1.key).2; rw [List.drop_length]; rfl) | (simp only [Names.get_step hs2, if_pos (by assumption : s2.key = s1.key)]) | (simp only [Names.get_step hs2, if_neg (by assumption : ¬ s2.key = s1.key), show j - 1 + 1 = j from by omega]))) (sc (ji (by omega)) (sc rfl (sc rfl (sc rfl sn)))))))) (fun _ h => h) ?_ ?_)
       · omega
       omega
     refine c_skip (e_in_n (e_go hK13 ?_))
     refine c_region ?_
     refine l_val wn (r_move rfl) rfl ?_
     refine l_val wn (r_subn rfl rfl (by omega)) rfl ?_
     refine l_val wn (r_assign rfl) rfl ?_
     refine l_nil (e_round1 (j - 1) (sc rfl (sc rfl (sc (jv (by first | (show Value.string _ = Value.string (Names.get (r.drop r.length) s1.key).1; rw [List.drop_length]; rfl) | (show Value.bool _ = Value.bool (Names.get (r.drop r.length) s1.key).2; rw [List.drop_length]; rfl) | (simp only [Names.get_step hs2, if_pos (by assumption : s2.key = s1.key)]) | (simp only [Names.get_step hs2, if_neg (by assumption : ¬ s2.key = s1.key), show j - 1 + 1 = j from by omega]))) (sc (jv (by first | (show Value.string _ = Value.string (Names.get (r.drop r.length) s1.key).1; rw [List.drop_length]; rfl) | (show Value.bool _ = Value.bool (Names.get (r.drop r.length) s1.key).2; rw [List.drop_length]; rfl) | (simp only [Names.get_step hs2, if_pos (by assumption : s2.key = s1.key)]) | (simp only [Names.get_step hs2, if_neg (by assumption : ¬ s2.key = s1.key), show j - 1 + 1 = j from by omega]))) (sc (ji (by omega)) (sc rfl (sc rfl (sc rfl sn)))))))) (fun _ h => h) ?_ ?_)
     · omega
     omega
   refine c_exit (e_then_x (e_loop1_x (e_in_hit (e_go hK9 ?_))))
   refine c_block ?_
   refine c_seq fun _ hK15 => ?_
   refine c_region ?_
   refine l_val wn (r_fa rfl fld85_0) rfl ?_
   refine l_val wn (r_lb 0 rfl rfl rfl flat3) rfl ?_
   refine l_val wn (r_eql rfl rfl) rfl ?_
   refine l_val wn (r_move rfl) rfl ?_
   refine l_case (t := 40) rfl (fun h4 => ?_) (fun h4 => ?_)
   · refine l_val (wg rfl rfl rfl) (r_move rfl) rfl ?_
     refine l_val wn (r_pick rfl rfl) rfl ?_
     refine l_val wn (r_move rfl) rfl ?_
     refine l_caseb (t := 43) rfl (fun h5 => ?_) (fun h5 => ?_)
     · refine l_val (wg rfl rfl rfl) (r_move rfl) rfl ?_
       refine l_val (wg rfl rfl rfl) (r_fa rfl fld85_2) rfl ?_
       refine l_val (wg rfl rfl rfl) (r_lb 0 rfl rfl rfl flat9) rfl ?_
       refine l_val (wg rfl rfl rfl) (r_seql rfl rfl) rfl ?_
       refine l_val wn (r_pick rfl rfl) rfl ?_
       refine l_val wn (r_assign rfl) rfl ?_
       refine l_nil (e_go hK15 ?_)
       refine c_cond rfl (fun h6 => ?_) (fun h6 => ?_)
       · refine c_skip (e_in_n (e_in_n (e_go hK6 ?_)))
         refine c_region ?_
         refine l_val wn (r_addn rfl rfl (by omega)) rfl ?_
         refine l_val wn (r_move rfl) rfl ?_
         refine l_nil (e_round1 (k + 1) (sc rfl (sc rfl (sc rfl (sc (ji (by omega)) sn)))) (fun _ h => (h.sel [1, 2] (by decide) rfl)) ?_ ?_)
         · obtain rfl : j = 0 := by omega
           simp only [List.drop_zero] at *
           exact ⟨by omega, Names.matches_step hs1 (by first | (exfalso; omega) | ((try simp at h4); (try simp at h5); (try simp at h6); simp [Names.match1, h4, h5, h6])) hI1.2⟩
         omega
       refine c_seq fun _ hK16 => ?_
       refine c_region ?_
       refine l_val wn (r_fa rfl fld85_0) rfl ?_
       refine l_val wn (r_lb 0 rfl rfl rfl flat3) rfl ?_
       refine l_val wn (r_eql rfl rfl) rfl ?_
       refine l_val wn (r_move rfl) rfl ?_
       refine l_case (t := 53) rfl (fun h7 => ?_) (fun h7 => ?_)
       · refine l_val (wg rfl rfl rfl) (r_move rfl) rfl ?_
         refine l_val (wg rfl rfl rfl) (r_move rfl) rfl ?_
         refine l_littb (t := 55) rfl h5 ?_
         refine l_val (wg rfl rfl rfl) (r_move rfl) rfl ?_
         refine l_val (wg rfl rfl rfl) (r_fa rfl fld85_2) rfl ?_
         refine l_val (wg rfl rfl rfl) (r_lb 0 rfl rfl rfl flat9) rfl ?_
         refine l_val (wg rfl rfl rfl) (r_seql rfl rfl) rfl ?_
         refine l_val (wg rfl rfl rfl) (r_pick rfl rfl) rfl ?_
         refine l_val (wg rfl rfl rfl) (r_not rfl) rfl ?_
         refine l_val wn (r_pick rfl rfl) rfl ?_
         refine l_val wn (r_assign rfl) rfl ?_
         refine l_nil (e_go hK16 ?_)
         refine c_cond rfl (fun h8 => ?_) (fun h8 => ?_)
         · refine c_skip (e_in_n (e_in_n (e_go hK6 ?_)))
           refine c_region ?_
           refine l_val wn (r_addn rfl rfl (by omega)) rfl ?_
           refine l_val wn (r_move rfl) rfl ?_
           refine l_nil (e_round1 (k + 1) (sc rfl (sc rfl (sc rfl (sc (ji (by omega)) sn)))) (fun _ h => (h.sel [1, 2] (by decide) rfl)) ?_ ?_)
           · obtain rfl : j = 0 := by omega
             simp only [List.drop_zero] at *
             exact ⟨by omega, Names.matches_step hs1 (by first | (exfalso; omega) | ((try simp at h4); (try simp at h5); (try simp at h6); (try simp at h7); (try simp at h8); simp [Names.match1, h4, h5, h6, h7, h8])) hI1.2⟩
           omega
         refine c_seq fun _ hK17 => ?_
         refine c_region ?_
         refine l_val wn (r_fa rfl fld85_0) rfl ?_
         refine l_val wn (r_lb 0 rfl rfl rfl flat3) rfl ?_
         refine l_val wn (r_eql rfl rfl) rfl ?_
         refine l_val wn (r_move rfl) rfl ?_
         refine l_case (t := 67) rfl (fun h9 => ?_) (fun h9 => ?_)
         · refine l_val (wg rfl rfl rfl) (r_move rfl) rfl ?_
           refine l_val wn (r_pick rfl rfl) rfl ?_
           refine l_val wn (r_assign rfl) rfl ?_
           refine l_nil (e_go hK17 ?_)
           refine c_condb rfl (fun h10 => ?_) (fun h10 => ?_)
           · refine c_skip (e_in_n (e_in_n (e_go hK6 ?_)))
             refine c_region ?_
             refine l_val wn (r_addn rfl rfl (by omega)) rfl ?_
             refine l_val wn (r_move rfl) rfl ?_
             refine l_nil (e_round1 (k + 1) (sc rfl (sc rfl (sc rfl (sc (ji (by omega)) sn)))) (fun _ h => (h.sel [1, 2] (by decide) rfl)) ?_ ?_)
             · obtain rfl : j = 0 := by omega
               simp only [List.drop_zero] at *
               exact ⟨by omega, Names.matches_step hs1 (by first | (exfalso; omega) | ((try simp at h4); (try simp at h5); (try simp at h6); (try simp at h7); (try simp at h8); (try simp at h9); (try simp at h10); simp [Names.match1, h4, h5, h6, h7, h8, h9, h10])) hI1.2⟩
             omega
           refine c_seq fun _ hK18 => ?_
           refine c_region ?_
           refine l_val wn (r_fa rfl fld85_0) rfl ?_
           refine l_val wn (r_lb 0 rfl rfl rfl flat3) rfl ?_
           refine l_val wn (r_eql rfl rfl) rfl ?_
           refine l_val wn (r_move rfl) rfl ?_
           refine l_case (t := 74) rfl (fun h11 => ?_) (fun h11 => ?_)
           · refine l_val (wg rfl rfl rfl) (r_move rfl) rfl ?_
             refine l_val (wg rfl rfl rfl) (r_notb rfl) rfl ?_
             refine l_val wn (r_pick rfl rfl) rfl ?_
             refine l_val wn (r_assign rfl) rfl ?_
             refine l_nil (e_go hK18 ?_)
             refine c_condb rfl (fun h12 => ?_) (fun h12 => ?_)
             · refine c_skip (e_in_n (e_in_n (e_go hK6 ?_)))
               refine c_region ?_
               refine l_val wn (r_addn rfl rfl (by omega)) rfl ?_
               refine l_val wn (r_move rfl) rfl ?_
               refine l_nil (e_round1 (k + 1) (sc rfl (sc rfl (sc rfl (sc (ji (by omega)) sn)))) (fun _ h => (h.sel [1, 2] (by decide) rfl)) ?_ ?_)
               · obtain rfl : j = 0 := by omega
                 simp only [List.drop_zero] at *
                 exact ⟨by omega, Names.matches_step hs1 (by first | (exfalso; omega) | ((try simp at h4); (try simp at h5); (try simp at h6); (try simp at h7); (try simp at h8); (try simp at h9); (try simp at h10); (try simp at h11); (try simp at h12); simp [Names.match1, h4, h5, h6, h7, h8, h9, h10, h11, h12])) hI1.2⟩
               omega
             refine c_seq fun _ hK19 => ?_
             refine c_region ?_
             refine l_val wn (r_assign rfl) rfl ?_
             refine l_nil (e_go hK19 ?_)
             refine c_ret (e_in_r (e_in_r (e_then_r (e_loop1_r (e_in_r (e_then_r (e_ret1 (.inl rfl) Try.results27 (rv_tmp rfl) fun w1 hM => ?_)))))))
             obtain rfl : j = 0 := by omega
             simp only [List.drop_zero] at *
             exact ret_ok (by rw [Names.matches_stop hs1 (by first | (exfalso; omega) | ((try simp at h4); (try simp at h5); (try simp at h6); (try simp at h7); (try simp at h8); (try simp at h9); (try simp at h10); (try simp at h11); (try simp at h12); simp [Names.match1, h4, h5, h6, h7, h8, h9, h10, h11, h12]))]) hM
           refine l_skip (wg rfl rfl rfl) rfl ?_
           refine l_skip (wg rfl rfl rfl) rfl ?_
           refine l_val wn (r_pick rfl rfl) rfl ?_
           refine l_val wn (r_assign rfl) rfl ?_
           refine l_nil (e_go hK18 ?_)
           refine c_false rfl rfl ?_
           refine c_seq fun _ hK20 => ?_
           refine c_region ?_
           refine l_val wn (r_assign rfl) rfl ?_
           refine l_nil (e_go hK20 ?_)
           refine c_ret (e_in_r (e_in_r (e_then_r (e_loop1_r (e_in_r (e_then_r (e_ret1 (.inl rfl) Try.results27 (rv_tmp rfl) fun w1 hM => ?_)))))))
           obtain rfl : j = 0 := by omega
           simp only [List.drop_zero] at *
           exact ret_ok (by rw [Names.matches_stop hs1 (by first | (exfalso; omega) | ((try simp at h4); (try simp at h5); (try simp at h6); (try simp at h7); (try simp at h8); (try simp at h9); (try simp at h10); (try simp at h11); simp [Names.match1, h4, h5, h6, h7, h8, h9, h10, h11]))]) hM
         refine l_skip (wg rfl rfl rfl) rfl ?_
         refine l_val wn (r_pick rfl rfl) rfl ?_
         refine l_val wn (r_assign rfl) rfl ?_
         refine l_nil (e_go hK17 ?_)
         refine c_false rfl rfl ?_
         refine c_seq fun _ hK21 => ?_
         refine c_region ?_
         refine l_val wn (r_fa rfl fld85_0) rfl ?_
         refine l_val wn (r_lb 0 rfl rfl rfl flat3) rfl ?_
         refine l_val wn (r_eql rfl rfl) rfl ?_
         refine l_val wn (r_move rfl) rfl ?_
         refine l_case (t := 74) rfl (fun h13 => ?_) (fun h13 => ?_)
         · refine l_val (wg rfl rfl rfl) (r_move rfl) rfl ?_
           refine l_val (wg rfl rfl rfl) (r_notb rfl) rfl ?_
           refine l_val wn (r_pick rfl rfl) rfl ?_
           refine l_val wn (r_assign rfl) rfl ?_
           refine l_nil (e_go hK21 ?_)
           refine c_condb rfl (fun h14 => ?_) (fun h14 => ?_)
           · refine c_skip (e_in_n (e_in_n (e_go hK6 ?_)))
             refine c_region ?_
             refine l_val wn (r_addn rfl rfl (by omega)) rfl ?_
             refine l_val wn (r_move rfl) rfl ?_
             refine l_nil (e_round1 (k + 1) (sc rfl (sc rfl (sc rfl (sc (ji (by omega)) sn)))) (fun _ h => (h.sel [1, 2] (by decide) rfl)) ?_ ?_)
             · obtain rfl : j = 0 := by omega
               simp only [List.drop_zero] at *
               exact ⟨by omega, Names.matches_step hs1 (by first | (exfalso; omega) | ((try simp at h4); (try simp at h5); (try simp at h6); (try simp at h7); (try simp at h8); (try simp at h9); (try simp at h13); (try simp at h14); simp [Names.match1, h4, h5, h6, h7, h8, h9, h13, h14])) hI1.2⟩
             omega
           refine c_seq fun _ hK22 => ?_
           refine c_region ?_
           refine l_val wn (r_assign rfl) rfl ?_
           refine l_nil (e_go hK22 ?_)
           refine c_ret (e_in_r (e_in_r (e_then_r (e_loop1_r (e_in_r (e_then_r (e_ret1 (.inl rfl) Try.results27 (rv_tmp rfl) fun w1 hM => ?_)))))))
           obtain rfl : j = 0 := by omega
           simp only [List.drop_zero] at *
           exact ret_ok (by rw [Names.matches_stop hs1 (by first | (exfalso; omega) | ((try simp at h4); (try simp at h5); (try simp at h6); (try simp at h7); (try simp at h8); (try simp at h9); (try simp at h13); (try simp at h14); simp [Names.match1, h4, h5, h6, h7, h8, h9, h13, h14]))]) hM
         refine l_skip (wg rfl rfl rfl) rfl ?_
         refine l_skip (wg rfl rfl rfl) rfl ?_
         refine l_val wn (r_pick rfl rfl) rfl ?_
         refine l_val wn (r_assign rfl) rfl ?_
         refine l_nil (e_go hK21 ?_)
         refine c_false rfl rfl ?_
         refine c_seq fun _ hK23 => ?_
         refine c_region ?_
         refine l_val wn (r_assign rfl) rfl ?_
         refine l_nil (e_go hK23 ?_)
         refine c_ret (e_in_r (e_in_r (e_then_r (e_loop1_r (e_in_r (e_then_r (e_ret1 (.inl rfl) Try.results27 (rv_tmp rfl) fun w1 hM => ?_)))))))
         obtain rfl : j = 0 := by omega
         simp only [List.drop_zero] at *
         exact ret_ok (by rw [Names.matches_stop hs1 (by first | (exfalso; omega) | ((try simp at h4); (try simp at h5); (try simp at h6); (try simp at h7); (try simp at h8); (try simp at h9); (try simp at h13); simp [Names.match1, h4, h5, h6, h7, h8, h9, h13]))]) hM
       refine l_skip (wg rfl rfl rfl) rfl ?_
       refine l_skip (wg rfl rfl rfl) rfl ?_
       refine l_skip (wu rfl rfl) rfl ?_
       refine l_skip (wu rfl rfl) rfl ?_
       refine l_skip (wu rfl rfl) rfl ?_
       refine l_skip (wu rfl rfl) rfl ?_
       refine l_skip (wg rfl rfl rfl) rfl ?_
       refine l_skip (wg rfl rfl rfl) rfl ?_
       refine l_val wn (r_pick rfl rfl) rfl ?_
       refine l_val wn (r_assign rfl) rfl ?_
       refine l_nil (e_go hK16 ?_)
       refine c_false rfl rfl ?_
       refine c_seq fun _ hK24 => ?_
       refine c_region ?_
       refine l_val wn (r_fa rfl fld85_0) rfl ?_
       refine l_val wn (r_lb 0 rfl rfl rfl flat3) rfl ?_
       refine l_val wn (r_eql rfl rfl) rfl ?_
       refine l_val wn (r_move rfl) rfl ?_
       refine l_case (t := 67) rfl (fun h15 => ?_) (fun h15 => ?_)
       · refine l_val (wg rfl rfl rfl) (r_move rfl) rfl ?_
         refine l_val wn (r_pick rfl rfl) rfl ?_
         refine l_val wn (r_assign rfl) rfl ?_
         refine l_nil (e_go hK24 ?_)
         refine c_condb rfl (fun h16 => ?_) (fun h16 => ?_)
         · refine c_skip (e_in_n (e_in_n (e_go hK6 ?_)))
           refine c_region ?_
           refine l_val wn (r_addn rfl rfl (by omega)) rfl ?_
           refine l_val wn (r_move rfl) rfl ?_
           refine l_nil (e_round1 (k + 1) (sc rfl (sc rfl (sc rfl (sc (ji (by omega)) sn)))) (fun _ h => (h.sel [1, 2] (by decide) rfl)) ?_ ?_)
           · obtain rfl : j = 0 := by omega
             simp only [List.drop_zero] at *
             exact ⟨by omega, Names.matches_step hs1 (by first | (exfalso; omega) | ((try simp at h4); (try simp at h5); (try simp at h6); (try simp at h7); (try simp at h15); (try simp at h16); simp [Names.match1, h4, h5, h6, h7, h15, h16])) hI1.2⟩
           omega
         refine c_seq fun _ hK25 => ?_
         refine c_region ?_
         refine l_val wn (r_fa rfl fld85_0) rfl ?_
         refine l_val wn (r_lb 0 rfl rfl rfl flat3) rfl ?_
         refine l_val wn (r_eql rfl rfl) rfl ?_
         refine l_val wn (r_move rfl) rfl ?_
         refine l_case (t := 74) rfl (fun h17 => ?_) (fun h17 => ?_)
         · refine l_val (wg rfl rfl rfl) (r_move rfl) rfl ?_
           refine l_val (wg rfl rfl rfl) (r_notb rfl) rfl ?_
           refine l_val wn (r_pick rfl rfl) rfl ?_
           refine l_val wn (r_assign rfl) rfl ?_
           refine l_nil (e_go hK25 ?_)
           refine c_condb rfl (fun h18 => ?_) (fun h18 => ?_)
           · refine c_skip (e_in_n (e_in_n (e_go hK6 ?_)))
             refine c_region ?_
             refine l_val wn (r_addn rfl rfl (by omega)) rfl ?_
             refine l_val wn (r_move rfl) rfl ?_
             refine l_nil (e_round1 (k + 1) (sc rfl (sc rfl (sc rfl (sc (ji (by omega)) sn)))) (fun _ h => (h.sel [1, 2] (by decide) rfl)) ?_ ?_)
             · obtain rfl : j = 0 := by omega
               simp only [List.drop_zero] at *
               exact ⟨by omega, Names.matches_step hs1 (by first | (exfalso; omega) | ((try simp at h4); (try simp at h5); (try simp at h6); (try simp at h7); (try simp at h15); (try simp at h16); (try simp at h17); (try simp at h18); simp [Names.match1, h4, h5, h6, h7, h15, h16, h17, h18])) hI1.2⟩
             omega
           refine c_seq fun _ hK26 => ?_
           refine c_region ?_
           refine l_val wn (r_assign rfl) rfl ?_
           refine l_nil (e_go hK26 ?_)
           refine c_ret (e_in_r (e_in_r (e_then_r (e_loop1_r (e_in_r (e_then_r (e_ret1 (.inl rfl) Try.results27 (rv_tmp rfl) fun w1 hM => ?_)))))))
           obtain rfl : j = 0 := by omega
           simp only [List.drop_zero] at *
           exact ret_ok (by rw [Names.matches_stop hs1 (by first | (exfalso; omega) | ((try simp at h4); (try simp at h5); (try simp at h6); (try simp at h7); (try simp at h15); (try simp at h16); (try simp at h17); (try simp at h18); simp [Names.match1, h4, h5, h6, h7, h15, h16, h17, h18]))]) hM
         refine l_skip (wg rfl rfl rfl) rfl ?_
         refine l_skip (wg rfl rfl rfl) rfl ?_
         refine l_val wn (r_pick rfl rfl) rfl ?_
         refine l_val wn (r_assign rfl) rfl ?_
         refine l_nil (e_go hK25 ?_)
         refine c_false rfl rfl ?_
         refine c_seq fun _ hK27 => ?_
         refine c_region ?_
         refine l_val wn (r_assign rfl) rfl ?_
         refine l_nil (e_go hK27 ?_)
         refine c_ret (e_in_r (e_in_r (e_then_r (e_loop1_r (e_in_r (e_then_r (e_ret1 (.inl rfl) Try.results27 (rv_tmp rfl) fun w1 hM => ?_)))))))
         obtain rfl : j = 0 := by omega
         simp only [List.drop_zero] at *
         exact ret_ok (by rw [Names.matches_stop hs1 (by first | (exfalso; omega) | ((try simp at h4); (try simp at h5); (try simp at h6); (try simp at h7); (try simp at h15); (try simp at h16); (try simp at h17); simp [Names.match1, h4, h5, h6, h7, h15, h16, h17]))]) hM
       refine l_skip (wg rfl rfl rfl) rfl ?_
       refine l_val wn (r_pick rfl rfl) rfl ?_
       refine l_val wn (r_assign rfl) rfl ?_
       refine l_nil (e_go hK24 ?_)
       refine c_false rfl rfl ?_
       refine c_seq fun _ hK28 => ?_
       refine c_region ?_
       refine l_val wn (r_fa rfl fld85_0) rfl ?_
       refine l_val wn (r_lb 0 rfl rfl rfl flat3) rfl ?_
       refine l_val wn (r_eql rfl rfl) rfl ?_
       refine l_val wn (r_move rfl) rfl ?_
       refine l_case (t := 74) rfl (fun h19 => ?_) (fun h19 => ?_)
       · refine l_val (wg rfl rfl rfl) (r_move rfl) rfl ?_
         refine l_val (wg rfl rfl rfl) (r_notb rfl) rfl ?_
         refine l_val wn (r_pick rfl rfl) rfl ?_
         refine l_val wn (r_assign rfl) rfl ?_
         refine l_nil (e_go hK28 ?_)
         refine c_condb rfl (fun h20 => ?_) (fun h20 => ?_)
         · refine c_skip (e_in_n (e_in_n (e_go hK6 ?_)))
           refine c_region ?_
           refine l_val wn (r_addn rfl rfl (by omega)) rfl ?_
           refine l_val wn (r_move rfl) rfl ?_
           refine l_nil (e_round1 (k + 1) (sc rfl (sc rfl (sc rfl (sc (ji (by omega)) sn)))) (fun _ h => (h.sel [1, 2] (by decide) rfl)) ?_ ?_)
           · obtain rfl : j = 0 := by omega
             simp only [List.drop_zero] at *
             exact ⟨by omega, Names.matches_step hs1 (by first | (exfalso; omega) | ((try simp at h4); (try simp at h5); (try simp at h6); (try simp at h7); (try simp at h15); (try simp at h19); (try simp at h20); simp [Names.match1, h4, h5, h6, h7, h15, h19, h20])) hI1.2⟩
           omega
         refine c_seq fun _ hK29 => ?_
         refine c_region ?_
         refine l_val wn (r_assign rfl) rfl ?_
         refine l_nil (e_go hK29 ?_)
         refine c_ret (e_in_r (e_in_r (e_then_r (e_loop1_r (e_in_r (e_then_r (e_ret1 (.inl rfl) Try.results27 (rv_tmp rfl) fun w1 hM => ?_)))))))
         obtain rfl : j = 0 := by omega
         simp only [List.drop_zero] at *
         exact ret_ok (by rw [Names.matches_stop hs1 (by first | (exfalso; omega) | ((try simp at h4); (try simp at h5); (try simp at h6); (try simp at h7); (try simp at h15); (try simp at h19); (try simp at h20); simp [Names.match1, h4, h5, h6, h7, h15, h19, h20]))]) hM
       refine l_skip (wg rfl rfl rfl) rfl ?_
       refine l_skip (wg rfl rfl rfl) rfl ?_
       refine l_val wn (r_pick rfl rfl) rfl ?_
       refine l_val wn (r_assign rfl) rfl ?_
       refine l_nil (e_go hK28 ?_)
       refine c_false rfl rfl ?_
       refine c_seq fun _ hK30 => ?_
       refine c_region ?_
       refine l_val wn (r_assign rfl) rfl ?_
       refine l_nil (e_go hK30 ?_)
       refine c_ret (e_in_r (e_in_r (e_then_r (e_loop1_r (e_in_r (e_then_r (e_ret1 (.inl rfl) Try.results27 (rv_tmp rfl) fun w1 hM => ?_)))))))
       obtain rfl : j = 0 := by omega
       simp only [List.drop_zero] at *
       exact ret_ok (by rw [Names.matches_stop hs1 (by first | (exfalso; omega) | ((try simp at h4); (try simp at h5); (try simp at h6); (try simp at h7); (try simp at h15); (try simp at h19); simp [Names.match1, h4, h5, h6, h7, h15, h19]))]) hM
     refine l_skip (wg rfl rfl rfl) rfl ?_
     refine l_skip (wg rfl rfl rfl) rfl ?_
     refine l_skip (wg rfl rfl rfl) rfl ?_
     refine l_skip (wg rfl rfl rfl) rfl ?_
     refine l_val wn (r_pick rfl rfl) rfl ?_
     refine l_val wn (r_assign rfl) rfl ?_
     refine l_nil (e_go hK15 ?_)
     refine c_false rfl rfl ?_
     refine c_seq fun _ hK31 => ?_
     refine c_region ?_
     refine l_val wn (r_fa rfl fld85_0) rfl ?_
     refine l_val wn (r_lb 0 rfl rfl rfl flat3) rfl ?_
     refine l_val wn (r_eql rfl rfl) rfl ?_
     refine l_val wn (r_move rfl) rfl ?_
     refine l_case (t := 53) rfl (fun h21 => ?_) (fun h21 => ?_)
     · refine l_val (wg rfl rfl rfl) (r_move rfl) rfl ?_
       refine l_val (wg rfl rfl rfl) (r_move rfl) rfl ?_
       refine l_litfb (t := 55) rfl h5 ?_
       refine l_skip (wg rfl rfl rfl) rfl ?_
       refine l_skip (wg rfl rfl rfl) rfl ?_
       refine l_skip (wg rfl rfl rfl) rfl ?_
       refine l_skip (wg rfl rfl rfl) rfl ?_
       refine l_val (wg rfl rfl rfl) (r_pick rfl rfl) rfl ?_
       refine l_val (wg rfl rfl rfl) (r_notb rfl) rfl ?_
       refine l_val wn (r_pick rfl rfl) rfl ?_
       refine l_val wn (r_assign rfl) rfl ?_
       refine l_nil (e_go hK31 ?_)
       refine c_true rfl rfl ?_
       refine c_skip (e_in_n (e_in_n (e_go hK6 ?_)))
       refine c_region ?_
       refine l_val wn (r_addn rfl rfl (by omega)) rfl ?_
       refine l_val wn (r_move rfl) rfl ?_
       refine l_nil (e_round1 (k + 1) (sc rfl (sc rfl (sc rfl (sc (ji (by omega)) sn)))) (fun _ h => (h.sel [1, 2] (by decide) rfl)) ?_ ?_)
       · obtain rfl : j = 0 := by omega
         simp only [List.drop_zero] at *
         exact ⟨by omega, Names.matches_step hs1 (by first | (exfalso; omega) | ((try simp at h4); (try simp at h5); (try simp at h21); simp [Names.match1, h4, h5, h21])) hI1.2⟩
       omega
     refine l_skip (wg rfl rfl rfl) rfl ?_
     refine l_skip (wg rfl rfl rfl) rfl ?_
     refine l_skip (wu rfl rfl) rfl ?_
     refine l_skip (wu rfl rfl) rfl ?_
     refine l_skip (wu rfl rfl) rfl ?_
     refine l_skip (wu rfl rfl) rfl ?_
     refine l_skip (wg rfl rfl rfl) rfl ?_
     refine l_skip (wg rfl rfl rfl) rfl ?_
     refine l_val wn (r_pick rfl rfl) rfl ?_
     refine l_val wn (r_assign rfl) rfl ?_
     refine l_nil (e_go hK31 ?_)
     refine c_false rfl rfl ?_
     refine c_seq fun _ hK32 => ?_
     refine c_region ?_
     refine l_val wn (r_fa rfl fld85_0) rfl ?_
     refine l_val wn (r_lb 0 rfl rfl rfl flat3) rfl ?_
     refine l_val wn (r_eql rfl rfl) rfl ?_
     refine l_val wn (r_move rfl) rfl ?_
     refine l_case (t := 67) rfl (fun h22 => ?_) (fun h22 => ?_)
     · refine l_val (wg rfl rfl rfl) (r_move rfl) rfl ?_
       refine l_val wn (r_pick rfl rfl) rfl ?_
       refine l_val wn (r_assign rfl) rfl ?_
       refine l_nil (e_go hK32 ?_)
       refine c_condb rfl (fun h23 => ?_) (fun h23 => ?_)
       · refine c_skip (e_in_n (e_in_n (e_go hK6 ?_)))
         refine c_region ?_
         refine l_val wn (r_addn rfl rfl (by omega)) rfl ?_
         refine l_val wn (r_move rfl) rfl ?_
         refine l_nil (e_round1 (k + 1) (sc rfl (sc rfl (sc rfl (sc (ji (by omega)) sn)))) (fun _ h => (h.sel [1, 2] (by decide) rfl)) ?_ ?_)
         · obtain rfl : j = 0 := by omega
           simp only [List.drop_zero] at *
           exact ⟨by omega, Names.matches_step hs1 (by first | (exfalso; omega) | ((try simp at h4); (try simp at h5); (try simp at h21); (try simp at h22); (try simp at h23); simp [Names.match1, h4, h5, h21, h22, h23])) hI1.2⟩
         omega
       refine c_seq fun _ hK33 => ?_
       refine c_region ?_
       refine l_val wn (r_fa rfl fld85_0) rfl ?_
       refine l_val wn (r_lb 0 rfl rfl rfl flat3) rfl ?_
       refine l_val wn (r_eql rfl rfl) rfl ?_
       refine l_val wn (r_move rfl) rfl ?_
       refine l_case (t := 74) rfl (fun h24 => ?_) (fun h24 => ?_)
       · refine l_val (wg rfl rfl rfl) (r_move rfl) rfl ?_
         refine l_val (wg rfl rfl rfl) (r_notb rfl) rfl ?_
         refine l_val wn (r_pick rfl rfl) rfl ?_
         refine l_val wn (r_assign rfl) rfl ?_
         refine l_nil (e_go hK33 ?_)
         refine c_condb rfl (fun h25 => ?_) (fun h25 => ?_)
         · refine c_skip (e_in_n (e_in_n (e_go hK6 ?_)))
           refine c_region ?_
           refine l_val wn (r_addn rfl rfl (by omega)) rfl ?_
           refine l_val wn (r_move rfl) rfl ?_
           refine l_nil (e_round1 (k + 1) (sc rfl (sc rfl (sc rfl (sc (ji (by omega)) sn)))) (fun _ h => (h.sel [1, 2] (by decide) rfl)) ?_ ?_)
           · obtain rfl : j = 0 := by omega
             simp only [List.drop_zero] at *
             exact ⟨by omega, Names.matches_step hs1 (by first | (exfalso; omega) | ((try simp at h4); (try simp at h5); (try simp at h21); (try simp at h22); (try simp at h23); (try simp at h24); (try simp at h25); simp [Names.match1, h4, h5, h21, h22, h23, h24, h25])) hI1.2⟩
           omega
         refine c_seq fun _ hK34 => ?_
         refine c_region ?_
         refine l_val wn (r_assign rfl) rfl ?_
         refine l_nil (e_go hK34 ?_)
         refine c_ret (e_in_r (e_in_r (e_then_r (e_loop1_r (e_in_r (e_then_r (e_ret1 (.inl rfl) Try.results27 (rv_tmp rfl) fun w1 hM => ?_)))))))
         obtain rfl : j = 0 := by omega
         simp only [List.drop_zero] at *
         exact ret_ok (by rw [Names.matches_stop hs1 (by first | (exfalso; omega) | ((try simp at h4); (try simp at h5); (try simp at h21); (try simp at h22); (try simp at h23); (try simp at h24); (try simp at h25); simp [Names.match1, h4, h5, h21, h22, h23, h24, h25]))]) hM
       refine l_skip (wg rfl rfl rfl) rfl ?_
       refine l_skip (wg rfl rfl rfl) rfl ?_
       refine l_val wn (r_pick rfl rfl) rfl ?_
       refine l_val wn (r_assign rfl) rfl ?_
       refine l_nil (e_go hK33 ?_)
       refine c_false rfl rfl ?_
       refine c_seq fun _ hK35 => ?_
       refine c_region ?_
       refine l_val wn (r_assign rfl) rfl ?_
       refine l_nil (e_go hK35 ?_)
       refine c_ret (e_in_r (e_in_r (e_then_r (e_loop1_r (e_in_r (e_then_r (e_ret1 (.inl rfl) Try.results27 (rv_tmp rfl) fun w1 hM => ?_)))))))
       obtain rfl : j = 0 := by omega
       simp only [List.drop_zero] at *
       exact ret_ok (by rw [Names.matches_stop hs1 (by first | (exfalso; omega) | ((try simp at h4); (try simp at h5); (try simp at h21); (try simp at h22); (try simp at h23); (try simp at h24); simp [Names.match1, h4, h5, h21, h22, h23, h24]))]) hM
     refine l_skip (wg rfl rfl rfl) rfl ?_
     refine l_val wn (r_pick rfl rfl) rfl ?_
     refine l_val wn (r_assign rfl) rfl ?_
     refine l_nil (e_go hK32 ?_)
     refine c_false rfl rfl ?_
     refine c_seq fun _ hK36 => ?_
     refine c_region ?_
     refine l_val wn (r_fa rfl fld85_0) rfl ?_
     refine l_val wn (r_lb 0 rfl rfl rfl flat3) rfl ?_
     refine l_val wn (r_eql rfl rfl) rfl ?_
     refine l_val wn (r_move rfl) rfl ?_
     refine l_case (t := 74) rfl (fun h26 => ?_) (fun h26 => ?_)
     · refine l_val (wg rfl rfl rfl) (r_move rfl) rfl ?_
       refine l_val (wg rfl rfl rfl) (r_notb rfl) rfl ?_
       refine l_val wn (r_pick rfl rfl) rfl ?_
       refine l_val wn (r_assign rfl) rfl ?_
       refine l_nil (e_go hK36 ?_)
       refine c_condb rfl (fun h27 => ?_) (fun h27 => ?_)
       · refine c_skip (e_in_n (e_in_n (e_go hK6 ?_)))
         refine c_region ?_
         refine l_val wn (r_addn rfl rfl (by omega)) rfl ?_
         refine l_val wn (r_move rfl) rfl ?_
         refine l_nil (e_round1 (k + 1) (sc rfl (sc rfl (sc rfl (sc (ji (by omega)) sn)))) (fun _ h => (h.sel [1, 2] (by decide) rfl)) ?_ ?_)
         · obtain rfl : j = 0 := by omega
           simp only [List.drop_zero] at *
           exact ⟨by omega, Names.matches_step hs1 (by first | (exfalso; omega) | ((try simp at h4); (try simp at h5); (try simp at h21); (try simp at h22); (try simp at h26); (try simp at h27); simp [Names.match1, h4, h5, h21, h22, h26, h27])) hI1.2⟩
         omega
       refine c_seq fun _ hK37 => ?_
       refine c_region ?_
       refine l_val wn (r_assign rfl) rfl ?_
       refine l_nil (e_go hK37 ?_)
       refine c_ret (e_in_r (e_in_r (e_then_r (e_loop1_r (e_in_r (e_then_r (e_ret1 (.inl rfl) Try.results27 (rv_tmp rfl) fun w1 hM => ?_)))))))
       obtain rfl : j = 0 := by omega
       simp only [List.drop_zero] at *
       exact ret_ok (by rw [Names.matches_stop hs1 (by first | (exfalso; omega) | ((try simp at h4); (try simp at h5); (try simp at h21); (try simp at h22); (try simp at h26); (try simp at h27); simp [Names.match1, h4, h5, h21, h22, h26, h27]))]) hM
     refine l_skip (wg rfl rfl rfl) rfl ?_
     refine l_skip (wg rfl rfl rfl) rfl ?_
     refine l_val wn (r_pick rfl rfl) rfl ?_
     refine l_val wn (r_assign rfl) rfl ?_
     refine l_nil (e_go hK36 ?_)
     refine c_false rfl rfl ?_
     refine c_seq fun _ hK38 => ?_
     refine c_region ?_
     refine l_val wn (r_assign rfl) rfl ?_
     refine l_nil (e_go hK38 ?_)
     refine c_ret (e_in_r (e_in_r (e_then_r (e_loop1_r (e_in_r (e_then_r (e_ret1 (.inl rfl) Try.results27 (rv_tmp rfl) fun w1 hM => ?_)))))))
     obtain rfl : j = 0 := by omega
     simp only [List.drop_zero] at *
     exact ret_ok (by rw [Names.matches_stop hs1 (by first | (exfalso; omega) | ((try simp at h4); (try simp at h5); (try simp at h21); (try simp at h22); (try simp at h26); simp [Names.match1, h4, h5, h21, h22, h26]))]) hM
   refine l_skip (wg rfl rfl rfl) rfl ?_
   refine l_val wn (r_pick rfl rfl) rfl ?_
   refine l_val wn (r_move rfl) rfl ?_
   refine l_skip (wg rfl rfl rfl) rfl ?_
   refine l_skip (wg rfl rfl rfl) rfl ?_
   refine l_skip (wg rfl rfl rfl) rfl ?_
   refine l_skip (wg rfl rfl rfl) rfl ?_
   refine l_val wn (r_pick rfl rfl) rfl ?_
   refine l_val wn (r_assign rfl) rfl ?_
   refine l_nil (e_go hK15 ?_)
   refine c_false rfl rfl ?_
   refine c_seq fun _ hK39 => ?_
   refine c_region ?_
   refine l_val wn (r_fa rfl fld85_0) rfl ?_
   refine l_val wn (r_lb 0 rfl rfl rfl flat3) rfl ?_
   refine l_val wn (r_eql rfl rfl) rfl ?_
   refine l_val wn (r_move rfl) rfl ?_
   refine l_case (t := 53) rfl (fun h28 => ?_) (fun h28 => ?_)
   · refine l_val (wg rfl rfl rfl) (r_move rfl) rfl ?_
     refine l_val (wg rfl rfl rfl) (r_move rfl) rfl ?_
     refine l_caseb (t := 55) rfl (fun h29 => ?_) (fun h29 => ?_)
     · refine l_val (wg rfl rfl rfl) (r_move rfl) rfl ?_
       refine l_val (wg rfl rfl rfl) (r_fa rfl fld85_2) rfl ?_
       refine l_val (wg rfl rfl rfl) (r_lb 0 rfl rfl rfl flat9) rfl ?_
       refine l_val (wg rfl rfl rfl) (r_seql rfl rfl) rfl ?_
       refine l_val (wg rfl rfl rfl) (r_pick rfl rfl) rfl ?_
       refine l_val (wg rfl rfl rfl) (r_not rfl) rfl ?_
       refine l_val wn (r_pick rfl rfl) rfl ?_
       refine l_val wn (r_assign rfl) rfl ?_
       refine l_nil (e_go hK39 ?_)
       refine c_cond rfl (fun h30 => ?_) (fun h30 => ?_)
       · refine c_skip (e_in_n (e_in_n (e_go hK6 ?_)))
         refine c_region ?_
         refine l_val wn (r_addn rfl rfl (by omega)) rfl ?_
         refine l_val wn (r_move rfl) rfl ?_
         refine l_nil (e_round1 (k + 1) (sc rfl (sc rfl (sc rfl (sc (ji (by omega)) sn)))) (fun _ h => (h.sel [1, 2] (by decide) rfl)) ?_ ?_)
         · obtain rfl : j = 0 := by omega
           simp only [List.drop_zero] at *
           exact ⟨by omega, Names.matches_step hs1 (by first | (exfalso; omega) | ((try simp at h4); (try simp at h28); (try simp at h29); (try simp at h30); simp [Names.match1, h4, h28, h29, h30])) hI1.2⟩
         omega
       refine c_seq fun _ hK40 => ?_
       refine c_region ?_
       refine l_val wn (r_fa rfl fld85_0) rfl ?_
       refine l_val wn (r_lb 0 rfl rfl rfl flat3) rfl ?_
       refine l_val wn (r_eql rfl rfl) rfl ?_
       refine l_val wn (r_move rfl) rfl ?_
       refine l_case (t := 67) rfl (fun h31 => ?_) (fun h31 => ?_)
       · refine l_val (wg rfl rfl rfl) (r_move rfl) rfl ?_
         refine l_val wn (r_pick rfl rfl) rfl ?_
         refine l_val wn (r_assign rfl) rfl ?_
         refine l_nil (e_go hK40 ?_)
         refine c_condb rfl (fun h32 => ?_) (fun h32 => ?_)
         · refine c_skip (e_in_n (e_in_n (e_go hK6 ?_)))
           refine c_region ?_
           refine l_val wn (r_addn rfl rfl (by omega)) rfl ?_
           refine l_val wn (r_move rfl) rfl ?_
           refine l_nil (e_round1 (k + 1) (sc rfl (sc rfl (sc rfl (sc (ji (by omega)) sn)))) (fun _ h => (h.sel [1, 2] (by decide) rfl)) ?_ ?_)
           · obtain rfl : j = 0 := by omega
             simp only [List.drop_zero] at *
             exact ⟨by omega, Names.matches_step hs1 (by first | (exfalso; omega) | ((try simp at h4); (try simp at h28); (try simp at h29); (try simp at h30); (try simp at h31); (try simp at h32); simp [Names.match1, h4, h28, h29, h30, h31, h32])) hI1.2⟩
           omega
         refine c_seq fun _ hK41 => ?_
         refine c_region ?_
         refine l_val wn (r_fa rfl fld85_0) rfl ?_
         refine l_val wn (r_lb 0 rfl rfl rfl flat3) rfl ?_
         refine l_val wn (r_eql rfl rfl) rfl ?_
         refine l_val wn (r_move rfl) rfl ?_
         refine l_case (t := 74) rfl (fun h33 => ?_) (fun h33 => ?_)
         · refine l_val (wg rfl rfl rfl) (r_move rfl) rfl ?_
           refine l_val (wg rfl rfl rfl) (r_notb rfl) rfl ?_
           refine l_val wn (r_pick rfl rfl) rfl ?_
           refine l_val wn (r_assign rfl) rfl ?_
           refine l_nil (e_go hK41 ?_)
           refine c_condb rfl (fun h34 => ?_) (fun h34 => ?_)
           · refine c_skip (e_in_n (e_in_n (e_go hK6 ?_)))
             refine c_region ?_
             refine l_val wn (r_addn rfl rfl (by omega)) rfl ?_
             refine l_val wn (r_move rfl) rfl ?_
             refine l_nil (e_round1 (k + 1) (sc rfl (sc rfl (sc rfl (sc (ji (by omega)) sn)))) (fun _ h => (h.sel [1, 2] (by decide) rfl)) ?_ ?_)
             · obtain rfl : j = 0 := by omega
               simp only [List.drop_zero] at *
               exact ⟨by omega, Names.matches_step hs1 (by first | (exfalso; omega) | ((try simp at h4); (try simp at h28); (try simp at h29); (try simp at h30); (try simp at h31); (try simp at h32); (try simp at h33); (try simp at h34); simp [Names.match1, h4, h28, h29, h30, h31, h32, h33, h34])) hI1.2⟩
             omega
           refine c_seq fun _ hK42 => ?_
           refine c_region ?_
           refine l_val wn (r_assign rfl) rfl ?_
           refine l_nil (e_go hK42 ?_)
           refine c_ret (e_in_r (e_in_r (e_then_r (e_loop1_r (e_in_r (e_then_r (e_ret1 (.inl rfl) Try.results27 (rv_tmp rfl) fun w1 hM => ?_)))))))
           obtain rfl : j = 0 := by omega
           simp only [List.drop_zero] at *
           exact ret_ok (by rw [Names.matches_stop hs1 (by first | (exfalso; omega) | ((try simp at h4); (try simp at h28); (try simp at h29); (try simp at h30); (try simp at h31); (try simp at h32); (try simp at h33); (try simp at h34); simp [Names.match1, h4, h28, h29, h30, h31, h32, h33, h34]))]) hM
         refine l_skip (wg rfl rfl rfl) rfl ?_
         refine l_skip (wg rfl rfl rfl) rfl ?_
         refine l_val wn (r_pick rfl rfl) rfl ?_
         refine l_val wn (r_assign rfl) rfl ?_
         refine l_nil (e_go hK41 ?_)
         refine c_false rfl rfl ?_
         refine c_seq fun _ hK43 => ?_
         refine c_region ?_
         refine l_val wn (r_assign rfl) rfl ?_
         refine l_nil (e_go hK43 ?_)
         refine c_ret (e_in_r (e_in_r (e_then_r (e_loop1_r (e_in_r (e_then_r (e_ret1 (.inl rfl) Try.results27 (rv_tmp rfl) fun w1 hM => ?_)))))))
         obtain rfl : j = 0 := by omega
         simp only [List.drop_zero] at *
         exact ret_ok (by rw [Names.matches_stop hs1 (by first | (exfalso; omega) | ((try simp at h4); (try simp at h28); (try simp at h29); (try simp at h30); (try simp at h31); (try simp at h32); (try simp at h33); simp [Names.match1, h4, h28, h29, h30, h31, h32, h33]))]) hM
       refine l_skip (wg rfl rfl rfl) rfl ?_
       refine l_val wn (r_pick rfl rfl) rfl ?_
       refine l_val wn (r_assign rfl) rfl ?_
       refine l_nil (e_go hK40 ?_)
       refine c_false rfl rfl ?_
       refine c_seq fun _ hK44 => ?_
       refine c_region ?_
       refine l_val wn (r_fa rfl fld85_0) rfl ?_
       refine l_val wn (r_lb 0 rfl rfl rfl flat3) rfl ?_
       refine l_val wn (r_eql rfl rfl) rfl ?_
       refine l_val wn (r_move rfl) rfl ?_
       refine l_case (t := 74) rfl (fun h35 => ?_) (fun h35 => ?_)
       · refine l_val (wg rfl rfl rfl) (r_move rfl) rfl ?_
         refine l_val (wg rfl rfl rfl) (r_notb rfl) rfl ?_
         refine l_val wn (r_pick rfl rfl) rfl ?_
         refine l_val wn (r_assign rfl) rfl ?_
         refine l_nil (e_go hK44 ?_)
         refine c_condb rfl (fun h36 => ?_) (fun h36 => ?_)
         · refine c_skip (e_in_n (e_in_n (e_go hK6 ?_)))
           refine c_region ?_
           refine l_val wn (r_addn rfl rfl (by omega)) rfl ?_
           refine l_val wn (r_move rfl) rfl ?_
           refine l_nil (e_round1 (k + 1) (sc rfl (sc rfl (sc rfl (sc (ji (by omega)) sn)))) (fun _ h => (h.sel [1, 2] (by decide) rfl)) ?_ ?_)
           · obtain rfl : j = 0 := by omega
             simp only [List.drop_zero] at *
             exact ⟨by omega, Names.matches_step hs1 (by first | (exfalso; omega) | ((try simp at h4); (try simp at h28); (try simp at h29); (try simp at h30); (try simp at h31); (try simp at h35); (try simp at h36); simp [Names.match1, h4, h28, h29, h30, h31, h35, h36])) hI1.2⟩
           omega
         refine c_seq fun _ hK45 => ?_
         refine c_region ?_
         refine l_val wn (r_assign rfl) rfl ?_
         refine l_nil (e_go hK45 ?_)
         refine c_ret (e_in_r (e_in_r (e_then_r (e_loop1_r (e_in_r (e_then_r (e_ret1 (.inl rfl) Try.results27 (rv_tmp rfl) fun w1 hM => ?_)))))))
         obtain rfl : j = 0 := by omega
         simp only [List.drop_zero] at *
         exact ret_ok (by rw [Names.matches_stop hs1 (by first | (exfalso; omega) | ((try simp at h4); (try simp at h28); (try simp at h29); (try simp at h30); (try simp at h31); (try simp at h35); (try simp at h36); simp [Names.match1, h4, h28, h29, h30, h31, h35, h36]))]) hM
       refine l_skip (wg rfl rfl rfl) rfl ?_
       refine l_skip (wg rfl rfl rfl) rfl ?_
       refine l_val wn (r_pick rfl rfl) rfl ?_
       refine l_val wn (r_assign rfl) rfl ?_
       refine l_nil (e_go hK44 ?_)
       refine c_false rfl rfl ?_
       refine c_seq fun _ hK46 => ?_
       refine c_region ?_
       refine l_val wn (r_assign rfl) rfl ?_
       refine l_nil (e_go hK46 ?_)
       refine c_ret (e_in_r (e_in_r (e_then_r (e_loop1_r (e_in_r (e_then_r (e_ret1 (.inl rfl) Try.results27 (rv_tmp rfl) fun w1 hM => ?_)))))))
       obtain rfl : j = 0 := by omega
       simp only [List.drop_zero] at *
       exact ret_ok (by rw [Names.matches_stop hs1 (by first | (exfalso; omega) | ((try simp at h4); (try simp at h28); (try simp at h29); (try simp at h30); (try simp at h31); (try simp at h35); simp [Names.match1, h4, h28, h29, h30, h31, h35]))]) hM
     refine l_skip (wg rfl rfl rfl) rfl ?_
     refine l_skip (wg rfl rfl rfl) rfl ?_
     refine l_skip (wg rfl rfl rfl) rfl ?_
     refine l_skip (wg rfl rfl rfl) rfl ?_
     refine l_val (wg rfl rfl rfl) (r_pick rfl rfl) rfl ?_
     refine l_val (wg rfl rfl rfl) (r_notb rfl) rfl ?_
     refine l_val wn (r_pick rfl rfl) rfl ?_
     refine l_val wn (r_assign rfl) rfl ?_
     refine l_nil (e_go hK39 ?_)
     refine c_true rfl rfl ?_
     refine c_skip (e_in_n (e_in_n (e_go hK6 ?_)))
     refine c_region ?_
     refine l_val wn (r_addn rfl rfl (by omega)) rfl ?_
     refine l_val wn (r_move rfl) rfl ?_
     refine l_nil (e_round1 (k + 1) (sc rfl (sc rfl (sc rfl (sc (ji (by omega)) sn)))) (fun _ h => (h.sel [1, 2] (by decide) rfl)) ?_ ?_)
     · obtain rfl : j = 0 := by omega
       simp only [List.drop_zero] at *
       exact ⟨by omega, Names.matches_step hs1 (by first | (exfalso; omega) | ((try simp at h4); (try simp at h28); (try simp at h29); simp [Names.match1, h4, h28, h29])) hI1.2⟩
     omega
   refine l_skip (wg rfl rfl rfl) rfl ?_
   refine l_skip (wg rfl rfl rfl) rfl ?_
   refine l_skip (wu rfl rfl) rfl ?_
   refine l_skip (wu rfl rfl) rfl ?_
   refine l_skip (wu rfl rfl) rfl ?_
   refine l_skip (wu rfl rfl) rfl ?_
   refine l_skip (wg rfl rfl rfl) rfl ?_
   refine l_skip (wg rfl rfl rfl) rfl ?_
   refine l_val wn (r_pick rfl rfl) rfl ?_
   refine l_val wn (r_assign rfl) rfl ?_
   refine l_nil (e_go hK39 ?_)
   refine c_false rfl rfl ?_
   refine c_seq fun _ hK47 => ?_
   refine c_region ?_
   refine l_val wn (r_fa rfl fld85_0) rfl ?_
   refine l_val wn (r_lb 0 rfl rfl rfl flat3) rfl ?_
   refine l_val wn (r_eql rfl rfl) rfl ?_
   refine l_val wn (r_move rfl) rfl ?_
   refine l_case (t := 67) rfl (fun h37 => ?_) (fun h37 => ?_)
   · refine l_val (wg rfl rfl rfl) (r_move rfl) rfl ?_
     refine l_val wn (r_pick rfl rfl) rfl ?_
     refine l_val wn (r_assign rfl) rfl ?_
     refine l_nil (e_go hK47 ?_)
     refine c_condb rfl (fun h38 => ?_) (fun h38 => ?_)
     · refine c_skip (e_in_n (e_in_n (e_go hK6 ?_)))
       refine c_region ?_
       refine l_val wn (r_addn rfl rfl (by omega)) rfl ?_
       refine l_val wn (r_move rfl) rfl ?_
       refine l_nil (e_round1 (k + 1) (sc rfl (sc rfl (sc rfl (sc (ji (by omega)) sn)))) (fun _ h => (h.sel [1, 2] (by decide) rfl)) ?_ ?_)
       · obtain rfl : j = 0 := by omega
         simp only [List.drop_zero] at *
         exact ⟨by omega, Names.matches_step hs1 (by first | (exfalso; omega) | ((try simp at h4); (try simp at h28); (try simp at h37); (try simp at h38); simp [Names.match1, h4, h28, h37, h38])) hI1.2⟩
       omega
     refine c_seq fun _ hK48 => ?_
     refine c_region ?_
     refine l_val wn (r_fa rfl fld85_0) rfl ?_
     refine l_val wn (r_lb 0 rfl rfl rfl flat3) rfl ?_
     refine l_val wn (r_eql rfl rfl) rfl ?_
     refine l_val wn (r_move rfl) rfl ?_
     refine l_case (t := 74) rfl (fun h39 => ?_) (fun h39 => ?_)
     · refine l_val (wg rfl rfl rfl) (r_move rfl) rfl ?_
       refine l_val (wg rfl rfl rfl) (r_notb rfl) rfl ?_
       refine l_val wn (r_pick rfl rfl) rfl ?_
       refine l_val wn (r_assign rfl) rfl ?_
       refine l_nil (e_go hK48 ?_)
       refine c_condb rfl (fun h40 => ?_) (fun h40 => ?_)
       · refine c_skip (e_in_n (e_in_n (e_go hK6 ?_)))
         refine c_region ?_
         refine l_val wn (r_addn rfl rfl (by omega)) rfl ?_
         refine l_val wn (r_move rfl) rfl ?_
         refine l_nil (e_round1 (k + 1) (sc rfl (sc rfl (sc rfl (sc (ji (by omega)) sn)))) (fun _ h => (h.sel [1, 2] (by decide) rfl)) ?_ ?_)
         · obtain rfl : j = 0 := by omega
           simp only [List.drop_zero] at *
           exact ⟨by omega, Names.matches_step hs1 (by first | (exfalso; omega) | ((try simp at h4); (try simp at h28); (try simp at h37); (try simp at h38); (try simp at h39); (try simp at h40); simp [Names.match1, h4, h28, h37, h38, h39, h40])) hI1.2⟩
         omega
       refine c_seq fun _ hK49 => ?_
       refine c_region ?_
       refine l_val wn (r_assign rfl) rfl ?_
       refine l_nil (e_go hK49 ?_)
       refine c_ret (e_in_r (e_in_r (e_then_r (e_loop1_r (e_in_r (e_then_r (e_ret1 (.inl rfl) Try.results27 (rv_tmp rfl) fun w1 hM => ?_)))))))
       obtain rfl : j = 0 := by omega
       simp only [List.drop_zero] at *
       exact ret_ok (by rw [Names.matches_stop hs1 (by first | (exfalso; omega) | ((try simp at h4); (try simp at h28); (try simp at h37); (try simp at h38); (try simp at h39); (try simp at h40); simp [Names.match1, h4, h28, h37, h38, h39, h40]))]) hM
     refine l_skip (wg rfl rfl rfl) rfl ?_
     refine l_skip (wg rfl rfl rfl) rfl ?_
     refine l_val wn (r_pick rfl rfl) rfl ?_
     refine l_val wn (r_assign rfl) rfl ?_
     refine l_nil (e_go hK48 ?_)
     refine c_false rfl rfl ?_
     refine c_seq fun _ hK50 => ?_
     refine c_region ?_
     refine l_val wn (r_assign rfl) rfl ?_
     refine l_nil (e_go hK50 ?_)
     refine c_ret (e_in_r (e_in_r (e_then_r (e_loop1_r (e_in_r (e_then_r (e_ret1 (.inl rfl) Try.results27 (rv_tmp rfl) fun w1 hM => ?_)))))))
     obtain rfl : j = 0 := by omega
     simp only [List.drop_zero] at *
     exact ret_ok (by rw [Names.matches_stop hs1 (by first | (exfalso; omega) | ((try simp at h4); (try simp at h28); (try simp at h37); (try simp at h38); (try simp at h39); simp [Names.match1, h4, h28, h37, h38, h39]))]) hM
   refine l_skip (wg rfl rfl rfl) rfl ?_
   refine l_val wn (r_pick rfl rfl) rfl ?_
   refine l_val wn (r_assign rfl) rfl ?_
   refine l_nil (e_go hK47 ?_)
   refine c_false rfl rfl ?_
   refine c_seq fun _ hK51 => ?_
   refine c_region ?_
   refine l_val wn (r_fa rfl fld85_0) rfl ?_
   refine l_val wn (r_lb 0 rfl rfl rfl flat3) rfl ?_
   refine l_val wn (r_eql rfl rfl) rfl ?_
   refine l_val wn (r_move rfl) rfl ?_
   refine l_case (t := 74) rfl (fun h41 => ?_) (fun h41 => ?_)
   · refine l_val (wg rfl rfl rfl) (r_move rfl) rfl ?_
     refine l_val (wg rfl rfl rfl) (r_notb rfl) rfl ?_
     refine l_val wn (r_pick rfl rfl) rfl ?_
     refine l_val wn (r_assign rfl) rfl ?_
     refine l_nil (e_go hK51 ?_)
     refine c_condb rfl (fun h42 => ?_) (fun h42 => ?_)
     · refine c_skip (e_in_n (e_in_n (e_go hK6 ?_)))
       refine c_region ?_
       refine l_val wn (r_addn rfl rfl (by omega)) rfl ?_
       refine l_val wn (r_move rfl) rfl ?_
       refine l_nil (e_round1 (k + 1) (sc rfl (sc rfl (sc rfl (sc (ji (by omega)) sn)))) (fun _ h => (h.sel [1, 2] (by decide) rfl)) ?_ ?_)
       · obtain rfl : j = 0 := by omega
         simp only [List.drop_zero] at *
         exact ⟨by omega, Names.matches_step hs1 (by first | (exfalso; omega) | ((try simp at h4); (try simp at h28); (try simp at h37); (try simp at h41); (try simp at h42); simp [Names.match1, h4, h28, h37, h41, h42])) hI1.2⟩
       omega
     refine c_seq fun _ hK52 => ?_
     refine c_region ?_
     refine l_val wn (r_assign rfl) rfl ?_
     refine l_nil (e_go hK52 ?_)
     refine c_ret (e_in_r (e_in_r (e_then_r (e_loop1_r (e_in_r (e_then_r (e_ret1 (.inl rfl) Try.results27 (rv_tmp rfl) fun w1 hM => ?_)))))))
     obtain rfl : j = 0 := by omega
     simp only [List.drop_zero] at *
     exact ret_ok (by rw [Names.matches_stop hs1 (by first | (exfalso; omega) | ((try simp at h4); (try simp at h28); (try simp at h37); (try simp at h41); (try simp at h42); simp [Names.match1, h4, h28, h37, h41, h42]))]) hM
   refine l_skip (wg rfl rfl rfl) rfl ?_
   refine l_skip (wg rfl rfl rfl) rfl ?_
   refine l_val wn (r_pick rfl rfl) rfl ?_
   refine l_val wn (r_assign rfl) rfl ?_
   refine l_nil (e_go hK51 ?_)
   refine c_false rfl rfl ?_
   refine c_seq fun _ hK53 => ?_
   refine c_region ?_
   refine l_val wn (r_assign rfl) rfl ?_
   refine l_nil (e_go hK53 ?_)
   refine c_ret (e_in_r (e_in_r (e_then_r (e_loop1_r (e_in_r (e_then_r (e_ret1 (.inl rfl) Try.results27 (rv_tmp rfl) fun w1 hM => ?_)))))))
   obtain rfl : j = 0 := by omega
   simp only [List.drop_zero] at *
   exact ret_ok (by rw [Names.matches_stop hs1 (by first | (exfalso; omega) | ((try simp at h4); (try simp at h28); (try simp at h37); (try simp at h41); simp [Names.match1, h4, h28, h37, h41]))]) hM
 refine c_exit (e_then_x (e_loop1_x (e_in_hit (e_go hK2 ?_))))
 refine c_seq fun _ hK54 => ?_
 refine c_region ?_
 refine l_val wn (r_assign rfl) rfl ?_
 refine l_nil (e_go hK54 ?_)
 refine c_ret (e_ret1 (.inl rfl) Try.results27 (rv_tmp rfl) fun w1 hM => ?_)
 exact ret_ok (by rw [Names.matches_done (by omega) hI1.2]) hM

theorem c_refOnly (lv : Value) (l : List Label) (by_v : Value) (by_ : List ByteArray) (w : World) (hl : FlatSl (In w) 2 labelE lv l w) (hby_ : FlatSl (In w) 1 strE by_v by_ w) (hl1 : l.length ≤ 1048576) :
    Calls Try.prog 64 #[lv, by_v] w (RetL w 51 2 labelE (Names.only l by_)) := by
 obtain ⟨lA, lc, rfl, hlc, hlm, hlA⟩ := hl.form
 obtain ⟨by_A, by_c, rfl, hby_c, hby_m, hby_A⟩ := hby_.form
 refine fstart (N := 33) (vals := [.slice lA l.length lc, .slice by_A by_.length by_c]) (S := Mem w no [slO (In w) 2 labelE (.slice lA l.length lc) l, slO (In w) 1 strE (.slice by_A by_.length by_c) by_]) Try.func64 rfl rfl rfl (Mem.ofDats (dc (dl hl) (dc (dl hby_) dn))) ?_
 refine c_seq fun _ hK1 => ?_
 refine c_region ?_
 refine l_nilRow (labelE : Label → List Value) 51 2 ?_
 refine l_val wn (r_assign rfl) rfl ?_
 refine l_nil (e_go hK1 ?_)
 refine c_seq fun _ hK2 => ?_
 refine c_region ?_
 refine l_nilRow (labelE : Label → List Value) 51 2 ?_
 refine l_val wn (r_assign rfl) rfl ?_
 refine l_nil (e_go hK2 ?_)
 refine c_seq fun _ hK3 => ?_
 refine c_seq fun _ hK4 => ?_
 refine c_region ?_
 refine l_val wn (r_move rfl) rfl ?_
 refine l_val wn (r_len rfl Try.underlying42) rfl ?_
 refine l_val wn (r_move rfl) rfl ?_
 refine l_nil (e_go hK4 ?_)
 refine c_block ?_
 refine c_loop2 (fun (k : Nat) (vr : Value) => [(1, .slice by_A by_.length by_c), (5, vr), (10, .slice lA l.length lc), (11, .int .i64 (l.length : Int)), (12, .int .i64 (k : Int))]) (fun (k : Nat) (vr : Value) => [Row vr 51 2 labelE (Names.only (l.take k) by_), Row (.slice none 0 0) 51 2 labelE ([] : List Label), slO (In w) 2 labelE (.slice lA l.length lc) l, slO (In w) 1 strE (.slice by_A by_.length by_c) by_]) (fun (k : Nat) (vr : Value) => k ≤ l.length) (fun (k : Nat) (vr : Value) => l.length - k) 0 (.slice none 0 0) (sc rfl (sc rfl (sc rfl (sc rfl (sc (ji (by omega)) sn))))) (fun _ h => h) ?_ (fun k vr hI1 => ?_)
 · omega
 have hlen := Nat.le_trans (Names.only_len (l.take k) by_) (List.length_take_le k l)
 refine c_open 0 (l := (Names.only (l.take k) by_)) rfl fun A1 cp1 hv1 hc1 hm1 hA1 => ?_
 subst hv1
 refine c_seq fun _ hK5 => ?_
 refine c_region ?_
 refine l_val wn (r_lss rfl rfl) rfl ?_
 refine l_nil (e_go hK5 ?_)
 refine c_seq fun _ hK6 => ?_
 refine c_cond rfl (fun h1 => ?_) (fun h1 => ?_)
 · refine c_skip (e_go hK6 ?_)
   refine c_seq fun _ hK7 => ?_
   refine c_block ?_
   refine c_seq fun _ hK8 => ?_
   refine c_region ?_
   obtain ⟨ad1, hd1⟩ := hlA (ne_nil (i := k) (by first | omega | decide | (simp only [List.length_cons, List.length_nil, List.length_append, List.length_take, List.length_set]; omega)))
   refine l_val wn (r_ia (i := k) rfl hd1 rfl (by omega) (by first | omega | decide | (simp only [List.length_cons, List.length_nil, List.length_append, List.length_take, List.length_set]; omega)) Try.underlying42 inf51) rfl ?_
   obtain ⟨s1, hs1⟩ : ∃ x, l[k]? = some x := ⟨_, List.getElem?_eq_getElem (by first | omega | decide | (simp only [List.length_cons, List.length_nil, List.length_append, List.length_take, List.length_set]; omega))⟩
   refine l_val wn (r_eln 2 [.string s1.key, .string s1.val] rfl rfl hd1 hs1 rfl rfl agg51 inf51) rfl ?_
   refine l_alloc wn inf51 rfl fun b7 => ?_
   refine l_stn 0 wn rfl rfl rfl inf51 rfl rfl rfl ?_
   refine l_nil (e_go hK8 ?_)
   refine c_seq fun _ hK9 => ?_
   refine c_region ?_
   refine l_val wn (r_move rfl) rfl ?_
   refine l_val wn (r_len rfl Try.underlying24) rfl ?_
   refine l_val wn (r_move rfl) rfl ?_
   refine l_nil (e_go hK9 ?_)
   refine c_block ?_
   refine c_loop1 (fun (j : Nat) => [(1, .slice by_A by_.length by_c), (5, .slice A1 ((Names.only (l.take k) by_).length) cp1), (7, .pointer (some ⟨b7, 0, none⟩)), (10, .slice lA l.length lc), (11, .int .i64 (l.length : Int)), (12, .int .i64 (k : Int)), (16, .slice by_A by_.length by_c), (17, .int .i64 (by_.length : Int)), (18, .int .i64 (j : Int))]) (fun (j : Nat) => [.blk b7 [.string s1.key, .string s1.val] 51, Row (.slice A1 ((Names.only (l.take k) by_).length) cp1) 51 2 labelE (Names.only (l.take k) by_), Row (.slice none 0 0) 51 2 labelE ([] : List Label), slO (In w) 2 labelE (.slice lA l.length lc) l, slO (In w) 1 strE (.slice by_A by_.length by_c) by_]) (fun (j : Nat) => j ≤ by_.length ∧ s1.key ∉ by_.take j) (fun (j : Nat) => by_.length - j) 0 (sc rfl (sc rfl (sc rfl (sc rfl (sc rfl (sc rfl (sc rfl (sc rfl (sc (ji (by omega)) sn))))))))) (fun _ h => h) ?_ (fun j hI2 => ?_)
   · simp
   refine c_seq fun _ hK10 => ?_
   refine c_region ?_
   refine l_val wn (r_lss rfl rfl) rfl ?_
   refine l_nil (e_go hK10 ?_)
   refine c_seq fun _ hK11 => ?_
   refine c_cond rfl (fun h2 => ?_) (fun h2 => ?_)
   · refine c_skip (e_go hK11 ?_)
     refine c_seq fun _ hK12 => ?_
     refine c_block ?_
     refine c_seq fun _ hK13 => ?_
     refine c_region ?_
     obtain ⟨ad2, hd2⟩ := hby_A (ne_nil (i := j) (by first | omega | decide | (simp only [List.length_cons, List.length_nil, List.length_append, List.length_take, List.length_set]; omega)))
     refine l_val wn (r_ia (i := j) rfl hd2 rfl (by omega) (by first | omega | decide | (simp only [List.length_cons, List.length_nil, List.length_append, List.length_take, List.length_set]; omega)) Try.underlying24 inf9) rfl ?_
     obtain ⟨s2, hs2⟩ : ∃ x, by_[j]? = some x := ⟨_, List.getElem?_eq_getElem (by first | omega | decide | (simp only [List.length_cons, List.length_nil, List.length_append, List.length_take, List.length_set]; omega))⟩
     refine l_val wn (r_el 4 rfl rfl hd2 hs2 rfl flat9) rfl ?_
     refine l_val wn (r_assign rfl) rfl ?_
     refine l_nil (e_go hK13 ?_)
     refine c_seq fun _ hK14 => ?_
     refine c_region ?_
     refine l_val wn (r_move rfl) rfl ?_
     refine l_val wn (r_fa rfl fld51_0) rfl ?_
     refine l_val wn (r_lb 0 rfl rfl rfl flat9) rfl ?_
     refine l_val wn (r_seql rfl rfl) rfl ?_
     refine l_nil (e_go hK14 ?_)
     refine c_cond rfl (fun h3 => ?_) (fun h3 => ?_)
     · refine c_seq fun _ hK15 => ?_
       refine c_region ?_
       refine l_val wn (r_move rfl) rfl ?_
       refine l_val wn (r_lbn 0 [.string s1.key, .string s1.val] rfl rfl rfl rfl agg51 inf51) rfl ?_
       refine l_bsL labelE ([s1] : List Label) wn Try.underlying42 inf51 rfl rfl rfl rfl (by decide) (by decide) rfl fun b28 => ?_
       refine l_app 2 (Names.only (l.take k) by_) ([s1] : List Label) encLabel wn rfl rfl rfl (fun _ hM => (RowSl encLabel hM 0 rfl)) Try.underlying42 inf51 rfl rfl (by simp only [List.length_append, List.length_cons, List.length_nil]; omega) rfl fun A2 cp2 hc2 hm2 hA2 => ?_
       refine l_val wn (r_assign rfl) rfl ?_
       refine l_nil (e_go hK15 ?_)
       refine c_exit (e_in_miss rfl (e_then_x (e_loop1_x (e_in_hit (e_in_n (e_go hK7 ?_))))))
       refine c_region ?_
       refine l_val wn (r_addn rfl rfl (by omega)) rfl ?_
       refine l_val wn (r_move rfl) rfl ?_
       refine l_nil (e_round2 (k + 1) (.slice A2 (((Names.only (l.take k) by_) ++ ([s1] : List Label)).length) cp2) (sc rfl (sc rfl (sc rfl (sc rfl (sc (ji (by omega)) sn))))) (fun _ h => by rw [(Names.only_succ hs1).trans (if_pos ((Names.index_mem _ _ _).2 (h3 ▸ List.mem_of_getElem? hs2)))]; exact (h.sel [2, 3, 4, 5] (by decide) rfl)) ?_ ?_)
       · omega
       omega
     refine c_skip (e_in_n (e_go hK12 ?_))
     refine c_region ?_
     refine l_val wn (r_addn rfl rfl (by omega)) rfl ?_
     refine l_val wn (r_move rfl) rfl ?_
     refine l_nil (e_round1 (j + 1) (sc rfl (sc rfl (sc rfl (sc rfl (sc rfl (sc rfl (sc rfl (sc rfl (sc (ji (by omega)) sn))))))))) (fun _ h => h) ?_ ?_)
     · exact ⟨by omega, Names.not_mem_step hI2.2 hs2 h3⟩
     omega
   refine c_exit (e_then_x (e_loop1_x (e_in_hit (e_in_n (e_go hK7 ?_)))))
   refine c_region ?_
   refine l_val wn (r_addn rfl rfl (by omega)) rfl ?_
   refine l_val wn (r_move rfl) rfl ?_
   refine l_nil (e_round2 (k + 1) (.slice A1 ((Names.only (l.take k) by_).length) cp1) (sc rfl (sc rfl (sc rfl (sc rfl (sc (ji (by omega)) sn))))) (fun _ h => by rw [(Names.only_succ hs1).trans (if_neg (fun g => Names.not_mem_done hI2.2 (by omega) ((Names.index_mem _ _ _).1 g)))]; exact (h.sel [1, 2, 3, 4] (by decide) rfl)) ?_ ?_)
   · omega
   omega
 refine c_exit (e_then_x (e_loop2_x (e_in_hit (e_go hK3 ?_))))
 refine c_seq fun _ hK16 => ?_
 refine c_region ?_
 refine l_val wn (r_move rfl) rfl ?_
 refine l_val wn (r_assign rfl) rfl ?_
 refine l_nil (e_go hK16 ?_)
 refine c_ret (e_ret1 (.inl rfl) Try.results64 (rv_tmp rfl) fun w1 hM => ?_)
 exact hM.retL' 0 rfl (by rw [List.take_of_length_le (by omega)])

end Go.Proofs.Ytldecdningjkoaa
