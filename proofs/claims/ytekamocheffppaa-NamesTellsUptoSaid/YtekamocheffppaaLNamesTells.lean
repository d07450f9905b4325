/-
  Walks: what each function hands back.
-/
import Derived.Test.YtekamocheffppaaWcodec
import Derived.Test.YtekamocheffppaaRd
namespace Go.Proofs.Ytekamocheffppaa
open Ex
set_option linter.unusedVariables false
set_option linter.unusedSimpArgs false
theorem law_NamesTells (av : Value) (a : List Label) (bv : Value) (b : List Label) (lv : Value) (l : List Match) (by_v : Value) (by_ : List ByteArray) (key : ByteArray) (w : World) (ha : FlatSl (In w) 2 labelE av a w) (hb : FlatSl (In w) 2 labelE bv b w) (hl : FlatSl (In w) 3 matchE lv l w) (hby_ : FlatSl (In w) 1 strE by_v by_ w) (b0 : a.length ≤ 1048576) (o0 : ∀ x ∈ a, okLabel x) (_b1 : b.length ≤ 1048576) (_o1 : ∀ x ∈ b, okLabel x) (_b2 : l.length ≤ 1048576) (_o2 : ∀ x ∈ l, okMatch x) (_b3 : by_.length ≤ 1048576) (_o3 : ∀ x ∈ by_, okStr x) (o4 : okStr key) :
    Calls Try.prog 9 #[av, bv, lv, by_v, .string key] w (Ret w (.bool true)) := by
  obtain ⟨aA, ac, rfl, hac, ham, haA⟩ := ha.form
  obtain ⟨bA, bc, rfl, hbc, hbm, hbA⟩ := hb.form
  obtain ⟨lA, lc, rfl, hlc, hlm, hlA⟩ := hl.form
  obtain ⟨by_A, by_c, rfl, hby_c, hby_m, hby_A⟩ := hby_.form
  have hok : ∀ x ∈ a, x.key.size ≤ 9223372036854775807 ∧ x.val.size ≤ 9223372036854775807 := o0
  have ho4 : key.size ≤ 9223372036854775807 := o4
  refine fstart (N := 98) (vals := [.slice aA a.length ac, .slice bA b.length bc, .slice lA l.length lc, .slice by_A by_.length by_c, .string key]) (S := Mem w no [slO (In w) 2 labelE (.slice aA a.length ac) a, slO (In w) 2 labelE (.slice bA b.length bc) b, slO (In w) 3 matchE (.slice lA l.length lc) l, slO (In w) 1 strE (.slice by_A by_.length by_c) by_]) Try.func9 rfl rfl rfl (Mem.ofDats (dc (dl ha) (dc (dl hb) (dc (dl hl) (dc (dl hby_) dn))))) ?_
  refine c_seq fun K1 hK1 => ?_
  refine c_region ?_
  refine l_val wn (r_assign rfl) rfl ?_
  refine l_nil (e_go hK1 ?_)
  refine c_seq fun K2 hK2 => ?_
  refine c_region ?_
  refine l_val wn (r_move rfl) rfl ?_
  refine l_val wn (r_move rfl) rfl ?_
  refine l_callF wn rfl Try.call19 rfl (fun w1 hM => c_compare _ a _ b w1 (hM.sl 0 rfl) (hM.sl 1 rfl)) ?_
  refine l_val wn (r_assign rfl) rfl ?_
  refine l_nil (e_go hK2 ?_)
  refine c_seq fun K3 hK3 => ?_
  refine c_region ?_
  refine l_val wn (r_move rfl) rfl ?_
  refine l_val wn (r_move rfl) rfl ?_
  refine l_callF wn rfl Try.call22 rfl (fun w1 hM => c_refCompare _ a _ b w1 (hM.sl 0 rfl) (hM.sl 1 rfl)) ?_
  refine l_val wn (r_assign rfl) rfl ?_
  refine l_nil (e_go hK3 ?_)
  refine c_seq fun K4 hK4 => ?_
  refine c_seq fun K5 hK5 => ?_
  refine c_region ?_
  refine l_val wn (r_move rfl) rfl ?_
  refine l_callF wn rfl Try.call23 rfl (fun w1 hM => c_named key w1) ?_
  refine l_val wn (r_move rfl) rfl ?_
  refine l_callF wn rfl Try.call24 rfl (fun w1 hM => c_refNamed key w1 (by first | assumption | omega | exact (hok _ (List.mem_of_getElem? hs1)).1 | exact (hok _ (List.mem_of_getElem? hs1)).2)) ?_
  refine l_val wn (r_bneq rfl rfl flat4 Try.underlying4) rfl ?_
  refine l_val wn (r_move rfl) rfl ?_
  refine l_litf (t := 28) rfl (fun h => h rfl) ?_
  refine l_val (wg rfl rfl rfl) (r_move rfl) rfl ?_
  refine l_callF (wg rfl rfl rfl) rfl Try.call25 rfl (fun w1 hM => c_namesWrong _ a w1 (hM.sl 0 rfl)) ?_
  refine l_val (wg rfl rfl rfl) (r_move rfl) rfl ?_
  refine l_callF (wg rfl rfl rfl) rfl Try.call26 rfl (fun w1 hM => c_refWrongSeries _ a w1 (hM.sl 0 rfl) (by first | assumption | exact hok)) ?_
  refine l_val (wg rfl rfl rfl) (r_neq rfl rfl) rfl ?_
  refine l_val wn (r_pick rfl rfl) rfl ?_
  refine l_val wn (r_move rfl) rfl ?_
  refine l_litf (t := 35) rfl (fun h => h rfl) ?_
  refine l_val (wg rfl rfl rfl) (r_move rfl) rfl ?_
  refine l_val (wg rfl rfl rfl) (r_lss rfl rfl) rfl ?_
  refine l_val (wg rfl rfl rfl) (r_move rfl) rfl ?_
  refine l_val (wg rfl rfl rfl) (r_lss rfl rfl) rfl ?_
  refine l_val (wg rfl rfl rfl) (r_bneq rfl rfl flat4 Try.underlying4) rfl ?_
  refine l_val wn (r_pick rfl rfl) rfl ?_
  refine l_val wn (r_move rfl) rfl ?_
  refine l_litf (t := 42) rfl (fun h => h rfl) ?_
  refine l_val (wg rfl rfl rfl) (r_move rfl) rfl ?_
  refine l_val (wg rfl rfl rfl) (r_gtr rfl rfl) rfl ?_
  refine l_val (wg rfl rfl rfl) (r_move rfl) rfl ?_
  refine l_val (wg rfl rfl rfl) (r_gtr rfl rfl) rfl ?_
  refine l_val (wg rfl rfl rfl) (r_bneq rfl rfl flat4 Try.underlying4) rfl ?_
  refine l_val wn (r_pick rfl rfl) rfl ?_
  refine l_val wn (r_move rfl) rfl ?_
  refine l_litf (t := 49) rfl (fun h => h rfl) ?_
  refine l_val (wg rfl rfl rfl) (r_move rfl) rfl ?_
  refine l_val (wg rfl rfl rfl) (r_move rfl) rfl ?_
  refine l_callF (wg rfl rfl rfl) rfl Try.call21 rfl (fun w1 hM => c_matches _ a _ l w1 (hM.sl 0 rfl) (hM.sl 2 rfl)) ?_
  refine l_val (wg rfl rfl rfl) (r_move rfl) rfl ?_
  refine l_val (wg rfl rfl rfl) (r_move rfl) rfl ?_
  refine l_callF (wg rfl rfl rfl) rfl Try.call27 rfl (fun w1 hM => c_refMatches _ a _ l w1 (hM.sl 0 rfl) (hM.sl 2 rfl)) ?_
  refine l_val (wg rfl rfl rfl) (r_bneq rfl rfl flat4 Try.underlying4) rfl ?_
  refine l_val wn (r_pick rfl rfl) rfl ?_
  refine l_val wn (r_move rfl) rfl ?_
  refine l_litf (t := 58) rfl (fun h => h rfl) ?_
  refine l_val (wg rfl rfl rfl) (r_move rfl) rfl ?_
  refine l_val (wg rfl rfl rfl) (r_move rfl) rfl ?_
  refine l_callL (Names.only a by_) (wg rfl rfl rfl) rfl Try.call28 rfl (fun w1 hM => c_only _ a _ by_ w1 (hM.sl 0 rfl) (hM.sl 3 rfl) (by first | assumption | omega)) fun A1 cp1 hc1 hm1 hA1 => ?_
  refine l_val (wg rfl rfl rfl) (r_move rfl) rfl ?_
  refine l_val (wg rfl rfl rfl) (r_move rfl) rfl ?_
  refine l_callL (Names.only a by_) (wg rfl rfl rfl) rfl Try.call29 rfl (fun w1 hM => c_refOnly _ a _ by_ w1 (hM.sl 1 rfl) (hM.sl 4 rfl) (by first | assumption | omega)) fun A2 cp2 hc2 hm2 hA2 => ?_
  refine l_callF (wg rfl rfl rfl) rfl Try.call20 rfl (fun w1 hM => c_SameSeries _ (Names.only a by_) _ (Names.only a by_) w1 (RowSl encLabel hM 1 rfl) (RowSl encLabel hM 0 rfl)) ?_
  refine l_val (wg rfl rfl rfl) (r_not rfl) rfl ?_
  refine l_val wn (r_pick rfl rfl) rfl ?_
  refine l_nil (e_go hK5 ?_)
  refine c_false rfl (decide_eq_false (fun h => h rfl)) ?_
  refine c_skip (e_go hK4 ?_)
  refine c_seq fun K6 hK6 => ?_
  refine c_region ?_
  refine l_val wn (r_move rfl) rfl ?_
  refine l_val wn (r_move rfl) rfl ?_
  refine l_callF wn rfl Try.call30 rfl (fun w1 hM => c_get _ a key w1 (hM.sl 2 rfl)) ?_
  refine l_val wn (r_move rfl) rfl ?_
  refine l_val wn (r_extract rfl rfl) rfl ?_
  refine l_val wn (r_extract rfl rfl) rfl ?_
  refine l_val wn (r_assign rfl) rfl ?_
  refine l_val wn (r_assign rfl) rfl ?_
  refine l_nil (e_go hK6 ?_)
  refine c_seq fun K7 hK7 => ?_
  refine c_seq fun K8 hK8 => ?_
  refine c_region ?_
  refine l_val wn (r_move rfl) rfl ?_
  refine l_val wn (r_len rfl Try.underlying40) rfl ?_
  refine l_val wn (r_move rfl) rfl ?_
  refine l_nil (e_go hK8 ?_)
  refine c_block ?_
  refine c_loop1 (fun (k : Nat) => [(4, .string key), (13, .string ((Names.get a key).1)), (14, .bool ((Names.get a key).2)), (74, .slice aA a.length ac), (75, .int .i64 (a.length : Int)), (76, .int .i64 (k : Int))]) (fun (k : Nat) => [Row (.slice A2 ((Names.only a by_).length) cp2) 55 2 labelE (Names.only a by_), Row (.slice A1 ((Names.only a by_).length) cp1) 55 2 labelE (Names.only a by_), slO (In w) 2 labelE (.slice aA a.length ac) a, slO (In w) 2 labelE (.slice bA b.length bc) b, slO (In w) 3 matchE (.slice lA l.length lc) l, slO (In w) 1 strE (.slice by_A by_.length by_c) by_]) (fun (k : Nat) => k ≤ a.length ∧ Names.get a key = Names.get (a.drop k) key) (fun (k : Nat) => a.length - k) 0 (sc rfl (sc rfl (sc rfl (sc rfl (sc rfl (sc (ji (by omega)) sn)))))) (fun _ h => h) ?_ (fun k hI1 => ?_)
  · simp
  ·
    refine c_seq fun K9 hK9 => ?_
    refine c_region ?_
    refine l_val wn (r_lss rfl rfl) rfl ?_
    refine l_nil (e_go hK9 ?_)
    refine c_seq fun K10 hK10 => ?_
    refine c_cond rfl (fun h1 => ?_) (fun h1 => ?_)
    ·
      refine c_skip (e_go hK10 ?_)
      refine c_seq fun K11 hK11 => ?_
      refine c_block ?_
      refine c_seq fun K12 hK12 => ?_
      refine c_region ?_
      obtain ⟨ad1, hd1⟩ := haA (ne_nil (i := k) (by first | omega | decide | (simp only [List.length_cons, List.length_nil, List.length_append, List.length_take, List.length_set]; omega)))
      refine l_val wn (r_ia (i := k) rfl hd1 rfl (by omega) (by first | omega | decide | (simp only [List.length_cons, List.length_nil, List.length_append, List.length_take, List.length_set]; omega)) Try.underlying40 inf55) rfl ?_
      obtain ⟨s1, hs1⟩ : ∃ x, a[k]? = some x := ⟨_, List.getElem?_eq_getElem (by first | omega | decide | (simp only [List.length_cons, List.length_nil, List.length_append, List.length_take, List.length_set]; omega))⟩
      refine l_val wn (r_eln 2 [.string s1.key, .string s1.val] rfl rfl hd1 hs1 rfl rfl agg55 inf55) rfl ?_
      refine l_alloc wn inf55 rfl fun b16 => ?_
      refine l_stn 0 wn rfl rfl rfl inf55 rfl rfl rfl ?_
      refine l_nil (e_go hK12 ?_)
      refine c_seq fun K13 hK13 => ?_
      refine c_region ?_
      refine l_val wn (r_fa rfl fld55_0) rfl ?_
      refine l_val wn (r_lb 0 rfl rfl rfl flat9) rfl ?_
      refine l_val wn (r_move rfl) rfl ?_
      refine l_val wn (r_seql rfl rfl) rfl ?_
      refine l_nil (e_go hK13 ?_)
      refine c_cond rfl (fun h2 => ?_) (fun h2 => ?_)
      ·
        refine c_seq fun K14 hK14 => ?_
        refine c_region ?_
        refine l_val wn (r_move rfl) rfl ?_
        refine l_val wn (r_move rfl) rfl ?_
        refine l_caseb (t := 85) rfl (fun h3 => ?_) (fun h3 => ?_)
        ·
          refine l_val (wg rfl rfl rfl) (r_move rfl) rfl ?_
          refine l_val (wg rfl rfl rfl) (r_fa rfl fld55_1) rfl ?_
          refine l_val (wg rfl rfl rfl) (r_lb 0 rfl rfl rfl flat9) rfl ?_
          refine l_val (wg rfl rfl rfl) (r_seql rfl rfl) rfl ?_
          refine l_val wn (r_pick rfl rfl) rfl ?_
          refine l_val wn (r_assign rfl) rfl ?_
          refine l_nil (e_go hK14 ?_)
          refine c_ret (e_in_r (e_then_r (e_loop1_r (e_in_r (e_then_r (e_ret1 (.inl rfl) Try.results9 (rv_tmp rfl) fun w1 hM => ?_))))))
          exact ret_ok (by rw [decide_eq_true (by rw [hI1.2, Names.get_step hs1, if_pos (by assumption : s1.key = key)])]) hM
        ·
          refine l_skip (wg rfl rfl rfl) rfl ?_
          refine l_skip (wg rfl rfl rfl) rfl ?_
          refine l_skip (wg rfl rfl rfl) rfl ?_
          refine l_skip (wg rfl rfl rfl) rfl ?_
          refine l_val wn (r_pick rfl rfl) rfl ?_
          refine l_val wn (r_assign rfl) rfl ?_
          refine l_nil (e_go hK14 ?_)
          refine c_ret (e_in_r (e_then_r (e_loop1_r (e_in_r (e_then_r (e_ret1 (.inl rfl) Try.results9 (rv_tmp rfl) fun w1 hM => ?_))))))
          exact absurd (by rw [hI1.2, Names.get_step hs1, if_pos (by assumption : s1.key = key)]) h3
      ·
        refine c_skip (e_in_n (e_go hK11 ?_))
        refine c_region ?_
        refine l_val wn (r_addn rfl rfl (by omega)) rfl ?_
        refine l_val wn (r_move rfl) rfl ?_
        refine l_nil (e_round1 (k + 1) (sc rfl (sc rfl (sc rfl (sc rfl (sc rfl (sc (ji (by omega)) sn)))))) (fun _ h => (h.sel [1, 2, 3, 4, 5, 6] (by decide) rfl)) ?_ ?_)
        · exact ⟨by omega, by rw [hI1.2, Names.get_step hs1, if_neg h2]⟩
        · omega
    ·
      refine c_exit (e_then_x (e_loop1_x (e_in_hit (e_go hK7 ?_))))
      refine c_seq fun K15 hK15 => ?_
      refine c_region ?_
      refine l_val wn (r_move rfl) rfl ?_
      refine l_val wn (r_notb rfl) rfl ?_
      refine l_val wn (r_move rfl) rfl ?_
      refine l_caseb (t := 94) rfl (fun h4 => ?_) (fun h4 => ?_)
      ·
        refine l_val (wg rfl rfl rfl) (r_move rfl) rfl ?_
        refine l_val (wg rfl rfl rfl) (r_seql rfl rfl) rfl ?_
        refine l_val wn (r_pick rfl rfl) rfl ?_
        refine l_val wn (r_assign rfl) rfl ?_
        refine l_nil (e_go hK15 ?_)
        refine c_ret (e_ret1 (.inl rfl) Try.results9 (rv_tmp rfl) fun w1 hM => ?_)
        exact ret_ok (by rw [decide_eq_true (by rw [hI1.2, Names.get_end (by omega)])]) hM
      ·
        refine l_skip (wg rfl rfl rfl) rfl ?_
        refine l_skip (wg rfl rfl rfl) rfl ?_
        refine l_val wn (r_pick rfl rfl) rfl ?_
        refine l_val wn (r_assign rfl) rfl ?_
        refine l_nil (e_go hK15 ?_)
        refine c_ret (e_ret1 (.inl rfl) Try.results9 (rv_tmp rfl) fun w1 hM => ?_)
        exact absurd h4 (by rw [hI1.2, Names.get_end (by omega)]; simp)

end Go.Proofs.Ytekamocheffppaa
