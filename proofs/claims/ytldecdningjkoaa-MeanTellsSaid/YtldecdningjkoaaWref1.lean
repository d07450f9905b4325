/-
  Walks: what each function hands back.
-/
import Derived.Test.YtldecdningjkoaaWagg
import Derived.Test.YtldecdningjkoaaPAgg
namespace Go.Proofs.Ytldecdningjkoaa
open Ex
set_option linter.unusedVariables false
set_option linter.unusedSimpArgs false
theorem c_refUp (a : Int) (b : Int) (w : World)   :
    Calls Try.prog 49 #[.int .i64 a, .int .i64 b] w (Ret w (.int .i64 (Agg.rise a b))) := by
 refine fstart (N := 12) (vals := [.int .i64 a, .int .i64 b]) (S := Mem w no []) Try.func49 rfl rfl rfl (Mem.ofDats dn) ?_
 refine c_seq fun _ hK1 => ?_
 refine c_region ?_
 refine l_val wn (r_assign rfl) rfl ?_
 refine l_nil (e_go hK1 ?_)
 refine c_seq fun _ hK2 => ?_
 refine c_seq fun _ hK3 => ?_
 refine c_region ?_
 refine l_val wn (r_move rfl) rfl ?_
 refine l_val wn (r_move rfl) rfl ?_
 refine l_val wn (r_geq rfl rfl) rfl ?_
 refine l_nil (e_go hK3 ?_)
 refine c_cond rfl (fun h1 => ?_) (fun h1 => ?_)
 · refine c_seq fun _ hK4 => ?_
   refine c_region ?_
   refine l_val wn (r_move rfl) rfl ?_
   refine l_val wn (r_move rfl) rfl ?_
   refine l_val wn (r_sub rfl rfl) rfl ?_
   refine l_val wn (r_assign rfl) rfl ?_
   refine l_nil (e_go hK4 ?_)
   refine c_ret (e_then_r (e_ret1 (.inl rfl) Try.results49 (rv_tmp rfl) fun w1 hM => ?_))
   exact ret_ok (by first | (rw [Agg.rise, if_pos (by omega)]) | (rw [Agg.rise, if_neg (by omega)])) hM
 refine c_skip (e_go hK2 ?_)
 refine c_seq fun _ hK5 => ?_
 refine c_region ?_
 refine l_val wn (r_move rfl) rfl ?_
 refine l_val wn (r_assign rfl) rfl ?_
 refine l_nil (e_go hK5 ?_)
 refine c_ret (e_ret1 (.inl rfl) Try.results49 (rv_tmp rfl) fun w1 hM => ?_)
 exact ret_ok (by first | (rw [Agg.rise, if_pos (by omega)]) | (rw [Agg.rise, if_neg (by omega)])) hM

theorem c_refOf (lv : Value) (l : List Sample) (w : World) (hl : FlatSl (In w) 2 sampleE lv l w) (hln : l.length ≤ 9223372036854775807) (ho : ∀ x ∈ l, -9223372036854775808 ≤ x.value ∧ x.value ≤ 9223372036854775807) :
    Calls Try.prog 28 #[lv] w (Ret w (.agg (sumE (Agg.of l)).toArray)) := by
 obtain ⟨lA, lc, rfl, hlc, hlm, hlA⟩ := hl.form
 refine fstart (N := 78) (vals := [.slice lA l.length lc]) (S := Mem w no [slO (In w) 2 sampleE (.slice lA l.length lc) l]) Try.func28 rfl rfl rfl (Mem.ofDats (dc (dl hl) dn)) ?_
 refine c_seq fun _ hK1 => ?_
 refine c_region ?_
 refine l_alloc wn inf62 rfl fun b2 => ?_
 refine l_nil (e_go hK1 ?_)
 refine c_seq fun _ hK2 => ?_
 refine c_seq fun _ hK3 => ?_
 refine c_region ?_
 refine l_val wn (r_move rfl) rfl ?_
 refine l_val wn (r_len rfl Try.underlying47) rfl ?_
 refine l_val wn (r_eql rfl rfl) rfl ?_
 refine l_nil (e_go hK3 ?_)
 refine c_cond rfl (fun h1 => ?_) (fun h1 => ?_)
 · refine c_seq fun _ hK4 => ?_
   refine c_region ?_
   refine l_val wn (r_build [.int .i64 0, .int .i64 0, .int .i64 0, .int .i64 0, .int .i64 0, .int .i64 0, .int .i64 0] pl62 inf62 rfl rfl) rfl ?_
   refine l_stn 0 wn rfl rfl rfl inf62 rfl rfl rfl ?_
   refine l_nil (e_go hK4 ?_)
   refine c_ret (e_then_r (e_ret1 (.inl rfl) Try.results28 (rv_cell 0 rfl rfl agg62 inf62 rfl) fun w1 hM => ?_))
   exact ret_agg (l1 := [.int .i64 0, .int .i64 0, .int .i64 0, .int .i64 0, .int .i64 0, .int .i64 0, .int .i64 0]) (by rw [List.eq_nil_of_length_eq_zero (by omega : l.length = 0)]; rfl) hM
 obtain ⟨a, ha⟩ : ∃ x, l[0]? = some x := ⟨_, List.getElem?_eq_getElem (by omega)⟩
 obtain ⟨z, hz⟩ : ∃ x, l[l.length - 1]? = some x := ⟨_, List.getElem?_eq_getElem (by omega)⟩
 refine c_skip (e_go hK2 ?_)
 refine c_seq fun _ hK5 => ?_
 refine c_nodes (Mem w no [.blk b2 [.int .i64 0, .int .i64 0, .int .i64 0, .int .i64 0, .int .i64 0, .int .i64 0, .int .i64 0] 62, slO (In w) 2 sampleE (.slice lA l.length lc) l]) mix (fun _ h => h.drew) rfl ?_
 refine n_run (f := 2) [0, 1, 2, 3, 4, 5, 6, 7, 8, 9, 10, 11, 12, 13, 14, 15, 16, 17, 18, 19, 20, 21] rfl rfl (by kernel_rfl) (by kernel_rfl) (fun _ h => h) fun KS hKS => ?_
 refine s_val wn (r_move rfl) rfl ?_
 refine s_val wn (r_len rfl Try.underlying47) rfl ?_
 refine s_val wn (r_move rfl) rfl ?_
 obtain ⟨ad1, hd1⟩ := hlA (ne_nil (i := 0) (by first | omega | decide | (simp only [List.length_cons, List.length_nil, List.length_append, List.length_take, List.length_set]; omega)))
 refine s_val wn (r_ia (i := 0) rfl hd1 rfl (by omega) (by first | omega | decide | (simp only [List.length_cons, List.length_nil, List.length_append, List.length_take, List.length_set]; omega)) Try.underlying47 inf54) rfl ?_
 refine s_val wn (r_fe rfl fld54_1) rfl ?_
 refine s_val wn (r_el 1 rfl rfl hd1 ha rfl flat3) rfl ?_
 refine s_val wn (r_move rfl) rfl ?_
 refine s_val wn (r_ia (i := 0) rfl hd1 rfl (by omega) (by first | omega | decide | (simp only [List.length_cons, List.length_nil, List.length_append, List.length_take, List.length_set]; omega)) Try.underlying47 inf54) rfl ?_
 refine s_val wn (r_fe rfl fld54_1) rfl ?_
 refine s_val wn (r_el 1 rfl rfl hd1 ha rfl flat3) rfl ?_
 refine s_val wn (r_move rfl) rfl ?_
 refine s_val wn (r_ia (i := 0) rfl hd1 rfl (by omega) (by first | omega | decide | (simp only [List.length_cons, List.length_nil, List.length_append, List.length_take, List.length_set]; omega)) Try.underlying47 inf54) rfl ?_
 refine s_val wn (r_fe rfl fld54_1) rfl ?_
 refine s_val wn (r_el 1 rfl rfl hd1 ha rfl flat3) rfl ?_
 refine s_val wn (r_move rfl) rfl ?_
 refine s_val wn (r_move rfl) rfl ?_
 refine s_val wn (r_len rfl Try.underlying47) rfl ?_
 refine s_val wn (r_subn rfl rfl (by omega)) rfl ?_
 refine s_val wn (r_ia (i := (l.length - 1)) rfl hd1 rfl (by omega) (by first | omega | decide | (simp only [List.length_cons, List.length_nil, List.length_append, List.length_take, List.length_set]; omega)) Try.underlying47 inf54) rfl ?_
 refine s_val wn (r_fe rfl fld54_1) rfl ?_
 refine s_val wn (r_el 1 rfl rfl hd1 hz rfl flat3) rfl ?_
 refine s_val wn (r_build [.int .i64 (l.length : Int), .int .i64 0, .int .i64 a.value, .int .i64 a.value, .int .i64 a.value, .int .i64 z.value, .int .i64 0] pl62 inf62 rfl rfl) rfl ?_
 refine s_end hKS ?_
 refine n_step1 (f := 1) (i := 22) rfl (by kernel_rfl) ?_
 refine n_one (i := 22) rfl fun KN hKN => ?_
 refine l_alloc wn inf62 rfl fun b3 => ?_
 refine l_nil (hKN _ _ (fun _ h => (h.sel [1, 2] (by decide) rfl)) ?_)
 refine n_step1 (f := 0) (i := 23) rfl (by kernel_rfl) ?_
 refine n_one (i := 23) rfl fun KN hKN => ?_
 refine l_stn 0 wn rfl rfl rfl inf62 rfl rfl rfl ?_
 refine l_nil (hKN _ _ (fun _ h => (h.sel [1, 2] (by decide) rfl)) ?_)
 refine n_done (by kernel_rfl) (e_go hK5 ?_)
 refine c_seq fun _ hK6 => ?_
 refine c_seq fun _ hK7 => ?_
 refine c_region ?_
 refine l_val wn (r_move rfl) rfl ?_
 refine l_val wn (r_len rfl Try.underlying47) rfl ?_
 refine l_val wn (r_move rfl) rfl ?_
 refine l_nil (e_go hK7 ?_)
 refine c_block ?_
 refine c_loop1 (fun (k : Nat) => [(0, .slice lA l.length lc), (2, .pointer (some ⟨b2, 0, none⟩)), (3, .pointer (some ⟨b3, 0, none⟩)), (32, .slice lA l.length lc), (33, .int .i64 (l.length : Int)), (34, .int .i64 (k : Int))]) (fun (k : Nat) => [.blk b3 [.int .i64 ((Agg.rst l a.value z.value k).count), .int .i64 ((Agg.rst l a.value z.value k).total), .int .i64 ((Agg.rst l a.value z.value k).min), .int .i64 ((Agg.rst l a.value z.value k).max), .int .i64 ((Agg.rst l a.value z.value k).first), .int .i64 ((Agg.rst l a.value z.value k).last), .int .i64 ((Agg.rst l a.value z.value k).rise)] 62, .blk b2 [.int .i64 0, .int .i64 0, .int .i64 0, .int .i64 0, .int .i64 0, .int .i64 0, .int .i64 0] 62, slO (In w) 2 sampleE (.slice lA l.length lc) l]) (fun (k : Nat) => k ≤ l.length) (fun (k : Nat) => l.length - k) 0 (sc rfl (sc rfl (sc rfl (sc rfl (sc rfl (sc (ji (by omega)) sn)))))) (fun _ h => h) ?_ (fun k hI1 => ?_)
 · omega
 refine c_seq fun _ hK8 => ?_
 refine c_region ?_
 refine l_val wn (r_lss rfl rfl) rfl ?_
 refine l_nil (e_go hK8 ?_)
 refine c_seq fun _ hK9 => ?_
 refine c_cond rfl (fun h2 => ?_) (fun h2 => ?_)
 · refine c_skip (e_go hK9 ?_)
   refine c_seq fun _ hK10 => ?_
   refine c_block ?_
   refine c_seq fun _ hK11 => ?_
   refine c_region ?_
   refine l_val wn (r_move rfl) rfl ?_
   refine l_val wn (r_ia (i := k) rfl hd1 rfl (by omega) (by first | omega | decide | (simp only [List.length_cons, List.length_nil, List.length_append, List.length_take, List.length_set]; omega)) Try.underlying47 inf54) rfl ?_
   obtain ⟨s1, hs1⟩ : ∃ x, l[k]? = some x := ⟨_, List.getElem?_eq_getElem (by first | omega | decide | (simp only [List.length_cons, List.length_nil, List.length_append, List.length_take, List.length_set]; omega))⟩
   refine l_val wn (r_eln 2 [.int .i64 s1.time, .int .i64 s1.value] rfl rfl hd1 hs1 rfl rfl agg54 inf54) rfl ?_
   refine l_alloc wn inf54 rfl fun b5 => ?_
   refine l_val wn (r_assign rfl) rfl ?_
   refine l_stn 0 wn rfl rfl rfl inf54 rfl rfl rfl ?_
   refine l_nil (e_go hK11 ?_)
   refine c_seq fun _ hK12 => ?_
   refine c_region ?_
   refine l_val wn (r_fa rfl fld62_1) rfl ?_
   refine l_val wn (r_lb 1 rfl rfl rfl flat3) rfl ?_
   refine l_val wn (r_fa rfl fld54_1) rfl ?_
   refine l_val wn (r_lb 0 rfl rfl rfl flat3) rfl ?_
   refine l_val wn (r_add rfl rfl) rfl ?_
   refine l_val wn (r_fa rfl fld62_1) rfl ?_
   refine l_st1 1 wn rfl rfl rfl rfl inf3 rfl rfl ?_
   refine l_nil (e_go hK12 ?_)
   refine c_cut [(0, .slice lA l.length lc), (2, .pointer (some ⟨b2, 0, none⟩)), (3, .pointer (some ⟨b3, 0, none⟩)), (4, .int .i64 (k : Int)), (5, .pointer (some ⟨b5, 0, none⟩)), (32, .slice lA l.length lc), (33, .int .i64 (l.length : Int)), (34, .int .i64 (k : Int))] (Mem w no [.blk b5 [.int .i64 s1.time, .int .i64 s1.value] 54, .blk b3 [.int .i64 ((Agg.rst l a.value z.value k).count), .int .i64 (IntKind.wrap .i64 ((Agg.rst l a.value z.value k).total + s1.value)), .int .i64 (if s1.value < (Agg.rst l a.value z.value k).min then s1.value else (Agg.rst l a.value z.value k).min), .int .i64 ((Agg.rst l a.value z.value k).max), .int .i64 ((Agg.rst l a.value z.value k).first), .int .i64 ((Agg.rst l a.value z.value k).last), .int .i64 ((Agg.rst l a.value z.value k).rise)] 62, .blk b2 [.int .i64 0, .int .i64 0, .int .i64 0, .int .i64 0, .int .i64 0, .int .i64 0, .int .i64 0] 62, slO (In w) 2 sampleE (.slice lA l.length lc) l]) (fun _ hK13 => ?_) ?_
   · refine c_seq fun _ hK14 => ?_
     refine c_region ?_
     refine l_val wn (r_fa rfl fld54_1) rfl ?_
     refine l_val wn (r_lb 0 rfl rfl rfl flat3) rfl ?_
     refine l_val wn (r_fa rfl fld62_2) rfl ?_
     refine l_val wn (r_lb 1 rfl rfl rfl flat3) rfl ?_
     refine l_val wn (r_lss rfl rfl) rfl ?_
     refine l_nil (e_go hK14 ?_)
     refine c_cond rfl (fun h3 => ?_) (fun h3 => ?_)
     · refine c_region ?_
       refine l_val wn (r_fa rfl fld54_1) rfl ?_
       refine l_val wn (r_lb 0 rfl rfl rfl flat3) rfl ?_
       refine l_val wn (r_fa rfl fld62_2) rfl ?_
       refine l_st1 1 wn rfl rfl rfl rfl inf3 rfl rfl ?_
       refine l_nil (e_cut hK13 (sc rfl (sc rfl (sc rfl (sc rfl (sc rfl (sc rfl (sc rfl (sc rfl sn)))))))) (fun _ h => by simp only [if_pos h3]; exact h))
     refine c_skip (e_cut hK13 (sc rfl (sc rfl (sc rfl (sc rfl (sc rfl (sc rfl (sc rfl (sc rfl sn)))))))) (fun _ h => by simp only [if_neg h3]; exact h))
   refine c_cut [(0, .slice lA l.length lc), (2, .pointer (some ⟨b2, 0, none⟩)), (3, .pointer (some ⟨b3, 0, none⟩)), (4, .int .i64 (k : Int)), (5, .pointer (some ⟨b5, 0, none⟩)), (32, .slice lA l.length lc), (33, .int .i64 (l.length : Int)), (34, .int .i64 (k : Int))] (Mem w no [.blk b5 [.int .i64 s1.time, .int .i64 s1.value] 54, .blk b3 [.int .i64 ((Agg.rst l a.value z.value k).count), .int .i64 (IntKind.wrap .i64 ((Agg.rst l a.value z.value k).total + s1.value)), .int .i64 (if s1.value < (Agg.rst l a.value z.value k).min then s1.value else (Agg.rst l a.value z.value k).min), .int .i64 (if (Agg.rst l a.value z.value k).max < s1.value then s1.value else (Agg.rst l a.value z.value k).max), .int .i64 ((Agg.rst l a.value z.value k).first), .int .i64 ((Agg.rst l a.value z.value k).last), .int .i64 ((Agg.rst l a.value z.value k).rise)] 62, .blk b2 [.int .i64 0, .int .i64 0, .int .i64 0, .int .i64 0, .int .i64 0, .int .i64 0, .int .i64 0] 62, slO (In w) 2 sampleE (.slice lA l.length lc) l]) (fun _ hK15 => ?_) ?_
   · refine c_seq fun _ hK16 => ?_
     refine c_region ?_
     refine l_val wn (r_fa rfl fld54_1) rfl ?_
     refine l_val wn (r_lb 0 rfl rfl rfl flat3) rfl ?_
     refine l_val wn (r_fa rfl fld62_3) rfl ?_
     refine l_val wn (r_lb 1 rfl rfl rfl flat3) rfl ?_
     refine l_val wn (r_gtr rfl rfl) rfl ?_
     refine l_nil (e_go hK16 ?_)
     refine c_cond rfl (fun h4 => ?_) (fun h4 => ?_)
     · refine c_region ?_
       refine l_val wn (r_fa rfl fld54_1) rfl ?_
       refine l_val wn (r_lb 0 rfl rfl rfl flat3) rfl ?_
       refine l_val wn (r_fa rfl fld62_3) rfl ?_
       refine l_st1 1 wn rfl rfl rfl rfl inf3 rfl rfl ?_
       refine l_nil (e_cut hK15 (sc rfl (sc rfl (sc rfl (sc rfl (sc rfl (sc rfl (sc rfl (sc rfl sn)))))))) (fun _ h => by simp only [if_pos h4]; exact h))
     refine c_skip (e_cut hK15 (sc rfl (sc rfl (sc rfl (sc rfl (sc rfl (sc rfl (sc rfl (sc rfl sn)))))))) (fun _ h => by simp only [if_neg h4]; exact h))
   refine c_seq fun _ hK17 => ?_
   refine c_region ?_
   refine l_val wn (r_move rfl) rfl ?_
   refine l_val wn (r_gtr rfl rfl) rfl ?_
   refine l_nil (e_go hK17 ?_)
   refine c_cond rfl (fun h5 => ?_) (fun h5 => ?_)
   · refine c_quietT 13 mix (by kernel_rfl) (fun _ h => h.drew) fun _ hT1 => ?_
     refine q_val wn (r_fa rfl fld62_6) rfl ?_
     refine q_val wn (r_lb 1 rfl rfl rfl flat3) rfl ?_
     refine q_val wn (r_move rfl) rfl ?_
     refine q_val wn (r_move rfl) rfl ?_
     refine q_val wn (r_subn rfl rfl (by omega)) rfl ?_
     refine q_val wn (r_ia (i := (k - 1)) rfl hd1 rfl (by omega) (by first | omega | decide | (simp only [List.length_cons, List.length_nil, List.length_append, List.length_take, List.length_set]; omega)) Try.underlying47 inf54) rfl ?_
     refine q_val wn (r_fe rfl fld54_1) rfl ?_
     obtain ⟨s2, hs2⟩ : ∃ x, l[(k - 1)]? = some x := ⟨_, List.getElem?_eq_getElem (by first | omega | decide | (simp only [List.length_cons, List.length_nil, List.length_append, List.length_take, List.length_set]; omega))⟩
     refine q_val wn (r_el 3 rfl rfl hd1 hs2 rfl flat3) rfl ?_
     refine q_val wn (r_fa rfl fld54_1) rfl ?_
     refine q_val wn (r_lb 0 rfl rfl rfl flat3) rfl ?_
     refine q_callF wn rfl Try.call49 rfl (fun w1 hM => c_refUp s2.value s1.value w1) ?_
     refine q_val wn (r_add rfl rfl) rfl ?_
     refine q_val wn (r_fa rfl fld62_6) rfl ?_
     refine q_tail hT1 ?_
     refine l_st1 1 wn rfl rfl rfl rfl inf3 rfl rfl ?_
     refine l_nil (e_in_n (e_go hK10 ?_))
     refine c_region ?_
     refine l_val wn (r_addn rfl rfl (by omega)) rfl ?_
     refine l_val wn (r_move rfl) rfl ?_
     have hst := Agg.rst_next (a := a.value) (z := z.value) (by omega) hln hs2 hs1
     refine l_nil (e_round1 (k + 1) (sc rfl (sc rfl (sc rfl (sc rfl (sc rfl (sc (ji (by omega)) sn)))))) (fun _ h => by rw [hst]; exact (h.sel [1, 2, 3] (by decide) rfl)) ?_ ?_)
     · omega
     omega
   refine c_skip (e_in_n (e_go hK10 ?_))
   refine c_region ?_
   refine l_val wn (r_addn rfl rfl (by omega)) rfl ?_
   refine l_val wn (r_move rfl) rfl ?_
   have hst := Agg.rst_zero (z := z.value) (by omega) ha hs1 ho
   refine l_nil (e_round1 (k + 1) (sc rfl (sc rfl (sc rfl (sc rfl (sc rfl (sc (ji (by omega)) sn)))))) (fun _ h => by rw [hst]; exact (h.sel [1, 2, 3] (by decide) rfl)) ?_ ?_)
   · omega
   omega
 refine c_exit (e_then_x (e_loop1_x (e_in_hit (e_go hK6 ?_))))
 refine c_seq fun _ hK18 => ?_
 refine c_region ?_
 refine l_val wn (r_lbn 0 [.int .i64 ((Agg.rst l a.value z.value k).count), .int .i64 ((Agg.rst l a.value z.value k).total), .int .i64 ((Agg.rst l a.value z.value k).min), .int .i64 ((Agg.rst l a.value z.value k).max), .int .i64 ((Agg.rst l a.value z.value k).first), .int .i64 ((Agg.rst l a.value z.value k).last), .int .i64 ((Agg.rst l a.value z.value k).rise)] rfl rfl rfl rfl agg62 inf62) rfl ?_
 refine l_stn 1 wn rfl rfl rfl inf62 rfl rfl rfl ?_
 refine l_nil (e_go hK18 ?_)
 refine c_ret (e_ret1 (.inl rfl) Try.results28 (rv_cell 1 rfl rfl agg62 inf62 rfl) fun w1 hM => ?_)
 exact ret_agg (l1 := [.int .i64 ((Agg.rst l a.value z.value k).count), .int .i64 ((Agg.rst l a.value z.value k).total), .int .i64 ((Agg.rst l a.value z.value k).min), .int .i64 ((Agg.rst l a.value z.value k).max), .int .i64 ((Agg.rst l a.value z.value k).first), .int .i64 ((Agg.rst l a.value z.value k).last), .int .i64 ((Agg.rst l a.value z.value k).rise)]) (by rw [Agg.rst_end hI1 (by omega) hln ha hz]) hM

theorem c_refWord (word : ByteArray) (s : Sum) (w : World)   :
    Calls Try.prog 46 #[.string word, .agg (sumE s).toArray] w (Ret w (.tuple #[.int .i64 (Agg.value word s).1, .bool (Agg.value word s).2])) := by
 refine fstart (N := 39) (vals := [.string word, .agg (sumE s).toArray]) (S := Mem w no []) Try.func46 rfl rfl rfl (Mem.ofDats dn) ?_
 refine c_seq fun _ hK1 => ?_
 refine c_region ?_
 refine l_box wn rfl rfl fun b3 => ?_
 refine l_val wn (r_assign rfl) rfl ?_
 refine l_val wn (r_assign rfl) rfl ?_
 refine l_nil (e_go hK1 ?_)
 refine c_seq fun _ hK2 => ?_
 refine c_seq fun _ hK3 => ?_
 refine c_region ?_
 refine l_val wn (r_fa rfl fld62_0) rfl ?_
 refine l_val wn (r_lb 0 rfl rfl rfl flat3) rfl ?_
 refine l_val wn (r_lss rfl rfl) rfl ?_
 refine l_nil (e_go hK3 ?_)
 refine c_cond rfl (fun h1 => ?_) (fun h1 => ?_)
 · refine c_seq fun _ hK4 => ?_
   refine c_region ?_
   refine l_val wn (r_assign rfl) rfl ?_
   refine l_val wn (r_assign rfl) rfl ?_
   refine l_nil (e_go hK4 ?_)
   refine c_ret (e_then_r (e_ret2 (.inl rfl) Try.results46 (rv_tmp rfl) (rv_tmp rfl) fun w1 hM => ?_))
   exact ret_ok (by simp [Agg.value, h1]) hM
 refine c_skip (e_go hK2 ?_)
 refine c_seq fun _ hK5 => ?_
 refine c_nodes (Mem w no [.blk b3 [.int .i64 s.count, .int .i64 s.total, .int .i64 s.min, .int .i64 s.max, .int .i64 s.first, .int .i64 s.last, .int .i64 s.rise] 62]) mix (fun _ h => h.drew) rfl ?_
 refine n_run (f := 16) [1, 2, 3, 4, 5, 7, 8, 10, 11, 13, 14, 16, 17, 19, 20, 22, 23, 25, 26, 29] rfl rfl (by kernel_rfl) (by kernel_rfl) (fun _ h => h) fun KS hKS => ?_
 refine s_val wn (r_fa rfl fld62_1) rfl ?_
 refine s_val wn (r_lb 0 rfl rfl rfl flat3) rfl ?_
 refine s_val wn (r_fa rfl fld62_0) rfl ?_
 refine s_val wn (r_lb 0 rfl rfl rfl flat3) rfl ?_
 refine s_val wn (r_quo rfl rfl (by omega)) rfl ?_
 refine s_val wn (r_fa rfl fld62_0) rfl ?_
 refine s_val wn (r_lb 0 rfl rfl rfl flat3) rfl ?_
 refine s_val wn (r_fa rfl fld62_4) rfl ?_
 refine s_val wn (r_lb 0 rfl rfl rfl flat3) rfl ?_
 refine s_val wn (r_fa rfl fld62_5) rfl ?_
 refine s_val wn (r_lb 0 rfl rfl rfl flat3) rfl ?_
 refine s_val wn (r_fa rfl fld62_3) rfl ?_
 refine s_val wn (r_lb 0 rfl rfl rfl flat3) rfl ?_
 refine s_val wn (r_fa rfl fld62_2) rfl ?_
 refine s_val wn (r_lb 0 rfl rfl rfl flat3) rfl ?_
 refine s_val wn (r_fa rfl fld62_6) rfl ?_
 refine s_val wn (r_lb 0 rfl rfl rfl flat3) rfl ?_
 refine s_val wn (r_fa rfl fld62_1) rfl ?_
 refine s_val wn (r_lb 0 rfl rfl rfl flat3) rfl ?_
 refine s_val wn (r_move rfl) rfl ?_
 refine s_end hKS ?_
 refine n_step1 (f := 15) (i := 0) rfl (by kernel_rfl) ?_
 refine n_one (i := 0) rfl fun KN hKN => ?_
 refine l_makeMap wn rfl fun b12 => ?_
 refine l_nil (hKN _ _ (fun _ h => (h.sel [1] (by decide) rfl)) ?_)
 refine n_lit (f := 7) 0 (KeyT.str Try.underlying9) ([(6, ⟨#[97, 118, 103]⟩, (IntKind.wrap .i64 (Int.tdiv s.total s.count))), (9, ⟨#[99, 111, 117, 110, 116]⟩, s.count), (12, ⟨#[102, 105, 114, 115, 116]⟩, s.first), (15, ⟨#[108, 97, 115, 116]⟩, s.last), (18, ⟨#[109, 97, 120]⟩, s.max), (21, ⟨#[109, 105, 110]⟩, s.min), (24, ⟨#[114, 105, 115, 101]⟩, s.rise), (27, ⟨#[115, 117, 109]⟩, s.total)] : List (Nat × ByteArray × Int)) rfl rfl Try.underlying114 rfl (by kernel_rfl) (nd [6, 9, 12, 15, 18, 21, 24, 27] rfl (by decide)) (nd ([⟨#[97, 118, 103]⟩, ⟨#[99, 111, 117, 110, 116]⟩, ⟨#[102, 105, 114, 115, 116]⟩, ⟨#[108, 97, 115, 116]⟩, ⟨#[109, 97, 120]⟩, ⟨#[109, 105, 110]⟩, ⟨#[114, 105, 115, 101]⟩, ⟨#[115, 117, 109]⟩] : List ByteArray) rfl (by decide)) rfl ⟨im rfl rfl rfl, im rfl rfl rfl, im rfl rfl rfl, im rfl rfl rfl, im rfl rfl rfl, im rfl rfl rfl, im rfl rfl rfl, im rfl rfl rfl, trivial⟩ (fun _ _ _ h => (h.sel [1] (by decide) rfl)) fun D1 hD1 => ?_
 refine n_run (f := 6) [28] rfl rfl (by kernel_rfl) (by kernel_rfl) (fun _ h => (h.sel [1] (by decide) rfl)) fun KS hKS => ?_
 refine s_val wn (r_move rfl) rfl ?_
 refine s_end hKS ?_
 refine n_step1 (f := 5) (i := 30) rfl (by kernel_rfl) ?_
 refine n_one (i := 30) rfl fun KN hKN => ?_
 refine l_val wn (r_lookup2 0 (KeyT.str Try.underlying9) hD1 (nd ([⟨#[97, 118, 103]⟩, ⟨#[99, 111, 117, 110, 116]⟩, ⟨#[102, 105, 114, 115, 116]⟩, ⟨#[108, 97, 115, 116]⟩, ⟨#[109, 97, 120]⟩, ⟨#[109, 105, 110]⟩, ⟨#[114, 105, 115, 101]⟩, ⟨#[115, 117, 109]⟩] : List ByteArray) rfl (by decide)) rfl rfl rfl Try.underlying114 inf3) rfl ?_
 refine l_nil (hKN _ _ (fun _ h => (h.sel [1] (by decide) rfl)) ?_)
 refine n_run (f := 0) [31, 32, 33, 34, 35] rfl rfl (by kernel_rfl) (by kernel_rfl) (fun _ h => (h.sel [1] (by decide) rfl)) fun KS hKS => ?_
 refine s_val wn (r_move rfl) rfl ?_
 refine s_val wn (r_extract rfl rfl) rfl ?_
 refine s_val wn (r_extract rfl rfl) rfl ?_
 refine s_val wn (r_assign rfl) rfl ?_
 refine s_val wn (r_assign rfl) rfl ?_
 refine s_end hKS ?_
 refine n_done (by kernel_rfl) (e_go hK5 ?_)
 refine c_seq fun _ hK6 => ?_
 refine c_region ?_
 refine l_val wn (r_move rfl) rfl ?_
 refine l_val wn (r_move rfl) rfl ?_
 refine l_val wn (r_assign rfl) rfl ?_
 refine l_val wn (r_assign rfl) rfl ?_
 refine l_nil (e_go hK6 ?_)
 refine c_ret (e_ret2 (.inl rfl) Try.results46 (rv_tmp rfl) (rv_tmp rfl) fun w1 hM => ?_)
 exact ret_ok (by rw [Agg.value_assoc h1]) hM

end Go.Proofs.Ytldecdningjkoaa
