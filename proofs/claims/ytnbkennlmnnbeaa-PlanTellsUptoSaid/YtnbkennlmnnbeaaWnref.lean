/-
  Walks: what each function hands back.
-/
import Derived.Test.YtnbkennlmnnbeaaWnames
namespace Go.Proofs.Ytnbkennlmnnbeaa
open Ex
set_option linter.unusedVariables false
set_option linter.unusedSimpArgs false
theorem c_refNamed (s : ByteArray) (w : World)  (hs1_ : s.size ≤ 9223372036854775807) :
    Calls Try.prog 75 #[.string s] w (Ret w (.bool (Names.named s))) := by
 refine fstart (N := 51) (vals := [.string s]) (S := Mem w no []) Try.func75 rfl rfl rfl (Mem.ofDats dn) ?_
 refine c_seq fun _ hK1 => ?_
 refine c_region ?_
 refine l_val wn (r_assign rfl) rfl ?_
 refine l_nil (e_go hK1 ?_)
 refine c_seq fun _ hK2 => ?_
 refine c_seq fun _ hK3 => ?_
 refine c_region ?_
 refine l_val wn (r_move rfl) rfl ?_
 refine l_strBytes wn rfl Try.underlying9 Try.underlying111 Try.underlying5 (by omega) rfl fun b1 cp1 hc1 hm1 => ?_
 refine l_val wn (r_len rfl Try.underlying111) rfl ?_
 refine l_val wn (r_move rfl) rfl ?_
 refine l_nil (e_go hK3 ?_)
 refine c_block ?_
 refine c_loop1 (fun (k : Nat) => [(0, .string s), (7, .slice (some ⟨b1, 0, none⟩) s.data.toList.length cp1), (8, .int .i64 (s.data.toList.length : Int)), (9, .int .i64 (k : Int))]) (fun (k : Nat) => [slP 1 byteE (.slice (some ⟨b1, 0, none⟩) s.data.toList.length cp1) s.data.toList]) (fun (k : Nat) => k ≤ s.data.toList.length ∧ Names.namedL 0 s.data.toList = Names.namedL k (s.data.toList.drop k)) (fun (k : Nat) => s.data.toList.length - k) 0 (sc rfl (sc rfl (sc rfl (sc (ji (by omega)) sn)))) (fun _ h => h) ?_ (fun k hI1 => ?_)
 · simp
 refine c_seq fun _ hK4 => ?_
 refine c_region ?_
 refine l_val wn (r_lss rfl rfl) rfl ?_
 refine l_nil (e_go hK4 ?_)
 refine c_seq fun _ hK5 => ?_
 refine c_cond rfl (fun h1 => ?_) (fun h1 => ?_)
 · refine c_skip (e_go hK5 ?_)
   refine c_seq fun _ hK6 => ?_
   refine c_block ?_
   refine c_seq fun _ hK7 => ?_
   refine c_region ?_
   refine l_val wn (r_move rfl) rfl ?_
   refine l_val wn (r_ia (i := k) rfl rfl rfl (by omega) (by first | omega | decide | (simp only [List.length_cons, List.length_nil, List.length_append, List.length_take, List.length_set]; omega)) Try.underlying111 inf5) rfl ?_
   obtain ⟨s1, hs1⟩ : ∃ x, s.data.toList[k]? = some x := ⟨_, List.getElem?_eq_getElem (by first | omega | decide | (simp only [List.length_cons, List.length_nil, List.length_append, List.length_take, List.length_set]; omega))⟩
   refine l_val wn (r_pl 0 rfl rfl rfl hs1 rfl flat5) rfl ?_
   refine l_val wn (r_assign rfl) rfl ?_
   refine l_val wn (r_assign rfl) rfl ?_
   refine l_nil (e_go hK7 ?_)
   refine c_cut [(0, .string s), (3, .int .i64 (k : Int)), (4, .int .u8 (s1.toNat : Int)), (5, .bool (decide ((97 ≤ (s1.toNat : Int)) ∧ ((s1.toNat : Int) ≤ 122)))), (7, .slice (some ⟨b1, 0, none⟩) s.data.toList.length cp1), (8, .int .i64 (s.data.toList.length : Int)), (9, .int .i64 (k : Int))] (Mem w no [slP 1 byteE (.slice (some ⟨b1, 0, none⟩) s.data.toList.length cp1) s.data.toList]) (fun _ hK8 => ?_) ?_
   · refine c_region ?_
     refine l_val wn (r_move rfl) rfl ?_
     refine l_val wn (r_geq rfl rfl) rfl ?_
     refine l_val wn (r_move rfl) rfl ?_
     refine l_case (t := 16) rfl (fun h2 => ?_) (fun h2 => ?_)
     · refine l_val (wg rfl rfl rfl) (r_move rfl) rfl ?_
       refine l_val (wg rfl rfl rfl) (r_leq rfl rfl) rfl ?_
       refine l_val wn (r_pick rfl rfl) rfl ?_
       refine l_val wn (r_assign rfl) rfl ?_
       refine l_nil (e_cut hK8 (sc rfl (sc rfl (sc rfl (sc (jp (iff_and_right h2 Iff.rfl)) (sc rfl (sc rfl (sc rfl sn))))))) (fun _ h => h))
     refine l_skip (wg rfl rfl rfl) rfl ?_
     refine l_skip (wg rfl rfl rfl) rfl ?_
     refine l_val wn (r_pick rfl rfl) rfl ?_
     refine l_val wn (r_assign rfl) rfl ?_
     refine l_nil (e_cut hK8 (sc rfl (sc rfl (sc rfl (sc (jf (fun g => h2 g.1)) (sc rfl (sc rfl (sc rfl sn))))))) (fun _ h => h))
   refine c_cut [(0, .string s), (7, .slice (some ⟨b1, 0, none⟩) s.data.toList.length cp1), (8, .int .i64 (s.data.toList.length : Int)), (9, .int .i64 (k : Int)), (41, .bool (decide ((((k : Int) = 0) ∧ (¬ ((97 ≤ (s1.toNat : Int)) ∧ ((s1.toNat : Int) ≤ 122)))) ∨ (¬ ((k : Int) = 0) ∧ ((¬ ((97 ≤ (s1.toNat : Int)) ∧ ((s1.toNat : Int) ≤ 122))) ∧ (((s1.toNat : Int) ≠ 95) ∧ (((s1.toNat : Int) < 48) ∨ (57 < (s1.toNat : Int)))))))))] (Mem w no [slP 1 byteE (.slice (some ⟨b1, 0, none⟩) s.data.toList.length cp1) s.data.toList]) (fun _ hK9 => ?_) ?_
   · refine c_region ?_
     refine l_val wn (r_move rfl) rfl ?_
     refine l_val wn (r_eql rfl rfl) rfl ?_
     refine l_val wn (r_move rfl) rfl ?_
     refine l_case (t := 22) rfl (fun h3 => ?_) (fun h3 => ?_)
     · refine l_val (wg rfl rfl rfl) (r_move rfl) rfl ?_
       refine l_val (wg rfl rfl rfl) (r_not rfl) rfl ?_
       refine l_val wn (r_pick rfl rfl) rfl ?_
       refine l_val wn (r_move rfl) rfl ?_
       refine l_case (t := 26) rfl (fun h4 => ?_) (fun h4 => ?_)
       · refine l_skip (wg rfl rfl rfl) rfl ?_
         refine l_skip (wg rfl rfl rfl) rfl ?_
         refine l_skip (wg rfl rfl rfl) rfl ?_
         refine l_skip (wu rfl rfl) rfl ?_
         refine l_skip (wu rfl rfl) rfl ?_
         refine l_skip (wg rfl rfl rfl) rfl ?_
         refine l_skip (wg rfl rfl rfl) rfl ?_
         refine l_skip (wu rfl rfl) rfl ?_
         refine l_skip (wu rfl rfl) rfl ?_
         refine l_skip (wu rfl rfl) rfl ?_
         refine l_skip (wu rfl rfl) rfl ?_
         refine l_skip (wu rfl rfl) rfl ?_
         refine l_skip (wu rfl rfl) rfl ?_
         refine l_skip (wg rfl rfl rfl) rfl ?_
         refine l_val wn (r_pick rfl rfl) rfl ?_
         refine l_nil (e_cut hK9 (sc rfl (sc rfl (sc rfl (sc rfl (sc (jt (Or.inl ⟨h3, h4⟩)) sn))))) (fun _ h => h))
       refine l_val (wg rfl rfl rfl) (r_move rfl) rfl ?_
       refine l_val (wg rfl rfl rfl) (r_not rfl) rfl ?_
       refine l_val (wg rfl rfl rfl) (r_move rfl) rfl ?_
       refine l_litf (t := 29) rfl h4 ?_
       refine l_skip (wg rfl rfl rfl) rfl ?_
       refine l_skip (wg rfl rfl rfl) rfl ?_
       refine l_val (wg rfl rfl rfl) (r_pick rfl rfl) rfl ?_
       refine l_val (wg rfl rfl rfl) (r_move rfl) rfl ?_
       refine l_skip (wg rfl rfl rfl) rfl ?_
       refine l_skip (wg rfl rfl rfl) rfl ?_
       refine l_skip (wg rfl rfl rfl) rfl ?_
       refine l_skip (wu rfl rfl) rfl ?_
       refine l_skip (wu rfl rfl) rfl ?_
       refine l_skip (wg rfl rfl rfl) rfl ?_
       refine l_val (wg rfl rfl rfl) (r_pick rfl rfl) rfl ?_
       refine l_val wn (r_pick rfl rfl) rfl ?_
       refine l_nil (e_cut hK9 (sc rfl (sc rfl (sc rfl (sc rfl (sc (jf (fun g => g.elim (fun k => h4 k.2) (fun k => k.1 h3))) sn))))) (fun _ h => h))
     refine l_skip (wg rfl rfl rfl) rfl ?_
     refine l_skip (wg rfl rfl rfl) rfl ?_
     refine l_val wn (r_pick rfl rfl) rfl ?_
     refine l_val wn (r_move rfl) rfl ?_
     refine l_val (wg rfl rfl rfl) (r_move rfl) rfl ?_
     refine l_val (wg rfl rfl rfl) (r_not rfl) rfl ?_
     refine l_val (wg rfl rfl rfl) (r_move rfl) rfl ?_
     refine l_case (t := 29) rfl (fun h5 => ?_) (fun h5 => ?_)
     · refine l_val (wg rfl rfl rfl) (r_move rfl) rfl ?_
       refine l_val (wg rfl rfl rfl) (r_neq rfl rfl) rfl ?_
       refine l_val (wg rfl rfl rfl) (r_pick rfl rfl) rfl ?_
       refine l_val (wg rfl rfl rfl) (r_move rfl) rfl ?_
       refine l_case (t := 33) rfl (fun h6 => ?_) (fun h6 => ?_)
       · refine l_val (wg rfl rfl rfl) (r_move rfl) rfl ?_
         refine l_val (wg rfl rfl rfl) (r_lss rfl rfl) rfl ?_
         refine l_val (wg rfl rfl rfl) (r_move rfl) rfl ?_
         refine l_case (t := 36) rfl (fun h7 => ?_) (fun h7 => ?_)
         · refine l_skip (wg rfl rfl rfl) rfl ?_
           refine l_skip (wg rfl rfl rfl) rfl ?_
           refine l_val (wg rfl rfl rfl) (r_pick rfl rfl) rfl ?_
           refine l_val (wg rfl rfl rfl) (r_pick rfl rfl) rfl ?_
           refine l_val wn (r_pick rfl rfl) rfl ?_
           refine l_nil (e_cut hK9 (sc rfl (sc rfl (sc rfl (sc rfl (sc (jt (Or.inr ⟨h3, ⟨h5, ⟨h6, (Or.inl h7)⟩⟩⟩)) sn))))) (fun _ h => h))
         refine l_val (wg rfl rfl rfl) (r_move rfl) rfl ?_
         refine l_val (wg rfl rfl rfl) (r_gtr rfl rfl) rfl ?_
         refine l_val (wg rfl rfl rfl) (r_pick rfl rfl) rfl ?_
         refine l_val (wg rfl rfl rfl) (r_pick rfl rfl) rfl ?_
         refine l_val wn (r_pick rfl rfl) rfl ?_
         refine l_nil (e_cut hK9 (sc rfl (sc rfl (sc rfl (sc rfl (sc (jp (iff_ite_r h3 (iff_and_right h5 (iff_and_right h6 (iff_or_right h7 Iff.rfl))))) sn))))) (fun _ h => h))
       refine l_skip (wg rfl rfl rfl) rfl ?_
       refine l_skip (wg rfl rfl rfl) rfl ?_
       refine l_skip (wg rfl rfl rfl) rfl ?_
       refine l_skip (wu rfl rfl) rfl ?_
       refine l_skip (wu rfl rfl) rfl ?_
       refine l_skip (wg rfl rfl rfl) rfl ?_
       refine l_val (wg rfl rfl rfl) (r_pick rfl rfl) rfl ?_
       refine l_val wn (r_pick rfl rfl) rfl ?_
       refine l_nil (e_cut hK9 (sc rfl (sc rfl (sc rfl (sc rfl (sc (jf (fun g => g.elim (fun k => h3 k.1) (fun k => (fun g => (fun g => h6 g.1) g.2) k.2))) sn))))) (fun _ h => h))
     refine l_skip (wg rfl rfl rfl) rfl ?_
     refine l_skip (wg rfl rfl rfl) rfl ?_
     refine l_val (wg rfl rfl rfl) (r_pick rfl rfl) rfl ?_
     refine l_val (wg rfl rfl rfl) (r_move rfl) rfl ?_
     refine l_skip (wg rfl rfl rfl) rfl ?_
     refine l_skip (wg rfl rfl rfl) rfl ?_
     refine l_skip (wg rfl rfl rfl) rfl ?_
     refine l_skip (wu rfl rfl) rfl ?_
     refine l_skip (wu rfl rfl) rfl ?_
     refine l_skip (wg rfl rfl rfl) rfl ?_
     refine l_val (wg rfl rfl rfl) (r_pick rfl rfl) rfl ?_
     refine l_val wn (r_pick rfl rfl) rfl ?_
     refine l_nil (e_cut hK9 (sc rfl (sc rfl (sc rfl (sc rfl (sc (jf (fun g => g.elim (fun k => h3 k.1) (fun k => (fun g => h5 g.1) k.2))) sn))))) (fun _ h => h))
   refine c_cond rfl (fun h8 => ?_) (fun h8 => ?_)
   · refine c_seq fun _ hK10 => ?_
     refine c_region ?_
     refine l_val wn (r_assign rfl) rfl ?_
     refine l_nil (e_go hK10 ?_)
     refine c_ret (e_in_r (e_then_r (e_loop1_r (e_in_r (e_then_r (e_ret1 (.inl rfl) Try.results75 (rv_tmp rfl) fun w1 hM => ?_))))))
     exact ret_ok (by unfold Names.named; rw [hI1.2, Names.namedD_step hs1, decide_eq_false (show ¬ Names.fineB k s1 from by unfold Names.fineB; omega)]; simp) hM
   refine c_skip (e_in_n (e_go hK6 ?_))
   refine c_region ?_
   refine l_val wn (r_addn rfl rfl (by omega)) rfl ?_
   refine l_val wn (r_move rfl) rfl ?_
   refine l_nil (e_round1 (k + 1) (sc rfl (sc rfl (sc rfl (sc (ji (by omega)) sn)))) (fun _ h => h) ?_ ?_)
   · exact ⟨by omega, by rw [hI1.2, Names.namedD_step hs1, decide_eq_true (show Names.fineB k s1 from by unfold Names.fineB; omega), Bool.true_and]⟩
   omega
 refine c_exit (e_then_x (e_loop1_x (e_in_hit (e_go hK2 ?_))))
 refine c_seq fun _ hK11 => ?_
 refine c_region ?_
 refine l_val wn (r_move rfl) rfl ?_
 refine l_val wn (r_slen rfl Try.underlying9) rfl ?_
 refine l_val wn (r_gtr rfl rfl) rfl ?_
 refine l_val wn (r_move rfl) rfl ?_
 refine l_case (t := 46) rfl (fun h9 => ?_) (fun h9 => ?_)
 · refine l_val (wg rfl rfl rfl) (r_move rfl) rfl ?_
   refine l_val (wg rfl rfl rfl) (r_slen rfl Try.underlying9) rfl ?_
   refine l_val (wg rfl rfl rfl) (r_leq rfl rfl) rfl ?_
   refine l_val wn (r_pick rfl rfl) rfl ?_
   refine l_val wn (r_assign rfl) rfl ?_
   refine l_nil (e_go hK11 ?_)
   refine c_ret (e_ret1 (.inl rfl) Try.results75 (rv_tmp rfl) fun w1 hM => ?_)
   exact ret_ok (by unfold Names.named; rw [hI1.2, Names.namedD_end (by omega), decide_eq_true (show 1 ≤ s.size by omega)]; simp only [Bool.true_and, Bool.and_true]; congr 1; exact decide_eq_decide.2 (by omega)) hM
 refine l_skip (wg rfl rfl rfl) rfl ?_
 refine l_skip (wg rfl rfl rfl) rfl ?_
 refine l_skip (wg rfl rfl rfl) rfl ?_
 refine l_val wn (r_pick rfl rfl) rfl ?_
 refine l_val wn (r_assign rfl) rfl ?_
 refine l_nil (e_go hK11 ?_)
 refine c_ret (e_ret1 (.inl rfl) Try.results75 (rv_tmp rfl) fun w1 hM => ?_)
 exact ret_ok (by unfold Names.named; rw [decide_eq_false (show ¬ 1 ≤ s.size by omega)]; rfl) hM

theorem c_refWrongSeries (lv : Value) (l : List Label) (w : World) (hl : FlatSl (In w) 2 labelE lv l w) (hok : ∀ x ∈ l, x.key.size ≤ 9223372036854775807 ∧ x.val.size ≤ 9223372036854775807) :
    Calls Try.prog 52 #[lv] w (Ret w (.int .i64 (Names.wrong l))) := by
 obtain ⟨lA, lc, rfl, hlc, hlm, hlA⟩ := hl.form
 refine fstart (N := 39) (vals := [.slice lA l.length lc]) (S := Mem w no [slO (In w) 2 labelE (.slice lA l.length lc) l]) Try.func52 rfl rfl rfl (Mem.ofDats (dc (dl hl) dn)) ?_
 refine c_seq fun _ hK1 => ?_
 refine c_region ?_
 refine l_val wn (r_assign rfl) rfl ?_
 refine l_nil (e_go hK1 ?_)
 refine c_seq fun _ hK2 => ?_
 refine c_seq fun _ hK3 => ?_
 refine c_region ?_
 refine l_val wn (r_move rfl) rfl ?_
 refine l_val wn (r_len rfl Try.underlying23) rfl ?_
 refine l_val wn (r_gtr rfl rfl) rfl ?_
 refine l_nil (e_go hK3 ?_)
 refine c_cond rfl (fun h1 => ?_) (fun h1 => ?_)
 · refine c_seq fun _ hK4 => ?_
   refine c_region ?_
   refine l_val wn (r_assign rfl) rfl ?_
   refine l_nil (e_go hK4 ?_)
   refine c_ret (e_then_r (e_ret1 (.inl rfl) Try.results52 (rv_tmp rfl) fun w1 hM => ?_))
   exact ret_ok (by rw [Names.wrong, if_pos (by omega)]) hM
 refine c_skip (e_go hK2 ?_)
 refine c_seq fun _ hK5 => ?_
 refine c_seq fun _ hK6 => ?_
 refine c_region ?_
 refine l_val wn (r_move rfl) rfl ?_
 refine l_val wn (r_len rfl Try.underlying23) rfl ?_
 refine l_val wn (r_move rfl) rfl ?_
 refine l_nil (e_go hK6 ?_)
 refine c_block ?_
 refine c_loop1 (fun (k : Nat) => [(0, .slice lA l.length lc), (8, .slice lA l.length lc), (9, .int .i64 (l.length : Int)), (10, .int .i64 (k : Int))]) (fun (k : Nat) => [slO (In w) 2 labelE (.slice lA l.length lc) l]) (fun (k : Nat) => k ≤ l.length ∧ Names.wrongFrom none l = Names.wrongFrom (Names.prevOf l k) (l.drop k)) (fun (k : Nat) => l.length - k) 0 (sc rfl (sc rfl (sc rfl (sc (ji (by omega)) sn)))) (fun _ h => h) ?_ (fun k hI1 => ?_)
 · exact ⟨by omega, Names.wrong_start l⟩
 refine c_seq fun _ hK7 => ?_
 refine c_region ?_
 refine l_val wn (r_lss rfl rfl) rfl ?_
 refine l_nil (e_go hK7 ?_)
 refine c_seq fun _ hK8 => ?_
 refine c_cond rfl (fun h2 => ?_) (fun h2 => ?_)
 · refine c_skip (e_go hK8 ?_)
   refine c_seq fun _ hK9 => ?_
   refine c_block ?_
   refine c_seq fun _ hK10 => ?_
   refine c_region ?_
   refine l_val wn (r_move rfl) rfl ?_
   obtain ⟨ad1, hd1⟩ := hlA (ne_nil (i := k) (by first | omega | decide | (simp only [List.length_cons, List.length_nil, List.length_append, List.length_take, List.length_set]; omega)))
   refine l_val wn (r_ia (i := k) rfl hd1 rfl (by omega) (by first | omega | decide | (simp only [List.length_cons, List.length_nil, List.length_append, List.length_take, List.length_set]; omega)) Try.underlying23 inf89) rfl ?_
   obtain ⟨s1, hs1⟩ : ∃ x, l[k]? = some x := ⟨_, List.getElem?_eq_getElem (by first | omega | decide | (simp only [List.length_cons, List.length_nil, List.length_append, List.length_take, List.length_set]; omega))⟩
   refine l_val wn (r_eln 0 [.string s1.key, .string s1.val] rfl rfl hd1 hs1 rfl rfl agg89 inf89) rfl ?_
   refine l_alloc wn inf89 rfl fun b4 => ?_
   refine l_val wn (r_assign rfl) rfl ?_
   refine l_stn 0 wn rfl rfl rfl inf89 rfl rfl rfl ?_
   refine l_nil (e_go hK10 ?_)
   refine c_seq fun _ hK11 => ?_
   refine c_cut [(0, .slice lA l.length lc), (3, .int .i64 (k : Int)), (4, .pointer (some ⟨b4, 0, none⟩)), (8, .slice lA l.length lc), (9, .int .i64 (l.length : Int)), (10, .int .i64 (k : Int)), (24, .bool (decide (((!(Names.named s1.key)) = true) ∨ ((!(Names.named s1.val)) = true))))] (Mem w no [.blk b4 [.string s1.key, .string s1.val] 89, slO (In w) 2 labelE (.slice lA l.length lc) l]) (fun _ hK12 => ?_) ?_
   · refine c_region ?_
     refine l_val wn (r_fa rfl fld89_0) rfl ?_
     refine l_val wn (r_lb 0 rfl rfl rfl flat9) rfl ?_
     refine l_callF wn rfl Try.call75 rfl (fun w1 hM => c_refNamed s1.key w1 (by first | assumption | omega | exact (hok _ (List.mem_of_getElem? hs1)).1 | exact (hok _ (List.mem_of_getElem? hs1)).2)) ?_
     refine l_val wn (r_notb rfl) rfl ?_
     refine l_val wn (r_move rfl) rfl ?_
     refine l_caseb (t := 19) rfl (fun h3 => ?_) (fun h3 => ?_)
     · refine l_skip (wg rfl rfl rfl) rfl ?_
       refine l_skip (wg rfl rfl rfl) rfl ?_
       refine l_skip (wg rfl rfl rfl) rfl ?_
       refine l_skip (wg rfl rfl rfl) rfl ?_
       refine l_val wn (r_pick rfl rfl) rfl ?_
       refine l_nil (e_cut hK12 (sc rfl (sc rfl (sc rfl (sc rfl (sc rfl (sc rfl (sc (jt (Or.inl h3)) sn))))))) (fun _ h => h))
     refine l_val (wg rfl rfl rfl) (r_fa rfl fld89_1) rfl ?_
     refine l_val (wg rfl rfl rfl) (r_lb 0 rfl rfl rfl flat9) rfl ?_
     refine l_callF (wg rfl rfl rfl) rfl Try.call75 rfl (fun w1 hM => c_refNamed s1.val w1 (by first | assumption | omega | exact (hok _ (List.mem_of_getElem? hs1)).1 | exact (hok _ (List.mem_of_getElem? hs1)).2)) ?_
     refine l_val (wg rfl rfl rfl) (r_notb rfl) rfl ?_
     refine l_val wn (r_pick rfl rfl) rfl ?_
     refine l_nil (e_cut hK12 (sc rfl (sc rfl (sc rfl (sc rfl (sc rfl (sc rfl (sc (jpb (iff_or_right h3 Iff.rfl)) sn))))))) (fun _ h => h))
   refine c_cond rfl (fun h4 => ?_) (fun h4 => ?_)
   · refine c_seq fun _ hK13 => ?_
     refine c_region ?_
     refine l_val wn (r_assign rfl) rfl ?_
     refine l_nil (e_go hK13 ?_)
     refine c_ret (e_then_r (e_in_r (e_then_r (e_loop1_r (e_in_r (e_then_r (e_ret1 (.inl rfl) Try.results52 (rv_tmp rfl) fun w1 hM => ?_)))))))
     exact ret_ok (by rw [Names.wrong, if_neg (by omega), hI1.2, Names.wrong_step hs1, if_pos h4]) hM
   refine c_skip (e_go hK11 ?_)
   refine c_seq fun _ hK14 => ?_
   refine c_quiet mix (by kernel_rfl) (fun _ h => h.drew) ?_
   refine q_val wn (r_move rfl) rfl ?_
   refine q_val wn (r_gtr rfl rfl) rfl ?_
   refine q_val wn (r_move rfl) rfl ?_
   refine q_case (t := 27) rfl (fun h5 => ?_) (fun h5 => ?_)
   · refine q_val (wg rfl rfl rfl) (r_fa rfl fld89_0) rfl ?_
     refine q_val (wg rfl rfl rfl) (r_lb 0 rfl rfl rfl flat9) rfl ?_
     refine q_val (wg rfl rfl rfl) (r_move rfl) rfl ?_
     refine q_val (wg rfl rfl rfl) (r_move rfl) rfl ?_
     refine q_val (wg rfl rfl rfl) (r_subn rfl rfl (by omega)) rfl ?_
     refine q_val (wg rfl rfl rfl) (r_ia (i := (k - 1)) rfl hd1 rfl (by omega) (by first | omega | decide | (simp only [List.length_cons, List.length_nil, List.length_append, List.length_take, List.length_set]; omega)) Try.underlying23 inf89) rfl ?_
     refine q_val (wg rfl rfl rfl) (r_fe rfl fld89_0) rfl ?_
     obtain ⟨s2, hs2⟩ : ∃ x, l[(k - 1)]? = some x := ⟨_, List.getElem?_eq_getElem (by first | omega | decide | (simp only [List.length_cons, List.length_nil, List.length_append, List.length_take, List.length_set]; omega))⟩
     refine q_val (wg rfl rfl rfl) (r_el 1 rfl rfl hd1 hs2 rfl flat9) rfl ?_
     refine q_val (wg rfl rfl rfl) (r_sleq' rfl rfl) rfl ?_
     refine q_val wn (r_pick rfl rfl) rfl ?_
     refine q_end (e_go hK14 ?_)
     refine c_condb rfl (fun h6 => ?_) (fun h6 => ?_)
     · refine c_seq fun _ hK15 => ?_
       refine c_region ?_
       refine l_val wn (r_assign rfl) rfl ?_
       refine l_nil (e_go hK15 ?_)
       refine c_ret (e_in_r (e_then_r (e_loop1_r (e_in_r (e_then_r (e_ret1 (.inl rfl) Try.results52 (rv_tmp rfl) fun w1 hM => ?_))))))
       exact ret_ok (by rw [Names.wrong, if_neg (by omega), hI1.2, Names.wrong_step hs1, if_neg h4, if_pos (by rw [Names.prevOf, if_neg (by omega), hs2]; simpa [Names.behind] using h6)]) hM
     refine c_skip (e_in_n (e_go hK9 ?_))
     refine c_region ?_
     refine l_val wn (r_addn rfl rfl (by omega)) rfl ?_
     refine l_val wn (r_move rfl) rfl ?_
     refine l_nil (e_round1 (k + 1) (sc rfl (sc rfl (sc rfl (sc (ji (by omega)) sn)))) (fun _ h => (h.sel [1] (by decide) rfl)) ?_ ?_)
     · exact ⟨by omega, by rw [hI1.2, Names.wrong_step hs1, if_neg h4, if_neg (by rw [Names.prevOf, if_neg (by omega), hs2]; simpa [Names.behind] using h6)]⟩
     omega
   refine q_skip (wg rfl rfl rfl) rfl ?_
   refine q_skip (wg rfl rfl rfl) rfl ?_
   refine q_skip (wg rfl rfl rfl) rfl ?_
   refine q_skip (wg rfl rfl rfl) rfl ?_
   refine q_skip (wg rfl rfl rfl) rfl ?_
   refine q_skip (wg rfl rfl rfl) rfl ?_
   refine q_skip (wg rfl rfl rfl) rfl ?_
   refine q_skip (wg rfl rfl rfl) rfl ?_
   refine q_skip (wg rfl rfl rfl) rfl ?_
   refine q_val wn (r_pick rfl rfl) rfl ?_
   refine q_end (e_go hK14 ?_)
   refine c_false rfl rfl ?_
   refine c_skip (e_in_n (e_go hK9 ?_))
   refine c_region ?_
   refine l_val wn (r_addn rfl rfl (by omega)) rfl ?_
   refine l_val wn (r_move rfl) rfl ?_
   refine l_nil (e_round1 (k + 1) (sc rfl (sc rfl (sc rfl (sc (ji (by omega)) sn)))) (fun _ h => (h.sel [1] (by decide) rfl)) ?_ ?_)
   · exact ⟨by omega, by rw [hI1.2, Names.wrong_step hs1, if_neg h4, if_neg (by rw [Names.prevOf, if_pos (by omega)]; simp [Names.behind])]⟩
   omega
 refine c_exit (e_then_x (e_loop1_x (e_in_hit (e_go hK5 ?_))))
 refine c_seq fun _ hK16 => ?_
 refine c_region ?_
 refine l_val wn (r_assign rfl) rfl ?_
 refine l_nil (e_go hK16 ?_)
 refine c_ret (e_ret1 (.inl rfl) Try.results52 (rv_tmp rfl) fun w1 hM => ?_)
 exact ret_ok (by rw [Names.wrong, if_neg (by omega), hI1.2, Names.wrong_end (by omega)]) hM

end Go.Proofs.Ytnbkennlmnnbeaa
