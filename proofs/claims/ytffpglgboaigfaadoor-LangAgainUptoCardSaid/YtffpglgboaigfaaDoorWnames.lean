/-
  Walks: what each function hands back.
-/
import Derived.Test.YtffpglgboaigfaaDoorFacts
import Derived.Test.YtffpglgboaigfaaDoorPNames
import Derived.Test.YtffpglgboaigfaaDoorAbb
namespace Go.Proofs.YtffpglgboaigfaaDoor
open Ex
set_option linter.unusedVariables false
set_option linter.unusedSimpArgs false
theorem c_named (s : ByteArray) (w : World)   :
    Calls Tryd.prog 62 #[.string s] w (Ret w (.bool (Names.named s))) := by
 refine fstart (N := 44) (vals := [.string s]) (S := Mem w no []) Tryd.func62 rfl rfl rfl (Mem.ofDats dn) ?_
 refine c_seq fun _ hK1 => ?_
 refine c_region ?_
 refine l_val wn (r_assign rfl) rfl ?_
 refine l_nil (e_go hK1 ?_)
 refine c_seq fun _ hK2 => ?_
 refine c_cut [(0, .string s), (12, .bool (decide (((s.size : Int) < 1) ∨ (12 < (s.size : Int)))))] (Mem w no []) (fun _ hK3 => ?_) ?_
 · refine c_region ?_
   refine l_val wn (r_move rfl) rfl ?_
   refine l_val wn (r_slen rfl Tryd.underlying9) rfl ?_
   refine l_val wn (r_lss rfl rfl) rfl ?_
   refine l_val wn (r_move rfl) rfl ?_
   refine l_case (t := 8) rfl (fun h1 => ?_) (fun h1 => ?_)
   · refine l_skip (wg rfl rfl rfl) rfl ?_
     refine l_skip (wg rfl rfl rfl) rfl ?_
     refine l_skip (wg rfl rfl rfl) rfl ?_
     refine l_val wn (r_pick rfl rfl) rfl ?_
     refine l_nil (e_cut hK3 (sc rfl (sc (jt (Or.inl h1)) sn)) (fun _ h => h))
   refine l_val (wg rfl rfl rfl) (r_move rfl) rfl ?_
   refine l_val (wg rfl rfl rfl) (r_slen rfl Tryd.underlying9) rfl ?_
   refine l_val (wg rfl rfl rfl) (r_gtr rfl rfl) rfl ?_
   refine l_val wn (r_pick rfl rfl) rfl ?_
   refine l_nil (e_cut hK3 (sc rfl (sc (jp (iff_or_right h1 Iff.rfl)) sn)) (fun _ h => h))
 refine c_cond rfl (fun h2 => ?_) (fun h2 => ?_)
 · refine c_seq fun _ hK4 => ?_
   refine c_region ?_
   refine l_val wn (r_assign rfl) rfl ?_
   refine l_nil (e_go hK4 ?_)
   refine c_ret (e_then_r (e_ret1 (.inl rfl) Tryd.results62 (rv_tmp rfl) fun w1 hM => ?_))
   exact ret_ok (by unfold Names.named; simp; omega) hM
 refine c_skip (e_go hK2 ?_)
 refine c_seq fun _ hK5 => ?_
 refine c_seq fun _ hK6 => ?_
 refine c_region ?_
 refine l_val wn (r_move rfl) rfl ?_
 refine l_val wn (r_slen rfl Tryd.underlying9) rfl ?_
 refine l_val wn (r_move rfl) rfl ?_
 refine l_nil (e_go hK6 ?_)
 refine c_block ?_
 refine c_loop1 (fun (k : Nat) => [(0, .string s), (14, iV s.size), (15, iV k)]) (fun (k : Nat) => []) (fun (k : Nat) => k ≤ s.size ∧ Names.namedL 0 s.data.toList = Names.namedL k (s.data.toList.drop k)) (fun (k : Nat) => s.size - k) 0 (sc rfl (sc rfl (sc (ji (by omega)) sn))) (fun _ h => h) ?_ (fun k hI1 => ?_)
 · simp
 refine c_seq fun _ hK7 => ?_
 refine c_region ?_
 refine l_val wn (r_lss rfl rfl) rfl ?_
 refine l_nil (e_go hK7 ?_)
 refine c_seq fun _ hK8 => ?_
 refine c_cond rfl (fun h3 => ?_) (fun h3 => ?_)
 · refine c_skip (e_go hK8 ?_)
   refine c_seq fun _ hK9 => ?_
   refine c_block ?_
   refine c_seq fun _ hK10 => ?_
   refine c_region ?_
   refine l_val wn (r_move rfl) rfl ?_
   refine l_val wn (r_assign rfl) rfl ?_
   refine l_nil (e_go hK10 ?_)
   refine c_seq fun _ hK11 => ?_
   refine c_region ?_
   refine l_val wn (r_move rfl) rfl ?_
   refine l_val wn (r_move rfl) rfl ?_
   obtain ⟨c1, hc1⟩ : ∃ x, s[k]? = some x := ⟨_, byte_at (by first | omega | (simp <;> omega))⟩
   refine l_val wn (r_sidx rfl rfl (by omega) hc1 Tryd.underlying9) rfl ?_
   refine l_val wn (r_assign rfl) rfl ?_
   refine l_nil (e_go hK11 ?_)
   refine c_cut [(0, .string s), (14, iV s.size), (15, iV k), (42, .bool (decide ((((c1.toNat : Int) < 97) ∧ (((k : Int) = 0) ∨ ((((c1.toNat : Int) < 48) ∧ ((c1.toNat : Int) ≠ 95)) ∨ (¬ ((c1.toNat : Int) < 48) ∧ ((57 < (c1.toNat : Int)) ∧ ((c1.toNat : Int) ≠ 95)))))) ∨ (¬ ((c1.toNat : Int) < 97) ∧ ((122 < (c1.toNat : Int)) ∧ (((k : Int) = 0) ∨ ((((c1.toNat : Int) < 48) ∧ ((c1.toNat : Int) ≠ 95)) ∨ (¬ ((c1.toNat : Int) < 48) ∧ ((57 < (c1.toNat : Int)) ∧ ((c1.toNat : Int) ≠ 95))))))))))] (Mem w no []) (fun _ hK12 => ?_) ?_
   · refine c_region ?_
     refine l_val wn (r_move rfl) rfl ?_
     refine l_val wn (r_lss rfl rfl) rfl ?_
     refine l_val wn (r_move rfl) rfl ?_
     refine l_case (t := 23) rfl (fun h4 => ?_) (fun h4 => ?_)
     · refine l_skip (wg rfl rfl rfl) rfl ?_
       refine l_skip (wg rfl rfl rfl) rfl ?_
       refine l_val wn (r_pick rfl rfl) rfl ?_
       refine l_val wn (r_move rfl) rfl ?_
       refine l_val (wg rfl rfl rfl) (r_move rfl) rfl ?_
       refine l_val (wg rfl rfl rfl) (r_eql rfl rfl) rfl ?_
       refine l_val (wg rfl rfl rfl) (r_move rfl) rfl ?_
       refine l_case (t := 30) rfl (fun h5 => ?_) (fun h5 => ?_)
       · refine l_skip (wg rfl rfl rfl) rfl ?_
         refine l_skip (wg rfl rfl rfl) rfl ?_
         refine l_skip (wg rfl rfl rfl) rfl ?_
         refine l_skip (wu rfl rfl) rfl ?_
         refine l_skip (wu rfl rfl) rfl ?_
         refine l_skip (wg rfl rfl rfl) rfl ?_
         refine l_skip (wg rfl rfl rfl) rfl ?_
         refine l_skip (wu rfl rfl) rfl ?_
         refine l_skip (wu rfl rfl) rfl ?_
         refine l_skip (wg rfl rfl rfl) rfl ?_
         refine l_val (wg rfl rfl rfl) (r_pick rfl rfl) rfl ?_
         refine l_val wn (r_pick rfl rfl) rfl ?_
         refine l_nil (e_cut hK12 (sc rfl (sc rfl (sc rfl (sc (jt (Or.inl ⟨h4, (Or.inl h5)⟩)) sn)))) (fun _ h => h))
       refine l_val (wg rfl rfl rfl) (r_move rfl) rfl ?_
       refine l_val (wg rfl rfl rfl) (r_lss rfl rfl) rfl ?_
       refine l_val (wg rfl rfl rfl) (r_move rfl) rfl ?_
       refine l_case (t := 33) rfl (fun h6 => ?_) (fun h6 => ?_)
       · refine l_skip (wg rfl rfl rfl) rfl ?_
         refine l_skip (wg rfl rfl rfl) rfl ?_
         refine l_val (wg rfl rfl rfl) (r_pick rfl rfl) rfl ?_
         refine l_val (wg rfl rfl rfl) (r_move rfl) rfl ?_
         refine l_val (wg rfl rfl rfl) (r_move rfl) rfl ?_
         refine l_val (wg rfl rfl rfl) (r_neq rfl rfl) rfl ?_
         refine l_val (wg rfl rfl rfl) (r_pick rfl rfl) rfl ?_
         refine l_val (wg rfl rfl rfl) (r_pick rfl rfl) rfl ?_
         refine l_val wn (r_pick rfl rfl) rfl ?_
         refine l_nil (e_cut hK12 (sc rfl (sc rfl (sc rfl (sc (jp (iff_ite_l h4 (iff_or_right h5 (iff_ite_l h6 Iff.rfl)))) sn)))) (fun _ h => h))
       refine l_val (wg rfl rfl rfl) (r_move rfl) rfl ?_
       refine l_val (wg rfl rfl rfl) (r_gtr rfl rfl) rfl ?_
       refine l_val (wg rfl rfl rfl) (r_pick rfl rfl) rfl ?_
       refine l_val (wg rfl rfl rfl) (r_move rfl) rfl ?_
       refine l_case (t := 37) rfl (fun h7 => ?_) (fun h7 => ?_)
       · refine l_val (wg rfl rfl rfl) (r_move rfl) rfl ?_
         refine l_val (wg rfl rfl rfl) (r_neq rfl rfl) rfl ?_
         refine l_val (wg rfl rfl rfl) (r_pick rfl rfl) rfl ?_
         refine l_val (wg rfl rfl rfl) (r_pick rfl rfl) rfl ?_
         refine l_val wn (r_pick rfl rfl) rfl ?_
         refine l_nil (e_cut hK12 (sc rfl (sc rfl (sc rfl (sc (jp (iff_ite_l h4 (iff_or_right h5 (iff_ite_r h6 (iff_and_right h7 Iff.rfl))))) sn)))) (fun _ h => h))
       refine l_skip (wg rfl rfl rfl) rfl ?_
       refine l_skip (wg rfl rfl rfl) rfl ?_
       refine l_val (wg rfl rfl rfl) (r_pick rfl rfl) rfl ?_
       refine l_val (wg rfl rfl rfl) (r_pick rfl rfl) rfl ?_
       refine l_val wn (r_pick rfl rfl) rfl ?_
       refine l_nil (e_cut hK12 (sc rfl (sc rfl (sc rfl (sc (jf (fun g => g.elim (fun k => (fun g => g.elim h5 (fun g => g.elim (fun k => h6 k.1) (fun k => (fun g => h7 g.1) k.2))) k.2) (fun k => k.1 h4))) sn)))) (fun _ h => h))
     refine l_val (wg rfl rfl rfl) (r_move rfl) rfl ?_
     refine l_val (wg rfl rfl rfl) (r_gtr rfl rfl) rfl ?_
     refine l_val wn (r_pick rfl rfl) rfl ?_
     refine l_val wn (r_move rfl) rfl ?_
     refine l_case (t := 27) rfl (fun h8 => ?_) (fun h8 => ?_)
     · refine l_val (wg rfl rfl rfl) (r_move rfl) rfl ?_
       refine l_val (wg rfl rfl rfl) (r_eql rfl rfl) rfl ?_
       refine l_val (wg rfl rfl rfl) (r_move rfl) rfl ?_
       refine l_case (t := 30) rfl (fun h9 => ?_) (fun h9 => ?_)
       · refine l_skip (wg rfl rfl rfl) rfl ?_
         refine l_skip (wg rfl rfl rfl) rfl ?_
         refine l_skip (wg rfl rfl rfl) rfl ?_
         refine l_skip (wu rfl rfl) rfl ?_
         refine l_skip (wu rfl rfl) rfl ?_
         refine l_skip (wg rfl rfl rfl) rfl ?_
         refine l_skip (wg rfl rfl rfl) rfl ?_
         refine l_skip (wu rfl rfl) rfl ?_
         refine l_skip (wu rfl rfl) rfl ?_
         refine l_skip (wg rfl rfl rfl) rfl ?_
         refine l_val (wg rfl rfl rfl) (r_pick rfl rfl) rfl ?_
         refine l_val wn (r_pick rfl rfl) rfl ?_
         refine l_nil (e_cut hK12 (sc rfl (sc rfl (sc rfl (sc (jt (Or.inr ⟨h4, ⟨h8, (Or.inl h9)⟩⟩)) sn)))) (fun _ h => h))
       refine l_val (wg rfl rfl rfl) (r_move rfl) rfl ?_
       refine l_val (wg rfl rfl rfl) (r_lss rfl rfl) rfl ?_
       refine l_val (wg rfl rfl rfl) (r_move rfl) rfl ?_
       refine l_case (t := 33) rfl (fun h10 => ?_) (fun h10 => ?_)
       · refine l_skip (wg rfl rfl rfl) rfl ?_
         refine l_skip (wg rfl rfl rfl) rfl ?_
         refine l_val (wg rfl rfl rfl) (r_pick rfl rfl) rfl ?_
         refine l_val (wg rfl rfl rfl) (r_move rfl) rfl ?_
         refine l_val (wg rfl rfl rfl) (r_move rfl) rfl ?_
         refine l_val (wg rfl rfl rfl) (r_neq rfl rfl) rfl ?_
         refine l_val (wg rfl rfl rfl) (r_pick rfl rfl) rfl ?_
         refine l_val (wg rfl rfl rfl) (r_pick rfl rfl) rfl ?_
         refine l_val wn (r_pick rfl rfl) rfl ?_
         refine l_nil (e_cut hK12 (sc rfl (sc rfl (sc rfl (sc (jp (iff_ite_r h4 (iff_and_right h8 (iff_or_right h9 (iff_ite_l h10 Iff.rfl))))) sn)))) (fun _ h => h))
       refine l_val (wg rfl rfl rfl) (r_move rfl) rfl ?_
       refine l_val (wg rfl rfl rfl) (r_gtr rfl rfl) rfl ?_
       refine l_val (wg rfl rfl rfl) (r_pick rfl rfl) rfl ?_
       refine l_val (wg rfl rfl rfl) (r_move rfl) rfl ?_
       refine l_case (t := 37) rfl (fun h11 => ?_) (fun h11 => ?_)
       · refine l_val (wg rfl rfl rfl) (r_move rfl) rfl ?_
         refine l_val (wg rfl rfl rfl) (r_neq rfl rfl) rfl ?_
         refine l_val (wg rfl rfl rfl) (r_pick rfl rfl) rfl ?_
         refine l_val (wg rfl rfl rfl) (r_pick rfl rfl) rfl ?_
         refine l_val wn (r_pick rfl rfl) rfl ?_
         refine l_nil (e_cut hK12 (sc rfl (sc rfl (sc rfl (sc (jp (iff_ite_r h4 (iff_and_right h8 (iff_or_right h9 (iff_ite_r h10 (iff_and_right h11 Iff.rfl)))))) sn)))) (fun _ h => h))
       refine l_skip (wg rfl rfl rfl) rfl ?_
       refine l_skip (wg rfl rfl rfl) rfl ?_
       refine l_val (wg rfl rfl rfl) (r_pick rfl rfl) rfl ?_
       refine l_val (wg rfl rfl rfl) (r_pick rfl rfl) rfl ?_
       refine l_val wn (r_pick rfl rfl) rfl ?_
       refine l_nil (e_cut hK12 (sc rfl (sc rfl (sc rfl (sc (jf (fun g => g.elim (fun k => h4 k.1) (fun k => (fun g => (fun g => g.elim h9 (fun g => g.elim (fun k => h10 k.1) (fun k => (fun g => h11 g.1) k.2))) g.2) k.2))) sn)))) (fun _ h => h))
     refine l_skip (wg rfl rfl rfl) rfl ?_
     refine l_skip (wg rfl rfl rfl) rfl ?_
     refine l_skip (wg rfl rfl rfl) rfl ?_
     refine l_skip (wu rfl rfl) rfl ?_
     refine l_skip (wu rfl rfl) rfl ?_
     refine l_skip (wu rfl rfl) rfl ?_
     refine l_skip (wu rfl rfl) rfl ?_
     refine l_skip (wu rfl rfl) rfl ?_
     refine l_skip (wu rfl rfl) rfl ?_
     refine l_skip (wu rfl rfl) rfl ?_
     refine l_skip (wu rfl rfl) rfl ?_
     refine l_skip (wu rfl rfl) rfl ?_
     refine l_skip (wu rfl rfl) rfl ?_
     refine l_skip (wg rfl rfl rfl) rfl ?_
     refine l_val wn (r_pick rfl rfl) rfl ?_
     refine l_nil (e_cut hK12 (sc rfl (sc rfl (sc rfl (sc (jf (fun g => g.elim (fun k => h4 k.1) (fun k => (fun g => h8 g.1) k.2))) sn)))) (fun _ h => h))
   refine c_cond rfl (fun h12 => ?_) (fun h12 => ?_)
   · refine c_seq fun _ hK13 => ?_
     refine c_region ?_
     refine l_val wn (r_assign rfl) rfl ?_
     refine l_nil (e_go hK13 ?_)
     refine c_ret (e_in_r (e_then_r (e_loop1_r (e_in_r (e_then_r (e_ret1 (.inl rfl) Tryd.results62 (rv_tmp rfl) fun w1 hM => ?_))))))
     exact ret_ok (by unfold Names.named; rw [hI1.2, Names.named_step hc1, decide_eq_false (show ¬ Names.fineB k c1 from by unfold Names.fineB; omega)]; simp) hM
   refine c_skip (e_in_n (e_go hK9 ?_))
   refine c_region ?_
   refine l_val wn (r_addn rfl rfl (by omega)) rfl ?_
   refine l_val wn (r_move rfl) rfl ?_
   refine l_nil (e_round1 (k + 1) (sc rfl (sc rfl (sc (ji (by omega)) sn))) (fun _ h => h) ?_ ?_)
   · exact ⟨by omega, by rw [hI1.2, Names.named_step hc1, decide_eq_true (show Names.fineB k c1 from by unfold Names.fineB; omega), Bool.true_and]⟩
   omega
 refine c_exit (e_then_x (e_loop1_x (e_in_hit (e_go hK5 ?_))))
 refine c_seq fun _ hK14 => ?_
 refine c_region ?_
 refine l_val wn (r_assign rfl) rfl ?_
 refine l_nil (e_go hK14 ?_)
 refine c_ret (e_ret1 (.inl rfl) Tryd.results62 (rv_tmp rfl) fun w1 hM => ?_)
 exact ret_ok (by unfold Names.named; rw [decide_eq_true (by omega), decide_eq_true (by omega), hI1.2, Names.named_end (by omega)]; rfl) hM

theorem c_index (lv : Value) (l : List ByteArray) (v : ByteArray) (w : World) (hl : FlatSl (In w) 1 strE lv l w)  :
    Calls Tryd.prog 74 #[lv, .string v] w (Ret w (iV (Names.indexOf l v 0))) := by
 obtain ⟨lA, lc, rfl, hlc, hlm, hlA⟩ := hl.form
 refine fstart (N := 19) (vals := [.slice lA l.length lc, .string v]) (S := Mem w no [slO (In w) 1 strE (.slice lA l.length lc) l]) Tryd.func74 rfl rfl rfl (Mem.ofDats (dc (dl hl) dn)) ?_
 refine c_seq fun _ hK1 => ?_
 refine c_region ?_
 refine l_val wn (r_assign rfl) rfl ?_
 refine l_nil (e_go hK1 ?_)
 refine c_seq fun _ hK2 => ?_
 refine c_seq fun _ hK3 => ?_
 refine c_region ?_
 refine l_val wn (r_move rfl) rfl ?_
 refine l_val wn (r_len rfl Tryd.underlying23) rfl ?_
 refine l_val wn (r_move rfl) rfl ?_
 refine l_nil (e_go hK3 ?_)
 refine c_block ?_
 refine c_loop1 (fun (k : Nat) => [(0, .slice lA l.length lc), (1, .string v), (7, iV l.length), (8, iV k)]) (fun (k : Nat) => [slO (In w) 1 strE (.slice lA l.length lc) l]) (fun (k : Nat) => k ≤ l.length ∧ Names.indexOf l v 0 = Names.indexOf (l.drop k) v k) (fun (k : Nat) => l.length - k) 0 (sc rfl (sc rfl (sc rfl (sc (ji (by omega)) sn)))) (fun _ h => h) ?_ (fun k hI1 => ?_)
 · simp
 refine c_seq fun _ hK4 => ?_
 refine c_region ?_
 refine l_val wn (r_lss rfl rfl) rfl ?_
 refine l_nil (e_go hK4 ?_)
 refine c_seq fun _ hK5 => ?_
 refine c_cond rfl (fun h1 => ?_) (fun h1 => ?_)
 · refine c_skip (e_go hK5 ?_)
   refine c_seq fun _ hK6 => ?_
   refine c_block ?_
   refine c_seq fun _ hK7 => ?_
   refine c_region ?_
   refine l_val wn (r_move rfl) rfl ?_
   refine l_val wn (r_assign rfl) rfl ?_
   refine l_nil (e_go hK7 ?_)
   refine c_seq fun _ hK8 => ?_
   refine c_region ?_
   refine l_val wn (r_move rfl) rfl ?_
   refine l_val wn (r_move rfl) rfl ?_
   refine l_val wn (r_move rfl) rfl ?_
   obtain ⟨ad1, hd1⟩ := hlA (ne_nil (i := k) (by first | omega | (simp <;> omega)))
   refine l_val wn (r_ia (i := k) rfl hd1 rfl (by omega) (by first | omega | (simp <;> omega)) Tryd.underlying23 inf9) rfl ?_
   obtain ⟨s1, hs1⟩ : ∃ x, l[k]? = some x := ⟨_, List.getElem?_eq_getElem (by first | omega | (simp <;> omega))⟩
   refine l_val wn (r_el 0 rfl rfl hd1 hs1 rfl flat9) rfl ?_
   refine l_val wn (r_seql rfl rfl) rfl ?_
   refine l_nil (e_go hK8 ?_)
   refine c_cond rfl (fun h2 => ?_) (fun h2 => ?_)
   · refine c_seq fun _ hK9 => ?_
     refine c_region ?_
     refine l_val wn (r_move rfl) rfl ?_
     refine l_val wn (r_assign rfl) rfl ?_
     refine l_nil (e_go hK9 ?_)
     refine c_ret (e_in_r (e_then_r (e_loop1_r (e_in_r (e_then_r (e_ret1 (.inl rfl) Tryd.results74 (rv_tmp rfl) fun w1 hM => ?_))))))
     exact ret_ok (by rw [hI1.2, Names.index_step hs1, if_pos h2]) hM
   refine c_skip (e_in_n (e_go hK6 ?_))
   refine c_region ?_
   refine l_val wn (r_addn rfl rfl (by omega)) rfl ?_
   refine l_val wn (r_move rfl) rfl ?_
   refine l_nil (e_round1 (k + 1) (sc rfl (sc rfl (sc rfl (sc (ji (by omega)) sn)))) (fun _ h => h) ?_ ?_)
   · exact ⟨by omega, by rw [hI1.2, Names.index_step hs1, if_neg h2]⟩
   omega
 refine c_exit (e_then_x (e_loop1_x (e_in_hit (e_go hK2 ?_))))
 refine c_seq fun _ hK10 => ?_
 refine c_region ?_
 refine l_val wn (r_assign rfl) rfl ?_
 refine l_nil (e_go hK10 ?_)
 refine c_ret (e_ret1 (.inl rfl) Tryd.results74 (rv_tmp rfl) fun w1 hM => ?_)
 exact ret_ok (by rw [hI1.2, Names.index_end (by omega)]) hM

theorem c_contains (lv : Value) (l : List ByteArray) (v : ByteArray) (w : World) (hl : FlatSl (In w) 1 strE lv l w)  :
    Calls Tryd.prog 59 #[lv, .string v] w (Ret w (.bool (decide (0 ≤ Names.indexOf l v 0)))) := by
 obtain ⟨lA, lc, rfl, hlc, hlm, hlA⟩ := hl.form
 refine fstart (N := 9) (vals := [.slice lA l.length lc, .string v]) (S := Mem w no [slO (In w) 1 strE (.slice lA l.length lc) l]) Tryd.func59 rfl rfl rfl (Mem.ofDats (dc (dl hl) dn)) ?_
 refine c_seq fun _ hK1 => ?_
 refine c_region ?_
 refine l_val wn (r_assign rfl) rfl ?_
 refine l_nil (e_go hK1 ?_)
 refine c_seq fun _ hK2 => ?_
 refine c_region ?_
 refine l_val wn (r_move rfl) rfl ?_
 refine l_val wn (r_move rfl) rfl ?_
 refine l_callF wn rfl Tryd.call74 rfl (fun w1 hM => c_index _ l v w1 (hM.sl 0 rfl)) ?_
 refine l_val wn (r_geq rfl rfl) rfl ?_
 refine l_val wn (r_assign rfl) rfl ?_
 refine l_nil (e_go hK2 ?_)
 refine c_ret (e_ret1 (.inl rfl) Tryd.results59 (rv_tmp rfl) fun w1 hM => ?_)
 exact ret_ok rfl hM

end Go.Proofs.YtffpglgboaigfaaDoor
