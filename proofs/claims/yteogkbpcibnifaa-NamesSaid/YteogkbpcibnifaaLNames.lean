/-
  Walks: what each function hands back.
-/
import Derived.Test.YteogkbpcibnifaaFacts
import Derived.Test.YteogkbpcibnifaaLists
namespace Go.Proofs.Yteogkbpcibnifaa
open Ex
set_option linter.unusedVariables false
set_option linter.unusedSimpArgs false
theorem law_Names  (w : World)   :
    Calls Try.prog 12 #[] w (Ret w (.bool true)) := by
  refine fstart (N := 36) (vals := []) (S := Mem w no []) Try.func12 rfl rfl rfl (Mem.ofDats dn) ?_
  refine c_seq fun K1 hK1 => ?_
  refine c_region ?_
  refine l_val wn (r_assign rfl) rfl ?_
  refine l_nil (e_go hK1 ?_)
  refine c_seq fun K2 hK2 => ?_
  refine c_region ?_
  refine l_bsL intE ([0, 1, 2, 3, 4, 5, 6, 7, 8, 9, 10] : List Int) wn Try.underlying60 inf43 rfl rfl rfl rfl (by decide) (by decide) rfl fun b7 => ?_
  refine l_val wn (r_assign rfl) rfl ?_
  refine l_nil (e_go hK2 ?_)
  refine c_seq fun K3 hK3 => ?_
  refine c_seq fun K4 hK4 => ?_
  refine c_region ?_
  refine l_val wn (r_move rfl) rfl ?_
  refine l_val wn (r_len rfl Try.underlying60) rfl ?_
  refine l_val wn (r_move rfl) rfl ?_
  refine l_nil (e_go hK4 ?_)
  refine c_block ?_
  refine c_loop1 (fun (k : Nat) => [(8, .slice (some ⟨b7, 0, none⟩) 11 11), (9, .int .i64 11), (10, .int .i64 (k : Int))]) (fun (k : Nat) => [Row (.slice (some ⟨b7, 0, none⟩) 11 11) 43 1 intE ([0, 1, 2, 3, 4, 5, 6, 7, 8, 9, 10] : List Int)]) (fun (k : Nat) => k ≤ 11) (fun (k : Nat) => 11 - k) 0 (sc rfl (sc rfl (sc (ji (by omega)) sn))) (fun _ h => h) ?_ (fun k hI1 => ?_)
  · omega
  ·
    refine c_seq fun K5 hK5 => ?_
    refine c_region ?_
    refine l_val wn (r_lss rfl rfl) rfl ?_
    refine l_nil (e_go hK5 ?_)
    refine c_seq fun K6 hK6 => ?_
    refine c_cond rfl (fun h1 => ?_) (fun h1 => ?_)
    ·
      refine c_skip (e_go hK6 ?_)
      refine c_seq fun K7 hK7 => ?_
      refine c_block ?_
      refine c_seq fun K8 hK8 => ?_
      refine c_region ?_
      refine l_val wn (r_move rfl) rfl ?_
      refine l_val wn (r_ia (i := k) rfl rfl rfl (by omega) (by first | omega | (simp only [List.length_cons, List.length_nil, List.length_append, List.length_take, List.length_set]; omega)) Try.underlying60 inf43) rfl ?_
      obtain ⟨s1, hs1⟩ : ∃ x, ([0, 1, 2, 3, 4, 5, 6, 7, 8, 9, 10] : List Int)[k]? = some x := ⟨_, List.getElem?_eq_getElem (by first | omega | (simp only [List.length_cons, List.length_nil, List.length_append, List.length_take, List.length_set]; omega))⟩
      have es1 : s1 = (k : Int) := by
        have h := hs1
        rw [show ([0, 1, 2, 3, 4, 5, 6, 7, 8, 9, 10] : List Int) = (List.range 11).map (fun (i : Nat) => (i : Int)) from by decide, List.getElem?_map, List.getElem?_range (by omega)] at h
        exact (Option.some.inj h).symm
      refine l_val wn (r_rl 0 encInt rfl rfl rfl hs1 rfl flat43) rfl ?_
      refine l_val wn (r_assign rfl) rfl ?_
      refine l_val wn (r_assign rfl) rfl ?_
      refine l_nil (e_go hK8 ?_)
      refine c_seq fun K9 hK9 => ?_
      refine c_region ?_
      refine l_val wn (r_move rfl) rfl ?_
      refine l_val wn (r_move rfl) rfl ?_
      refine l_val wn (r_neq rfl rfl) rfl ?_
      refine l_nil (e_go hK9 ?_)
      refine c_cond rfl (fun h2 => ?_) (fun h2 => ?_)
      ·
        refine c_seq fun K10 hK10 => ?_
        refine c_region ?_
        refine l_val wn (r_assign rfl) rfl ?_
        refine l_nil (e_go hK10 ?_)
        refine c_ret (e_in_r (e_then_r (e_loop1_r (e_in_r (e_then_r (e_ret1 (.inl rfl) Try.results12 (rv_tmp rfl) fun w1 hM => ?_))))))
        exact absurd es1 h2
      ·
        refine c_skip (e_in_n (e_go hK7 ?_))
        refine c_region ?_
        refine l_val wn (r_addn rfl rfl (by omega)) rfl ?_
        refine l_val wn (r_move rfl) rfl ?_
        refine l_nil (e_round1 (k + 1) (sc rfl (sc rfl (sc (ji (by omega)) sn))) (fun _ h => h) ?_ ?_)
        · omega
        · omega
    ·
      refine c_exit (e_then_x (e_loop1_x (e_in_hit (e_go hK3 ?_))))
      refine c_seq fun K11 hK11 => ?_
      refine c_region ?_
      refine l_bsL intE ([1000000, 1000000000, 500, 0, 1, 2, 10, 60, 4, 12, 1, 2, 3, 4, 1, 2, 3, 4, 2000, 20, 100, 1000000, 100000, 4, 1125899906842624, 1, 2, 3, 4, 8, 120, 5] : List Int) wn Try.underlying39 inf3 rfl rfl rfl rfl (by decide) (by decide) rfl fun b19 => ?_
      refine l_val wn (r_assign rfl) rfl ?_
      refine l_nil (e_go hK11 ?_)
      refine c_seq fun K12 hK12 => ?_
      refine c_region ?_
      refine l_bsL intE ([1000000, 1000000000, 500, 0, 1, 2, 10, 60, 4, 12, 1, 2, 3, 4, 1, 2, 3, 4, 2000, 20, 100, 1000000, 100000, 4, 1125899906842624, 1, 2, 3, 4, 8, 120, 5] : List Int) wn Try.underlying39 inf3 rfl rfl rfl rfl (by decide) (by decide) rfl fun b20 => ?_
      refine l_val wn (r_assign rfl) rfl ?_
      refine l_nil (e_go hK12 ?_)
      refine c_seq fun K13 hK13 => ?_
      refine c_seq fun K14 hK14 => ?_
      refine c_region ?_
      refine l_val wn (r_move rfl) rfl ?_
      refine l_val wn (r_len rfl Try.underlying39) rfl ?_
      refine l_val wn (r_move rfl) rfl ?_
      refine l_nil (e_go hK14 ?_)
      refine c_block ?_
      refine c_loop1 (fun (k : Nat) => [(4, .slice (some ⟨b19, 0, none⟩) 32 32), (5, .slice (some ⟨b20, 0, none⟩) 32 32), (22, .int .i64 32), (23, .int .i64 (k : Int))]) (fun (k : Nat) => [Row (.slice (some ⟨b20, 0, none⟩) 32 32) 3 1 intE ([1000000, 1000000000, 500, 0, 1, 2, 10, 60, 4, 12, 1, 2, 3, 4, 1, 2, 3, 4, 2000, 20, 100, 1000000, 100000, 4, 1125899906842624, 1, 2, 3, 4, 8, 120, 5] : List Int), Row (.slice (some ⟨b19, 0, none⟩) 32 32) 3 1 intE ([1000000, 1000000000, 500, 0, 1, 2, 10, 60, 4, 12, 1, 2, 3, 4, 1, 2, 3, 4, 2000, 20, 100, 1000000, 100000, 4, 1125899906842624, 1, 2, 3, 4, 8, 120, 5] : List Int), Row (.slice (some ⟨b7, 0, none⟩) 11 11) 43 1 intE ([0, 1, 2, 3, 4, 5, 6, 7, 8, 9, 10] : List Int)]) (fun (k : Nat) => k ≤ 32) (fun (k : Nat) => 32 - k) 0 (sc rfl (sc rfl (sc rfl (sc (ji (by omega)) sn)))) (fun _ h => h) ?_ (fun k hI2 => ?_)
      · omega
      ·
        refine c_seq fun K15 hK15 => ?_
        refine c_region ?_
        refine l_val wn (r_lss rfl rfl) rfl ?_
        refine l_nil (e_go hK15 ?_)
        refine c_seq fun K16 hK16 => ?_
        refine c_cond rfl (fun h3 => ?_) (fun h3 => ?_)
        ·
          refine c_skip (e_go hK16 ?_)
          refine c_seq fun K17 hK17 => ?_
          refine c_block ?_
          refine c_seq fun K18 hK18 => ?_
          refine c_region ?_
          refine l_val wn (r_move rfl) rfl ?_
          refine l_val wn (r_assign rfl) rfl ?_
          refine l_nil (e_go hK18 ?_)
          refine c_seq fun K19 hK19 => ?_
          refine c_quiet mix (by kernel_rfl) (fun _ h => h.drew) ?_
          refine q_val wn (r_move rfl) rfl ?_
          refine q_val wn (r_move rfl) rfl ?_
          refine q_val wn (r_ia (i := k) rfl rfl rfl (by omega) (by first | omega | (simp only [List.length_cons, List.length_nil, List.length_append, List.length_take, List.length_set]; omega)) Try.underlying39 inf3) rfl ?_
          obtain ⟨s2, hs2⟩ : ∃ x, ([1000000, 1000000000, 500, 0, 1, 2, 10, 60, 4, 12, 1, 2, 3, 4, 1, 2, 3, 4, 2000, 20, 100, 1000000, 100000, 4, 1125899906842624, 1, 2, 3, 4, 8, 120, 5] : List Int)[k]? = some x := ⟨_, List.getElem?_eq_getElem (by first | omega | (simp only [List.length_cons, List.length_nil, List.length_append, List.length_take, List.length_set]; omega))⟩
          refine q_val wn (r_rl 1 encInt rfl rfl rfl hs2 rfl flat3) rfl ?_
          refine q_val wn (r_move rfl) rfl ?_
          refine q_val wn (r_move rfl) rfl ?_
          refine q_val wn (r_ia (i := k) rfl rfl rfl (by omega) (by first | omega | (simp only [List.length_cons, List.length_nil, List.length_append, List.length_take, List.length_set]; omega)) Try.underlying39 inf3) rfl ?_
          obtain ⟨s3, hs3⟩ : ∃ x, ([1000000, 1000000000, 500, 0, 1, 2, 10, 60, 4, 12, 1, 2, 3, 4, 1, 2, 3, 4, 2000, 20, 100, 1000000, 100000, 4, 1125899906842624, 1, 2, 3, 4, 8, 120, 5] : List Int)[k]? = some x := ⟨_, List.getElem?_eq_getElem (by first | omega | (simp only [List.length_cons, List.length_nil, List.length_append, List.length_take, List.length_set]; omega))⟩
          refine q_val wn (r_rl 0 encInt rfl rfl rfl hs3 rfl flat3) rfl ?_
          refine q_val wn (r_neq rfl rfl) rfl ?_
          refine q_end (e_go hK19 ?_)
          refine c_cond rfl (fun h4 => ?_) (fun h4 => ?_)
          ·
            refine c_seq fun K20 hK20 => ?_
            refine c_region ?_
            refine l_val wn (r_assign rfl) rfl ?_
            refine l_nil (e_go hK20 ?_)
            refine c_ret (e_in_r (e_then_r (e_loop1_r (e_in_r (e_then_r (e_ret1 (.inl rfl) Try.results12 (rv_tmp rfl) fun w1 hM => ?_))))))
            exact absurd (Option.some.inj (hs2.symm.trans hs3)) h4
          ·
            refine c_skip (e_in_n (e_go hK17 ?_))
            refine c_region ?_
            refine l_val wn (r_addn rfl rfl (by omega)) rfl ?_
            refine l_val wn (r_move rfl) rfl ?_
            refine l_nil (e_round1 (k + 1) (sc rfl (sc rfl (sc rfl (sc (ji (by omega)) sn)))) (fun _ h => h) ?_ ?_)
            · omega
            · omega
        ·
          refine c_exit (e_then_x (e_loop1_x (e_in_hit (e_go hK13 ?_))))
          refine c_seq fun K21 hK21 => ?_
          refine c_region ?_
          refine l_val wn (r_assign rfl) rfl ?_
          refine l_nil (e_go hK21 ?_)
          refine c_ret (e_ret1 (.inl rfl) Try.results12 (rv_tmp rfl) fun w1 hM => ?_)
          exact ret_ok rfl hM

end Go.Proofs.Yteogkbpcibnifaa
