/-
  Walks: what each function hands back.
-/
import Derived.Test.YteogkbpcibnifaaWroll
import Derived.Test.YteogkbpcibnifaaWcodec
import Derived.Test.YteogkbpcibnifaaPRoll
namespace Go.Proofs.Yteogkbpcibnifaa
open Ex
set_option linter.unusedVariables false
set_option linter.unusedSimpArgs false
theorem law_RollCount (lv : Value) (l : List Sample) (tier : Int) (w : World) (hl : FlatSl (In w) 2 sampleE lv l w)  :
    Calls Try.prog 9 #[lv, .int .i64 tier] w (Ret w (.bool true)) := by
  obtain ⟨lA, lc, rfl, hlc, hlm, hlA⟩ := hl.form
  refine fstart (N := 45) (vals := [.slice lA l.length lc, .int .i64 tier]) (S := Mem w no [slO (In w) 2 sampleE (.slice lA l.length lc) l]) Try.func9 rfl rfl rfl (Mem.ofDats (dc (dl hl) dn)) ?_
  refine c_seq fun K1 hK1 => ?_
  refine c_region ?_
  refine l_val wn (r_assign rfl) rfl ?_
  refine l_nil (e_go hK1 ?_)
  refine c_seq fun K2 hK2 => ?_
  refine c_seq fun K3 hK3 => ?_
  refine c_region ?_
  refine l_callF wn rfl Try.call23 rfl (fun w1 hM => c_alive3  w1) ?_
  refine l_val wn (r_notb rfl) rfl ?_
  refine l_nil (e_go hK3 ?_)
  refine c_false rfl rfl ?_
  refine c_skip (e_go hK2 ?_)
  refine c_seq fun K4 hK4 => ?_
  refine c_cut [(0, .slice lA l.length lc), (1, .int .i64 tier), (18, .bool (decide (((Codec.wrong l).err ≠ 0) ∨ ((Roll.step tier) = 0))))] (Mem w no [slO (In w) 2 sampleE (.slice lA l.length lc) l]) (fun K5 hK5 => ?_) ?_
  ·
    refine c_region ?_
    refine l_val wn (r_move rfl) rfl ?_
    refine l_callF wn rfl Try.call24 rfl (fun w1 hM => c_codecWrong _ l w1 (hM.sl 0 rfl)) ?_
    refine l_val wn (r_fieldv rfl fld45_0 fty45_0 flat43 rfl) rfl ?_
    refine l_val wn (r_neq rfl rfl) rfl ?_
    refine l_val wn (r_move rfl) rfl ?_
    refine l_case (t := 14) rfl (fun h1 => ?_) (fun h1 => ?_)
    ·
      refine l_skip (wg rfl rfl rfl) rfl ?_
      refine l_skip (wg rfl rfl rfl) rfl ?_
      refine l_skip (wg rfl rfl rfl) rfl ?_
      refine l_val wn (r_pick rfl rfl) rfl ?_
      refine l_nil (e_cut hK5 (sc rfl (sc rfl (sc (jt (Or.inl h1)) sn))) (fun _ h => h))
    ·
      refine l_val (wg rfl rfl rfl) (r_move rfl) rfl ?_
      refine l_callF (wg rfl rfl rfl) rfl Try.call28 rfl (fun w1 hM => c_Step tier w1) ?_
      refine l_val (wg rfl rfl rfl) (r_eql rfl rfl) rfl ?_
      refine l_val wn (r_pick rfl rfl) rfl ?_
      refine l_nil (e_cut hK5 (sc rfl (sc rfl (sc (jp (iff_or_right h1 Iff.rfl)) sn))) (fun _ h => h))
  ·
    refine c_cond rfl (fun h2 => ?_) (fun h2 => ?_)
    ·
      refine c_seq fun K6 hK6 => ?_
      refine c_region ?_
      refine l_val wn (r_move rfl) rfl ?_
      refine l_callL (Roll.up ([] : List Sample) tier) wn rfl Try.call27 rfl (fun w1 hM => c_Up _ ([] : List Sample) tier w1 (FlatSl.nil_ _ 2 sampleE _) (by first | assumption | omega | (simp only [List.length_cons, List.length_nil]; omega) | exact Nat.le_trans (Roll.up_len _ _) (by first | omega | simp))) fun A1 cp1 hc1 hm1 hA1 => ?_
      refine l_val wn (r_len rfl Try.underlying48) rfl ?_
      refine l_val wn (r_eql rfl rfl) rfl ?_
      refine l_val wn (r_assign rfl) rfl ?_
      refine l_nil (e_go hK6 ?_)
      refine c_ret (e_then_r (e_ret1 (.inl rfl) Try.results9 (rv_tmp rfl) fun w1 hM => ?_))
      exact ret_ok (by simp [Roll.up, Roll.ups]) hM
    ·
      have hr := Codec.right_of (Classical.not_not.1 (fun g => h2 (Or.inl g)))
      have hl := hr.len
      have hst : Roll.step tier ≠ 0 := fun g => h2 (Or.inr g)
      have hc := Roll.up_counts (tier := tier) (by omega : l.length ≤ 1048576) hst
      refine c_skip (e_go hK4 ?_)
      refine c_seq fun K7 hK7 => ?_
      refine c_region ?_
      refine l_val wn (r_assign rfl) rfl ?_
      refine l_nil (e_go hK7 ?_)
      refine c_seq fun K8 hK8 => ?_
      refine c_seq fun K9 hK9 => ?_
      refine c_region ?_
      refine l_val wn (r_move rfl) rfl ?_
      refine l_val wn (r_move rfl) rfl ?_
      refine l_callL (Roll.up l tier) wn rfl Try.call27 rfl (fun w1 hM => c_Up _ l tier w1 (hM.sl 0 rfl) (by first | assumption | omega | (simp only [List.length_cons, List.length_nil]; omega) | exact Nat.le_trans (Roll.up_len _ _) (by first | omega | simp))) fun A2 cp2 hc2 hm2 hA2 => ?_
      refine l_val wn (r_len rfl Try.underlying48) rfl ?_
      refine l_val wn (r_move rfl) rfl ?_
      refine l_nil (e_go hK9 ?_)
      refine c_block ?_
      refine c_loop1 (fun (k : Nat) => [(0, .slice lA l.length lc), (5, .int .i64 (Roll.tot ((Roll.up l tier).take k))), (25, .slice A2 ((Roll.up l tier).length) cp2), (26, .int .i64 ((Roll.up l tier).length : Int)), (27, .int .i64 (k : Int))]) (fun (k : Nat) => [Row (.slice A2 ((Roll.up l tier).length) cp2) 53 8 bucketE (Roll.up l tier), slO (In w) 2 sampleE (.slice lA l.length lc) l]) (fun (k : Nat) => k ≤ (Roll.up l tier).length) (fun (k : Nat) => (Roll.up l tier).length - k) 0 (sc rfl (sc (ji (by first | omega | simp [Roll.tot])) (sc rfl (sc rfl (sc (ji (by first | omega | simp [Roll.tot])) sn))))) (fun _ h => h) ?_ (fun k hI1 => ?_)
      · omega
      ·
        refine c_seq fun K10 hK10 => ?_
        refine c_region ?_
        refine l_val wn (r_lss rfl rfl) rfl ?_
        refine l_nil (e_go hK10 ?_)
        refine c_seq fun K11 hK11 => ?_
        refine c_cond rfl (fun h3 => ?_) (fun h3 => ?_)
        ·
          refine c_skip (e_go hK11 ?_)
          refine c_seq fun K12 hK12 => ?_
          refine c_block ?_
          refine c_seq fun K13 hK13 => ?_
          refine c_region ?_
          obtain ⟨ad1, hd1⟩ := hA2 (ne_nil (i := k) (by first | omega | decide | (simp only [List.length_cons, List.length_nil, List.length_append, List.length_take, List.length_set]; omega)))
          refine l_val wn (r_ia (i := k) rfl hd1 rfl (by omega) (by first | omega | decide | (simp only [List.length_cons, List.length_nil, List.length_append, List.length_take, List.length_set]; omega)) Try.underlying48 inf53) rfl ?_
          obtain ⟨s1, hs1⟩ : ∃ x, (Roll.up l tier)[k]? = some x := ⟨_, List.getElem?_eq_getElem (by first | omega | decide | (simp only [List.length_cons, List.length_nil, List.length_append, List.length_take, List.length_set]; omega))⟩
          have ht := Roll.tot_at hc hs1
          refine l_val wn (r_rln 0 [.int .i64 s1.at_, .int .i64 s1.sum.count, .int .i64 s1.sum.total, .int .i64 s1.sum.min, .int .i64 s1.sum.max, .int .i64 s1.sum.first, .int .i64 s1.sum.last, .int .i64 s1.sum.rise] encBucket rfl rfl hd1 hs1 rfl rfl agg53 inf53) rfl ?_
          refine l_alloc wn inf53 rfl fun b7 => ?_
          refine l_stn 0 wn rfl rfl rfl inf53 rfl rfl rfl ?_
          refine l_nil (e_go hK13 ?_)
          refine c_seq fun K14 hK14 => ?_
          refine c_region ?_
          refine l_val wn (r_move rfl) rfl ?_
          refine l_val wn (r_fa rfl fld53_1) rfl ?_
          refine l_val wn (r_fa rfl fld24_0) rfl ?_
          refine l_val wn (r_lb 0 rfl rfl rfl flat3) rfl ?_
          refine l_val wn (r_addn rfl rfl (by omega)) rfl ?_
          refine l_val wn (r_assign rfl) rfl ?_
          refine l_nil (e_go hK14 ?_)
          refine c_seq fun K15 hK15 => ?_
          refine c_region ?_
          refine l_val wn (r_fa rfl fld53_1) rfl ?_
          refine l_val wn (r_fa rfl fld24_0) rfl ?_
          refine l_val wn (r_lb 0 rfl rfl rfl flat3) rfl ?_
          refine l_val wn (r_lss rfl rfl) rfl ?_
          refine l_nil (e_go hK15 ?_)
          refine c_cond rfl (fun h4 => ?_) (fun h4 => ?_)
          ·
            refine c_seq fun K16 hK16 => ?_
            refine c_region ?_
            refine l_val wn (r_assign rfl) rfl ?_
            refine l_nil (e_go hK16 ?_)
            refine c_ret (e_in_r (e_then_r (e_loop1_r (e_in_r (e_then_r (e_ret1 (.inl rfl) Try.results9 (rv_tmp rfl) fun w1 hM => ?_))))))
            exact absurd h4 (by omega)
          ·
            refine c_skip (e_in_n (e_go hK12 ?_))
            refine c_region ?_
            refine l_val wn (r_addn rfl rfl (by omega)) rfl ?_
            refine l_val wn (r_move rfl) rfl ?_
            refine l_nil (e_round1 (k + 1) (sc rfl (sc (ji (by first | omega | simp [Roll.tot])) (sc rfl (sc rfl (sc (ji (by first | omega | simp [Roll.tot])) sn))))) (fun _ h => (h.sel [1, 2] (by decide) rfl)) ?_ ?_)
            · omega
            · omega
        ·
          refine c_exit (e_then_x (e_loop1_x (e_in_hit (e_go hK8 ?_))))
          refine c_seq fun K17 hK17 => ?_
          refine c_region ?_
          refine l_val wn (r_move rfl) rfl ?_
          refine l_val wn (r_move rfl) rfl ?_
          refine l_val wn (r_len rfl Try.underlying22) rfl ?_
          refine l_val wn (r_eql rfl rfl) rfl ?_
          refine l_val wn (r_assign rfl) rfl ?_
          refine l_nil (e_go hK17 ?_)
          refine c_ret (e_ret1 (.inl rfl) Try.results9 (rv_tmp rfl) fun w1 hM => ?_)
          exact ret_ok (by rw [decide_eq_true (Roll.tot_done hc (by omega))]) hM

end Go.Proofs.Yteogkbpcibnifaa
