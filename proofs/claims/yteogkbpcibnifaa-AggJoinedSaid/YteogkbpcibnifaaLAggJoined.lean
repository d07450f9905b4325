/-
  Walks: what each function hands back.
-/
import Derived.Test.YteogkbpcibnifaaWagg
namespace Go.Proofs.Yteogkbpcibnifaa
open Ex
set_option linter.unusedVariables false
set_option linter.unusedSimpArgs false
theorem law_AggJoined (a : Sum) (b : Sum) (c : Sum) (w : World)   :
    Calls Try.prog 5 #[.agg (sumE a).toArray, .agg (sumE b).toArray, .agg (sumE c).toArray] w (Ret w (.bool true)) := by
  refine fstart (N := 67) (vals := [.agg (sumE a).toArray, .agg (sumE b).toArray, .agg (sumE c).toArray]) (S := Mem w no []) Try.func5 rfl rfl rfl (Mem.ofDats dn) ?_
  refine c_seq fun K1 hK1 => ?_
  refine c_region ?_
  refine l_box wn rfl rfl fun b3 => ?_
  refine l_box wn rfl rfl fun b4 => ?_
  refine l_box wn rfl rfl fun b5 => ?_
  refine l_val wn (r_assign rfl) rfl ?_
  refine l_nil (e_go hK1 ?_)
  refine c_seq fun K2 hK2 => ?_
  refine c_seq fun K3 hK3 => ?_
  refine c_region ?_
  refine l_callF wn rfl Try.call21 rfl (fun w1 hM => c_alive2  w1) ?_
  refine l_val wn (r_notb rfl) rfl ?_
  refine l_nil (e_go hK3 ?_)
  refine c_false rfl rfl ?_
  refine c_skip (e_go hK2 ?_)
  refine c_seq fun K4 hK4 => ?_
  refine c_cut [(3, .pointer (some ⟨b3, 0, none⟩)), (4, .pointer (some ⟨b4, 0, none⟩)), (5, .pointer (some ⟨b5, 0, none⟩)), (37, .bool (decide ((a.count < 0) ∨ ((b.count < 0) ∨ ((c.count < 0) ∨ ((1099511627776 < a.count) ∨ ((1099511627776 < b.count) ∨ (1099511627776 < c.count))))))))] (Mem w no [.blk b5 [.int .i64 c.count, .int .i64 c.total, .int .i64 c.min, .int .i64 c.max, .int .i64 c.first, .int .i64 c.last, .int .i64 c.rise] 24, .blk b4 [.int .i64 b.count, .int .i64 b.total, .int .i64 b.min, .int .i64 b.max, .int .i64 b.first, .int .i64 b.last, .int .i64 b.rise] 24, .blk b3 [.int .i64 a.count, .int .i64 a.total, .int .i64 a.min, .int .i64 a.max, .int .i64 a.first, .int .i64 a.last, .int .i64 a.rise] 24]) (fun K5 hK5 => ?_) ?_
  ·
    refine c_region ?_
    refine l_val wn (r_fa rfl fld24_0) rfl ?_
    refine l_val wn (r_lb 2 rfl rfl rfl flat3) rfl ?_
    refine l_val wn (r_lss rfl rfl) rfl ?_
    refine l_val wn (r_move rfl) rfl ?_
    refine l_case (t := 13) rfl (fun h1 => ?_) (fun h1 => ?_)
    ·
      refine l_skip (wg rfl rfl rfl) rfl ?_
      refine l_skip (wg rfl rfl rfl) rfl ?_
      refine l_skip (wg rfl rfl rfl) rfl ?_
      refine l_val wn (r_pick rfl rfl) rfl ?_
      refine l_val wn (r_move rfl) rfl ?_
      refine l_skip (wg rfl rfl rfl) rfl ?_
      refine l_skip (wg rfl rfl rfl) rfl ?_
      refine l_skip (wg rfl rfl rfl) rfl ?_
      refine l_val wn (r_pick rfl rfl) rfl ?_
      refine l_val wn (r_move rfl) rfl ?_
      refine l_skip (wg rfl rfl rfl) rfl ?_
      refine l_skip (wg rfl rfl rfl) rfl ?_
      refine l_skip (wg rfl rfl rfl) rfl ?_
      refine l_val wn (r_pick rfl rfl) rfl ?_
      refine l_val wn (r_move rfl) rfl ?_
      refine l_skip (wg rfl rfl rfl) rfl ?_
      refine l_skip (wg rfl rfl rfl) rfl ?_
      refine l_skip (wg rfl rfl rfl) rfl ?_
      refine l_val wn (r_pick rfl rfl) rfl ?_
      refine l_val wn (r_move rfl) rfl ?_
      refine l_skip (wg rfl rfl rfl) rfl ?_
      refine l_skip (wg rfl rfl rfl) rfl ?_
      refine l_skip (wg rfl rfl rfl) rfl ?_
      refine l_val wn (r_pick rfl rfl) rfl ?_
      refine l_nil (e_cut hK5 (sc rfl (sc rfl (sc rfl (sc (jt (Or.inl h1)) sn)))) (fun _ h => h))
    ·
      refine l_val (wg rfl rfl rfl) (r_fa rfl fld24_0) rfl ?_
      refine l_val (wg rfl rfl rfl) (r_lb 1 rfl rfl rfl flat3) rfl ?_
      refine l_val (wg rfl rfl rfl) (r_lss rfl rfl) rfl ?_
      refine l_val wn (r_pick rfl rfl) rfl ?_
      refine l_val wn (r_move rfl) rfl ?_
      refine l_case (t := 18) rfl (fun h2 => ?_) (fun h2 => ?_)
      ·
        refine l_skip (wg rfl rfl rfl) rfl ?_
        refine l_skip (wg rfl rfl rfl) rfl ?_
        refine l_skip (wg rfl rfl rfl) rfl ?_
        refine l_val wn (r_pick rfl rfl) rfl ?_
        refine l_val wn (r_move rfl) rfl ?_
        refine l_skip (wg rfl rfl rfl) rfl ?_
        refine l_skip (wg rfl rfl rfl) rfl ?_
        refine l_skip (wg rfl rfl rfl) rfl ?_
        refine l_val wn (r_pick rfl rfl) rfl ?_
        refine l_val wn (r_move rfl) rfl ?_
        refine l_skip (wg rfl rfl rfl) rfl ?_
        refine l_skip (wg rfl rfl rfl) rfl ?_
        refine l_skip (wg rfl rfl rfl) rfl ?_
        refine l_val wn (r_pick rfl rfl) rfl ?_
        refine l_val wn (r_move rfl) rfl ?_
        refine l_skip (wg rfl rfl rfl) rfl ?_
        refine l_skip (wg rfl rfl rfl) rfl ?_
        refine l_skip (wg rfl rfl rfl) rfl ?_
        refine l_val wn (r_pick rfl rfl) rfl ?_
        refine l_nil (e_cut hK5 (sc rfl (sc rfl (sc rfl (sc (jt (Or.inr (Or.inl h2))) sn)))) (fun _ h => h))
      ·
        refine l_val (wg rfl rfl rfl) (r_fa rfl fld24_0) rfl ?_
        refine l_val (wg rfl rfl rfl) (r_lb 0 rfl rfl rfl flat3) rfl ?_
        refine l_val (wg rfl rfl rfl) (r_lss rfl rfl) rfl ?_
        refine l_val wn (r_pick rfl rfl) rfl ?_
        refine l_val wn (r_move rfl) rfl ?_
        refine l_case (t := 23) rfl (fun h3 => ?_) (fun h3 => ?_)
        ·
          refine l_skip (wg rfl rfl rfl) rfl ?_
          refine l_skip (wg rfl rfl rfl) rfl ?_
          refine l_skip (wg rfl rfl rfl) rfl ?_
          refine l_val wn (r_pick rfl rfl) rfl ?_
          refine l_val wn (r_move rfl) rfl ?_
          refine l_skip (wg rfl rfl rfl) rfl ?_
          refine l_skip (wg rfl rfl rfl) rfl ?_
          refine l_skip (wg rfl rfl rfl) rfl ?_
          refine l_val wn (r_pick rfl rfl) rfl ?_
          refine l_val wn (r_move rfl) rfl ?_
          refine l_skip (wg rfl rfl rfl) rfl ?_
          refine l_skip (wg rfl rfl rfl) rfl ?_
          refine l_skip (wg rfl rfl rfl) rfl ?_
          refine l_val wn (r_pick rfl rfl) rfl ?_
          refine l_nil (e_cut hK5 (sc rfl (sc rfl (sc rfl (sc (jt (Or.inr (Or.inr (Or.inl h3)))) sn)))) (fun _ h => h))
        ·
          refine l_val (wg rfl rfl rfl) (r_fa rfl fld24_0) rfl ?_
          refine l_val (wg rfl rfl rfl) (r_lb 2 rfl rfl rfl flat3) rfl ?_
          refine l_val (wg rfl rfl rfl) (r_gtr rfl rfl) rfl ?_
          refine l_val wn (r_pick rfl rfl) rfl ?_
          refine l_val wn (r_move rfl) rfl ?_
          refine l_case (t := 28) rfl (fun h4 => ?_) (fun h4 => ?_)
          ·
            refine l_skip (wg rfl rfl rfl) rfl ?_
            refine l_skip (wg rfl rfl rfl) rfl ?_
            refine l_skip (wg rfl rfl rfl) rfl ?_
            refine l_val wn (r_pick rfl rfl) rfl ?_
            refine l_val wn (r_move rfl) rfl ?_
            refine l_skip (wg rfl rfl rfl) rfl ?_
            refine l_skip (wg rfl rfl rfl) rfl ?_
            refine l_skip (wg rfl rfl rfl) rfl ?_
            refine l_val wn (r_pick rfl rfl) rfl ?_
            refine l_nil (e_cut hK5 (sc rfl (sc rfl (sc rfl (sc (jt (Or.inr (Or.inr (Or.inr (Or.inl h4))))) sn)))) (fun _ h => h))
          ·
            refine l_val (wg rfl rfl rfl) (r_fa rfl fld24_0) rfl ?_
            refine l_val (wg rfl rfl rfl) (r_lb 1 rfl rfl rfl flat3) rfl ?_
            refine l_val (wg rfl rfl rfl) (r_gtr rfl rfl) rfl ?_
            refine l_val wn (r_pick rfl rfl) rfl ?_
            refine l_val wn (r_move rfl) rfl ?_
            refine l_case (t := 33) rfl (fun h5 => ?_) (fun h5 => ?_)
            ·
              refine l_skip (wg rfl rfl rfl) rfl ?_
              refine l_skip (wg rfl rfl rfl) rfl ?_
              refine l_skip (wg rfl rfl rfl) rfl ?_
              refine l_val wn (r_pick rfl rfl) rfl ?_
              refine l_nil (e_cut hK5 (sc rfl (sc rfl (sc rfl (sc (jt (Or.inr (Or.inr (Or.inr (Or.inr (Or.inl h5)))))) sn)))) (fun _ h => h))
            ·
              refine l_val (wg rfl rfl rfl) (r_fa rfl fld24_0) rfl ?_
              refine l_val (wg rfl rfl rfl) (r_lb 0 rfl rfl rfl flat3) rfl ?_
              refine l_val (wg rfl rfl rfl) (r_gtr rfl rfl) rfl ?_
              refine l_val wn (r_pick rfl rfl) rfl ?_
              refine l_nil (e_cut hK5 (sc rfl (sc rfl (sc rfl (sc (jp (iff_or_right h1 (iff_or_right h2 (iff_or_right h3 (iff_or_right h4 (iff_or_right h5 Iff.rfl)))))) sn)))) (fun _ h => h))
  ·
    refine c_cond rfl (fun h6 => ?_) (fun h6 => ?_)
    ·
      refine c_seq fun K6 hK6 => ?_
      refine c_region ?_
      refine l_val wn (r_assign rfl) rfl ?_
      refine l_nil (e_go hK6 ?_)
      refine c_ret (e_then_r (e_ret1 (.inl rfl) Try.results5 (rv_tmp rfl) fun w1 hM => ?_))
      exact ret_ok rfl hM
    ·
      refine c_skip (e_go hK4 ?_)
      refine c_seq fun K7 hK7 => ?_
      refine c_region ?_
      refine l_val wn (r_build [.int .i64 0, .int .i64 0, .int .i64 0, .int .i64 0, .int .i64 0, .int .i64 0, .int .i64 0] pl24 inf24 rfl rfl) rfl ?_
      refine l_alloc wn inf24 rfl fun b7 => ?_
      refine l_stn 0 wn rfl rfl rfl inf24 rfl rfl rfl ?_
      refine l_nil (e_go hK7 ?_)
      refine c_seq fun K8 hK8 => ?_
      refine c_cut [(3, .pointer (some ⟨b3, 0, none⟩)), (4, .pointer (some ⟨b4, 0, none⟩)), (5, .pointer (some ⟨b5, 0, none⟩)), (55, .bool (decide ((0 < a.count) ∧ (((Agg.join a (⟨0, 0, 0, 0, 0, 0, 0⟩ : Sum)) ≠ a) ∨ ((Agg.join (⟨0, 0, 0, 0, 0, 0, 0⟩ : Sum) a) ≠ a)))))] (Mem w no [.blk b7 [.int .i64 0, .int .i64 0, .int .i64 0, .int .i64 0, .int .i64 0, .int .i64 0, .int .i64 0] 24, .blk b5 [.int .i64 c.count, .int .i64 c.total, .int .i64 c.min, .int .i64 c.max, .int .i64 c.first, .int .i64 c.last, .int .i64 c.rise] 24, .blk b4 [.int .i64 b.count, .int .i64 b.total, .int .i64 b.min, .int .i64 b.max, .int .i64 b.first, .int .i64 b.last, .int .i64 b.rise] 24, .blk b3 [.int .i64 a.count, .int .i64 a.total, .int .i64 a.min, .int .i64 a.max, .int .i64 a.first, .int .i64 a.last, .int .i64 a.rise] 24]) (fun K9 hK9 => ?_) ?_
      ·
        refine c_quiet mix (by kernel_rfl) (fun _ h => h.drew) ?_
        refine q_val wn (r_fa rfl fld24_0) rfl ?_
        refine q_val wn (r_lb 3 rfl rfl rfl flat3) rfl ?_
        refine q_val wn (r_gtr rfl rfl) rfl ?_
        refine q_val wn (r_move rfl) rfl ?_
        refine q_case (t := 42) rfl (fun h7 => ?_) (fun h7 => ?_)
        ·
          refine q_val (wg rfl rfl rfl) (r_lbn 3 [.int .i64 a.count, .int .i64 a.total, .int .i64 a.min, .int .i64 a.max, .int .i64 a.first, .int .i64 a.last, .int .i64 a.rise] rfl rfl rfl rfl agg24 inf24) rfl ?_
          refine q_val (wg rfl rfl rfl) (r_lbn 0 [.int .i64 0, .int .i64 0, .int .i64 0, .int .i64 0, .int .i64 0, .int .i64 0, .int .i64 0] rfl rfl rfl rfl agg24 inf24) rfl ?_
          refine q_callF (wg rfl rfl rfl) rfl Try.call15 rfl (fun w1 hM => c_Join a (⟨0, 0, 0, 0, 0, 0, 0⟩ : Sum) w1) ?_
          refine q_val (wg rfl rfl rfl) (r_lbn 3 [.int .i64 a.count, .int .i64 a.total, .int .i64 a.min, .int .i64 a.max, .int .i64 a.first, .int .i64 a.last, .int .i64 a.rise] rfl rfl rfl rfl agg24 inf24) rfl ?_
          refine q_val (wg rfl rfl rfl) (r_neqS (a := (Agg.join a (⟨0, 0, 0, 0, 0, 0, 0⟩ : Sum))) (b := a) rfl rfl eqv24) rfl ?_
          refine q_val (wg rfl rfl rfl) (r_move rfl) rfl ?_
          refine q_case (t := 48) rfl (fun h8 => ?_) (fun h8 => ?_)
          ·
            refine q_skip (wg rfl rfl rfl) rfl ?_
            refine q_skip (wg rfl rfl rfl) rfl ?_
            refine q_skip (wg rfl rfl rfl) rfl ?_
            refine q_skip (wg rfl rfl rfl) rfl ?_
            refine q_skip (wg rfl rfl rfl) rfl ?_
            refine q_val (wg rfl rfl rfl) (r_pick rfl rfl) rfl ?_
            refine q_val wn (r_pick rfl rfl) rfl ?_
            refine q_end (e_cut hK9 (sc rfl (sc rfl (sc rfl (sc (jt ⟨h7, (Or.inl h8)⟩) sn)))) (fun _ h => h))
          ·
            refine q_val (wg rfl rfl rfl) (r_lbn 0 [.int .i64 0, .int .i64 0, .int .i64 0, .int .i64 0, .int .i64 0, .int .i64 0, .int .i64 0] rfl rfl rfl rfl agg24 inf24) rfl ?_
            refine q_val (wg rfl rfl rfl) (r_lbn 3 [.int .i64 a.count, .int .i64 a.total, .int .i64 a.min, .int .i64 a.max, .int .i64 a.first, .int .i64 a.last, .int .i64 a.rise] rfl rfl rfl rfl agg24 inf24) rfl ?_
            refine q_callF (wg rfl rfl rfl) rfl Try.call15 rfl (fun w1 hM => c_Join (⟨0, 0, 0, 0, 0, 0, 0⟩ : Sum) a w1) ?_
            refine q_val (wg rfl rfl rfl) (r_lbn 3 [.int .i64 a.count, .int .i64 a.total, .int .i64 a.min, .int .i64 a.max, .int .i64 a.first, .int .i64 a.last, .int .i64 a.rise] rfl rfl rfl rfl agg24 inf24) rfl ?_
            refine q_val (wg rfl rfl rfl) (r_neqS (a := (Agg.join (⟨0, 0, 0, 0, 0, 0, 0⟩ : Sum) a)) (b := a) rfl rfl eqv24) rfl ?_
            refine q_val (wg rfl rfl rfl) (r_pick rfl rfl) rfl ?_
            refine q_val wn (r_pick rfl rfl) rfl ?_
            refine q_end (e_cut hK9 (sc rfl (sc rfl (sc rfl (sc (jp (iff_and_right h7 (iff_or_right h8 Iff.rfl))) sn)))) (fun _ h => h))
        ·
          refine q_skip (wg rfl rfl rfl) rfl ?_
          refine q_skip (wg rfl rfl rfl) rfl ?_
          refine q_skip (wg rfl rfl rfl) rfl ?_
          refine q_skip (wg rfl rfl rfl) rfl ?_
          refine q_skip (wg rfl rfl rfl) rfl ?_
          refine q_skip (wg rfl rfl rfl) rfl ?_
          refine q_skip (wu rfl rfl) rfl ?_
          refine q_skip (wu rfl rfl) rfl ?_
          refine q_skip (wu rfl rfl) rfl ?_
          refine q_skip (wu rfl rfl) rfl ?_
          refine q_skip (wu rfl rfl) rfl ?_
          refine q_skip (wg rfl rfl rfl) rfl ?_
          refine q_val wn (r_pick rfl rfl) rfl ?_
          refine q_end (e_cut hK9 (sc rfl (sc rfl (sc rfl (sc (jf (fun g => h7 g.1)) sn)))) (fun _ h => h))
      ·
        refine c_cond rfl (fun h9 => ?_) (fun h9 => ?_)
        ·
          refine c_seq fun K10 hK10 => ?_
          refine c_region ?_
          refine l_val wn (r_assign rfl) rfl ?_
          refine l_nil (e_go hK10 ?_)
          refine c_ret (e_then_r (e_ret1 (.inl rfl) Try.results5 (rv_tmp rfl) fun w1 hM => ?_))
          exact absurd h9 (by rw [Agg.join_none, Agg.none_join]; rintro ⟨h, k⟩; rw [if_neg (by omega)] at k; simp at k)
        ·
          refine c_skip (e_go hK8 ?_)
          refine c_seq fun K11 hK11 => ?_
          refine c_quiet mix (by kernel_rfl) (fun _ h => h.drew) ?_
          refine q_val wn (r_lbn 3 [.int .i64 a.count, .int .i64 a.total, .int .i64 a.min, .int .i64 a.max, .int .i64 a.first, .int .i64 a.last, .int .i64 a.rise] rfl rfl rfl rfl agg24 inf24) rfl ?_
          refine q_val wn (r_lbn 2 [.int .i64 b.count, .int .i64 b.total, .int .i64 b.min, .int .i64 b.max, .int .i64 b.first, .int .i64 b.last, .int .i64 b.rise] rfl rfl rfl rfl agg24 inf24) rfl ?_
          refine q_val wn (r_lbn 1 [.int .i64 c.count, .int .i64 c.total, .int .i64 c.min, .int .i64 c.max, .int .i64 c.first, .int .i64 c.last, .int .i64 c.rise] rfl rfl rfl rfl agg24 inf24) rfl ?_
          refine q_callF wn rfl Try.call15 rfl (fun w1 hM => c_Join b c w1) ?_
          refine q_callF wn rfl Try.call15 rfl (fun w1 hM => c_Join a (Agg.join b c) w1) ?_
          refine q_val wn (r_lbn 3 [.int .i64 a.count, .int .i64 a.total, .int .i64 a.min, .int .i64 a.max, .int .i64 a.first, .int .i64 a.last, .int .i64 a.rise] rfl rfl rfl rfl agg24 inf24) rfl ?_
          refine q_val wn (r_lbn 2 [.int .i64 b.count, .int .i64 b.total, .int .i64 b.min, .int .i64 b.max, .int .i64 b.first, .int .i64 b.last, .int .i64 b.rise] rfl rfl rfl rfl agg24 inf24) rfl ?_
          refine q_callF wn rfl Try.call15 rfl (fun w1 hM => c_Join a b w1) ?_
          refine q_val wn (r_lbn 1 [.int .i64 c.count, .int .i64 c.total, .int .i64 c.min, .int .i64 c.max, .int .i64 c.first, .int .i64 c.last, .int .i64 c.rise] rfl rfl rfl rfl agg24 inf24) rfl ?_
          refine q_callF wn rfl Try.call15 rfl (fun w1 hM => c_Join (Agg.join a b) c w1) ?_
          refine q_val wn (r_eqlS (a := (Agg.join a (Agg.join b c))) (b := (Agg.join (Agg.join a b) c)) rfl rfl eqv24) rfl ?_
          refine q_val wn (r_assign rfl) rfl ?_
          refine q_end (e_go hK11 ?_)
          refine c_ret (e_ret1 (.inl rfl) Try.results5 (rv_tmp rfl) fun w1 hM => ?_)
          exact ret_ok (by rw [Agg.join_assoc (by omega) (by omega) (by omega) (by omega)]; simp) hM

end Go.Proofs.Yteogkbpcibnifaa
