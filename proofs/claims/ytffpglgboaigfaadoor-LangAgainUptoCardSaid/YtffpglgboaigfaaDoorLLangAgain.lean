/-
  Walks: what each function hands back.
-/
import Derived.Test.YtffpglgboaigfaaDoorWprintS
import Derived.Test.YtffpglgboaigfaaDoorWparse3
import Derived.Test.YtffpglgboaigfaaDoorPAlive
namespace Go.Proofs.YtffpglgboaigfaaDoor
open Ex
set_option linter.unusedVariables false
set_option linter.unusedSimpArgs false
def c_refEqual_C (a : ExprX) : Prop := ∀ (b : ExprX) (P0 : Nat → Prop) (w : World) (hP0 : ∀ b, P0 b → b < w.heap.size) (ha : ExprX.Ok P0 a w) (hb : ExprX.Ok P0 b w) ,
    Calls Tryd.prog 17 #[.agg (exprE a).toArray, .agg (exprE b).toArray] w (Ret w (.bool (decide (a.e = b.e))))
set_option maxHeartbeats 2000000 in
theorem c_refEqual_step (a : ExprX) (ih : ∀ k : ExprX, SizeOf.sizeOf k < SizeOf.sizeOf a → c_refEqual_C k) : c_refEqual_C a := by
  intro b P0 w hP0 ha hb
  have hwa := ha.wf
  have hwb := hb.wf
  refine fstart (N := 116) (vals := [.agg (exprE a).toArray, .agg (exprE b).toArray]) (S := Mem w ⟨no, P0⟩ [okP ExprX.Ok a, okP ExprX.Ok b]) Tryd.func17 rfl rfl rfl (Mem.ofDatsP hP0 (dc (dp (ExprX.Ok.loc _) ha) (dc (dp (ExprX.Ok.loc _) hb) dn))) ?_
  refine c_seq fun K1 hK1 => ?_
  refine c_region ?_
  refine l_box wn rfl rfl fun b2 => ?_
  refine l_box wn rfl rfl fun b3 => ?_
  refine l_val wn (r_assign rfl) rfl ?_
  refine l_nil (e_go hK1 ?_)
  refine c_seq fun K2 hK2 => ?_
  refine c_seq fun K3 hK3 => ?_
  refine c_region ?_
  refine l_val wn (r_fa rfl fld26_0) rfl ?_
  refine l_val wn (r_lb 1 rfl rfl rfl flat3) rfl ?_
  refine l_val wn (r_fa rfl fld26_0) rfl ?_
  refine l_val wn (r_lb 0 rfl rfl rfl flat3) rfl ?_
  refine l_val wn (r_neq rfl rfl) rfl ?_
  refine l_val wn (r_move rfl) rfl ?_
  refine l_case (t := 13) rfl (fun h1 => ?_) (fun h1 => ?_)
  ·
    refine l_skip (wg rfl rfl rfl) rfl ?_
    refine l_skip (wg rfl rfl rfl) rfl ?_
    refine l_skip (wg rfl rfl rfl) rfl ?_
    refine l_skip (wg rfl rfl rfl) rfl ?_
    refine l_skip (wg rfl rfl rfl) rfl ?_
    refine l_val wn (r_pick rfl rfl) rfl ?_
    refine l_val wn (r_move rfl) rfl ?_
    refine l_skip (wg rfl rfl rfl) rfl ?_
    refine l_skip (wg rfl rfl rfl) rfl ?_
    refine l_skip (wg rfl rfl rfl) rfl ?_
    refine l_skip (wg rfl rfl rfl) rfl ?_
    refine l_skip (wg rfl rfl rfl) rfl ?_
    refine l_val wn (r_pick rfl rfl) rfl ?_
    refine l_val wn (r_move rfl) rfl ?_
    refine l_skip (wg rfl rfl rfl) rfl ?_
    refine l_skip (wg rfl rfl rfl) rfl ?_
    refine l_skip (wg rfl rfl rfl) rfl ?_
    refine l_skip (wg rfl rfl rfl) rfl ?_
    refine l_skip (wg rfl rfl rfl) rfl ?_
    refine l_val wn (r_pick rfl rfl) rfl ?_
    refine l_val wn (r_move rfl) rfl ?_
    refine l_skip (wg rfl rfl rfl) rfl ?_
    refine l_skip (wg rfl rfl rfl) rfl ?_
    refine l_skip (wg rfl rfl rfl) rfl ?_
    refine l_skip (wg rfl rfl rfl) rfl ?_
    refine l_skip (wg rfl rfl rfl) rfl ?_
    refine l_skip (wg rfl rfl rfl) rfl ?_
    refine l_skip (wg rfl rfl rfl) rfl ?_
    refine l_val wn (r_pick rfl rfl) rfl ?_
    refine l_val wn (r_move rfl) rfl ?_
    refine l_skip (wg rfl rfl rfl) rfl ?_
    refine l_skip (wg rfl rfl rfl) rfl ?_
    refine l_skip (wg rfl rfl rfl) rfl ?_
    refine l_skip (wg rfl rfl rfl) rfl ?_
    refine l_skip (wg rfl rfl rfl) rfl ?_
    refine l_skip (wg rfl rfl rfl) rfl ?_
    refine l_skip (wg rfl rfl rfl) rfl ?_
    refine l_val wn (r_pick rfl rfl) rfl ?_
    refine l_val wn (r_move rfl) rfl ?_
    refine l_skip (wg rfl rfl rfl) rfl ?_
    refine l_skip (wg rfl rfl rfl) rfl ?_
    refine l_skip (wg rfl rfl rfl) rfl ?_
    refine l_skip (wg rfl rfl rfl) rfl ?_
    refine l_skip (wg rfl rfl rfl) rfl ?_
    refine l_skip (wg rfl rfl rfl) rfl ?_
    refine l_skip (wg rfl rfl rfl) rfl ?_
    refine l_val wn (r_pick rfl rfl) rfl ?_
    refine l_nil (e_go hK3 ?_)
    refine c_true rfl rfl ?_
    refine c_seq fun K4 hK4 => ?_
    refine c_region ?_
    refine l_val wn (r_assign rfl) rfl ?_
    refine l_nil (e_go hK4 ?_)
    refine c_ret (e_then_r (e_ret1 (.inl rfl) Tryd.results17 (rv_tmp rfl) fun w1 hM => ?_))
    exact ret_ok (congrArg Value.bool (decide_eq_false fun h => h1 (Pz.e_same.1 h).1).symm) hM
  ·
    refine l_val (wg rfl rfl rfl) (r_fa rfl fld26_1) rfl ?_
    refine l_val (wg rfl rfl rfl) (r_lb 1 rfl rfl rfl flat3) rfl ?_
    refine l_val (wg rfl rfl rfl) (r_fa rfl fld26_1) rfl ?_
    refine l_val (wg rfl rfl rfl) (r_lb 0 rfl rfl rfl flat3) rfl ?_
    refine l_val (wg rfl rfl rfl) (r_neq rfl rfl) rfl ?_
    refine l_val wn (r_pick rfl rfl) rfl ?_
    refine l_val wn (r_move rfl) rfl ?_
    refine l_case (t := 20) rfl (fun h2 => ?_) (fun h2 => ?_)
    ·
      refine l_skip (wg rfl rfl rfl) rfl ?_
      refine l_skip (wg rfl rfl rfl) rfl ?_
      refine l_skip (wg rfl rfl rfl) rfl ?_
      refine l_skip (wg rfl rfl rfl) rfl ?_
      refine l_skip (wg rfl rfl rfl) rfl ?_
      refine l_val wn (r_pick rfl rfl) rfl ?_
      refine l_val wn (r_move rfl) rfl ?_
      refine l_skip (wg rfl rfl rfl) rfl ?_
      refine l_skip (wg rfl rfl rfl) rfl ?_
      refine l_skip (wg rfl rfl rfl) rfl ?_
      refine l_skip (wg rfl rfl rfl) rfl ?_
      refine l_skip (wg rfl rfl rfl) rfl ?_
      refine l_val wn (r_pick rfl rfl) rfl ?_
      refine l_val wn (r_move rfl) rfl ?_
      refine l_skip (wg rfl rfl rfl) rfl ?_
      refine l_skip (wg rfl rfl rfl) rfl ?_
      refine l_skip (wg rfl rfl rfl) rfl ?_
      refine l_skip (wg rfl rfl rfl) rfl ?_
      refine l_skip (wg rfl rfl rfl) rfl ?_
      refine l_skip (wg rfl rfl rfl) rfl ?_
      refine l_skip (wg rfl rfl rfl) rfl ?_
      refine l_val wn (r_pick rfl rfl) rfl ?_
      refine l_val wn (r_move rfl) rfl ?_
      refine l_skip (wg rfl rfl rfl) rfl ?_
      refine l_skip (wg rfl rfl rfl) rfl ?_
      refine l_skip (wg rfl rfl rfl) rfl ?_
      refine l_skip (wg rfl rfl rfl) rfl ?_
      refine l_skip (wg rfl rfl rfl) rfl ?_
      refine l_skip (wg rfl rfl rfl) rfl ?_
      refine l_skip (wg rfl rfl rfl) rfl ?_
      refine l_val wn (r_pick rfl rfl) rfl ?_
      refine l_val wn (r_move rfl) rfl ?_
      refine l_skip (wg rfl rfl rfl) rfl ?_
      refine l_skip (wg rfl rfl rfl) rfl ?_
      refine l_skip (wg rfl rfl rfl) rfl ?_
      refine l_skip (wg rfl rfl rfl) rfl ?_
      refine l_skip (wg rfl rfl rfl) rfl ?_
      refine l_skip (wg rfl rfl rfl) rfl ?_
      refine l_skip (wg rfl rfl rfl) rfl ?_
      refine l_val wn (r_pick rfl rfl) rfl ?_
      refine l_nil (e_go hK3 ?_)
      refine c_true rfl rfl ?_
      refine c_seq fun K5 hK5 => ?_
      refine c_region ?_
      refine l_val wn (r_assign rfl) rfl ?_
      refine l_nil (e_go hK5 ?_)
      refine c_ret (e_then_r (e_ret1 (.inl rfl) Tryd.results17 (rv_tmp rfl) fun w1 hM => ?_))
      exact ret_ok (congrArg Value.bool (decide_eq_false fun h => h2 (Pz.e_same.1 h).2.1).symm) hM
    ·
      refine l_val (wg rfl rfl rfl) (r_fa rfl fld26_2) rfl ?_
      refine l_val (wg rfl rfl rfl) (r_lb 1 rfl rfl rfl flat3) rfl ?_
      refine l_val (wg rfl rfl rfl) (r_fa rfl fld26_2) rfl ?_
      refine l_val (wg rfl rfl rfl) (r_lb 0 rfl rfl rfl flat3) rfl ?_
      refine l_val (wg rfl rfl rfl) (r_neq rfl rfl) rfl ?_
      refine l_val wn (r_pick rfl rfl) rfl ?_
      refine l_val wn (r_move rfl) rfl ?_
      refine l_case (t := 27) rfl (fun h3 => ?_) (fun h3 => ?_)
      ·
        refine l_skip (wg rfl rfl rfl) rfl ?_
        refine l_skip (wg rfl rfl rfl) rfl ?_
        refine l_skip (wg rfl rfl rfl) rfl ?_
        refine l_skip (wg rfl rfl rfl) rfl ?_
        refine l_skip (wg rfl rfl rfl) rfl ?_
        refine l_val wn (r_pick rfl rfl) rfl ?_
        refine l_val wn (r_move rfl) rfl ?_
        refine l_skip (wg rfl rfl rfl) rfl ?_
        refine l_skip (wg rfl rfl rfl) rfl ?_
        refine l_skip (wg rfl rfl rfl) rfl ?_
        refine l_skip (wg rfl rfl rfl) rfl ?_
        refine l_skip (wg rfl rfl rfl) rfl ?_
        refine l_skip (wg rfl rfl rfl) rfl ?_
        refine l_skip (wg rfl rfl rfl) rfl ?_
        refine l_val wn (r_pick rfl rfl) rfl ?_
        refine l_val wn (r_move rfl) rfl ?_
        refine l_skip (wg rfl rfl rfl) rfl ?_
        refine l_skip (wg rfl rfl rfl) rfl ?_
        refine l_skip (wg rfl rfl rfl) rfl ?_
        refine l_skip (wg rfl rfl rfl) rfl ?_
        refine l_skip (wg rfl rfl rfl) rfl ?_
        refine l_skip (wg rfl rfl rfl) rfl ?_
        refine l_skip (wg rfl rfl rfl) rfl ?_
        refine l_val wn (r_pick rfl rfl) rfl ?_
        refine l_val wn (r_move rfl) rfl ?_
        refine l_skip (wg rfl rfl rfl) rfl ?_
        refine l_skip (wg rfl rfl rfl) rfl ?_
        refine l_skip (wg rfl rfl rfl) rfl ?_
        refine l_skip (wg rfl rfl rfl) rfl ?_
        refine l_skip (wg rfl rfl rfl) rfl ?_
        refine l_skip (wg rfl rfl rfl) rfl ?_
        refine l_skip (wg rfl rfl rfl) rfl ?_
        refine l_val wn (r_pick rfl rfl) rfl ?_
        refine l_nil (e_go hK3 ?_)
        refine c_true rfl rfl ?_
        refine c_seq fun K6 hK6 => ?_
        refine c_region ?_
        refine l_val wn (r_assign rfl) rfl ?_
        refine l_nil (e_go hK6 ?_)
        refine c_ret (e_then_r (e_ret1 (.inl rfl) Tryd.results17 (rv_tmp rfl) fun w1 hM => ?_))
        exact ret_ok (congrArg Value.bool (decide_eq_false fun h => h3 (Pz.e_same.1 h).2.2.1).symm) hM
      ·
        refine l_val (wg rfl rfl rfl) (r_fa rfl fld26_3) rfl ?_
        refine l_val (wg rfl rfl rfl) (r_lb 1 rfl rfl rfl flat9) rfl ?_
        refine l_val (wg rfl rfl rfl) (r_fa rfl fld26_3) rfl ?_
        refine l_val (wg rfl rfl rfl) (r_lb 0 rfl rfl rfl flat9) rfl ?_
        refine l_val (wg rfl rfl rfl) (r_sneq rfl rfl) rfl ?_
        refine l_val wn (r_pick rfl rfl) rfl ?_
        refine l_val wn (r_move rfl) rfl ?_
        refine l_case (t := 34) rfl (fun h4 => ?_) (fun h4 => ?_)
        ·
          refine l_skip (wg rfl rfl rfl) rfl ?_
          refine l_skip (wg rfl rfl rfl) rfl ?_
          refine l_skip (wg rfl rfl rfl) rfl ?_
          refine l_skip (wg rfl rfl rfl) rfl ?_
          refine l_skip (wg rfl rfl rfl) rfl ?_
          refine l_skip (wg rfl rfl rfl) rfl ?_
          refine l_skip (wg rfl rfl rfl) rfl ?_
          refine l_val wn (r_pick rfl rfl) rfl ?_
          refine l_val wn (r_move rfl) rfl ?_
          refine l_skip (wg rfl rfl rfl) rfl ?_
          refine l_skip (wg rfl rfl rfl) rfl ?_
          refine l_skip (wg rfl rfl rfl) rfl ?_
          refine l_skip (wg rfl rfl rfl) rfl ?_
          refine l_skip (wg rfl rfl rfl) rfl ?_
          refine l_skip (wg rfl rfl rfl) rfl ?_
          refine l_skip (wg rfl rfl rfl) rfl ?_
          refine l_val wn (r_pick rfl rfl) rfl ?_
          refine l_val wn (r_move rfl) rfl ?_
          refine l_skip (wg rfl rfl rfl) rfl ?_
          refine l_skip (wg rfl rfl rfl) rfl ?_
          refine l_skip (wg rfl rfl rfl) rfl ?_
          refine l_skip (wg rfl rfl rfl) rfl ?_
          refine l_skip (wg rfl rfl rfl) rfl ?_
          refine l_skip (wg rfl rfl rfl) rfl ?_
          refine l_skip (wg rfl rfl rfl) rfl ?_
          refine l_val wn (r_pick rfl rfl) rfl ?_
          refine l_nil (e_go hK3 ?_)
          refine c_true rfl rfl ?_
          refine c_seq fun K7 hK7 => ?_
          refine c_region ?_
          refine l_val wn (r_assign rfl) rfl ?_
          refine l_nil (e_go hK7 ?_)
          refine c_ret (e_then_r (e_ret1 (.inl rfl) Tryd.results17 (rv_tmp rfl) fun w1 hM => ?_))
          exact ret_ok (congrArg Value.bool (decide_eq_false fun h => h4 (Pz.e_same.1 h).2.2.2.1).symm) hM
        ·
          refine l_val (wg rfl rfl rfl) (r_fa rfl fld26_4) rfl ?_
          refine l_val (wg rfl rfl rfl) (r_lb 1 rfl rfl rfl flat22) rfl ?_
          refine l_val (wg rfl rfl rfl) (r_len rfl Tryd.underlying22) rfl ?_
          refine l_val (wg rfl rfl rfl) (r_fa rfl fld26_4) rfl ?_
          refine l_val (wg rfl rfl rfl) (r_lb 0 rfl rfl rfl flat22) rfl ?_
          refine l_val (wg rfl rfl rfl) (r_len rfl Tryd.underlying22) rfl ?_
          refine l_val (wg rfl rfl rfl) (r_neq rfl rfl) rfl ?_
          refine l_val wn (r_pick rfl rfl) rfl ?_
          refine l_val wn (r_move rfl) rfl ?_
          refine l_case (t := 43) rfl (fun h5 => ?_) (fun h5 => ?_)
          ·
            refine l_skip (wg rfl rfl rfl) rfl ?_
            refine l_skip (wg rfl rfl rfl) rfl ?_
            refine l_skip (wg rfl rfl rfl) rfl ?_
            refine l_skip (wg rfl rfl rfl) rfl ?_
            refine l_skip (wg rfl rfl rfl) rfl ?_
            refine l_skip (wg rfl rfl rfl) rfl ?_
            refine l_skip (wg rfl rfl rfl) rfl ?_
            refine l_val wn (r_pick rfl rfl) rfl ?_
            refine l_val wn (r_move rfl) rfl ?_
            refine l_skip (wg rfl rfl rfl) rfl ?_
            refine l_skip (wg rfl rfl rfl) rfl ?_
            refine l_skip (wg rfl rfl rfl) rfl ?_
            refine l_skip (wg rfl rfl rfl) rfl ?_
            refine l_skip (wg rfl rfl rfl) rfl ?_
            refine l_skip (wg rfl rfl rfl) rfl ?_
            refine l_skip (wg rfl rfl rfl) rfl ?_
            refine l_val wn (r_pick rfl rfl) rfl ?_
            refine l_nil (e_go hK3 ?_)
            refine c_true rfl rfl ?_
            refine c_seq fun K8 hK8 => ?_
            refine c_region ?_
            refine l_val wn (r_assign rfl) rfl ?_
            refine l_nil (e_go hK8 ?_)
            refine c_ret (e_then_r (e_ret1 (.inl rfl) Tryd.results17 (rv_tmp rfl) fun w1 hM => ?_))
            exact ret_ok (congrArg Value.bool (decide_eq_false fun h => h5 (by rw [(Pz.e_same.1 h).2.2.2.2.1])).symm) hM
          ·
            refine l_val (wg rfl rfl rfl) (r_fa rfl fld26_5) rfl ?_
            refine l_val (wg rfl rfl rfl) (r_lb 1 rfl rfl rfl flat23) rfl ?_
            refine l_val (wg rfl rfl rfl) (r_len rfl Tryd.underlying23) rfl ?_
            refine l_val (wg rfl rfl rfl) (r_fa rfl fld26_5) rfl ?_
            refine l_val (wg rfl rfl rfl) (r_lb 0 rfl rfl rfl flat23) rfl ?_
            refine l_val (wg rfl rfl rfl) (r_len rfl Tryd.underlying23) rfl ?_
            refine l_val (wg rfl rfl rfl) (r_neq rfl rfl) rfl ?_
            refine l_val wn (r_pick rfl rfl) rfl ?_
            refine l_val wn (r_move rfl) rfl ?_
            refine l_case (t := 52) rfl (fun h6 => ?_) (fun h6 => ?_)
            ·
              refine l_skip (wg rfl rfl rfl) rfl ?_
              refine l_skip (wg rfl rfl rfl) rfl ?_
              refine l_skip (wg rfl rfl rfl) rfl ?_
              refine l_skip (wg rfl rfl rfl) rfl ?_
              refine l_skip (wg rfl rfl rfl) rfl ?_
              refine l_skip (wg rfl rfl rfl) rfl ?_
              refine l_skip (wg rfl rfl rfl) rfl ?_
              refine l_val wn (r_pick rfl rfl) rfl ?_
              refine l_nil (e_go hK3 ?_)
              refine c_true rfl rfl ?_
              refine c_seq fun K9 hK9 => ?_
              refine c_region ?_
              refine l_val wn (r_assign rfl) rfl ?_
              refine l_nil (e_go hK9 ?_)
              refine c_ret (e_then_r (e_ret1 (.inl rfl) Tryd.results17 (rv_tmp rfl) fun w1 hM => ?_))
              exact ret_ok (congrArg Value.bool (decide_eq_false fun h => h6 (by rw [(Pz.e_same.1 h).2.2.2.2.2.1])).symm) hM
            ·
              refine l_val (wg rfl rfl rfl) (r_fa rfl fld26_6) rfl ?_
              refine l_val (wg rfl rfl rfl) (r_lb 1 rfl rfl rfl flat24) rfl ?_
              refine l_val (wg rfl rfl rfl) (r_len rfl Tryd.underlying24) rfl ?_
              refine l_val (wg rfl rfl rfl) (r_fa rfl fld26_6) rfl ?_
              refine l_val (wg rfl rfl rfl) (r_lb 0 rfl rfl rfl flat24) rfl ?_
              refine l_val (wg rfl rfl rfl) (r_len rfl Tryd.underlying24) rfl ?_
              refine l_val (wg rfl rfl rfl) (r_neq rfl rfl) rfl ?_
              refine l_val wn (r_pick rfl rfl) rfl ?_
              refine l_nil (e_go hK3 ?_)
              refine c_cond rfl (fun h7 => ?_) (fun h7 => ?_)
              ·
                refine c_seq fun K10 hK10 => ?_
                refine c_region ?_
                refine l_val wn (r_assign rfl) rfl ?_
                refine l_nil (e_go hK10 ?_)
                refine c_ret (e_then_r (e_ret1 (.inl rfl) Tryd.results17 (rv_tmp rfl) fun w1 hM => ?_))
                exact ret_ok (congrArg Value.bool (decide_eq_false fun h => h7 (by have := congrArg List.length (Pz.e_same.1 h).2.2.2.2.2.2; rw [List.length_map, List.length_map] at this; rw [this])).symm) hM
              ·
                refine c_skip (e_go hK2 ?_)
                refine c_seq fun K11 hK11 => ?_
                refine c_seq fun K12 hK12 => ?_
                refine c_region ?_
                refine l_val wn (r_fa rfl fld26_4) rfl ?_
                refine l_val wn (r_lb 1 rfl rfl rfl flat22) rfl ?_
                refine l_val wn (r_len rfl Tryd.underlying22) rfl ?_
                refine l_val wn (r_move rfl) rfl ?_
                refine l_nil (e_go hK12 ?_)
                refine c_block ?_
                refine c_loop1 (fun (k : Nat) => [(2, .pointer (some ⟨b2, 0, none⟩)), (3, .pointer (some ⟨b3, 0, none⟩)), (63, iV a.ms.l.length), (64, iV k)]) (fun (k : Nat) => [.blk b3 [iV b.kind, iV b.n, iV b.range, .string b.word, .slice b.ms.A b.ms.l.length b.ms.c, .slice b.by_.A b.by_.l.length b.by_.c, .slice b.kids.A b.kids.l.length b.kids.c] 26, .blk b2 [iV a.kind, iV a.n, iV a.range, .string a.word, .slice a.ms.A a.ms.l.length a.ms.c, .slice a.by_.A a.by_.l.length a.by_.c, .slice a.kids.A a.kids.l.length a.kids.c] 26, okP ExprX.Ok a, okP ExprX.Ok b]) (fun (k : Nat) => k ≤ a.ms.l.length ∧ a.ms.l.take k = b.ms.l.take k) (fun (k : Nat) => a.ms.l.length - k) 0 (sc rfl (sc rfl (sc rfl (sc (ji (by omega)) sn)))) (fun _ h => h) ?_ (fun k hI1 => ?_)
                · exact ⟨by omega, rfl⟩
                ·
                  refine c_seq fun K13 hK13 => ?_
                  refine c_region ?_
                  refine l_val wn (r_lss rfl rfl) rfl ?_
                  refine l_nil (e_go hK13 ?_)
                  refine c_seq fun K14 hK14 => ?_
                  refine c_cond rfl (fun h8 => ?_) (fun h8 => ?_)
                  ·
                    refine c_skip (e_go hK14 ?_)
                    refine c_seq fun K15 hK15 => ?_
                    refine c_block ?_
                    refine c_seq fun K16 hK16 => ?_
                    refine c_region ?_
                    refine l_val wn (r_move rfl) rfl ?_
                    refine l_val wn (r_assign rfl) rfl ?_
                    refine l_nil (e_go hK16 ?_)
                    refine c_seq fun K17 hK17 => ?_
                    refine c_quiet mix (by kernel_rfl) (fun _ h => h.drew) ?_
                    refine q_val wn (r_fa rfl fld26_4) rfl ?_
                    refine q_val wn (r_lb 1 rfl rfl rfl flat22) rfl ?_
                    refine q_val wn (r_move rfl) rfl ?_
                    refine q_opn (fun _ h => h.exprX 2 rfl) (fun _ h => h.drop1.drop1.drop1.drop1) ?_
                    obtain ⟨hc1, hm1, hA1⟩ := hwa.ms
                    obtain ⟨hc2, hm2, hA2⟩ := hwa.by_
                    obtain ⟨hc3, hm3, hA3⟩ := hwa.kids
                    obtain ⟨ad1, hd1⟩ := hA1 (ne_nil (i := k) (by omega))
                    refine q_val wn (r_ia (i := k) rfl hd1 rfl (by omega) (by omega) Tryd.underlying22 inf74) rfl ?_
                    obtain ⟨s1, hs1⟩ : ∃ x, a.ms.l[k]? = some x := ⟨_, List.getElem?_eq_getElem (by omega)⟩
                    refine q_val wn (r_pln 0 [iV s1.kind, .string s1.key, .string s1.val] rfl rfl hd1 hs1 rfl rfl agg74 inf74) rfl ?_
                    refine q_val wn (r_fa rfl fld26_4) rfl ?_
                    refine q_val wn (r_lb 4 rfl rfl rfl flat22) rfl ?_
                    refine q_val wn (r_move rfl) rfl ?_
                    refine q_opn (fun _ h => h.exprX 7 rfl) (fun _ h => h.drop1.drop1.drop1.drop1) ?_
                    obtain ⟨hc4, hm4, hA4⟩ := hwb.ms
                    obtain ⟨hc5, hm5, hA5⟩ := hwb.by_
                    obtain ⟨hc6, hm6, hA6⟩ := hwb.kids
                    obtain ⟨ad2, hd2⟩ := hA4 (ne_nil (i := k) (by omega))
                    refine q_val wn (r_ia (i := k) rfl hd2 rfl (by omega) (by omega) Tryd.underlying22 inf74) rfl ?_
                    obtain ⟨s2, hs2⟩ : ∃ x, b.ms.l[k]? = some x := ⟨_, List.getElem?_eq_getElem (by omega)⟩
                    refine q_val wn (r_pln 0 [iV s2.kind, .string s2.key, .string s2.val] rfl rfl hd2 hs2 rfl rfl agg74 inf74) rfl ?_
                    refine q_val wn (r_neqS (a := s1) (b := s2) rfl rfl eqv74) rfl ?_
                    refine q_end (e_go hK17 ?_)
                    refine c_cond rfl (fun h9 => ?_) (fun h9 => ?_)
                    ·
                      refine c_seq fun K18 hK18 => ?_
                      refine c_region ?_
                      refine l_val wn (r_assign rfl) rfl ?_
                      refine l_nil (e_go hK18 ?_)
                      refine c_ret (e_in_r (e_then_r (e_loop1_r (e_in_r (e_then_r (e_ret1 (.inl rfl) Tryd.results17 (rv_tmp rfl) fun w1 hM => ?_))))))
                      exact ret_ok (congrArg Value.bool (decide_eq_false fun h => Pz.take_ne hs1 hs2 h9 (Pz.e_same.1 h).2.2.2.2.1).symm) hM
                    ·
                      refine c_skip (e_in_n (e_go hK15 ?_))
                      refine c_region ?_
                      refine l_val wn (r_addn rfl rfl (by omega)) rfl ?_
                      refine l_val wn (r_move rfl) rfl ?_
                      refine l_nil (e_round1 (k + 1) (sc rfl (sc rfl (sc rfl (sc (ji (by omega)) sn)))) (fun _ h => (h.sel [8, 9, 10, 11] (by decide) rfl)) ?_ ?_)
                      · exact ⟨by omega, Pz.take_next hI1.2 hs1 hs2 (Classical.not_not.1 h9)⟩
                      · omega
                  ·
                    refine c_exit (e_then_x (e_loop1_x (e_in_hit (e_go hK11 ?_))))
                    refine c_seq fun K19 hK19 => ?_
                    refine c_seq fun K20 hK20 => ?_
                    refine c_region ?_
                    refine l_val wn (r_fa rfl fld26_5) rfl ?_
                    refine l_val wn (r_lb 1 rfl rfl rfl flat23) rfl ?_
                    refine l_val wn (r_len rfl Tryd.underlying23) rfl ?_
                    refine l_val wn (r_move rfl) rfl ?_
                    refine l_nil (e_go hK20 ?_)
                    refine c_block ?_
                    refine c_loop1 (fun (k : Nat) => [(2, .pointer (some ⟨b2, 0, none⟩)), (3, .pointer (some ⟨b3, 0, none⟩)), (81, iV a.by_.l.length), (82, iV k)]) (fun (k : Nat) => [.blk b3 [iV b.kind, iV b.n, iV b.range, .string b.word, .slice b.ms.A b.ms.l.length b.ms.c, .slice b.by_.A b.by_.l.length b.by_.c, .slice b.kids.A b.kids.l.length b.kids.c] 26, .blk b2 [iV a.kind, iV a.n, iV a.range, .string a.word, .slice a.ms.A a.ms.l.length a.ms.c, .slice a.by_.A a.by_.l.length a.by_.c, .slice a.kids.A a.kids.l.length a.kids.c] 26, okP ExprX.Ok a, okP ExprX.Ok b]) (fun (k : Nat) => k ≤ a.by_.l.length ∧ a.by_.l.take k = b.by_.l.take k) (fun (k : Nat) => a.by_.l.length - k) 0 (sc rfl (sc rfl (sc rfl (sc (ji (by omega)) sn)))) (fun _ h => h) ?_ (fun k hI2 => ?_)
                    · exact ⟨by omega, rfl⟩
                    ·
                      refine c_seq fun K21 hK21 => ?_
                      refine c_region ?_
                      refine l_val wn (r_lss rfl rfl) rfl ?_
                      refine l_nil (e_go hK21 ?_)
                      refine c_seq fun K22 hK22 => ?_
                      refine c_cond rfl (fun h10 => ?_) (fun h10 => ?_)
                      ·
                        refine c_skip (e_go hK22 ?_)
                        refine c_seq fun K23 hK23 => ?_
                        refine c_block ?_
                        refine c_seq fun K24 hK24 => ?_
                        refine c_region ?_
                        refine l_val wn (r_move rfl) rfl ?_
                        refine l_val wn (r_assign rfl) rfl ?_
                        refine l_nil (e_go hK24 ?_)
                        refine c_seq fun K25 hK25 => ?_
                        refine c_quiet mix (by kernel_rfl) (fun _ h => h.drew) ?_
                        refine q_val wn (r_fa rfl fld26_5) rfl ?_
                        refine q_val wn (r_lb 1 rfl rfl rfl flat23) rfl ?_
                        refine q_val wn (r_move rfl) rfl ?_
                        refine q_opn (fun _ h => h.exprX 2 rfl) (fun _ h => h.drop1.drop1.drop1.drop1) ?_
                        obtain ⟨hc7, hm7, hA7⟩ := hwa.ms
                        obtain ⟨hc8, hm8, hA8⟩ := hwa.by_
                        obtain ⟨hc9, hm9, hA9⟩ := hwa.kids
                        obtain ⟨ad3, hd3⟩ := hA8 (ne_nil (i := k) (by omega))
                        refine q_val wn (r_ia (i := k) rfl hd3 rfl (by omega) (by omega) Tryd.underlying23 inf9) rfl ?_
                        obtain ⟨s3, hs3⟩ : ∃ x, a.by_.l[k]? = some x := ⟨_, List.getElem?_eq_getElem (by omega)⟩
                        refine q_val wn (r_pl 1 rfl rfl hd3 hs3 rfl flat9) rfl ?_
                        refine q_val wn (r_fa rfl fld26_5) rfl ?_
                        refine q_val wn (r_lb 4 rfl rfl rfl flat23) rfl ?_
                        refine q_val wn (r_move rfl) rfl ?_
                        refine q_opn (fun _ h => h.exprX 7 rfl) (fun _ h => h.drop1.drop1.drop1.drop1) ?_
                        obtain ⟨hc10, hm10, hA10⟩ := hwb.ms
                        obtain ⟨hc11, hm11, hA11⟩ := hwb.by_
                        obtain ⟨hc12, hm12, hA12⟩ := hwb.kids
                        obtain ⟨ad4, hd4⟩ := hA11 (ne_nil (i := k) (by omega))
                        refine q_val wn (r_ia (i := k) rfl hd4 rfl (by omega) (by omega) Tryd.underlying23 inf9) rfl ?_
                        obtain ⟨s4, hs4⟩ : ∃ x, b.by_.l[k]? = some x := ⟨_, List.getElem?_eq_getElem (by omega)⟩
                        refine q_val wn (r_pl 1 rfl rfl hd4 hs4 rfl flat9) rfl ?_
                        refine q_val wn (r_sneq rfl rfl) rfl ?_
                        refine q_end (e_go hK25 ?_)
                        refine c_cond rfl (fun h11 => ?_) (fun h11 => ?_)
                        ·
                          refine c_seq fun K26 hK26 => ?_
                          refine c_region ?_
                          refine l_val wn (r_assign rfl) rfl ?_
                          refine l_nil (e_go hK26 ?_)
                          refine c_ret (e_in_r (e_then_r (e_loop1_r (e_in_r (e_then_r (e_ret1 (.inl rfl) Tryd.results17 (rv_tmp rfl) fun w1 hM => ?_))))))
                          exact ret_ok (congrArg Value.bool (decide_eq_false fun h => Pz.take_ne hs3 hs4 h11 (Pz.e_same.1 h).2.2.2.2.2.1).symm) hM
                        ·
                          refine c_skip (e_in_n (e_go hK23 ?_))
                          refine c_region ?_
                          refine l_val wn (r_addn rfl rfl (by omega)) rfl ?_
                          refine l_val wn (r_move rfl) rfl ?_
                          refine l_nil (e_round1 (k + 1) (sc rfl (sc rfl (sc rfl (sc (ji (by omega)) sn)))) (fun _ h => (h.sel [8, 9, 10, 11] (by decide) rfl)) ?_ ?_)
                          · exact ⟨by omega, Pz.take_next hI2.2 hs3 hs4 (Classical.not_not.1 h11)⟩
                          · omega
                      ·
                        refine c_exit (e_then_x (e_loop1_x (e_in_hit (e_go hK19 ?_))))
                        refine c_seq fun K27 hK27 => ?_
                        refine c_seq fun K28 hK28 => ?_
                        refine c_region ?_
                        refine l_val wn (r_fa rfl fld26_6) rfl ?_
                        refine l_val wn (r_lb 1 rfl rfl rfl flat24) rfl ?_
                        refine l_val wn (r_len rfl Tryd.underlying24) rfl ?_
                        refine l_val wn (r_move rfl) rfl ?_
                        refine l_nil (e_go hK28 ?_)
                        refine c_block ?_
                        refine c_loop1 (fun (k : Nat) => [(2, .pointer (some ⟨b2, 0, none⟩)), (3, .pointer (some ⟨b3, 0, none⟩)), (99, iV a.kids.l.length), (100, iV k)]) (fun (k : Nat) => [.blk b3 [iV b.kind, iV b.n, iV b.range, .string b.word, .slice b.ms.A b.ms.l.length b.ms.c, .slice b.by_.A b.by_.l.length b.by_.c, .slice b.kids.A b.kids.l.length b.kids.c] 26, .blk b2 [iV a.kind, iV a.n, iV a.range, .string a.word, .slice a.ms.A a.ms.l.length a.ms.c, .slice a.by_.A a.by_.l.length a.by_.c, .slice a.kids.A a.kids.l.length a.kids.c] 26, okP ExprX.Ok a, okP ExprX.Ok b]) (fun (k : Nat) => k ≤ a.kids.l.length ∧ (a.kids.l.map ExprX.e).take k = (b.kids.l.map ExprX.e).take k) (fun (k : Nat) => a.kids.l.length - k) 0 (sc rfl (sc rfl (sc rfl (sc (ji (by omega)) sn)))) (fun _ h => h) ?_ (fun k hI3 => ?_)
                        · exact ⟨by omega, rfl⟩
                        ·
                          refine c_seq fun K29 hK29 => ?_
                          refine c_region ?_
                          refine l_val wn (r_lss rfl rfl) rfl ?_
                          refine l_nil (e_go hK29 ?_)
                          refine c_seq fun K30 hK30 => ?_
                          refine c_cond rfl (fun h12 => ?_) (fun h12 => ?_)
                          ·
                            refine c_skip (e_go hK30 ?_)
                            refine c_seq fun K31 hK31 => ?_
                            refine c_block ?_
                            refine c_seq fun K32 hK32 => ?_
                            refine c_region ?_
                            refine l_val wn (r_move rfl) rfl ?_
                            refine l_val wn (r_assign rfl) rfl ?_
                            refine l_nil (e_go hK32 ?_)
                            refine c_seq fun K33 hK33 => ?_
                            refine c_quiet mix (by kernel_rfl) (fun _ h => h.drew) ?_
                            refine q_val wn (r_fa rfl fld26_6) rfl ?_
                            refine q_val wn (r_lb 1 rfl rfl rfl flat24) rfl ?_
                            refine q_val wn (r_move rfl) rfl ?_
                            refine q_opn (fun _ h => h.exprX 2 rfl) (fun _ h => h.drop1.drop1.drop1.drop1) ?_
                            obtain ⟨hc13, hm13, hA13⟩ := hwa.ms
                            obtain ⟨hc14, hm14, hA14⟩ := hwa.by_
                            obtain ⟨hc15, hm15, hA15⟩ := hwa.kids
                            obtain ⟨ad5, hd5⟩ := hA15 (ne_nil (i := k) (by omega))
                            refine q_val wn (r_ia (i := k) rfl hd5 rfl (by omega) (by omega) Tryd.underlying24 inf26) rfl ?_
                            obtain ⟨s5, hs5⟩ : ∃ x, a.kids.l[k]? = some x := ⟨_, List.getElem?_eq_getElem (by omega)⟩
                            refine q_val wn (r_pln 2 [iV s5.kind, iV s5.n, iV s5.range, .string s5.word, .slice s5.ms.A s5.ms.l.length s5.ms.c, .slice s5.by_.A s5.by_.l.length s5.by_.c, .slice s5.kids.A s5.kids.l.length s5.kids.c] rfl rfl hd5 hs5 rfl rfl agg26 inf26) rfl ?_
                            refine q_val wn (r_fa rfl fld26_6) rfl ?_
                            refine q_val wn (r_lb 4 rfl rfl rfl flat24) rfl ?_
                            refine q_val wn (r_move rfl) rfl ?_
                            refine q_opn (fun _ h => h.exprX 7 rfl) (fun _ h => h.drop1.drop1.drop1.drop1) ?_
                            obtain ⟨hc16, hm16, hA16⟩ := hwb.ms
                            obtain ⟨hc17, hm17, hA17⟩ := hwb.by_
                            obtain ⟨hc18, hm18, hA18⟩ := hwb.kids
                            obtain ⟨ad6, hd6⟩ := hA18 (ne_nil (i := k) (by omega))
                            refine q_val wn (r_ia (i := k) rfl hd6 rfl (by omega) (by omega) Tryd.underlying24 inf26) rfl ?_
                            obtain ⟨s6, hs6⟩ : ∃ x, b.kids.l[k]? = some x := ⟨_, List.getElem?_eq_getElem (by omega)⟩
                            refine q_val wn (r_pln 2 [iV s6.kind, iV s6.n, iV s6.range, .string s6.word, .slice s6.ms.A s6.ms.l.length s6.ms.c, .slice s6.by_.A s6.by_.l.length s6.by_.c, .slice s6.kids.A s6.kids.l.length s6.kids.c] rfl rfl hd6 hs6 rfl rfl agg26 inf26) rfl ?_
                            have hw1 := hwa.all _ (List.mem_of_getElem? hs5)
                            refine q_opn (fun _ h => h.one 7 ExprX.Ok.loc rfl hs5) (fun _ h => h.drop1) ?_
                            have hw2 := hwb.all _ (List.mem_of_getElem? hs6)
                            refine q_opn (fun _ h => h.one 4 ExprX.Ok.loc rfl hs6) (fun _ h => h.drop1) ?_
                            refine q_callF wn rfl Tryd.call17 rfl (fun w1 hM => ih s5 (ExprX.kid_lt (List.mem_of_getElem? hs5)) s6 (In w1) w1 (fun _ h => h) (hM.pubAt (i := 1) rfl) (hM.pubAt (i := 0) rfl)) ?_
                            refine q_val wn (r_notb rfl) rfl ?_
                            refine q_end (e_go hK33 ?_)
                            refine c_condb rfl (fun h13 => ?_) (fun h13 => ?_)
                            ·
                              refine c_seq fun K34 hK34 => ?_
                              refine c_region ?_
                              refine l_val wn (r_assign rfl) rfl ?_
                              refine l_nil (e_go hK34 ?_)
                              refine c_ret (e_in_r (e_then_r (e_loop1_r (e_in_r (e_then_r (e_ret1 (.inl rfl) Tryd.results17 (rv_tmp rfl) fun w1 hM => ?_))))))
                              exact ret_ok (congrArg Value.bool (decide_eq_false fun h => Pz.take_ne (Pz.e_at hs5) (Pz.e_at hs6) (by simpa using h13) (Pz.e_same.1 h).2.2.2.2.2.2).symm) hM
                            ·
                              refine c_skip (e_in_n (e_go hK31 ?_))
                              refine c_region ?_
                              refine l_val wn (r_addn rfl rfl (by omega)) rfl ?_
                              refine l_val wn (r_move rfl) rfl ?_
                              refine l_nil (e_round1 (k + 1) (sc rfl (sc rfl (sc rfl (sc (ji (by omega)) sn)))) (fun _ h => (h.sel [10, 11, 12, 13] (by decide) rfl)) ?_ ?_)
                              · exact ⟨by omega, Pz.take_next hI3.2 (Pz.e_at hs5) (Pz.e_at hs6) (by simpa using h13)⟩
                              · omega
                          ·
                            refine c_exit (e_then_x (e_loop1_x (e_in_hit (e_go hK27 ?_))))
                            refine c_seq fun K35 hK35 => ?_
                            refine c_region ?_
                            refine l_val wn (r_assign rfl) rfl ?_
                            refine l_nil (e_go hK35 ?_)
                            refine c_ret (e_ret1 (.inl rfl) Tryd.results17 (rv_tmp rfl) fun w1 hM => ?_)
                            exact ret_ok (congrArg Value.bool (decide_eq_true (Pz.e_same.2 ⟨(Classical.not_not.1 h1), (Classical.not_not.1 h2), (Classical.not_not.1 h3), (Classical.not_not.1 h4), Pz.take_all hI1.2 (by omega) (Classical.not_not.1 h5), Pz.take_all hI2.2 (by omega) (Classical.not_not.1 h6), Pz.take_all hI3.2 (by rw [List.length_map]; omega) (by rw [List.length_map, List.length_map]; exact (Classical.not_not.1 h7))⟩)).symm) hM
theorem c_refEqual (a : ExprX) : c_refEqual_C a := recX c_refEqual_step a

theorem c_alive5 (P0 : Nat → Prop) (w : World) (hP0 : ∀ b, P0 b → b < w.heap.size) (hE : ErrV P0 w) (hT : Tab P0 w)  :
    Calls Tryd.prog 20 #[] w (Ret w (.bool true)) := by
 refine fstart (N := 34) (vals := []) (S := Mem w ⟨no, P0⟩ [.pub ErrV, .pub Tab]) Tryd.func20 rfl rfl rfl (Mem.ofDatsP hP0 (dc (dp ErrV.loc hE) (dc (dp Tab.loc hT) dn))) ?_
 refine c_seq fun _ hK1 => ?_
 refine c_region ?_
 refine l_val wn (r_assign rfl) rfl ?_
 refine l_nil (e_go hK1 ?_)
 refine c_seq fun _ hK2 => ?_
 refine c_region ?_
 refine l_callE0 (β := ExprX × Pz.F) (fun z => .tuple #[.agg (exprE z.1).toArray, .agg #[iV z.2.1, iV z.2.2]]) (fun z => Pz.parse ⟨#[97, 108, 108, 32, 115, 117, 109, 32, 98, 121, 32, 104, 111, 115, 116, 32, 40, 114, 105, 115, 101, 40, 123, 106, 111, 98, 61, 119, 101, 98, 44, 33, 116, 101, 115, 116, 125, 91, 54, 48, 93, 41, 41, 32, 42, 32, 50]⟩ = (z.1.e, z.2)) (fun z S => ExprX.Ok S z.1) (fun z => ExprX.Ok.loc z.1) wn rfl Tryd.call15 rfl (fun w1 Pb hM pp => c_parse ⟨#[97, 108, 108, 32, 115, 117, 109, 32, 98, 121, 32, 104, 111, 115, 116, 32, 40, 114, 105, 115, 101, 40, 123, 106, 111, 98, 61, 119, 101, 98, 44, 33, 116, 101, 115, 116, 125, 91, 54, 48, 93, 41, 41, 32, 42, 32, 50]⟩ Pb w1 pp.lt (pp.at_ 0 _ rfl)) fun z1 hz1 => ?_
 obtain ⟨x1, er1, at1⟩ := z1
 have hq1 : Pz.parse ⟨#[97, 108, 108, 32, 115, 117, 109, 32, 98, 121, 32, 104, 111, 115, 116, 32, 40, 114, 105, 115, 101, 40, 123, 106, 111, 98, 61, 119, 101, 98, 44, 33, 116, 101, 115, 116, 125, 91, 54, 48, 93, 41, 41, 32, 42, 32, 50]⟩ = (x1.e, (er1, at1)) := hz1
 refine l_as 6 (.tuple (List.toArray [.agg (List.toArray [iV x1.kind, iV x1.n, iV x1.range, .string x1.word, .slice x1.ms.A x1.ms.l.length x1.ms.c, .slice x1.by_.A x1.by_.l.length x1.by_.c, .slice x1.kids.A x1.kids.l.length x1.kids.c]), .agg (List.toArray [iV er1, iV at1])])) [okP ExprX.Ok x1, .pub ErrV, .pub Tab] ?_
 refine l_get 0 rfl (fun S w h => ExprX.Ok.wf h) fun hw1 => ?_
 obtain ⟨hx9, he9, ha9⟩ := Pz.of_s0 hq1
 refine l_val wn (r_move rfl) rfl ?_
 refine l_val wn (r_extract rfl rfl) rfl ?_
 refine l_val wn (r_extract rfl rfl) rfl ?_
 refine l_alloc wn inf26 rfl fun b1 => ?_
 refine l_alloc wn inf33 rfl fun b2 => ?_
 refine l_stn 1 wn rfl rfl rfl inf26 rfl rfl rfl ?_
 refine l_stn 0 wn rfl rfl rfl inf33 rfl rfl rfl ?_
 refine l_nil (e_go hK2 ?_)
 refine c_seq fun _ hK3 => ?_
 refine c_region ?_
 refine l_val wn (r_lbn 1 [iV x1.kind, iV x1.n, iV x1.range, .string x1.word, .slice x1.ms.A x1.ms.l.length x1.ms.c, .slice x1.by_.A x1.by_.l.length x1.by_.c, .slice x1.kids.A x1.kids.l.length x1.kids.c] rfl rfl rfl rfl agg26 inf26) rfl ?_
 refine l_callF wn rfl Tryd.call7 rfl (fun w1 hM => c_print x1 (In w1) w1 (fun _ h => h) (hM.pubAt (i := 2) rfl) (hM.pubAt (i := 4) rfl)) ?_
 refine l_val wn (r_move rfl) rfl ?_
 refine l_val wn (r_extract rfl rfl) rfl ?_
 refine l_val wn (r_extract rfl rfl) rfl ?_
 refine l_val wn (r_assign rfl) rfl ?_
 refine l_val wn (r_assign rfl) rfl ?_
 refine l_nil (e_go hK3 ?_)
 refine c_seq fun _ hK4 => ?_
 refine c_region ?_
 refine l_val wn (r_fa rfl fld33_0) rfl ?_
 refine l_val wn (r_lb 0 rfl rfl rfl flat27) rfl ?_
 refine l_val wn (r_eql rfl rfl) rfl ?_
 refine l_val wn (r_move rfl) rfl ?_
 refine l_litt (t := 17) rfl he9 ?_
 refine l_val (wg rfl rfl rfl) (r_move rfl) rfl ?_
 refine l_val (wg rfl rfl rfl) (r_eql rfl rfl) rfl ?_
 refine l_val wn (r_pick rfl rfl) rfl ?_
 refine l_val wn (r_move rfl) rfl ?_
 refine l_litt (t := 21) rfl (by rw [hx9, Pz.print_e0]) ?_
 refine l_val (wg rfl rfl rfl) (r_move rfl) rfl ?_
 refine l_val (wg rfl rfl rfl) (r_seql rfl rfl) rfl ?_
 refine l_val wn (r_pick rfl rfl) rfl ?_
 refine l_val wn (r_move rfl) rfl ?_
 refine l_litt (t := 25) rfl (by rw [hx9, Pz.print_e0]; rfl) ?_
 refine l_val (wg rfl rfl rfl) (r_lbn 1 [iV x1.kind, iV x1.n, iV x1.range, .string x1.word, .slice x1.ms.A x1.ms.l.length x1.ms.c, .slice x1.by_.A x1.by_.l.length x1.by_.c, .slice x1.kids.A x1.kids.l.length x1.kids.c] rfl rfl rfl rfl agg26 inf26) rfl ?_
 refine l_callF (wg rfl rfl rfl) rfl Tryd.call11 rfl (fun w1 hM => c_vector x1 (In w1) w1 (fun _ h => h) (hM.pubAt (i := 2) rfl)) ?_
 refine l_val wn (r_pick rfl rfl) rfl ?_
 refine l_val wn (r_move rfl) rfl ?_
 refine l_littb (t := 29) rfl (by rw [hx9, Pz.vector_e0]) ?_
 refine l_val (wg rfl rfl rfl) (r_lbn 1 [iV x1.kind, iV x1.n, iV x1.range, .string x1.word, .slice x1.ms.A x1.ms.l.length x1.ms.c, .slice x1.by_.A x1.by_.l.length x1.by_.c, .slice x1.kids.A x1.kids.l.length x1.kids.c] rfl rfl rfl rfl agg26 inf26) rfl ?_
 refine l_callF (wg rfl rfl rfl) rfl Tryd.call13 rfl (fun w1 hM => c_typed x1 (In w1) w1 (fun _ h => h) (hM.pubAt (i := 2) rfl)) ?_
 refine l_val (wg rfl rfl rfl) (r_eql rfl rfl) rfl ?_
 refine l_val wn (r_pick rfl rfl) rfl ?_
 refine l_val wn (r_assign rfl) rfl ?_
 refine l_nil (e_go hK4 ?_)
 refine c_ret (e_ret1 (.inl rfl) Tryd.results20 (rv_tmp rfl) fun w1 hM => ?_)
 exact ret_ok (congrArg Value.bool (by first | rfl | exact decide_eq_true (by rw [hx9, Pz.typed_e0]))) hM

set_option maxHeartbeats 2000000 in
theorem law_LangAgain (s : ByteArray) (P0 : Nat → Prop) (w : World) (hP0 : ∀ b, P0 b → b < w.heap.size) (hE : ErrV P0 w) (hT : Tab P0 w)  :
    Calls Tryd.prog 6 #[.string s] w (Ret w (.bool true)) := by
 refine fstart (N := 61) (vals := [.string s]) (S := Mem w ⟨no, P0⟩ [.pub ErrV, .pub Tab]) Tryd.func6 rfl rfl rfl (Mem.ofDatsP hP0 (dc (dp ErrV.loc hE) (dc (dp Tab.loc hT) dn))) ?_
 refine c_seq fun _ hK1 => ?_
 refine c_region ?_
 refine l_val wn (r_assign rfl) rfl ?_
 refine l_nil (e_go hK1 ?_)
 refine c_seq fun _ hK2 => ?_
 refine c_seq fun _ hK3 => ?_
 refine c_region ?_
 refine l_callF wn rfl Tryd.call20 rfl (fun w1 hM => c_alive5 (In w1) w1 (fun _ h => h) (hM.pubAt (i := 0) rfl) (hM.pubAt (i := 1) rfl)) ?_
 refine l_val wn (r_notb rfl) rfl ?_
 refine l_nil (e_go hK3 ?_)
 refine c_false rfl rfl ?_
 refine c_skip (e_go hK2 ?_)
 refine c_seq fun _ hK4 => ?_
 refine c_region ?_
 refine l_val wn (r_move rfl) rfl ?_
 refine l_callE0 (β := ExprX × Pz.F) (fun z => .tuple #[.agg (exprE z.1).toArray, .agg #[iV z.2.1, iV z.2.2]]) (fun z => Pz.parse s = (z.1.e, z.2)) (fun z S => ExprX.Ok S z.1) (fun z => ExprX.Ok.loc z.1) wn rfl Tryd.call15 rfl (fun w1 Pb hM pp => c_parse s Pb w1 pp.lt (pp.at_ 0 _ rfl)) fun z1 hz1 => ?_
 obtain ⟨x1, er1, at1⟩ := z1
 have hq1 : Pz.parse s = (x1.e, (er1, at1)) := hz1
 refine l_as 13 (.tuple (List.toArray [.agg (List.toArray [iV x1.kind, iV x1.n, iV x1.range, .string x1.word, .slice x1.ms.A x1.ms.l.length x1.ms.c, .slice x1.by_.A x1.by_.l.length x1.by_.c, .slice x1.kids.A x1.kids.l.length x1.kids.c]), .agg (List.toArray [iV er1, iV at1])])) [okP ExprX.Ok x1, .pub ErrV, .pub Tab] ?_
 refine l_get 0 rfl (fun S w h => ExprX.Ok.wf h) fun hw1 => ?_
 refine l_val wn (r_move rfl) rfl ?_
 refine l_val wn (r_extract rfl rfl) rfl ?_
 refine l_val wn (r_extract rfl rfl) rfl ?_
 refine l_alloc wn inf26 rfl fun b3 => ?_
 refine l_alloc wn inf33 rfl fun b4 => ?_
 refine l_stn 1 wn rfl rfl rfl inf26 rfl rfl rfl ?_
 refine l_stn 0 wn rfl rfl rfl inf33 rfl rfl rfl ?_
 refine l_nil (e_go hK4 ?_)
 refine c_seq fun _ hK5 => ?_
 refine c_seq fun _ hK6 => ?_
 refine c_region ?_
 refine l_val wn (r_fa rfl fld33_0) rfl ?_
 refine l_val wn (r_lb 0 rfl rfl rfl flat27) rfl ?_
 refine l_val wn (r_neq rfl rfl) rfl ?_
 refine l_nil (e_go hK6 ?_)
 refine c_cond rfl (fun h1 => ?_) (fun h1 => ?_)
 · refine c_seq fun _ hK7 => ?_
   refine c_region ?_
   refine l_val wn (r_lbn 1 [iV x1.kind, iV x1.n, iV x1.range, .string x1.word, .slice x1.ms.A x1.ms.l.length x1.ms.c, .slice x1.by_.A x1.by_.l.length x1.by_.c, .slice x1.kids.A x1.kids.l.length x1.kids.c] rfl rfl rfl rfl agg26 inf26) rfl ?_
   refine l_val wn (r_build Zx pl26 inf26 rfl rfl) rfl ?_
   refine l_opn (fun _ h => h.okAny (ok := ExprX.Ok) (x := (ExprX.mk 0 0 0 ⟨#[]⟩ ⟨none, 0, []⟩ ⟨none, 0, []⟩ ⟨none, 0, []⟩)) ExprX.Ok.loc Pz.okZero) ?_
   refine l_callF wn rfl Tryd.call17 rfl (fun w1 hM => c_refEqual x1 (ExprX.mk 0 0 0 ⟨#[]⟩ ⟨none, 0, []⟩ ⟨none, 0, []⟩ ⟨none, 0, []⟩) (In w1) w1 (fun _ h => h) (hM.pubAt (i := 3) rfl) (hM.pubAt (i := 0) rfl)) ?_
   refine l_val wn (r_assign rfl) rfl ?_
   refine l_nil (e_go hK7 ?_)
   refine c_ret (e_then_r (e_ret1 (.inl rfl) Tryd.results6 (rv_tmp rfl) fun w1 hM => ?_))
   exact ret_ok (congrArg Value.bool (decide_eq_true ((Pz.parse_none hq1 h1).trans rfl))) hM
 refine c_skip (e_go hK5 ?_)
 refine c_seq fun _ hK8 => ?_
 refine c_seq fun _ hK9 => ?_
 refine c_region ?_
 have hb9 := Pz.parsed hq1 (Classical.not_not.1 h1)
 refine l_val wn (r_lbn 1 [iV x1.kind, iV x1.n, iV x1.range, .string x1.word, .slice x1.ms.A x1.ms.l.length x1.ms.c, .slice x1.by_.A x1.by_.l.length x1.by_.c, .slice x1.kids.A x1.kids.l.length x1.kids.c] rfl rfl rfl rfl agg26 inf26) rfl ?_
 refine l_callF wn rfl Tryd.call9 rfl (fun w1 hM => c_langWrong x1 (In w1) w1 (fun _ h => h) (hM.pubAt (i := 2) rfl)) ?_
 refine l_val wn (r_neq rfl rfl) rfl ?_
 refine l_nil (e_go hK9 ?_)
 refine c_false rfl (decide_eq_false (fun g => g hb9.1)) ?_
 refine c_skip (e_go hK8 ?_)
 refine c_seq fun _ hK10 => ?_
 refine c_region ?_
 refine l_val wn (r_lbn 1 [iV x1.kind, iV x1.n, iV x1.range, .string x1.word, .slice x1.ms.A x1.ms.l.length x1.ms.c, .slice x1.by_.A x1.by_.l.length x1.by_.c, .slice x1.kids.A x1.kids.l.length x1.kids.c] rfl rfl rfl rfl agg26 inf26) rfl ?_
 refine l_callF wn rfl Tryd.call7 rfl (fun w1 hM => c_print x1 (In w1) w1 (fun _ h => h) (hM.pubAt (i := 2) rfl) (hM.pubAt (i := 4) rfl)) ?_
 refine l_val wn (r_move rfl) rfl ?_
 refine l_val wn (r_extract rfl rfl) rfl ?_
 refine l_val wn (r_extract rfl rfl) rfl ?_
 refine l_val wn (r_assign rfl) rfl ?_
 refine l_val wn (r_assign rfl) rfl ?_
 refine l_nil (e_go hK10 ?_)
 refine c_seq fun _ hK11 => ?_
 refine c_seq fun _ hK12 => ?_
 refine c_region ?_
 refine l_val wn (r_move rfl) rfl ?_
 refine l_val wn (r_neq rfl rfl) rfl ?_
 refine l_nil (e_go hK12 ?_)
 refine c_cond rfl (fun h2 => ?_) (fun h2 => ?_)
 · refine c_seq fun _ hK13 => ?_
   refine c_region ?_
   refine l_val wn (r_move rfl) rfl ?_
   refine l_val wn (r_eql rfl rfl) rfl ?_
   refine l_val wn (r_assign rfl) rfl ?_
   refine l_nil (e_go hK13 ?_)
   refine c_ret (e_then_r (e_ret1 (.inl rfl) Tryd.results6 (rv_tmp rfl) fun w1 hM => ?_))
   exact ret_ok (congrArg Value.bool (decide_eq_true (Pz.print_much hb9.1 h2))) hM
 refine c_skip (e_go hK11 ?_)
 refine c_seq fun _ hK14 => ?_
 refine c_region ?_
 refine l_val wn (r_move rfl) rfl ?_
 refine l_callE0 (β := ExprX × Pz.F) (fun z => .tuple #[.agg (exprE z.1).toArray, .agg #[iV z.2.1, iV z.2.2]]) (fun z => Pz.parse (⟨(Lg.print x1.e).1.toArray⟩ : ByteArray) = (z.1.e, z.2)) (fun z S => ExprX.Ok S z.1) (fun z => ExprX.Ok.loc z.1) wn rfl Tryd.call15 rfl (fun w1 Pb hM pp => c_parse (⟨(Lg.print x1.e).1.toArray⟩ : ByteArray) Pb w1 pp.lt (pp.at_ 3 _ rfl)) fun z2 hz2 => ?_
 obtain ⟨x2, er2, at2⟩ := z2
 have hq2 : Pz.parse (⟨(Lg.print x1.e).1.toArray⟩ : ByteArray) = (x2.e, (er2, at2)) := hz2
 refine l_as 36 (.tuple (List.toArray [.agg (List.toArray [iV x2.kind, iV x2.n, iV x2.range, .string x2.word, .slice x2.ms.A x2.ms.l.length x2.ms.c, .slice x2.by_.A x2.by_.l.length x2.by_.c, .slice x2.kids.A x2.kids.l.length x2.kids.c]), .agg (List.toArray [iV er2, iV at2])])) [okP ExprX.Ok x2, .blk b4 [iV er1, iV at1] 33, .blk b3 [iV x1.kind, iV x1.n, iV x1.range, .string x1.word, .slice x1.ms.A x1.ms.l.length x1.ms.c, .slice x1.by_.A x1.by_.l.length x1.by_.c, .slice x1.kids.A x1.kids.l.length x1.kids.c] 26, okP ExprX.Ok x1, .pub ErrV, .pub Tab] ?_
 refine l_get 0 rfl (fun S w h => ExprX.Ok.wf h) fun hw3 => ?_
 obtain ⟨hx9, he9, ha9⟩ := Pz.turns (Classical.not_not.1 h2) hq2
 rw [hb9.2] at hx9
 refine l_val wn (r_move rfl) rfl ?_
 refine l_val wn (r_extract rfl rfl) rfl ?_
 refine l_val wn (r_extract rfl rfl) rfl ?_
 refine l_alloc wn inf26 rfl fun b7 => ?_
 refine l_stn 0 wn rfl rfl rfl inf26 rfl rfl rfl ?_
 refine l_stn 2 wn rfl rfl rfl inf33 rfl rfl rfl ?_
 refine l_nil (e_go hK14 ?_)
 refine c_seq fun _ hK15 => ?_
 refine c_region ?_
 refine l_val wn (r_lbn 0 [iV x2.kind, iV x2.n, iV x2.range, .string x2.word, .slice x2.ms.A x2.ms.l.length x2.ms.c, .slice x2.by_.A x2.by_.l.length x2.by_.c, .slice x2.kids.A x2.kids.l.length x2.kids.c] rfl rfl rfl rfl agg26 inf26) rfl ?_
 refine l_callF wn rfl Tryd.call7 rfl (fun w1 hM => c_print x2 (In w1) w1 (fun _ h => h) (hM.pubAt (i := 1) rfl) (hM.pubAt (i := 6) rfl)) ?_
 refine l_val wn (r_move rfl) rfl ?_
 refine l_val wn (r_extract rfl rfl) rfl ?_
 refine l_val wn (r_extract rfl rfl) rfl ?_
 refine l_val wn (r_assign rfl) rfl ?_
 refine l_val wn (r_assign rfl) rfl ?_
 refine l_nil (e_go hK15 ?_)
 refine c_seq fun _ hK16 => ?_
 refine c_region ?_
 refine l_val wn (r_fa rfl fld33_0) rfl ?_
 refine l_val wn (r_lb 2 rfl rfl rfl flat27) rfl ?_
 refine l_val wn (r_eql rfl rfl) rfl ?_
 refine l_val wn (r_move rfl) rfl ?_
 refine l_litt (t := 47) rfl he9 ?_
 refine l_val (wg rfl rfl rfl) (r_move rfl) rfl ?_
 refine l_val (wg rfl rfl rfl) (r_eql rfl rfl) rfl ?_
 refine l_val wn (r_pick rfl rfl) rfl ?_
 refine l_val wn (r_move rfl) rfl ?_
 refine l_litt (t := 51) rfl (by rw [hx9]; exact Classical.not_not.1 h2) ?_
 refine l_val (wg rfl rfl rfl) (r_lbn 3 [iV x1.kind, iV x1.n, iV x1.range, .string x1.word, .slice x1.ms.A x1.ms.l.length x1.ms.c, .slice x1.by_.A x1.by_.l.length x1.by_.c, .slice x1.kids.A x1.kids.l.length x1.kids.c] rfl rfl rfl rfl agg26 inf26) rfl ?_
 refine l_val (wg rfl rfl rfl) (r_lbn 0 [iV x2.kind, iV x2.n, iV x2.range, .string x2.word, .slice x2.ms.A x2.ms.l.length x2.ms.c, .slice x2.by_.A x2.by_.l.length x2.by_.c, .slice x2.kids.A x2.kids.l.length x2.kids.c] rfl rfl rfl rfl agg26 inf26) rfl ?_
 refine l_callF (wg rfl rfl rfl) rfl Tryd.call17 rfl (fun w1 hM => c_refEqual x1 x2 (In w1) w1 (fun _ h => h) (hM.pubAt (i := 4) rfl) (hM.pubAt (i := 1) rfl)) ?_
 refine l_val wn (r_pick rfl rfl) rfl ?_
 refine l_val wn (r_move rfl) rfl ?_
 refine l_littb (t := 56) rfl (by simp [hx9]) ?_
 refine l_val (wg rfl rfl rfl) (r_move rfl) rfl ?_
 refine l_val (wg rfl rfl rfl) (r_move rfl) rfl ?_
 refine l_val (wg rfl rfl rfl) (r_seql rfl rfl) rfl ?_
 refine l_val wn (r_pick rfl rfl) rfl ?_
 refine l_val wn (r_assign rfl) rfl ?_
 refine l_nil (e_go hK16 ?_)
 refine c_ret (e_ret1 (.inl rfl) Tryd.results6 (rv_tmp rfl) fun w1 hM => ?_)
 exact ret_ok (congrArg Value.bool (decide_eq_true (by rw [hx9]))) hM

end Go.Proofs.YtffpglgboaigfaaDoor
