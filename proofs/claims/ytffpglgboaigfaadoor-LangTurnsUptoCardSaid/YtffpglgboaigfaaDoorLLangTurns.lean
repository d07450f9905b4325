/-
  Walks: what each function hands back.
-/
import Derived.Test.YtffpglgboaigfaaDoorWprintS
import Derived.Test.YtffpglgboaigfaaDoorWparse3
import Derived.Test.YtffpglgboaigfaaDoorPAlive
namespace Go.Proofs.YtffpglgboaigfaaDoor
open Ex
set_option linter.unusedVariables false
set_option linter.unusedSimpArgs false
def c_refEqual_C (a : ExprX) : Prop := ∀ (b : ExprX) (P0 : Nat → Prop) (w : World) (hP0 : ∀ b, P0 b → b < w.heap.size) (ha : ExprX.Ok P0 a w) (hb : ExprX.Ok P0 b w) ,
    Calls Tryd.prog 17 #[.agg (exprE a).toArray, .agg (exprE b).toArray] w (Ret w (.bool (decide (a.e = b.e))))
set_option maxHeartbeats 2000000 in
theorem c_refEqual_step (a : ExprX) (ih : ∀ k : ExprX, SizeOf.sizeOf k < SizeOf.sizeOf a → c_refEqual_C k) : c_refEqual_C a := by
  intro b P0 w hP0 ha hb
  have hwa := ha.wf
  have hwb := hb.wf
  refine fstart (N := 116) (vals := [.agg (exprE a).toArray, .agg (exprE b).toArray]) (S := Mem w ⟨no, P0⟩ [okP ExprX.Ok a, okP ExprX.Ok b]) Tryd.func17 rfl rfl rfl (Mem.ofDatsP hP0 (dc (dp (ExprX.Ok.loc _) ha) (dc (dp (ExprX.Ok.loc _) hb) dn))) ?_
  refine c_seq fun K1 hK1 => ?_
  refine c_region ?_
  refine l_box wn rfl rfl fun b2 => ?_
  refine l_box wn rfl rfl fun b3 => ?_
  refine l_val wn (r_assign rfl) rfl ?_
  refine l_nil (e_go hK1 ?_)
  refine c_seq fun K2 hK2 => ?_
  refine c_seq fun K3 hK3 => ?_
  refine c_region ?_
  refine l_val wn (r_fa rfl fld26_0) rfl ?_
  refine l_val wn (r_lb 1 rfl rfl rfl flat3) rfl ?_
  refine l_val wn (r_fa rfl fld26_0) rfl ?_
  refine l_val wn (r_lb 0 rfl rfl rfl flat3) rfl ?_
  refine l_val wn (r_neq rfl rfl) rfl ?_
  refine l_val wn (r_move rfl) rfl ?_
  refine l_case (t := 13) rfl (fun h1 => ?_) (fun h1 => ?_)
  ·
    refine l_skip (wg rfl rfl rfl) rfl ?_
    refine l_skip (wg rfl rfl rfl) rfl ?_
    refine l_skip (wg rfl rfl rfl) rfl ?_
    refine l_skip (wg rfl rfl rfl) rfl ?_
    refine l_skip (wg rfl rfl rfl) rfl ?_
    refine l_val wn (r_pick rfl rfl) rfl ?_
    refine l_val wn (r_move rfl) rfl ?_
    refine l_skip (wg rfl rfl rfl) rfl ?_
    refine l_skip (wg rfl rfl rfl) rfl ?_
    refine l_skip (wg rfl rfl rfl) rfl ?_
    refine l_skip (wg rfl rfl rfl) rfl ?_
    refine l_skip (wg rfl rfl rfl) rfl ?_
    refine l_val wn (r_pick rfl rfl) rfl ?_
    refine l_val wn (r_move rfl) rfl ?_
    refine l_skip (wg rfl rfl rfl) rfl ?_
    refine l_skip (wg rfl rfl rfl) rfl ?_
    refine l_skip (wg rfl rfl rfl) rfl ?_
    refine l_skip (wg rfl rfl rfl) rfl ?_
    refine l_skip (wg rfl rfl rfl) rfl ?_
    refine l_val wn (r_pick rfl rfl) rfl ?_
    refine l_val wn (r_move rfl) rfl ?_
    refine l_skip (wg rfl rfl rfl) rfl ?_
    refine l_skip (wg rfl rfl rfl) rfl ?_
    refine l_skip (wg rfl rfl rfl) rfl ?_
    refine l_skip (wg rfl rfl rfl) rfl ?_
    refine l_skip (wg rfl rfl rfl) rfl ?_
    refine l_skip (wg rfl rfl rfl) rfl ?_
    refine l_skip (wg rfl rfl rfl) rfl ?_
    refine l_val wn (r_pick rfl rfl) rfl ?_
    refine l_val wn (r_move rfl) rfl ?_
    refine l_skip (wg rfl rfl rfl) rfl ?_
    refine l_skip (wg rfl rfl rfl) rfl ?_
    refine l_skip (wg rfl rfl rfl) rfl ?_
    refine l_skip (wg rfl rfl rfl) rfl ?_
    refine l_skip (wg rfl rfl rfl) rfl ?_
    refine l_skip (wg rfl rfl rfl) rfl ?_
    refine l_skip (wg rfl rfl rfl) rfl ?_
    refine l_val wn (r_pick rfl rfl) rfl ?_
    refine l_val wn (r_move rfl) rfl ?_
    refine l_skip (wg rfl rfl rfl) rfl ?_
    refine l_skip (wg rfl rfl rfl) rfl ?_
    refine l_skip (wg rfl rfl rfl) rfl ?_
    refine l_skip (wg rfl rfl rfl) rfl ?_
    refine l_skip (wg rfl rfl rfl) rfl ?_
    refine l_skip (wg rfl rfl rfl) rfl ?_
    refine l_skip (wg rfl rfl rfl) rfl ?_
    refine l_val wn (r_pick rfl rfl) rfl ?_
    refine l_nil (e_go hK3 ?_)
    refine c_true rfl rfl ?_
    refine c_seq fun K4 hK4 => ?_
    refine c_region ?_
    refine l_val wn (r_assign rfl) rfl ?_
    refine l_nil (e_go hK4 ?_)
    refine c_ret (e_then_r (e_ret1 (.inl rfl) Tryd.results17 (rv_tmp rfl) fun w1 hM => ?_))
    exact ret_ok (congrArg Value.bool (decide_eq_false fun h => h1 (Pz.e_same.1 h).1).symm) hM
  ·
    refine l_val (wg rfl rfl rfl) (r_fa rfl fld26_1) rfl ?_
    refine l_val (wg rfl rfl rfl) (r_lb 1 rfl rfl rfl flat3) rfl ?_
    refine l_val (wg rfl rfl rfl) (r_fa rfl fld26_1) rfl ?_
    refine l_val (wg rfl rfl rfl) (r_lb 0 rfl rfl rfl flat3) rfl ?_
    refine l_val (wg rfl rfl rfl) (r_neq rfl rfl) rfl ?_
    refine l_val wn (r_pick rfl rfl) rfl ?_
    refine l_val wn (r_move rfl) rfl ?_
    refine l_case (t := 20) rfl (fun h2 => ?_) (fun h2 => ?_)
    ·
      refine l_skip (wg rfl rfl rfl) rfl ?_
      refine l_skip (wg rfl rfl rfl) rfl ?_
      refine l_skip (wg rfl rfl rfl) rfl ?_
      refine l_skip (wg rfl rfl rfl) rfl ?_
      refine l_skip (wg rfl rfl rfl) rfl ?_
      refine l_val wn (r_pick rfl rfl) rfl ?_
      refine l_val wn (r_move rfl) rfl ?_
      refine l_skip (wg rfl rfl rfl) rfl ?_
      refine l_skip (wg rfl rfl rfl) rfl ?_
      refine l_skip (wg rfl rfl rfl) rfl ?_
      refine l_skip (wg rfl rfl rfl) rfl ?_
      refine l_skip (wg rfl rfl rfl) rfl ?_
      refine l_val wn (r_pick rfl rfl) rfl ?_
      refine l_val wn (r_move rfl) rfl ?_
      refine l_skip (wg rfl rfl rfl) rfl ?_
      refine l_skip (wg rfl rfl rfl) rfl ?_
      refine l_skip (wg rfl rfl rfl) rfl ?_
      refine l_skip (wg rfl rfl rfl) rfl ?_
      refine l_skip (wg rfl rfl rfl) rfl ?_
      refine l_skip (wg rfl rfl rfl) rfl ?_
      refine l_skip (wg rfl rfl rfl) rfl ?_
      refine l_val wn (r_pick rfl rfl) rfl ?_
      refine l_val wn (r_move rfl) rfl ?_
      refine l_skip (wg rfl rfl rfl) rfl ?_
      refine l_skip (wg rfl rfl rfl) rfl ?_
      refine l_skip (wg rfl rfl rfl) rfl ?_
      refine l_skip (wg rfl rfl rfl) rfl ?_
      refine l_skip (wg rfl rfl rfl) rfl ?_
      refine l_skip (wg rfl rfl rfl) rfl ?_
      refine l_skip (wg rfl rfl rfl) rfl ?_
      refine l_val wn (r_pick rfl rfl) rfl ?_
      refine l_val wn (r_move rfl) rfl ?_
      refine l_skip (wg rfl rfl rfl) rfl ?_
      refine l_skip (wg rfl rfl rfl) rfl ?_
      refine l_skip (wg rfl rfl rfl) rfl ?_
      refine l_skip (wg rfl rfl rfl) rfl ?_
      refine l_skip (wg rfl rfl rfl) rfl ?_
      refine l_skip (wg rfl rfl rfl) rfl ?_
      refine l_skip (wg rfl rfl rfl) rfl ?_
      refine l_val wn (r_pick rfl rfl) rfl ?_
      refine l_nil (e_go hK3 ?_)
      refine c_true rfl rfl ?_
      refine c_seq fun K5 hK5 => ?_
      refine c_region ?_
      refine l_val wn (r_assign rfl) rfl ?_
      refine l_nil (e_go hK5 ?_)
      refine c_ret (e_then_r (e_ret1 (.inl rfl) Tryd.results17 (rv_tmp rfl) fun w1 hM => ?_))
      exact ret_ok (congrArg Value.bool (decide_eq_false fun h => h2 (Pz.e_same.1 h).2.1).symm) hM
    ·
      refine l_val (wg rfl rfl rfl) (r_fa rfl fld26_2) rfl ?_
      refine l_val (wg rfl rfl rfl) (r_lb 1 rfl rfl rfl flat3) rfl ?_
      refine l_val (wg rfl rfl rfl) (r_fa rfl fld26_2) rfl ?_
      refine l_val (wg rfl rfl rfl) (r_lb 0 rfl rfl rfl flat3) rfl ?_
      refine l_val (wg rfl rfl rfl) (r_neq rfl rfl) rfl ?_
      refine l_val wn (r_pick rfl rfl) rfl ?_
      refine l_val wn (r_move rfl) rfl ?_
      refine l_case (t := 27) rfl (fun h3 => ?_) (fun h3 => ?_)
      ·
        refine l_skip (wg rfl rfl rfl) rfl ?_
        refine l_skip (wg rfl rfl rfl) rfl ?_
        refine l_skip (wg rfl rfl rfl) rfl ?_
        refine l_skip (wg rfl rfl rfl) rfl ?_
        refine l_skip (wg rfl rfl rfl) rfl ?_
        refine l_val wn (r_pick rfl rfl) rfl ?_
        refine l_val wn (r_move rfl) rfl ?_
        refine l_skip (wg rfl rfl rfl) rfl ?_
        refine l_skip (wg rfl rfl rfl) rfl ?_
        refine l_skip (wg rfl rfl rfl) rfl ?_
        refine l_skip (wg rfl rfl rfl) rfl ?_
        refine l_skip (wg rfl rfl rfl) rfl ?_
        refine l_skip (wg rfl rfl rfl) rfl ?_
        refine l_skip (wg rfl rfl rfl) rfl ?_
        refine l_val wn (r_pick rfl rfl) rfl ?_
        refine l_val wn (r_move rfl) rfl ?_
        refine l_skip (wg rfl rfl rfl) rfl ?_
        refine l_skip (wg rfl rfl rfl) rfl ?_
        refine l_skip (wg rfl rfl rfl) rfl ?_
        refine l_skip (wg rfl rfl rfl) rfl ?_
        refine l_skip (wg rfl rfl rfl) rfl ?_
        refine l_skip (wg rfl rfl rfl) rfl ?_
        refine l_skip (wg rfl rfl rfl) rfl ?_
        refine l_val wn (r_pick rfl rfl) rfl ?_
        refine l_val wn (r_move rfl) rfl ?_
        refine l_skip (wg rfl rfl rfl) rfl ?_
        refine l_skip (wg rfl rfl rfl) rfl ?_
        refine l_skip (wg rfl rfl rfl) rfl ?_
        refine l_skip (wg rfl rfl rfl) rfl ?_
        refine l_skip (wg rfl rfl rfl) rfl ?_
        refine l_skip (wg rfl rfl rfl) rfl ?_
        refine l_skip (wg rfl rfl rfl) rfl ?_
        refine l_val wn (r_pick rfl rfl) rfl ?_
        refine l_nil (e_go hK3 ?_)
        refine c_true rfl rfl ?_
        refine c_seq fun K6 hK6 => ?_
        refine c_region ?_
        refine l_val wn (r_assign rfl) rfl ?_
        refine l_nil (e_go hK6 ?_)
        refine c_ret (e_then_r (e_ret1 (.inl rfl) Tryd.results17 (rv_tmp rfl) fun w1 hM => ?_))
        exact ret_ok (congrArg Value.bool (decide_eq_false fun h => h3 (Pz.e_same.1 h).2.2.1).symm) hM
      ·
        refine l_val (wg rfl rfl rfl) (r_fa rfl fld26_3) rfl ?_
        refine l_val (wg rfl rfl rfl) (r_lb 1 rfl rfl rfl flat9) rfl ?_
        refine l_val (wg rfl rfl rfl) (r_fa rfl fld26_3) rfl ?_
        refine l_val (wg rfl rfl rfl) (r_lb 0 rfl rfl rfl flat9) rfl ?_
        refine l_val (wg rfl rfl rfl) (r_sneq rfl rfl) rfl ?_
        refine l_val wn (r_pick rfl rfl) rfl ?_
        refine l_val wn (r_move rfl) rfl ?_
        refine l_case (t := 34) rfl (fun h4 => ?_) (fun h4 => ?_)
        ·
          refine l_skip (wg rfl rfl rfl) rfl ?_
          refine l_skip (wg rfl rfl rfl) rfl ?_
          refine l_skip (wg rfl rfl rfl) rfl ?_
          refine l_skip (wg rfl rfl rfl) rfl ?_
          refine l_skip (wg rfl rfl rfl) rfl ?_
          refine l_skip (wg rfl rfl rfl) rfl ?_
          refine l_skip (wg rfl rfl rfl) rfl ?_
          refine l_val wn (r_pick rfl rfl) rfl ?_
          refine l_val wn (r_move rfl) rfl ?_
          refine l_skip (wg rfl rfl rfl) rfl ?_
          refine l_skip (wg rfl rfl rfl) rfl ?_
          refine l_skip (wg rfl rfl rfl) rfl ?_
          refine l_skip (wg rfl rfl rfl) rfl ?_
          refine l_skip (wg rfl rfl rfl) rfl ?_
          refine l_skip (wg rfl rfl rfl) rfl ?_
          refine l_skip (wg rfl rfl rfl) rfl ?_
          refine l_val wn (r_pick rfl rfl) rfl ?_
          refine l_val wn (r_move rfl) rfl ?_
          refine l_skip (wg rfl rfl rfl) rfl ?_
          refine l_skip (wg rfl rfl rfl) rfl ?_
          refine l_skip (wg rfl rfl rfl) rfl ?_
          refine l_skip (wg rfl rfl rfl) rfl ?_
          refine l_skip (wg rfl rfl rfl) rfl ?_
          refine l_skip (wg rfl rfl rfl) rfl ?_
          refine l_skip (wg rfl rfl rfl) rfl ?_
          refine l_val wn (r_pick rfl rfl) rfl ?_
          refine l_nil (e_go hK3 ?_)
          refine c_true rfl rfl ?_
          refine c_seq fun K7 hK7 => ?_
          refine c_region ?_
          refine l_val wn (r_assign rfl) rfl ?_
          refine l_nil (e_go hK7 ?_)
          refine c_ret (e_then_r (e_ret1 (.inl rfl) Tryd.results17 (rv_tmp rfl) fun w1 hM => ?_))
          exact ret_ok (congrArg Value.bool (decide_eq_false fun h => h4 (Pz.e_same.1 h).2.2.2.1).symm) hM
        ·
          refine l_val (wg rfl rfl rfl) (r_fa rfl fld26_4) rfl ?_
          refine l_val (wg rfl rfl rfl) (r_lb 1 rfl rfl rfl flat22) rfl ?_
          refine l_val (wg rfl rfl rfl) (r_len rfl Tryd.underlying22) rfl ?_
          refine l_val (wg rfl rfl rfl) (r_fa rfl fld26_4) rfl ?_
          refine l_val (wg rfl rfl rfl) (r_lb 0 rfl rfl rfl flat22) rfl ?_
          refine l_val (wg rfl rfl rfl) (r_len rfl Tryd.underlying22) rfl ?_
          refine l_val (wg rfl rfl rfl) (r_neq rfl rfl) rfl ?_
          refine l_val wn (r_pick rfl rfl) rfl ?_
          refine l_val wn (r_move rfl) rfl ?_
          refine l_case (t := 43) rfl (fun h5 => ?_) (fun h5 => ?_)
          ·
            refine l_skip (wg rfl rfl rfl) rfl ?_
            refine l_skip (wg rfl rfl rfl) rfl ?_
            refine l_skip (wg rfl rfl rfl) rfl ?_
            refine l_skip (wg rfl rfl rfl) rfl ?_
            refine l_skip (wg rfl rfl rfl) rfl ?_
            refine l_skip (wg rfl rfl rfl) rfl ?_
            refine l_skip (wg rfl rfl rfl) rfl ?_
            refine l_val wn (r_pick rfl rfl) rfl ?_
            refine l_val wn (r_move rfl) rfl ?_
            refine l_skip (wg rfl rfl rfl) rfl ?_
            refine l_skip (wg rfl rfl rfl) rfl ?_
            refine l_skip (wg rfl rfl rfl) rfl ?_
            refine l_skip (wg rfl rfl rfl) rfl ?_
            refine l_skip (wg rfl rfl rfl) rfl ?_
            refine l_skip (wg rfl rfl rfl) rfl ?_
            refine l_skip (wg rfl rfl rfl) rfl ?_
            refine l_val wn (r_pick rfl rfl) rfl ?_
            refine l_nil (e_go hK3 ?_)
            refine c_true rfl rfl ?_
            refine c_seq fun K8 hK8 => ?_
            refine c_region ?_
            refine l_val wn (r_assign rfl) rfl ?_
            refine l_nil (e_go hK8 ?_)
            refine c_ret (e_then_r (e_ret1 (.inl rfl) Tryd.results17 (rv_tmp rfl) fun w1 hM => ?_))
            exact ret_ok (congrArg Value.bool (decide_eq_false fun h => h5 (by rw [(Pz.e_same.1 h).2.2.2.2.1])).symm) hM
          ·
            refine l_val (wg rfl rfl rfl) (r_fa rfl fld26_5) rfl ?_
            refine l_val (wg rfl rfl rfl) (r_lb 1 rfl rfl rfl flat23) rfl ?_
            refine l_val (wg rfl rfl rfl) (r_len rfl Tryd.underlying23) rfl ?_
            refine l_val (wg rfl rfl rfl) (r_fa rfl fld26_5) rfl ?_
            refine l_val (wg rfl rfl rfl) (r_lb 0 rfl rfl rfl flat23) rfl ?_
            refine l_val (wg rfl rfl rfl) (r_len rfl Tryd.underlying23) rfl ?_
            refine l_val (wg rfl rfl rfl) (r_neq rfl rfl) rfl ?_
            refine l_val wn (r_pick rfl rfl) rfl ?_
            refine l_val wn (r_move rfl) rfl ?_
            refine l_case (t := 52) rfl (fun h6 => ?_) (fun h6 => ?_)
            ·
              refine l_skip (wg rfl rfl rfl) rfl ?_
              refine l_skip (wg rfl rfl rfl) rfl ?_
              refine l_skip (wg rfl rfl rfl) rfl ?_
              refine l_skip (wg rfl rfl rfl) rfl ?_
              refine l_skip (wg rfl rfl rfl) rfl ?_
              refine l_skip (wg rfl rfl rfl) rfl ?_
              refine l_skip (wg rfl rfl rfl) rfl ?_
              refine l_val wn (r_pick rfl rfl) rfl ?_
              refine l_nil (e_go hK3 ?_)
              refine c_true rfl rfl ?_
              refine c_seq fun K9 hK9 => ?_
              refine c_region ?_
              refine l_val wn (r_assign rfl) rfl ?_
              refine l_nil (e_go hK9 ?_)
              refine c_ret (e_then_r (e_ret1 (.inl rfl) Tryd.results17 (rv_tmp rfl) fun w1 hM => ?_))
              exact ret_ok (congrArg Value.bool (decide_eq_false fun h => h6 (by rw [(Pz.e_same.1 h).2.2.2.2.2.1])).symm) hM
            ·
              refine l_val (wg rfl rfl rfl) (r_fa rfl fld26_6) rfl ?_
              refine l_val (wg rfl rfl rfl) (r_lb 1 rfl rfl rfl flat24) rfl ?_
              refine l_val (wg rfl rfl rfl) (r_len rfl Tryd.underlying24) rfl ?_
              refine l_val (wg rfl rfl rfl) (r_fa rfl fld26_6) rfl ?_
              refine l_val (wg rfl rfl rfl) (r_lb 0 rfl rfl rfl flat24) rfl ?_
              refine l_val (wg rfl rfl rfl) (r_len rfl Tryd.underlying24) rfl ?_
              refine l_val (wg rfl rfl rfl) (r_neq rfl rfl) rfl ?_
              refine l_val wn (r_pick rfl rfl) rfl ?_
              refine l_nil (e_go hK3 ?_)
              refine c_cond rfl (fun h7 => ?_) (fun h7 => ?_)
              ·
                refine c_seq fun K10 hK10 => ?_
                refine c_region ?_
                refine l_val wn (r_assign rfl) rfl ?_
                refine l_nil (e_go hK10 ?_)
                refine c_ret (e_then_r (e_ret1 (.inl rfl) Tryd.results17 (rv_tmp rfl) fun w1 hM => ?_))
                exact ret_ok (congrArg Value.bool (decide_eq_false fun h => h7 (by have := congrArg List.length (Pz.e_same.1 h).2.2.2.2.2.2; rw [List.length_map, List.length_map] at this; rw [this])).symm) hM
              ·
                refine c_skip (e_go hK2 ?_)
                refine c_seq fun K11 hK11 => ?_
                refine c_seq fun K12 hK12 => ?_
                refine c_region ?_
                refine l_val wn (r_fa rfl fld26_4) rfl ?_
                refine l_val wn (r_lb 1 rfl rfl rfl flat22) rfl ?_
                refine l_val wn (r_len rfl Tryd.underlying22) rfl ?_
                refine l_val wn (r_move rfl) rfl ?_
                refine l_nil (e_go hK12 ?_)
                refine c_block ?_
                refine c_loop1 (fun (k : Nat) => [(2, .pointer (some ⟨b2, 0, none⟩)), (3, .pointer (some ⟨b3, 0, none⟩)), (63, iV a.ms.l.length), (64, iV k)]) (fun (k : Nat) => [.blk b3 [iV b.kind, iV b.n, iV b.range, .string b.word, .slice b.ms.A b.ms.l.length b.ms.c, .slice b.by_.A b.by_.l.length b.by_.c, .slice b.kids.A b.kids.l.length b.kids.c] 26, .blk b2 [iV a.kind, iV a.n, iV a.range, .string a.word, .slice a.ms.A a.ms.l.length a.ms.c, .slice a.by_.A a.by_.l.length a.by_.c, .slice a.kids.A a.kids.l.length a.kids.c] 26, okP ExprX.Ok a, okP ExprX.Ok b]) (fun (k : Nat) => k ≤ a.ms.l.length ∧ a.ms.l.take k = b.ms.l.take k) (fun (k : Nat) => a.ms.l.length - k) 0 (sc rfl (sc rfl (sc rfl (sc (ji (by omega)) sn)))) (fun _ h => h) ?_ (fun k hI1 => ?_)
                · exact ⟨by omega, rfl⟩
                ·
                  refine c_seq fun K13 hK13 => ?_
                  refine c_region ?_
                  refine l_val wn (r_lss rfl rfl) rfl ?_
                  refine l_nil (e_go hK13 ?_)
                  refine c_seq fun K14 hK14 => ?_
                  refine c_cond rfl (fun h8 => ?_) (fun h8 => ?_)
                  ·
                    refine c_skip (e_go hK14 ?_)
                    refine c_seq fun K15 hK15 => ?_
                    refine c_block ?_
                    refine c_seq fun K16 hK16 => ?_
                    refine c_region ?_
                    refine l_val wn (r_move rfl) rfl ?_
                    refine l_val wn (r_assign rfl) rfl ?_
                    refine l_nil (e_go hK16 ?_)
                    refine c_seq fun K17 hK17 => ?_
                    refine c_quiet mix (by kernel_rfl) (fun _ h => h.drew) ?_
                    refine q_val wn (r_fa rfl fld26_4) rfl ?_
                    refine q_val wn (r_lb 1 rfl rfl rfl flat22) rfl ?_
                    refine q_val wn (r_move rfl) rfl ?_
                    refine q_opn (fun _ h => h.exprX 2 rfl) (fun _ h => h.drop1.drop1.drop1.drop1) ?_
                    obtain ⟨hc1, hm1, hA1⟩ := hwa.ms
                    obtain ⟨hc2, hm2, hA2⟩ := hwa.by_
                    obtain ⟨hc3, hm3, hA3⟩ := hwa.kids
                    obtain ⟨ad1, hd1⟩ := hA1 (ne_nil (i := k) (by omega))
                    refine q_val wn (r_ia (i := k) rfl hd1 rfl (by omega) (by omega) Tryd.underlying22 inf74) rfl ?_
                    obtain ⟨s1, hs1⟩ : ∃ x, a.ms.l[k]? = some x := ⟨_, List.getElem?_eq_getElem (by omega)⟩
                    refine q_val wn (r_pln 0 [iV s1.kind, .string s1.key, .string s1.val] rfl rfl hd1 hs1 rfl rfl agg74 inf74) rfl ?_
                    refine q_val wn (r_fa rfl fld26_4) rfl ?_
                    refine q_val wn (r_lb 4 rfl rfl rfl flat22) rfl ?_
                    refine q_val wn (r_move rfl) rfl ?_
                    refine q_opn (fun _ h => h.exprX 7 rfl) (fun _ h => h.drop1.drop1.drop1.drop1) ?_
                    obtain ⟨hc4, hm4, hA4⟩ := hwb.ms
                    obtain ⟨hc5, hm5, hA5⟩ := hwb.by_
                    obtain ⟨hc6, hm6, hA6⟩ := hwb.kids
                    obtain ⟨ad2, hd2⟩ := hA4 (ne_nil (i := k) (by omega))
                    refine q_val wn (r_ia (i := k) rfl hd2 rfl (by omega) (by omega) Tryd.underlying22 inf74) rfl ?_
                    obtain ⟨s2, hs2⟩ : ∃ x, b.ms.l[k]? = some x := ⟨_, List.getElem?_eq_getElem (by omega)⟩
                    refine q_val wn (r_pln 0 [iV s2.kind, .string s2.key, .string s2.val] rfl rfl hd2 hs2 rfl rfl agg74 inf74) rfl ?_
                    refine q_val wn (r_neqS (a := s1) (b := s2) rfl rfl eqv74) rfl ?_
                    refine q_end (e_go hK17 ?_)
                    refine c_cond rfl (fun h9 => ?_) (fun h9 => ?_)
                    ·
                      refine c_seq fun K18 hK18 => ?_
                      refine c_region ?_
                      refine l_val wn (r_assign rfl) rfl ?_
                      refine l_nil (e_go hK18 ?_)
                      refine c_ret (e_in_r (e_then_r (e_loop1_r (e_in_r (e_then_r (e_ret1 (.inl rfl) Tryd.results17 (rv_tmp rfl) fun w1 hM => ?_))))))
                      exact ret_ok (congrArg Value.bool (decide_eq_false fun h => Pz.take_ne hs1 hs2 h9 (Pz.e_same.1 h).2.2.2.2.1).symm) hM
                    ·
                      refine c_skip (e_in_n (e_go hK15 ?_))
                      refine c_region ?_
                      refine l_val wn (r_addn rfl rfl (by omega)) rfl ?_
                      refine l_val wn (r_move rfl) rfl ?_
                      refine l_nil (e_round1 (k + 1) (sc rfl (sc rfl (sc rfl (sc (ji (by omega)) sn)))) (fun _ h => (h.sel [8, 9, 10, 11] (by decide) rfl)) ?_ ?_)
                      · exact ⟨by omega, Pz.take_next hI1.2 hs1 hs2 (Classical.not_not.1 h9)⟩
                      · omega
                  ·
                    refine c_exit (e_then_x (e_loop1_x (e_in_hit (e_go hK11 ?_))))
                    refine c_seq fun K19 hK19 => ?_
                    refine c_seq fun K20 hK20 => ?_
                    refine c_region ?_
                    refine l_val wn (r_fa rfl fld26_5) rfl ?_
                    refine l_val wn (r_lb 1 rfl rfl rfl flat23) rfl ?_
                    refine l_val wn (r_len rfl Tryd.underlying23) rfl ?_
                    refine l_val wn (r_move rfl) rfl ?_
                    refine l_nil (e_go hK20 ?_)
                    refine c_block ?_
                    refine c_loop1 (fun (k : Nat) => [(2, .pointer (some ⟨b2, 0, none⟩)), (3, .pointer (some ⟨b3, 0, none⟩)), (81, iV a.by_.l.length), (82, iV k)]) (fun (k : Nat) => [.blk b3 [iV b.kind, iV b.n, iV b.range, .string b.word, .slice b.ms.A b.ms.l.length b.ms.c, .slice b.by_.A b.by_.l.length b.by_.c, .slice b.kids.A b.kids.l.length b.kids.c] 26, .blk b2 [iV a.kind, iV a.n, iV a.range, .string a.word, .slice a.ms.A a.ms.l.length a.ms.c, .slice a.by_.A a.by_.l.length a.by_.c, .slice a.kids.A a.kids.l.length a.kids.c] 26, okP ExprX.Ok a, okP ExprX.Ok b]) (fun (k : Nat) => k ≤ a.by_.l.length ∧ a.by_.l.take k = b.by_.l.take k) (fun (k : Nat) => a.by_.l.length - k) 0 (sc rfl (sc rfl (sc rfl (sc (ji (by omega)) sn)))) (fun _ h => h) ?_ (fun k hI2 => ?_)
                    · exact ⟨by omega, rfl⟩
                    ·
                      refine c_seq fun K21 hK21 => ?_
                      refine c_region ?_
                      refine l_val wn (r_lss rfl rfl) rfl ?_
                      refine l_nil (e_go hK21 ?_)
                      refine c_seq fun K22 hK22 => ?_
                      refine c_cond rfl (fun h10 => ?_) (fun h10 => ?_)
                      ·
                        refine c_skip (e_go hK22 ?_)
                        refine c_seq fun K23 hK23 => ?_
                        refine c_block ?_
                        refine c_seq fun K24 hK24 => ?_
                        refine c_region ?_
                        refine l_val wn (r_move rfl) rfl ?_
                        refine l_val wn (r_assign rfl) rfl ?_
                        refine l_nil (e_go hK24 ?_)
                        refine c_seq fun K25 hK25 => ?_
                        refine c_quiet mix (by kernel_rfl) (fun _ h => h.drew) ?_
                        refine q_val wn (r_fa rfl fld26_5) rfl ?_
                        refine q_val wn (r_lb 1 rfl rfl rfl flat23) rfl ?_
                        refine q_val wn (r_move rfl) rfl ?_
                        refine q_opn (fun _ h => h.exprX 2 rfl) (fun _ h => h.drop1.drop1.drop1.drop1) ?_
                        obtain ⟨hc7, hm7, hA7⟩ := hwa.ms
                        obtain ⟨hc8, hm8, hA8⟩ := hwa.by_
                        obtain ⟨hc9, hm9, hA9⟩ := hwa.kids
                        obtain ⟨ad3, hd3⟩ := hA8 (ne_nil (i := k) (by omega))
                        refine q_val wn (r_ia (i := k) rfl hd3 rfl (by omega) (by omega) Tryd.underlying23 inf9) rfl ?_
                        obtain ⟨s3, hs3⟩ : ∃ x, a.by_.l[k]? = some x := ⟨_, List.getElem?_eq_getElem (by omega)⟩
                        refine q_val wn (r_pl 1 rfl rfl hd3 hs3 rfl flat9) rfl ?_
                        refine q_val wn (r_fa rfl fld26_5) rfl ?_
                        refine q_val wn (r_lb 4 rfl rfl rfl flat23) rfl ?_
                        refine q_val wn (r_move rfl) rfl ?_
                        refine q_opn (fun _ h => h.exprX 7 rfl) (fun _ h => h.drop1.drop1.drop1.drop1) ?_
                        obtain ⟨hc10, hm10, hA10⟩ := hwb.ms
                        obtain ⟨hc11, hm11, hA11⟩ := hwb.by_
                        obtain ⟨hc12, hm12, hA12⟩ := hwb.kids
                        obtain ⟨ad4, hd4⟩ := hA11 (ne_nil (i := k) (by omega))
                        refine q_val wn (r_ia (i := k) rfl hd4 rfl (by omega) (by omega) Tryd.underlying23 inf9) rfl ?_
                        obtain ⟨s4, hs4⟩ : ∃ x, b.by_.l[k]? = some x := ⟨_, List.getElem?_eq_getElem (by omega)⟩
                        refine q_val wn (r_pl 1 rfl rfl hd4 hs4 rfl flat9) rfl ?_
                        refine q_val wn (r_sneq rfl rfl) rfl ?_
                        refine q_end (e_go hK25 ?_)
                        refine c_cond rfl (fun h11 => ?_) (fun h11 => ?_)
                        ·
                          refine c_seq fun K26 hK26 => ?_
                          refine c_region ?_
                          refine l_val wn (r_assign rfl) rfl ?_
                          refine l_nil (e_go hK26 ?_)
                          refine c_ret (e_in_r (e_then_r (e_loop1_r (e_in_r (e_then_r (e_ret1 (.inl rfl) Tryd.results17 (rv_tmp rfl) fun w1 hM => ?_))))))
                          exact ret_ok (congrArg Value.bool (decide_eq_false fun h => Pz.take_ne hs3 hs4 h11 (Pz.e_same.1 h).2.2.2.2.2.1).symm) hM
                        ·
                          refine c_skip (e_in_n (e_go hK23 ?_))
                          refine c_region ?_
                          refine l_val wn (r_addn rfl rfl (by omega)) rfl ?_
                          refine l_val wn (r_move rfl) rfl ?_
                          refine l_nil (e_round1 (k + 1) (sc rfl (sc rfl (sc rfl (sc (ji (by omega)) sn)))) (fun _ h => (h.sel [8, 9, 10, 11] (by decide) rfl)) ?_ ?_)
                          · exact ⟨by omega, Pz.take_next hI2.2 hs3 hs4 (Classical.not_not.1 h11)⟩
                          · omega
                      ·
                        refine c_exit (e_then_x (e_loop1_x (e_in_hit (e_go hK19 ?_))))
                        refine c_seq fun K27 hK27 => ?_
                        refine c_seq fun K28 hK28 => ?_
                        refine c_region ?_
                        refine l_val wn (r_fa rfl fld26_6) rfl ?_
                        refine l_val wn (r_lb 1 rfl rfl rfl flat24) rfl ?_
                        refine l_val wn (r_len rfl Tryd.underlying24) rfl ?_
                        refine l_val wn (r_move rfl) rfl ?_
                        refine l_nil (e_go hK28 ?_)
                        refine c_block ?_
                        refine c_loop1 (fun (k : Nat) => [(2, .pointer (some ⟨b2, 0, none⟩)), (3, .pointer (some ⟨b3, 0, none⟩)), (99, iV a.kids.l.length), (100, iV k)]) (fun (k : Nat) => [.blk b3 [iV b.kind, iV b.n, iV b.range, .string b.word, .slice b.ms.A b.ms.l.length b.ms.c, .slice b.by_.A b.by_.l.length b.by_.c, .slice b.kids.A b.kids.l.length b.kids.c] 26, .blk b2 [iV a.kind, iV a.n, iV a.range, .string a.word, .slice a.ms.A a.ms.l.length a.ms.c, .slice a.by_.A a.by_.l.length a.by_.c, .slice a.kids.A a.kids.l.length a.kids.c] 26, okP ExprX.Ok a, okP ExprX.Ok b]) (fun (k : Nat) => k ≤ a.kids.l.length ∧ (a.kids.l.map ExprX.e).take k = (b.kids.l.map ExprX.e).take k) (fun (k : Nat) => a.kids.l.length - k) 0 (sc rfl (sc rfl (sc rfl (sc (ji (by omega)) sn)))) (fun _ h => h) ?_ (fun k hI3 => ?_)
                        · exact ⟨by omega, rfl⟩
                        ·
                          refine c_seq fun K29 hK29 => ?_
                          refine c_region ?_
                          refine l_val wn (r_lss rfl rfl) rfl ?_
                          refine l_nil (e_go hK29 ?_)
                          refine c_seq fun K30 hK30 => ?_
                          refine c_cond rfl (fun h12 => ?_) (fun h12 => ?_)
                          ·
                            refine c_skip (e_go hK30 ?_)
                            refine c_seq fun K31 hK31 => ?_
                            refine c_block ?_
                            refine c_seq fun K32 hK32 => ?_
                            refine c_region ?_
                            refine l_val wn (r_move rfl) rfl ?_
                            refine l_val wn (r_assign rfl) rfl ?_
                            refine l_nil (e_go hK32 ?_)
                            refine c_seq fun K33 hK33 => ?_
                            refine c_quiet mix (by kernel_rfl) (fun _ h => h.drew) ?_
                            refine q_val wn (r_fa rfl fld26_6) rfl ?_
                            refine q_val wn (r_lb 1 rfl rfl rfl flat24) rfl ?_
                            refine q_val wn (r_move rfl) rfl ?_
                            refine q_opn (fun _ h => h.exprX 2 rfl) (fun _ h => h.drop1.drop1.drop1.drop1) ?_
                            obtain ⟨hc13, hm13, hA13⟩ := hwa.ms
                            obtain ⟨hc14, hm14, hA14⟩ := hwa.by_
                            obtain ⟨hc15, hm15, hA15⟩ := hwa.kids
                            obtain ⟨ad5, hd5⟩ := hA15 (ne_nil (i := k) (by omega))
                            refine q_val wn (r_ia (i := k) rfl hd5 rfl (by omega) (by omega) Tryd.underlying24 inf26) rfl ?_
                            obtain ⟨s5, hs5⟩ : ∃ x, a.kids.l[k]? = some x := ⟨_, List.getElem?_eq_getElem (by omega)⟩
                            refine q_val wn (r_pln 2 [iV s5.kind, iV s5.n, iV s5.range, .string s5.word, .slice s5.ms.A s5.ms.l.length s5.ms.c, .slice s5.by_.A s5.by_.l.length s5.by_.c, .slice s5.kids.A s5.kids.l.length s5.kids.c] rfl rfl hd5 hs5 rfl rfl agg26 inf26) rfl ?_
                            refine q_val wn (r_fa rfl fld26_6) rfl ?_
                            refine q_val wn (r_lb 4 rfl rfl rfl flat24) rfl ?_
                            refine q_val wn (r_move rfl) rfl ?_
                            refine q_opn (fun _ h => h.exprX 7 rfl) (fun _ h => h.drop1.drop1.drop1.drop1) ?_
                            obtain ⟨hc16, hm16, hA16⟩ := hwb.ms
                            obtain ⟨hc17, hm17, hA17⟩ := hwb.by_
                            obtain ⟨hc18, hm18, hA18⟩ := hwb.kids
                            obtain ⟨ad6, hd6⟩ := hA18 (ne_nil (i := k) (by omega))
                            refine q_val wn (r_ia (i := k) rfl hd6 rfl (by omega) (by omega) Tryd.underlying24 inf26) rfl ?_
                            obtain ⟨s6, hs6⟩ : ∃ x, b.kids.l[k]? = some x := ⟨_, List.getElem?_eq_getElem (by omega)⟩
                            refine q_val wn (r_pln 2 [iV s6.kind, iV s6.n, iV s6.range, .string s6.word, .slice s6.ms.A s6.ms.l.length s6.ms.c, .slice s6.by_.A s6.by_.l.length s6.by_.c, .slice s6.kids.A s6.kids.l.length s6.kids.c] rfl rfl hd6 hs6 rfl rfl agg26 inf26) rfl ?_
                            have hw1 := hwa.all _ (List.mem_of_getElem? hs5)
                            refine q_opn (fun _ h => h.one 7 ExprX.Ok.loc rfl hs5) (fun _ h => h.drop1) ?_
                            have hw2 := hwb.all _ (List.mem_of_getElem? hs6)
                            refine q_opn (fun _ h => h.one 4 ExprX.Ok.loc rfl hs6) (fun _ h => h.drop1) ?_
                            refine q_callF wn rfl Tryd.call17 rfl (fun w1 hM => ih s5 (ExprX.kid_lt (List.mem_of_getElem? hs5)) s6 (In w1) w1 (fun _ h => h) (hM.pubAt (i := 1) rfl) (hM.pubAt (i := 0) rfl)) ?_
                            refine q_val wn (r_notb rfl) rfl ?_
                            refine q_end (e_go hK33 ?_)
                            refine c_condb rfl (fun h13 => ?_) (fun h13 => ?_)
                            ·
                              refine c_seq fun K34 hK34 => ?_
                              refine c_region ?_
                              refine l_val wn (r_assign rfl) rfl ?_
                              refine l_nil (e_go hK34 ?_)
                              refine c_ret (e_in_r (e_then_r (e_loop1_r (e_in_r (e_then_r (e_ret1 (.inl rfl) Tryd.results17 (rv_tmp rfl) fun w1 hM => ?_))))))
                              exact ret_ok (congrArg Value.bool (decide_eq_false fun h => Pz.take_ne (Pz.e_at hs5) (Pz.e_at hs6) (by simpa using h13) (Pz.e_same.1 h).2.2.2.2.2.2).symm) hM
                            ·
                              refine c_skip (e_in_n (e_go hK31 ?_))
                              refine c_region ?_
                              refine l_val wn (r_addn rfl rfl (by omega)) rfl ?_
                              refine l_val wn (r_move rfl) rfl ?_
                              refine l_nil (e_round1 (k + 1) (sc rfl (sc rfl (sc rfl (sc (ji (by omega)) sn)))) (fun _ h => (h.sel [10, 11, 12, 13] (by decide) rfl)) ?_ ?_)
                              · exact ⟨by omega, Pz.take_next hI3.2 (Pz.e_at hs5) (Pz.e_at hs6) (by simpa using h13)⟩
                              · omega
                          ·
                            refine c_exit (e_then_x (e_loop1_x (e_in_hit (e_go hK27 ?_))))
                            refine c_seq fun K35 hK35 => ?_
                            refine c_region ?_
                            refine l_val wn (r_assign rfl) rfl ?_
                            refine l_nil (e_go hK35 ?_)
                            refine c_ret (e_ret1 (.inl rfl) Tryd.results17 (rv_tmp rfl) fun w1 hM => ?_)
                            exact ret_ok (congrArg Value.bool (decide_eq_true (Pz.e_same.2 ⟨(Classical.not_not.1 h1), (Classical.not_not.1 h2), (Classical.not_not.1 h3), (Classical.not_not.1 h4), Pz.take_all hI1.2 (by omega) (Classical.not_not.1 h5), Pz.take_all hI2.2 (by omega) (Classical.not_not.1 h6), Pz.take_all hI3.2 (by rw [List.length_map]; omega) (by rw [List.length_map, List.length_map]; exact (Classical.not_not.1 h7))⟩)).symm) hM
theorem c_refEqual (a : ExprX) : c_refEqual_C a := recX c_refEqual_step a

def c_refBare_C (e : ExprX) : Prop := ∀ (P0 : Nat → Prop) (w : World) (hP0 : ∀ b, P0 b → b < w.heap.size) (he : ExprX.Ok P0 e w) (hf9 : Mn.fineE e.e),
    Calls Tryd.prog 21 #[.agg (exprE e).toArray] w (RetE w P0 (fun z : ExprX => .agg (exprE z).toArray) (fun z => z.e = Pz.bare e.e) (fun z S => ExprX.Ok S z))
set_option maxHeartbeats 4000000 in
theorem c_refBare_step (e : ExprX) (ih : ∀ k : ExprX, SizeOf.sizeOf k < SizeOf.sizeOf e → c_refBare_C k) : c_refBare_C e := by
  intro P0 w hP0 he hf9
  have hwe := he.wf
  obtain ⟨hk9_, ha9_, ho9_, hs9_⟩ := Lg.fine_x hf9
  have har9 : e.kids.l.length ≤ 2 := by unfold Lg.arity at ha9_; (repeat split at ha9_) <;> omega
  refine fstart (N := 71) (vals := [.agg (exprE e).toArray]) (S := Mem w ⟨no, P0⟩ [okP ExprX.Ok e]) Tryd.func21 rfl rfl rfl (Mem.ofDatsP hP0 (dc (dp (ExprX.Ok.loc _) he) dn)) ?_
  refine c_seq fun K1 hK1 => ?_
  refine c_region ?_
  refine l_box wn rfl rfl fun b1 => ?_
  refine l_alloc wn inf26 rfl fun b2 => ?_
  refine l_nil (e_go hK1 ?_)
  refine c_seq fun K2 hK2 => ?_
  refine c_region ?_
  refine l_opn (fun _ h => h.exprX 2 rfl) ?_
  obtain ⟨hc1, hm1, hA1⟩ := hwe.ms
  obtain ⟨hc2, hm2, hA2⟩ := hwe.by_
  obtain ⟨hc3, hm3, hA3⟩ := hwe.kids
  refine l_val wn (r_fa rfl fld26_0) rfl ?_
  refine l_val wn (r_lb 5 rfl rfl rfl flat3) rfl ?_
  refine l_val wn (r_build [iV e.kind, iV 0, iV 0, .string ⟨#[]⟩, Zs, Zs, Zs] pl26 inf26 rfl rfl) rfl ?_
  refine l_alloc wn inf26 rfl fun b3 => ?_
  refine l_stn 0 wn rfl rfl rfl inf26 rfl rfl rfl ?_
  refine l_nil (e_go hK2 ?_)
  refine c_seq fun K3 hK3 => ?_
  refine c_seq fun K4 hK4 => ?_
  refine c_region ?_
  refine l_val wn (r_fa rfl fld26_0) rfl ?_
  refine l_val wn (r_lb 6 rfl rfl rfl flat3) rfl ?_
  refine l_nil (e_go hK4 ?_)
  refine c_block ?_
  refine c_seq fun K5 hK5 => ?_
  refine c_region ?_
  refine l_val wn (r_eql rfl rfl) rfl ?_
  refine l_val wn (r_assign rfl) rfl ?_
  refine l_nil (e_go hK5 ?_)
  refine c_cond rfl (fun h1 => ?_) (fun h1 => ?_)
  ·
    refine c_region ?_
    refine l_val wn (r_fa rfl fld26_1) rfl ?_
    refine l_val wn (r_lb 6 rfl rfl rfl flat3) rfl ?_
    refine l_val wn (r_fa rfl fld26_1) rfl ?_
    refine l_st1 0 wn rfl rfl rfl rfl inf3 rfl rfl ?_
    refine l_nil (e_in_n (e_go hK3 ?_))
    refine c_seq fun K6 hK6 => ?_
    refine c_seq fun K7 hK7 => ?_
    refine c_region ?_
    refine l_val wn (r_fa rfl fld26_6) rfl ?_
    refine l_val wn (r_lb 6 rfl rfl rfl flat24) rfl ?_
    refine l_val wn (r_len rfl Tryd.underlying24) rfl ?_
    refine l_val wn (r_move rfl) rfl ?_
    refine l_nil (e_go hK7 ?_)
    refine c_block ?_
    refine c_mem (fun _ h => h.nilRow ExprX 26 7 exprE) ?_
    refine c_opn (fun _ h => h.all0 ExprX.Ok.loc) ?_
    refine c_loop3 (fun (j : Nat) (l : List ExprX) (kv : Value) => [(2, .pointer (some ⟨b2, 0, none⟩)), (3, .pointer (some ⟨b3, 0, none⟩)), (56, .slice e.kids.A e.kids.l.length e.kids.c), (57, iV e.kids.l.length), (58, iV j)]) (fun (j : Nat) (l : List ExprX) (kv : Value) => [allP ExprX.Ok l, Row kv 26 7 exprE l, .blk b3 [iV e.kind, iV e.n, iV 0, .string ⟨#[]⟩, Zs, Zs, kv] 26, slP 3 matchE (.slice e.ms.A e.ms.l.length e.ms.c) e.ms.l, slP 1 strE (.slice e.by_.A e.by_.l.length e.by_.c) e.by_.l, slP 7 exprE (.slice e.kids.A e.kids.l.length e.kids.c) e.kids.l, allP ExprX.Ok e.kids.l, .blk b2 Zx 26, .blk b1 [iV e.kind, iV e.n, iV e.range, .string e.word, .slice e.ms.A e.ms.l.length e.ms.c, .slice e.by_.A e.by_.l.length e.by_.c, .slice e.kids.A e.kids.l.length e.kids.c] 26, okP ExprX.Ok e]) (fun (j : Nat) (l : List ExprX) (kv : Value) => j ≤ e.kids.l.length ∧ l.length = j ∧ (∀ x ∈ l, ExprX.Wf x) ∧ l.map ExprX.e = Pz.bares ((e.kids.l.take j).map ExprX.e)) (fun (j : Nat) (l : List ExprX) (kv : Value) => e.kids.l.length - j) 0 [] (Zs) (sc rfl (sc rfl (sc rfl (sc rfl (sc (ji (by omega)) sn))))) (fun _ h => h) ?_ (fun j l kv hI1 => ?_)
    · exact ⟨by omega, rfl, (fun x hx => (by cases hx)), rfl⟩
    ·
      have hwf := hI1.2.2.1
      refine c_open 1 (l := l) rfl fun A1 cp1 hv1 hc4 hm4 hA4 => ?_
      subst hv1
      refine c_seq fun K8 hK8 => ?_
      refine c_region ?_
      refine l_val wn (r_lss rfl rfl) rfl ?_
      refine l_nil (e_go hK8 ?_)
      refine c_seq fun K9 hK9 => ?_
      refine c_cond rfl (fun h2 => ?_) (fun h2 => ?_)
      ·
        refine c_skip (e_go hK9 ?_)
        refine c_seq fun K10 hK10 => ?_
        refine c_block ?_
        refine c_seq fun K11 hK11 => ?_
        refine c_region ?_
        obtain ⟨ad1, hd1⟩ := hA3 (ne_nil (i := j) (by first | omega | (simp <;> omega)))
        refine l_val wn (r_ia (i := j) rfl hd1 rfl (by omega) (by first | omega | (simp <;> omega)) Tryd.underlying24 inf26) rfl ?_
        obtain ⟨s1, hs1⟩ : ∃ x, e.kids.l[j]? = some x := ⟨_, List.getElem?_eq_getElem (by first | omega | (simp <;> omega))⟩
        refine l_val wn (r_pln 5 [iV s1.kind, iV s1.n, iV s1.range, .string s1.word, .slice s1.ms.A s1.ms.l.length s1.ms.c, .slice s1.by_.A s1.by_.l.length s1.by_.c, .slice s1.kids.A s1.kids.l.length s1.kids.c] rfl rfl hd1 hs1 rfl rfl agg26 inf26) rfl ?_
        refine l_alloc wn inf26 rfl fun b7 => ?_
        refine l_stn 0 wn rfl rfl rfl inf26 rfl rfl rfl ?_
        refine l_nil (e_go hK11 ?_)
        refine c_nodes (Mem w ⟨no, P0⟩ [.blk b7 [iV s1.kind, iV s1.n, iV s1.range, .string s1.word, .slice s1.ms.A s1.ms.l.length s1.ms.c, .slice s1.by_.A s1.by_.l.length s1.by_.c, .slice s1.kids.A s1.kids.l.length s1.kids.c] 26, slP 3 matchE (.slice e.ms.A e.ms.l.length e.ms.c) e.ms.l, slP 1 strE (.slice e.by_.A e.by_.l.length e.by_.c) e.by_.l, slP 7 exprE (.slice e.kids.A e.kids.l.length e.kids.c) e.kids.l, allP ExprX.Ok e.kids.l, .blk b2 Zx 26, .blk b1 [iV e.kind, iV e.n, iV e.range, .string e.word, .slice e.ms.A e.ms.l.length e.ms.c, .slice e.by_.A e.by_.l.length e.by_.c, .slice e.kids.A e.kids.l.length e.kids.c] 26, okP ExprX.Ok e]) mix (fun _ h => h.drew) rfl ?_
        refine n_run (f := 6) [0, 2] rfl rfl (by kernel_rfl) (by kernel_rfl) (fun _ h => (h.sel [0, 4, 5, 6, 7, 8, 9, 10] (by decide) rfl)) fun KS hKS => ?_
        refine s_val wn (r_fa rfl fld26_6) rfl ?_
        refine s_val wn (r_lbn 0 [iV s1.kind, iV s1.n, iV s1.range, .string s1.word, .slice s1.ms.A s1.ms.l.length s1.ms.c, .slice s1.by_.A s1.by_.l.length s1.by_.c, .slice s1.kids.A s1.kids.l.length s1.kids.c] rfl rfl rfl rfl agg26 inf26) rfl ?_
        refine s_end hKS ?_
        refine n_step2 (f := 5) (i := 1) (j := 3) rfl (by kernel_rfl) ?_ ?_
        ·
          refine n_one (i := 1) rfl fun KN hKN => ?_
          refine l_val wn (r_lb 3 rfl rfl rfl flat24) rfl ?_
          refine l_nil (hKN _ _ (fun _ h => (h.sel [0, 4, 5, 6, 7, 8, 9, 10] (by decide) rfl)) ?_)
          refine n_step1 (f := 4) (i := 3) rfl (by kernel_rfl) ?_
          refine n_one (i := 3) rfl fun KN hKN => ?_
          have hw1 := hwe.all _ (List.mem_of_getElem? hs1)
          refine l_opn (fun _ h => h.one 7 ExprX.Ok.loc rfl hs1) ?_
          refine l_callE0 (β := ExprX) (fun z => .agg (exprE z).toArray) (fun z => z.e = Pz.bare s1.e) (fun z S => ExprX.Ok S z) (fun z => ExprX.Ok.loc z) wn rfl Tryd.call21 rfl (fun w1 Pb hM pp => ih s1 (ExprX.kid_lt (List.mem_of_getElem? hs1)) Pb w1 pp.lt (pp.at_ 0 _ rfl) (hs9_ _ (List.mem_of_getElem? hs1))) fun z1 hz1 => ?_
          refine l_get 0 rfl (fun S w h => ExprX.Ok.wf h) fun hw2 => ?_
          refine l_nil (hKN _ _ (fun _ h => (h.sel [2, 6, 7, 8, 9, 10, 11, 12] (by decide) rfl)) ?_)
          refine n_step1 (f := 3) (i := 4) rfl (by kernel_rfl) ?_
          refine n_one (i := 4) rfl fun KN hKN => ?_
          refine l_bsL exprE ([z1] : List ExprX) wn Tryd.underlying24 inf26 rfl rfl rfl rfl (by decide) (by decide) rfl fun b66 => ?_
          refine l_nil (hKN _ _ (fun _ h => (h.sel [3, 7, 8, 9, 10, 11, 12, 13] (by decide) rfl)) ?_)
          refine n_step1 (f := 2) (i := 5) rfl (by kernel_rfl) ?_
          refine n_one (i := 5) rfl fun KN hKN => ?_
          refine l_app 5 l ([z1] : List ExprX) encExprX wn rfl rfl rfl (fun _ hM => (RowSl encExprX hM 0 rfl)) Tryd.underlying24 inf26 rfl rfl (by simp only [List.length_append, List.length_cons, List.length_nil]; omega) rfl fun A2 cp2 hc5 hm5 hA5 => ?_
          refine l_opn (fun _ h => h.allSnoc 4 1 ExprX.Ok.loc rfl rfl) ?_
          have hw3 : ∀ x ∈ (l ++ ([z1] : List ExprX)), ExprX.Wf x := fun x hx => (List.mem_append.1 hx).elim (hwf x) fun h => by rw [List.mem_singleton.1 h]; exact hw2
          refine l_nil (hKN _ _ (fun _ h => (h.sel [4, 8, 9, 10, 11, 12, 13, 14] (by decide) rfl)) ?_)
          refine n_run (f := 1) [6] rfl rfl (by kernel_rfl) (by kernel_rfl) (fun _ h => (h.sel [4, 8, 9, 10, 11, 12, 13, 14] (by decide) rfl)) fun KS hKS => ?_
          refine s_val wn (r_fa rfl fld26_6) rfl ?_
          refine s_end hKS ?_
          refine n_step1 (f := 0) (i := 7) rfl (by kernel_rfl) ?_
          refine n_one (i := 7) rfl fun KN hKN => ?_
          refine l_st1 7 wn rfl rfl rfl rfl inf24 rfl rfl ?_
          refine l_nil (hKN _ _ (fun _ h => (h.sel [4, 8, 9, 10, 11, 12, 13, 14] (by decide) rfl)) ?_)
          refine n_done (by kernel_rfl) (e_in_n (e_go hK10 ?_))
          refine c_region ?_
          refine l_val wn (r_addn rfl rfl (by omega)) rfl ?_
          refine l_val wn (r_move rfl) rfl ?_
          refine l_nil (e_round3 (j + 1) (l ++ ([z1] : List ExprX)) (.slice A2 ((l ++ ([z1] : List ExprX)).length) cp2) (sc rfl (sc rfl (sc rfl (sc rfl (sc (ji (by omega)) sn))))) (fun _ h => (h.sel [0, 6, 7, 8, 9, 10, 11, 12, 13, 14] (by decide) rfl)) ?_ ?_)
          · exact ⟨by omega, by simp only [List.length_append, List.length_cons, List.length_nil]; omega, hw3, Pz.bares_take hI1.2.2.2 hs1 hz1⟩
          · omega
        ·
          refine n_one (i := 3) rfl fun KN hKN => ?_
          have hw4 := hwe.all _ (List.mem_of_getElem? hs1)
          refine l_opn (fun _ h => h.one 7 ExprX.Ok.loc rfl hs1) ?_
          refine l_callE0 (β := ExprX) (fun z => .agg (exprE z).toArray) (fun z => z.e = Pz.bare s1.e) (fun z S => ExprX.Ok S z) (fun z => ExprX.Ok.loc z) wn rfl Tryd.call21 rfl (fun w1 Pb hM pp => ih s1 (ExprX.kid_lt (List.mem_of_getElem? hs1)) Pb w1 pp.lt (pp.at_ 0 _ rfl) (hs9_ _ (List.mem_of_getElem? hs1))) fun z2 hz2 => ?_
          refine l_get 0 rfl (fun S w h => ExprX.Ok.wf h) fun hw5 => ?_
          refine l_nil (hKN _ _ (fun _ h => (h.sel [2, 6, 7, 8, 9, 10, 11, 12] (by decide) rfl)) ?_)
          refine n_step2 (f := 4) (i := 1) (j := 4) rfl (by kernel_rfl) ?_ ?_
          ·
            refine n_one (i := 1) rfl fun KN hKN => ?_
            refine l_val wn (r_lb 5 rfl rfl rfl flat24) rfl ?_
            refine l_nil (hKN _ _ (fun _ h => (h.sel [2, 6, 7, 8, 9, 10, 11, 12] (by decide) rfl)) ?_)
            refine n_step1 (f := 3) (i := 4) rfl (by kernel_rfl) ?_
            refine n_one (i := 4) rfl fun KN hKN => ?_
            refine l_bsL exprE ([z2] : List ExprX) wn Tryd.underlying24 inf26 rfl rfl rfl rfl (by decide) (by decide) rfl fun b66 => ?_
            refine l_nil (hKN _ _ (fun _ h => (h.sel [3, 7, 8, 9, 10, 11, 12, 13] (by decide) rfl)) ?_)
            refine n_step1 (f := 2) (i := 5) rfl (by kernel_rfl) ?_
            refine n_one (i := 5) rfl fun KN hKN => ?_
            refine l_app 5 l ([z2] : List ExprX) encExprX wn rfl rfl rfl (fun _ hM => (RowSl encExprX hM 0 rfl)) Tryd.underlying24 inf26 rfl rfl (by simp only [List.length_append, List.length_cons, List.length_nil]; omega) rfl fun A3 cp3 hc6 hm6 hA6 => ?_
            refine l_opn (fun _ h => h.allSnoc 4 1 ExprX.Ok.loc rfl rfl) ?_
            have hw6 : ∀ x ∈ (l ++ ([z2] : List ExprX)), ExprX.Wf x := fun x hx => (List.mem_append.1 hx).elim (hwf x) fun h => by rw [List.mem_singleton.1 h]; exact hw5
            refine l_nil (hKN _ _ (fun _ h => (h.sel [4, 8, 9, 10, 11, 12, 13, 14] (by decide) rfl)) ?_)
            refine n_run (f := 1) [6] rfl rfl (by kernel_rfl) (by kernel_rfl) (fun _ h => (h.sel [4, 8, 9, 10, 11, 12, 13, 14] (by decide) rfl)) fun KS hKS => ?_
            refine s_val wn (r_fa rfl fld26_6) rfl ?_
            refine s_end hKS ?_
            refine n_step1 (f := 0) (i := 7) rfl (by kernel_rfl) ?_
            refine n_one (i := 7) rfl fun KN hKN => ?_
            refine l_st1 7 wn rfl rfl rfl rfl inf24 rfl rfl ?_
            refine l_nil (hKN _ _ (fun _ h => (h.sel [4, 8, 9, 10, 11, 12, 13, 14] (by decide) rfl)) ?_)
            refine n_done (by kernel_rfl) (e_in_n (e_go hK10 ?_))
            refine c_region ?_
            refine l_val wn (r_addn rfl rfl (by omega)) rfl ?_
            refine l_val wn (r_move rfl) rfl ?_
            refine l_nil (e_round3 (j + 1) (l ++ ([z2] : List ExprX)) (.slice A3 ((l ++ ([z2] : List ExprX)).length) cp3) (sc rfl (sc rfl (sc rfl (sc rfl (sc (ji (by omega)) sn))))) (fun _ h => (h.sel [0, 6, 7, 8, 9, 10, 11, 12, 13, 14] (by decide) rfl)) ?_ ?_)
            · exact ⟨by omega, by simp only [List.length_append, List.length_cons, List.length_nil]; omega, hw6, Pz.bares_take hI1.2.2.2 hs1 hz2⟩
            · omega
          ·
            refine n_one (i := 4) rfl fun KN hKN => ?_
            refine l_bsL exprE ([z2] : List ExprX) wn Tryd.underlying24 inf26 rfl rfl rfl rfl (by decide) (by decide) rfl fun b66 => ?_
            refine l_nil (hKN _ _ (fun _ h => (h.sel [3, 7, 8, 9, 10, 11, 12, 13] (by decide) rfl)) ?_)
            refine n_step1 (f := 3) (i := 1) rfl (by kernel_rfl) ?_
            refine n_one (i := 1) rfl fun KN hKN => ?_
            refine l_val wn (r_lb 6 rfl rfl rfl flat24) rfl ?_
            refine l_nil (hKN _ _ (fun _ h => (h.sel [3, 7, 8, 9, 10, 11, 12, 13] (by decide) rfl)) ?_)
            refine n_step1 (f := 2) (i := 5) rfl (by kernel_rfl) ?_
            refine n_one (i := 5) rfl fun KN hKN => ?_
            refine l_app 5 l ([z2] : List ExprX) encExprX wn rfl rfl rfl (fun _ hM => (RowSl encExprX hM 0 rfl)) Tryd.underlying24 inf26 rfl rfl (by simp only [List.length_append, List.length_cons, List.length_nil]; omega) rfl fun A4 cp4 hc7 hm7 hA7 => ?_
            refine l_opn (fun _ h => h.allSnoc 4 1 ExprX.Ok.loc rfl rfl) ?_
            have hw7 : ∀ x ∈ (l ++ ([z2] : List ExprX)), ExprX.Wf x := fun x hx => (List.mem_append.1 hx).elim (hwf x) fun h => by rw [List.mem_singleton.1 h]; exact hw5
            refine l_nil (hKN _ _ (fun _ h => (h.sel [4, 8, 9, 10, 11, 12, 13, 14] (by decide) rfl)) ?_)
            refine n_run (f := 1) [6] rfl rfl (by kernel_rfl) (by kernel_rfl) (fun _ h => (h.sel [4, 8, 9, 10, 11, 12, 13, 14] (by decide) rfl)) fun KS hKS => ?_
            refine s_val wn (r_fa rfl fld26_6) rfl ?_
            refine s_end hKS ?_
            refine n_step1 (f := 0) (i := 7) rfl (by kernel_rfl) ?_
            refine n_one (i := 7) rfl fun KN hKN => ?_
            refine l_st1 7 wn rfl rfl rfl rfl inf24 rfl rfl ?_
            refine l_nil (hKN _ _ (fun _ h => (h.sel [4, 8, 9, 10, 11, 12, 13, 14] (by decide) rfl)) ?_)
            refine n_done (by kernel_rfl) (e_in_n (e_go hK10 ?_))
            refine c_region ?_
            refine l_val wn (r_addn rfl rfl (by omega)) rfl ?_
            refine l_val wn (r_move rfl) rfl ?_
            refine l_nil (e_round3 (j + 1) (l ++ ([z2] : List ExprX)) (.slice A4 ((l ++ ([z2] : List ExprX)).length) cp4) (sc rfl (sc rfl (sc rfl (sc rfl (sc (ji (by omega)) sn))))) (fun _ h => (h.sel [0, 6, 7, 8, 9, 10, 11, 12, 13, 14] (by decide) rfl)) ?_ ?_)
            · exact ⟨by omega, by simp only [List.length_append, List.length_cons, List.length_nil]; omega, hw7, Pz.bares_take hI1.2.2.2 hs1 hz2⟩
            · omega
      ·
        refine c_exit (e_then_x (e_loop3_x (e_in_hit (e_go hK6 ?_))))
        refine c_seq fun K12 hK12 => ?_
        refine c_region ?_
        refine l_val wn (r_lbn 2 [iV e.kind, iV e.n, iV 0, .string ⟨#[]⟩, Zs, Zs, .slice A1 l.length cp1] rfl rfl rfl rfl agg26 inf26) rfl ?_
        refine l_stn 7 wn rfl rfl rfl inf26 rfl rfl rfl ?_
        refine l_nil (e_go hK12 ?_)
        refine c_ret (e_ret1 (.inl rfl) Tryd.results21 (rv_cell 7 rfl rfl agg26 inf26 rfl) fun w1 hM => ?_)
        have hM := hM.sealRow encExprX (i := 1) rfl rfl
        have hk9 : (l).map ExprX.e = Pz.bares (e.kids.l.map ExprX.e) := hI1.2.2.2.trans (by rw [List.take_of_length_le (by omega)])
        exact hM.retE (ExprX.mk e.kind e.n 0 ⟨#[]⟩ ⟨none, 0, []⟩ ⟨none, 0, []⟩ ⟨A1, cp1, l⟩) rfl (by rw [Pz.bareX_1 h1, ← hk9]; exact ExprX.e_eq _) fun Pb pp => .mk (FlatSl.nil_ _ _ _ _) (FlatSl.nil_ _ _ _ _) (pp.sl 1 rfl) (pp.at_ 0 _ rfl) ⟨by show ByteArray.size ⟨#[]⟩ ≤ _; decide, (fun x hx => by cases hx), (fun x hx => by cases hx)⟩
  ·
    refine c_seq fun K13 hK13 => ?_
    refine c_region ?_
    refine l_val wn (r_eql rfl rfl) rfl ?_
    refine l_val wn (r_assign rfl) rfl ?_
    refine l_nil (e_go hK13 ?_)
    refine c_cond rfl (fun h3 => ?_) (fun h3 => ?_)
    ·
      refine c_seq fun K14 hK14 => ?_
      refine c_nodes (Mem w ⟨no, P0⟩ [slP 3 matchE (.slice e.ms.A e.ms.l.length e.ms.c) e.ms.l, slP 1 strE (.slice e.by_.A e.by_.l.length e.by_.c) e.by_.l, slP 7 exprE (.slice e.kids.A e.kids.l.length e.kids.c) e.kids.l, allP ExprX.Ok e.kids.l, .blk b2 Zx 26, .blk b1 [iV e.kind, iV e.n, iV e.range, .string e.word, .slice e.ms.A e.ms.l.length e.ms.c, .slice e.by_.A e.by_.l.length e.by_.c, .slice e.kids.A e.kids.l.length e.kids.c] 26, okP ExprX.Ok e]) mix (fun _ h => h.drew) rfl ?_
      refine n_run (f := 3) [0, 1, 2, 3, 4] rfl rfl (by kernel_rfl) (by kernel_rfl) (fun _ h => (h.sel [1, 2, 3, 4, 5, 6, 7] (by decide) rfl)) fun KS hKS => ?_
      refine s_val wn (r_fa rfl fld26_3) rfl ?_
      refine s_val wn (r_lb 5 rfl rfl rfl flat9) rfl ?_
      refine s_val wn (r_fa rfl fld26_2) rfl ?_
      refine s_val wn (r_lb 5 rfl rfl rfl flat3) rfl ?_
      refine s_val wn (r_fa rfl fld26_3) rfl ?_
      refine s_end hKS ?_
      refine n_step1 (f := 2) (i := 5) rfl (by kernel_rfl) ?_
      refine n_one (i := 5) rfl fun KN hKN => ?_
      refine l_st1 0 wn rfl rfl rfl rfl inf9 rfl rfl ?_
      refine l_nil (hKN _ _ (fun _ h => (h.sel [1, 2, 3, 4, 5, 6, 7] (by decide) rfl)) ?_)
      refine n_run (f := 1) [6] rfl rfl (by kernel_rfl) (by kernel_rfl) (fun _ h => (h.sel [1, 2, 3, 4, 5, 6, 7] (by decide) rfl)) fun KS hKS => ?_
      refine s_val wn (r_fa rfl fld26_2) rfl ?_
      refine s_end hKS ?_
      refine n_step1 (f := 0) (i := 7) rfl (by kernel_rfl) ?_
      refine n_one (i := 7) rfl fun KN hKN => ?_
      refine l_st1 0 wn rfl rfl rfl rfl inf3 rfl rfl ?_
      refine l_nil (hKN _ _ (fun _ h => (h.sel [1, 2, 3, 4, 5, 6, 7] (by decide) rfl)) ?_)
      refine n_done (by kernel_rfl) (e_go hK14 ?_)
      refine c_seq fun K15 hK15 => ?_
      refine c_region ?_
      have hms5 := (Lg.winR_of (n := e.n) (r := e.range) (w := e.word) (ms := e.ms.l) (by_ := e.by_.l) (by rw [← h3]; exact ho9_)).len
      refine l_val wn (r_fa rfl fld26_4) rfl ?_
      refine l_val wn (r_lb 6 rfl rfl rfl flat22) rfl ?_
      refine l_val wn (r_len rfl Tryd.underlying22) rfl ?_
      refine l_val wn (r_move rfl) rfl ?_
      refine l_nil (e_go hK15 ?_)
      refine c_block ?_
      refine c_mem (fun _ h => h.nilRow Match 74 3 matchE) ?_
      refine c_loop3 (fun (k : Nat) (ms : List Match) (mv : Value) => [(1, .pointer (some ⟨b1, 0, none⟩)), (2, .pointer (some ⟨b2, 0, none⟩)), (3, .pointer (some ⟨b3, 0, none⟩)), (30, .slice e.ms.A e.ms.l.length e.ms.c), (31, iV e.ms.l.length), (32, iV k)]) (fun (k : Nat) (ms : List Match) (mv : Value) => [Row mv 74 3 matchE ms, .blk b3 [iV e.kind, iV 0, iV e.range, .string e.word, mv, Zs, Zs] 26, slP 3 matchE (.slice e.ms.A e.ms.l.length e.ms.c) e.ms.l, slP 1 strE (.slice e.by_.A e.by_.l.length e.by_.c) e.by_.l, slP 7 exprE (.slice e.kids.A e.kids.l.length e.kids.c) e.kids.l, allP ExprX.Ok e.kids.l, .blk b2 Zx 26, .blk b1 [iV e.kind, iV e.n, iV e.range, .string e.word, .slice e.ms.A e.ms.l.length e.ms.c, .slice e.by_.A e.by_.l.length e.by_.c, .slice e.kids.A e.kids.l.length e.kids.c] 26, okP ExprX.Ok e]) (fun (k : Nat) (ms : List Match) (mv : Value) => k ≤ e.ms.l.length ∧ ms.length = k ∧ ms = (e.ms.l.take k).map Pz.bareM) (fun (k : Nat) (ms : List Match) (mv : Value) => e.ms.l.length - k) 0 [] (Zs) (sc rfl (sc rfl (sc rfl (sc rfl (sc rfl (sc (ji (by omega)) sn)))))) (fun _ h => h) ?_ (fun k ms mv hI2 => ?_)
      · exact ⟨by omega, rfl, rfl⟩
      ·
        refine c_open 0 (l := ms) rfl fun A5 cp5 hv2 hc8 hm8 hA8 => ?_
        subst hv2
        refine c_seq fun K16 hK16 => ?_
        refine c_region ?_
        refine l_val wn (r_lss rfl rfl) rfl ?_
        refine l_nil (e_go hK16 ?_)
        refine c_seq fun K17 hK17 => ?_
        refine c_cond rfl (fun h4 => ?_) (fun h4 => ?_)
        ·
          refine c_skip (e_go hK17 ?_)
          refine c_seq fun K18 hK18 => ?_
          refine c_block ?_
          refine c_seq fun K19 hK19 => ?_
          refine c_region ?_
          obtain ⟨ad2, hd2⟩ := hA1 (ne_nil (i := k) (by first | omega | (simp <;> omega)))
          refine l_val wn (r_ia (i := k) rfl hd2 rfl (by omega) (by first | omega | (simp <;> omega)) Tryd.underlying22 inf74) rfl ?_
          obtain ⟨s2, hs2⟩ : ∃ x, e.ms.l[k]? = some x := ⟨_, List.getElem?_eq_getElem (by first | omega | (simp <;> omega))⟩
          refine l_val wn (r_pln 2 [iV s2.kind, .string s2.key, .string s2.val] rfl rfl hd2 hs2 rfl rfl agg74 inf74) rfl ?_
          refine l_alloc wn inf74 rfl fun b5 => ?_
          refine l_stn 0 wn rfl rfl rfl inf74 rfl rfl rfl ?_
          refine l_nil (e_go hK19 ?_)
          refine c_seq fun K20 hK20 => ?_
          refine c_seq fun K21 hK21 => ?_
          refine c_region ?_
          refine l_val wn (r_fa rfl fld74_0) rfl ?_
          refine l_val wn (r_lb 0 rfl rfl rfl flat3) rfl ?_
          refine l_val wn (r_gtr rfl rfl) rfl ?_
          refine l_nil (e_go hK21 ?_)
          refine c_cond rfl (fun h5 => ?_) (fun h5 => ?_)
          ·
            refine c_region ?_
            refine l_val wn (r_fa rfl fld74_2) rfl ?_
            refine l_st1 0 wn rfl rfl rfl rfl inf9 rfl rfl ?_
            refine l_nil (e_go hK20 ?_)
            refine c_region ?_
            refine l_val wn (r_fa rfl fld26_4) rfl ?_
            refine l_val wn (r_lb 2 rfl rfl rfl flat22) rfl ?_
            refine l_val wn (r_lbn 0 [iV s2.kind, .string s2.key, .string ⟨#[]⟩] rfl rfl rfl rfl agg74 inf74) rfl ?_
            refine l_bsL matchE ([(⟨s2.kind, s2.key, ⟨#[]⟩⟩ : Match)] : List Match) wn Tryd.underlying22 inf74 rfl rfl rfl rfl (by decide) (by decide) rfl fun b43 => ?_
            refine l_app 2 ms ([(⟨s2.kind, s2.key, ⟨#[]⟩⟩ : Match)] : List Match) encMatch wn rfl rfl rfl (fun _ hM => (RowSl encMatch hM 0 rfl)) Tryd.underlying22 inf74 rfl rfl (by simp only [List.length_append, List.length_cons, List.length_nil]; omega) rfl fun A6 cp6 hc9 hm9 hA9 => ?_
            refine l_val wn (r_fa rfl fld26_4) rfl ?_
            refine l_st1 3 wn rfl rfl rfl rfl inf22 rfl rfl ?_
            refine l_nil (e_in_n (e_go hK18 ?_))
            refine c_region ?_
            refine l_val wn (r_addn rfl rfl (by omega)) rfl ?_
            refine l_val wn (r_move rfl) rfl ?_
            refine l_nil (e_round3 (k + 1) (ms ++ ([(⟨s2.kind, s2.key, ⟨#[]⟩⟩ : Match)] : List Match)) (.slice A6 ((ms ++ ([(⟨s2.kind, s2.key, ⟨#[]⟩⟩ : Match)] : List Match)).length) cp6) (sc rfl (sc rfl (sc rfl (sc rfl (sc rfl (sc (ji (by omega)) sn)))))) (fun _ h => (h.sel [2, 3, 4, 5, 6, 7, 8, 9, 10] (by decide) rfl)) ?_ ?_)
            · exact ⟨by omega, by simp only [List.length_append, List.length_cons, List.length_nil]; omega, Pz.ms_take hI2.2.2 hs2 (Pz.bareM_yes h5)⟩
            · omega
          ·
            refine c_skip (e_go hK20 ?_)
            refine c_region ?_
            refine l_val wn (r_fa rfl fld26_4) rfl ?_
            refine l_val wn (r_lb 2 rfl rfl rfl flat22) rfl ?_
            refine l_val wn (r_lbn 0 [iV s2.kind, .string s2.key, .string s2.val] rfl rfl rfl rfl agg74 inf74) rfl ?_
            refine l_bsL matchE ([s2] : List Match) wn Tryd.underlying22 inf74 rfl rfl rfl rfl (by decide) (by decide) rfl fun b43 => ?_
            refine l_app 2 ms ([s2] : List Match) encMatch wn rfl rfl rfl (fun _ hM => (RowSl encMatch hM 0 rfl)) Tryd.underlying22 inf74 rfl rfl (by simp only [List.length_append, List.length_cons, List.length_nil]; omega) rfl fun A7 cp7 hc10 hm10 hA10 => ?_
            refine l_val wn (r_fa rfl fld26_4) rfl ?_
            refine l_st1 3 wn rfl rfl rfl rfl inf22 rfl rfl ?_
            refine l_nil (e_in_n (e_go hK18 ?_))
            refine c_region ?_
            refine l_val wn (r_addn rfl rfl (by omega)) rfl ?_
            refine l_val wn (r_move rfl) rfl ?_
            refine l_nil (e_round3 (k + 1) (ms ++ ([s2] : List Match)) (.slice A7 ((ms ++ ([s2] : List Match)).length) cp7) (sc rfl (sc rfl (sc rfl (sc rfl (sc rfl (sc (ji (by omega)) sn)))))) (fun _ h => (h.sel [2, 3, 4, 5, 6, 7, 8, 9, 10] (by decide) rfl)) ?_ ?_)
            · exact ⟨by omega, by simp only [List.length_append, List.length_cons, List.length_nil]; omega, Pz.ms_take hI2.2.2 hs2 (Pz.bareM_no h5)⟩
            · omega
        ·
          refine c_exit (e_then_x (e_loop3_x (e_in_hit (e_in_n (e_go hK3 ?_)))))
          refine c_seq fun K22 hK22 => ?_
          refine c_seq fun K23 hK23 => ?_
          refine c_region ?_
          refine l_val wn (r_fa rfl fld26_6) rfl ?_
          refine l_val wn (r_lb 7 rfl rfl rfl flat24) rfl ?_
          refine l_val wn (r_len rfl Tryd.underlying24) rfl ?_
          refine l_val wn (r_move rfl) rfl ?_
          refine l_nil (e_go hK23 ?_)
          refine c_block ?_
          refine c_mem (fun _ h => h.nilRow ExprX 26 7 exprE) ?_
          refine c_opn (fun _ h => h.all0 ExprX.Ok.loc) ?_
          refine c_loop3 (fun (j : Nat) (l : List ExprX) (kv : Value) => [(2, .pointer (some ⟨b2, 0, none⟩)), (3, .pointer (some ⟨b3, 0, none⟩)), (56, .slice e.kids.A e.kids.l.length e.kids.c), (57, iV e.kids.l.length), (58, iV j)]) (fun (j : Nat) (l : List ExprX) (kv : Value) => [allP ExprX.Ok l, Row kv 26 7 exprE l, Row (.slice A5 ms.length cp5) 74 3 matchE ms, .blk b3 [iV e.kind, iV 0, iV e.range, .string e.word, .slice A5 ms.length cp5, Zs, kv] 26, slP 3 matchE (.slice e.ms.A e.ms.l.length e.ms.c) e.ms.l, slP 1 strE (.slice e.by_.A e.by_.l.length e.by_.c) e.by_.l, slP 7 exprE (.slice e.kids.A e.kids.l.length e.kids.c) e.kids.l, allP ExprX.Ok e.kids.l, .blk b2 Zx 26, .blk b1 [iV e.kind, iV e.n, iV e.range, .string e.word, .slice e.ms.A e.ms.l.length e.ms.c, .slice e.by_.A e.by_.l.length e.by_.c, .slice e.kids.A e.kids.l.length e.kids.c] 26, okP ExprX.Ok e]) (fun (j : Nat) (l : List ExprX) (kv : Value) => j ≤ e.kids.l.length ∧ l.length = j ∧ (∀ x ∈ l, ExprX.Wf x) ∧ l.map ExprX.e = Pz.bares ((e.kids.l.take j).map ExprX.e)) (fun (j : Nat) (l : List ExprX) (kv : Value) => e.kids.l.length - j) 0 [] (Zs) (sc rfl (sc rfl (sc rfl (sc rfl (sc (ji (by omega)) sn))))) (fun _ h => h) ?_ (fun j l kv hI3 => ?_)
          · exact ⟨by omega, rfl, (fun x hx => (by cases hx)), rfl⟩
          ·
            have hwf := hI3.2.2.1
            refine c_open 1 (l := l) rfl fun A8 cp8 hv3 hc11 hm11 hA11 => ?_
            subst hv3
            refine c_seq fun K24 hK24 => ?_
            refine c_region ?_
            refine l_val wn (r_lss rfl rfl) rfl ?_
            refine l_nil (e_go hK24 ?_)
            refine c_seq fun K25 hK25 => ?_
            refine c_cond rfl (fun h6 => ?_) (fun h6 => ?_)
            ·
              refine c_skip (e_go hK25 ?_)
              refine c_seq fun K26 hK26 => ?_
              refine c_block ?_
              refine c_seq fun K27 hK27 => ?_
              refine c_region ?_
              obtain ⟨ad3, hd3⟩ := hA3 (ne_nil (i := j) (by first | omega | (simp <;> omega)))
              refine l_val wn (r_ia (i := j) rfl hd3 rfl (by omega) (by first | omega | (simp <;> omega)) Tryd.underlying24 inf26) rfl ?_
              obtain ⟨s3, hs3⟩ : ∃ x, e.kids.l[j]? = some x := ⟨_, List.getElem?_eq_getElem (by first | omega | (simp <;> omega))⟩
              refine l_val wn (r_pln 6 [iV s3.kind, iV s3.n, iV s3.range, .string s3.word, .slice s3.ms.A s3.ms.l.length s3.ms.c, .slice s3.by_.A s3.by_.l.length s3.by_.c, .slice s3.kids.A s3.kids.l.length s3.kids.c] rfl rfl hd3 hs3 rfl rfl agg26 inf26) rfl ?_
              refine l_alloc wn inf26 rfl fun b7 => ?_
              refine l_stn 0 wn rfl rfl rfl inf26 rfl rfl rfl ?_
              refine l_nil (e_go hK27 ?_)
              refine c_nodes (Mem w ⟨no, P0⟩ [.blk b7 [iV s3.kind, iV s3.n, iV s3.range, .string s3.word, .slice s3.ms.A s3.ms.l.length s3.ms.c, .slice s3.by_.A s3.by_.l.length s3.by_.c, .slice s3.kids.A s3.kids.l.length s3.kids.c] 26, Row (.slice A5 ms.length cp5) 74 3 matchE ms, slP 3 matchE (.slice e.ms.A e.ms.l.length e.ms.c) e.ms.l, slP 1 strE (.slice e.by_.A e.by_.l.length e.by_.c) e.by_.l, slP 7 exprE (.slice e.kids.A e.kids.l.length e.kids.c) e.kids.l, allP ExprX.Ok e.kids.l, .blk b2 Zx 26, .blk b1 [iV e.kind, iV e.n, iV e.range, .string e.word, .slice e.ms.A e.ms.l.length e.ms.c, .slice e.by_.A e.by_.l.length e.by_.c, .slice e.kids.A e.kids.l.length e.kids.c] 26, okP ExprX.Ok e]) mix (fun _ h => h.drew) rfl ?_
              refine n_run (f := 6) [0, 2] rfl rfl (by kernel_rfl) (by kernel_rfl) (fun _ h => (h.sel [0, 3, 5, 6, 7, 8, 9, 10, 11] (by decide) rfl)) fun KS hKS => ?_
              refine s_val wn (r_fa rfl fld26_6) rfl ?_
              refine s_val wn (r_lbn 0 [iV s3.kind, iV s3.n, iV s3.range, .string s3.word, .slice s3.ms.A s3.ms.l.length s3.ms.c, .slice s3.by_.A s3.by_.l.length s3.by_.c, .slice s3.kids.A s3.kids.l.length s3.kids.c] rfl rfl rfl rfl agg26 inf26) rfl ?_
              refine s_end hKS ?_
              refine n_step2 (f := 5) (i := 1) (j := 3) rfl (by kernel_rfl) ?_ ?_
              ·
                refine n_one (i := 1) rfl fun KN hKN => ?_
                refine l_val wn (r_lb 4 rfl rfl rfl flat24) rfl ?_
                refine l_nil (hKN _ _ (fun _ h => (h.sel [0, 3, 5, 6, 7, 8, 9, 10, 11] (by decide) rfl)) ?_)
                refine n_step1 (f := 4) (i := 3) rfl (by kernel_rfl) ?_
                refine n_one (i := 3) rfl fun KN hKN => ?_
                have hw8 := hwe.all _ (List.mem_of_getElem? hs3)
                refine l_opn (fun _ h => h.one 8 ExprX.Ok.loc rfl hs3) ?_
                refine l_callE0 (β := ExprX) (fun z => .agg (exprE z).toArray) (fun z => z.e = Pz.bare s3.e) (fun z S => ExprX.Ok S z) (fun z => ExprX.Ok.loc z) wn rfl Tryd.call21 rfl (fun w1 Pb hM pp => ih s3 (ExprX.kid_lt (List.mem_of_getElem? hs3)) Pb w1 pp.lt (pp.at_ 0 _ rfl) (hs9_ _ (List.mem_of_getElem? hs3))) fun z3 hz3 => ?_
                refine l_get 0 rfl (fun S w h => ExprX.Ok.wf h) fun hw9 => ?_
                refine l_nil (hKN _ _ (fun _ h => (h.sel [2, 5, 7, 8, 9, 10, 11, 12, 13] (by decide) rfl)) ?_)
                refine n_step1 (f := 3) (i := 4) rfl (by kernel_rfl) ?_
                refine n_one (i := 4) rfl fun KN hKN => ?_
                refine l_bsL exprE ([z3] : List ExprX) wn Tryd.underlying24 inf26 rfl rfl rfl rfl (by decide) (by decide) rfl fun b66 => ?_
                refine l_nil (hKN _ _ (fun _ h => (h.sel [3, 6, 8, 9, 10, 11, 12, 13, 14] (by decide) rfl)) ?_)
                refine n_step1 (f := 2) (i := 5) rfl (by kernel_rfl) ?_
                refine n_one (i := 5) rfl fun KN hKN => ?_
                refine l_app 5 l ([z3] : List ExprX) encExprX wn rfl rfl rfl (fun _ hM => (RowSl encExprX hM 0 rfl)) Tryd.underlying24 inf26 rfl rfl (by simp only [List.length_append, List.length_cons, List.length_nil]; omega) rfl fun A9 cp9 hc12 hm12 hA12 => ?_
                refine l_opn (fun _ h => h.allSnoc 4 1 ExprX.Ok.loc rfl rfl) ?_
                have hw10 : ∀ x ∈ (l ++ ([z3] : List ExprX)), ExprX.Wf x := fun x hx => (List.mem_append.1 hx).elim (hwf x) fun h => by rw [List.mem_singleton.1 h]; exact hw9
                refine l_nil (hKN _ _ (fun _ h => (h.sel [4, 7, 9, 10, 11, 12, 13, 14, 15] (by decide) rfl)) ?_)
                refine n_run (f := 1) [6] rfl rfl (by kernel_rfl) (by kernel_rfl) (fun _ h => (h.sel [4, 7, 9, 10, 11, 12, 13, 14, 15] (by decide) rfl)) fun KS hKS => ?_
                refine s_val wn (r_fa rfl fld26_6) rfl ?_
                refine s_end hKS ?_
                refine n_step1 (f := 0) (i := 7) rfl (by kernel_rfl) ?_
                refine n_one (i := 7) rfl fun KN hKN => ?_
                refine l_st1 8 wn rfl rfl rfl rfl inf24 rfl rfl ?_
                refine l_nil (hKN _ _ (fun _ h => (h.sel [4, 7, 9, 10, 11, 12, 13, 14, 15] (by decide) rfl)) ?_)
                refine n_done (by kernel_rfl) (e_in_n (e_go hK26 ?_))
                refine c_region ?_
                refine l_val wn (r_addn rfl rfl (by omega)) rfl ?_
                refine l_val wn (r_move rfl) rfl ?_
                refine l_nil (e_round3 (j + 1) (l ++ ([z3] : List ExprX)) (.slice A9 ((l ++ ([z3] : List ExprX)).length) cp9) (sc rfl (sc rfl (sc rfl (sc rfl (sc (ji (by omega)) sn))))) (fun _ h => (h.sel [0, 6, 7, 8, 9, 10, 11, 12, 13, 14, 15] (by decide) rfl)) ?_ ?_)
                · exact ⟨by omega, by simp only [List.length_append, List.length_cons, List.length_nil]; omega, hw10, Pz.bares_take hI3.2.2.2 hs3 hz3⟩
                · omega
              ·
                refine n_one (i := 3) rfl fun KN hKN => ?_
                have hw11 := hwe.all _ (List.mem_of_getElem? hs3)
                refine l_opn (fun _ h => h.one 8 ExprX.Ok.loc rfl hs3) ?_
                refine l_callE0 (β := ExprX) (fun z => .agg (exprE z).toArray) (fun z => z.e = Pz.bare s3.e) (fun z S => ExprX.Ok S z) (fun z => ExprX.Ok.loc z) wn rfl Tryd.call21 rfl (fun w1 Pb hM pp => ih s3 (ExprX.kid_lt (List.mem_of_getElem? hs3)) Pb w1 pp.lt (pp.at_ 0 _ rfl) (hs9_ _ (List.mem_of_getElem? hs3))) fun z4 hz4 => ?_
                refine l_get 0 rfl (fun S w h => ExprX.Ok.wf h) fun hw12 => ?_
                refine l_nil (hKN _ _ (fun _ h => (h.sel [2, 5, 7, 8, 9, 10, 11, 12, 13] (by decide) rfl)) ?_)
                refine n_step2 (f := 4) (i := 1) (j := 4) rfl (by kernel_rfl) ?_ ?_
                ·
                  refine n_one (i := 1) rfl fun KN hKN => ?_
                  refine l_val wn (r_lb 6 rfl rfl rfl flat24) rfl ?_
                  refine l_nil (hKN _ _ (fun _ h => (h.sel [2, 5, 7, 8, 9, 10, 11, 12, 13] (by decide) rfl)) ?_)
                  refine n_step1 (f := 3) (i := 4) rfl (by kernel_rfl) ?_
                  refine n_one (i := 4) rfl fun KN hKN => ?_
                  refine l_bsL exprE ([z4] : List ExprX) wn Tryd.underlying24 inf26 rfl rfl rfl rfl (by decide) (by decide) rfl fun b66 => ?_
                  refine l_nil (hKN _ _ (fun _ h => (h.sel [3, 6, 8, 9, 10, 11, 12, 13, 14] (by decide) rfl)) ?_)
                  refine n_step1 (f := 2) (i := 5) rfl (by kernel_rfl) ?_
                  refine n_one (i := 5) rfl fun KN hKN => ?_
                  refine l_app 5 l ([z4] : List ExprX) encExprX wn rfl rfl rfl (fun _ hM => (RowSl encExprX hM 0 rfl)) Tryd.underlying24 inf26 rfl rfl (by simp only [List.length_append, List.length_cons, List.length_nil]; omega) rfl fun A10 cp10 hc13 hm13 hA13 => ?_
                  refine l_opn (fun _ h => h.allSnoc 4 1 ExprX.Ok.loc rfl rfl) ?_
                  have hw13 : ∀ x ∈ (l ++ ([z4] : List ExprX)), ExprX.Wf x := fun x hx => (List.mem_append.1 hx).elim (hwf x) fun h => by rw [List.mem_singleton.1 h]; exact hw12
                  refine l_nil (hKN _ _ (fun _ h => (h.sel [4, 7, 9, 10, 11, 12, 13, 14, 15] (by decide) rfl)) ?_)
                  refine n_run (f := 1) [6] rfl rfl (by kernel_rfl) (by kernel_rfl) (fun _ h => (h.sel [4, 7, 9, 10, 11, 12, 13, 14, 15] (by decide) rfl)) fun KS hKS => ?_
                  refine s_val wn (r_fa rfl fld26_6) rfl ?_
                  refine s_end hKS ?_
                  refine n_step1 (f := 0) (i := 7) rfl (by kernel_rfl) ?_
                  refine n_one (i := 7) rfl fun KN hKN => ?_
                  refine l_st1 8 wn rfl rfl rfl rfl inf24 rfl rfl ?_
                  refine l_nil (hKN _ _ (fun _ h => (h.sel [4, 7, 9, 10, 11, 12, 13, 14, 15] (by decide) rfl)) ?_)
                  refine n_done (by kernel_rfl) (e_in_n (e_go hK26 ?_))
                  refine c_region ?_
                  refine l_val wn (r_addn rfl rfl (by omega)) rfl ?_
                  refine l_val wn (r_move rfl) rfl ?_
                  refine l_nil (e_round3 (j + 1) (l ++ ([z4] : List ExprX)) (.slice A10 ((l ++ ([z4] : List ExprX)).length) cp10) (sc rfl (sc rfl (sc rfl (sc rfl (sc (ji (by omega)) sn))))) (fun _ h => (h.sel [0, 6, 7, 8, 9, 10, 11, 12, 13, 14, 15] (by decide) rfl)) ?_ ?_)
                  · exact ⟨by omega, by simp only [List.length_append, List.length_cons, List.length_nil]; omega, hw13, Pz.bares_take hI3.2.2.2 hs3 hz4⟩
                  · omega
                ·
                  refine n_one (i := 4) rfl fun KN hKN => ?_
                  refine l_bsL exprE ([z4] : List ExprX) wn Tryd.underlying24 inf26 rfl rfl rfl rfl (by decide) (by decide) rfl fun b66 => ?_
                  refine l_nil (hKN _ _ (fun _ h => (h.sel [3, 6, 8, 9, 10, 11, 12, 13, 14] (by decide) rfl)) ?_)
                  refine n_step1 (f := 3) (i := 1) rfl (by kernel_rfl) ?_
                  refine n_one (i := 1) rfl fun KN hKN => ?_
                  refine l_val wn (r_lb 7 rfl rfl rfl flat24) rfl ?_
                  refine l_nil (hKN _ _ (fun _ h => (h.sel [3, 6, 8, 9, 10, 11, 12, 13, 14] (by decide) rfl)) ?_)
                  refine n_step1 (f := 2) (i := 5) rfl (by kernel_rfl) ?_
                  refine n_one (i := 5) rfl fun KN hKN => ?_
                  refine l_app 5 l ([z4] : List ExprX) encExprX wn rfl rfl rfl (fun _ hM => (RowSl encExprX hM 0 rfl)) Tryd.underlying24 inf26 rfl rfl (by simp only [List.length_append, List.length_cons, List.length_nil]; omega) rfl fun A11 cp11 hc14 hm14 hA14 => ?_
                  refine l_opn (fun _ h => h.allSnoc 4 1 ExprX.Ok.loc rfl rfl) ?_
                  have hw14 : ∀ x ∈ (l ++ ([z4] : List ExprX)), ExprX.Wf x := fun x hx => (List.mem_append.1 hx).elim (hwf x) fun h => by rw [List.mem_singleton.1 h]; exact hw12
                  refine l_nil (hKN _ _ (fun _ h => (h.sel [4, 7, 9, 10, 11, 12, 13, 14, 15] (by decide) rfl)) ?_)
                  refine n_run (f := 1) [6] rfl rfl (by kernel_rfl) (by kernel_rfl) (fun _ h => (h.sel [4, 7, 9, 10, 11, 12, 13, 14, 15] (by decide) rfl)) fun KS hKS => ?_
                  refine s_val wn (r_fa rfl fld26_6) rfl ?_
                  refine s_end hKS ?_
                  refine n_step1 (f := 0) (i := 7) rfl (by kernel_rfl) ?_
                  refine n_one (i := 7) rfl fun KN hKN => ?_
                  refine l_st1 8 wn rfl rfl rfl rfl inf24 rfl rfl ?_
                  refine l_nil (hKN _ _ (fun _ h => (h.sel [4, 7, 9, 10, 11, 12, 13, 14, 15] (by decide) rfl)) ?_)
                  refine n_done (by kernel_rfl) (e_in_n (e_go hK26 ?_))
                  refine c_region ?_
                  refine l_val wn (r_addn rfl rfl (by omega)) rfl ?_
                  refine l_val wn (r_move rfl) rfl ?_
                  refine l_nil (e_round3 (j + 1) (l ++ ([z4] : List ExprX)) (.slice A11 ((l ++ ([z4] : List ExprX)).length) cp11) (sc rfl (sc rfl (sc rfl (sc rfl (sc (ji (by omega)) sn))))) (fun _ h => (h.sel [0, 6, 7, 8, 9, 10, 11, 12, 13, 14, 15] (by decide) rfl)) ?_ ?_)
                  · exact ⟨by omega, by simp only [List.length_append, List.length_cons, List.length_nil]; omega, hw14, Pz.bares_take hI3.2.2.2 hs3 hz4⟩
                  · omega
            ·
              refine c_exit (e_then_x (e_loop3_x (e_in_hit (e_go hK22 ?_))))
              refine c_seq fun K28 hK28 => ?_
              refine c_region ?_
              refine l_val wn (r_lbn 3 [iV e.kind, iV 0, iV e.range, .string e.word, .slice A5 ms.length cp5, Zs, .slice A8 l.length cp8] rfl rfl rfl rfl agg26 inf26) rfl ?_
              refine l_stn 8 wn rfl rfl rfl inf26 rfl rfl rfl ?_
              refine l_nil (e_go hK28 ?_)
              refine c_ret (e_ret1 (.inl rfl) Tryd.results21 (rv_cell 8 rfl rfl agg26 inf26 rfl) fun w1 hM => ?_)
              have hM := hM.sealRow encMatch (i := 2) rfl rfl
              have hM := hM.sealRow encExprX (i := 1) rfl rfl
              have hk9 : (l).map ExprX.e = Pz.bares (e.kids.l.map ExprX.e) := hI3.2.2.2.trans (by rw [List.take_of_length_le (by omega)])
              have hm9 : ms = e.ms.l.map Pz.bareM := hI2.2.2.trans (by rw [List.take_of_length_le (by omega)])
              have hms9 : ∀ x ∈ ms, x.key.size ≤ 9223372036854775807 ∧ x.val.size ≤ 9223372036854775807 := by rw [hm9]; exact Pz.bareMs_str hwe.str.ms
              exact hM.retE (ExprX.mk e.kind 0 e.range e.word ⟨A5, cp5, ms⟩ ⟨none, 0, []⟩ ⟨A8, cp8, l⟩) rfl (by rw [Pz.bareX_2 h1 h3, ← hk9, ← hm9]; exact ExprX.e_eq _) fun Pb pp => .mk (pp.sl 2 rfl) (FlatSl.nil_ _ _ _ _) (pp.sl 1 rfl) (pp.at_ 0 _ rfl) ⟨hwe.str.word, hms9, (fun x hx => by cases hx)⟩
    ·
      refine c_seq fun K29 hK29 => ?_
      refine c_region ?_
      refine l_val wn (r_eql rfl rfl) rfl ?_
      refine l_val wn (r_assign rfl) rfl ?_
      refine l_nil (e_go hK29 ?_)
      refine c_cond rfl (fun h7 => ?_) (fun h7 => ?_)
      ·
        refine c_nodes (Mem w ⟨no, P0⟩ [slP 3 matchE (.slice e.ms.A e.ms.l.length e.ms.c) e.ms.l, slP 1 strE (.slice e.by_.A e.by_.l.length e.by_.c) e.by_.l, slP 7 exprE (.slice e.kids.A e.kids.l.length e.kids.c) e.kids.l, allP ExprX.Ok e.kids.l, .blk b2 Zx 26, .blk b1 [iV e.kind, iV e.n, iV e.range, .string e.word, .slice e.ms.A e.ms.l.length e.ms.c, .slice e.by_.A e.by_.l.length e.by_.c, .slice e.kids.A e.kids.l.length e.kids.c] 26, okP ExprX.Ok e]) mix (fun _ h => h.drew) rfl ?_
        refine n_run (f := 3) [0, 1, 2, 3, 4] rfl rfl (by kernel_rfl) (by kernel_rfl) (fun _ h => (h.sel [1, 2, 3, 4, 5, 6, 7] (by decide) rfl)) fun KS hKS => ?_
        refine s_val wn (r_fa rfl fld26_3) rfl ?_
        refine s_val wn (r_lb 5 rfl rfl rfl flat9) rfl ?_
        refine s_val wn (r_fa rfl fld26_5) rfl ?_
        refine s_val wn (r_lb 5 rfl rfl rfl flat23) rfl ?_
        refine s_val wn (r_fa rfl fld26_3) rfl ?_
        refine s_end hKS ?_
        refine n_step1 (f := 2) (i := 5) rfl (by kernel_rfl) ?_
        refine n_one (i := 5) rfl fun KN hKN => ?_
        refine l_st1 0 wn rfl rfl rfl rfl inf9 rfl rfl ?_
        refine l_nil (hKN _ _ (fun _ h => (h.sel [1, 2, 3, 4, 5, 6, 7] (by decide) rfl)) ?_)
        refine n_run (f := 1) [6] rfl rfl (by kernel_rfl) (by kernel_rfl) (fun _ h => (h.sel [1, 2, 3, 4, 5, 6, 7] (by decide) rfl)) fun KS hKS => ?_
        refine s_val wn (r_fa rfl fld26_5) rfl ?_
        refine s_end hKS ?_
        refine n_step1 (f := 0) (i := 7) rfl (by kernel_rfl) ?_
        refine n_one (i := 7) rfl fun KN hKN => ?_
        refine l_st1 0 wn rfl rfl rfl rfl inf23 rfl rfl ?_
        refine l_nil (hKN _ _ (fun _ h => (h.sel [1, 2, 3, 4, 5, 6, 7] (by decide) rfl)) ?_)
        refine n_done (by kernel_rfl) (e_in_n (e_go hK3 ?_))
        refine c_seq fun K30 hK30 => ?_
        refine c_seq fun K31 hK31 => ?_
        refine c_region ?_
        refine l_val wn (r_fa rfl fld26_6) rfl ?_
        refine l_val wn (r_lb 6 rfl rfl rfl flat24) rfl ?_
        refine l_val wn (r_len rfl Tryd.underlying24) rfl ?_
        refine l_val wn (r_move rfl) rfl ?_
        refine l_nil (e_go hK31 ?_)
        refine c_block ?_
        refine c_mem (fun _ h => h.nilRow ExprX 26 7 exprE) ?_
        refine c_opn (fun _ h => h.all0 ExprX.Ok.loc) ?_
        refine c_loop3 (fun (j : Nat) (l : List ExprX) (kv : Value) => [(2, .pointer (some ⟨b2, 0, none⟩)), (3, .pointer (some ⟨b3, 0, none⟩)), (56, .slice e.kids.A e.kids.l.length e.kids.c), (57, iV e.kids.l.length), (58, iV j)]) (fun (j : Nat) (l : List ExprX) (kv : Value) => [allP ExprX.Ok l, Row kv 26 7 exprE l, .blk b3 [iV e.kind, iV 0, iV 0, .string e.word, Zs, .slice e.by_.A e.by_.l.length e.by_.c, kv] 26, slP 3 matchE (.slice e.ms.A e.ms.l.length e.ms.c) e.ms.l, slP 1 strE (.slice e.by_.A e.by_.l.length e.by_.c) e.by_.l, slP 7 exprE (.slice e.kids.A e.kids.l.length e.kids.c) e.kids.l, allP ExprX.Ok e.kids.l, .blk b2 Zx 26, .blk b1 [iV e.kind, iV e.n, iV e.range, .string e.word, .slice e.ms.A e.ms.l.length e.ms.c, .slice e.by_.A e.by_.l.length e.by_.c, .slice e.kids.A e.kids.l.length e.kids.c] 26, okP ExprX.Ok e]) (fun (j : Nat) (l : List ExprX) (kv : Value) => j ≤ e.kids.l.length ∧ l.length = j ∧ (∀ x ∈ l, ExprX.Wf x) ∧ l.map ExprX.e = Pz.bares ((e.kids.l.take j).map ExprX.e)) (fun (j : Nat) (l : List ExprX) (kv : Value) => e.kids.l.length - j) 0 [] (Zs) (sc rfl (sc rfl (sc rfl (sc rfl (sc (ji (by omega)) sn))))) (fun _ h => h) ?_ (fun j l kv hI4 => ?_)
        · exact ⟨by omega, rfl, (fun x hx => (by cases hx)), rfl⟩
        ·
          have hwf := hI4.2.2.1
          refine c_open 1 (l := l) rfl fun A12 cp12 hv4 hc15 hm15 hA15 => ?_
          subst hv4
          refine c_seq fun K32 hK32 => ?_
          refine c_region ?_
          refine l_val wn (r_lss rfl rfl) rfl ?_
          refine l_nil (e_go hK32 ?_)
          refine c_seq fun K33 hK33 => ?_
          refine c_cond rfl (fun h8 => ?_) (fun h8 => ?_)
          ·
            refine c_skip (e_go hK33 ?_)
            refine c_seq fun K34 hK34 => ?_
            refine c_block ?_
            refine c_seq fun K35 hK35 => ?_
            refine c_region ?_
            obtain ⟨ad4, hd4⟩ := hA3 (ne_nil (i := j) (by first | omega | (simp <;> omega)))
            refine l_val wn (r_ia (i := j) rfl hd4 rfl (by omega) (by first | omega | (simp <;> omega)) Tryd.underlying24 inf26) rfl ?_
            obtain ⟨s4, hs4⟩ : ∃ x, e.kids.l[j]? = some x := ⟨_, List.getElem?_eq_getElem (by first | omega | (simp <;> omega))⟩
            refine l_val wn (r_pln 5 [iV s4.kind, iV s4.n, iV s4.range, .string s4.word, .slice s4.ms.A s4.ms.l.length s4.ms.c, .slice s4.by_.A s4.by_.l.length s4.by_.c, .slice s4.kids.A s4.kids.l.length s4.kids.c] rfl rfl hd4 hs4 rfl rfl agg26 inf26) rfl ?_
            refine l_alloc wn inf26 rfl fun b7 => ?_
            refine l_stn 0 wn rfl rfl rfl inf26 rfl rfl rfl ?_
            refine l_nil (e_go hK35 ?_)
            refine c_nodes (Mem w ⟨no, P0⟩ [.blk b7 [iV s4.kind, iV s4.n, iV s4.range, .string s4.word, .slice s4.ms.A s4.ms.l.length s4.ms.c, .slice s4.by_.A s4.by_.l.length s4.by_.c, .slice s4.kids.A s4.kids.l.length s4.kids.c] 26, slP 3 matchE (.slice e.ms.A e.ms.l.length e.ms.c) e.ms.l, slP 1 strE (.slice e.by_.A e.by_.l.length e.by_.c) e.by_.l, slP 7 exprE (.slice e.kids.A e.kids.l.length e.kids.c) e.kids.l, allP ExprX.Ok e.kids.l, .blk b2 Zx 26, .blk b1 [iV e.kind, iV e.n, iV e.range, .string e.word, .slice e.ms.A e.ms.l.length e.ms.c, .slice e.by_.A e.by_.l.length e.by_.c, .slice e.kids.A e.kids.l.length e.kids.c] 26, okP ExprX.Ok e]) mix (fun _ h => h.drew) rfl ?_
            refine n_run (f := 6) [0, 2] rfl rfl (by kernel_rfl) (by kernel_rfl) (fun _ h => (h.sel [0, 4, 5, 6, 7, 8, 9, 10] (by decide) rfl)) fun KS hKS => ?_
            refine s_val wn (r_fa rfl fld26_6) rfl ?_
            refine s_val wn (r_lbn 0 [iV s4.kind, iV s4.n, iV s4.range, .string s4.word, .slice s4.ms.A s4.ms.l.length s4.ms.c, .slice s4.by_.A s4.by_.l.length s4.by_.c, .slice s4.kids.A s4.kids.l.length s4.kids.c] rfl rfl rfl rfl agg26 inf26) rfl ?_
            refine s_end hKS ?_
            refine n_step2 (f := 5) (i := 1) (j := 3) rfl (by kernel_rfl) ?_ ?_
            ·
              refine n_one (i := 1) rfl fun KN hKN => ?_
              refine l_val wn (r_lb 3 rfl rfl rfl flat24) rfl ?_
              refine l_nil (hKN _ _ (fun _ h => (h.sel [0, 4, 5, 6, 7, 8, 9, 10] (by decide) rfl)) ?_)
              refine n_step1 (f := 4) (i := 3) rfl (by kernel_rfl) ?_
              refine n_one (i := 3) rfl fun KN hKN => ?_
              have hw15 := hwe.all _ (List.mem_of_getElem? hs4)
              refine l_opn (fun _ h => h.one 7 ExprX.Ok.loc rfl hs4) ?_
              refine l_callE0 (β := ExprX) (fun z => .agg (exprE z).toArray) (fun z => z.e = Pz.bare s4.e) (fun z S => ExprX.Ok S z) (fun z => ExprX.Ok.loc z) wn rfl Tryd.call21 rfl (fun w1 Pb hM pp => ih s4 (ExprX.kid_lt (List.mem_of_getElem? hs4)) Pb w1 pp.lt (pp.at_ 0 _ rfl) (hs9_ _ (List.mem_of_getElem? hs4))) fun z5 hz5 => ?_
              refine l_get 0 rfl (fun S w h => ExprX.Ok.wf h) fun hw16 => ?_
              refine l_nil (hKN _ _ (fun _ h => (h.sel [2, 6, 7, 8, 9, 10, 11, 12] (by decide) rfl)) ?_)
              refine n_step1 (f := 3) (i := 4) rfl (by kernel_rfl) ?_
              refine n_one (i := 4) rfl fun KN hKN => ?_
              refine l_bsL exprE ([z5] : List ExprX) wn Tryd.underlying24 inf26 rfl rfl rfl rfl (by decide) (by decide) rfl fun b66 => ?_
              refine l_nil (hKN _ _ (fun _ h => (h.sel [3, 7, 8, 9, 10, 11, 12, 13] (by decide) rfl)) ?_)
              refine n_step1 (f := 2) (i := 5) rfl (by kernel_rfl) ?_
              refine n_one (i := 5) rfl fun KN hKN => ?_
              refine l_app 5 l ([z5] : List ExprX) encExprX wn rfl rfl rfl (fun _ hM => (RowSl encExprX hM 0 rfl)) Tryd.underlying24 inf26 rfl rfl (by simp only [List.length_append, List.length_cons, List.length_nil]; omega) rfl fun A13 cp13 hc16 hm16 hA16 => ?_
              refine l_opn (fun _ h => h.allSnoc 4 1 ExprX.Ok.loc rfl rfl) ?_
              have hw17 : ∀ x ∈ (l ++ ([z5] : List ExprX)), ExprX.Wf x := fun x hx => (List.mem_append.1 hx).elim (hwf x) fun h => by rw [List.mem_singleton.1 h]; exact hw16
              refine l_nil (hKN _ _ (fun _ h => (h.sel [4, 8, 9, 10, 11, 12, 13, 14] (by decide) rfl)) ?_)
              refine n_run (f := 1) [6] rfl rfl (by kernel_rfl) (by kernel_rfl) (fun _ h => (h.sel [4, 8, 9, 10, 11, 12, 13, 14] (by decide) rfl)) fun KS hKS => ?_
              refine s_val wn (r_fa rfl fld26_6) rfl ?_
              refine s_end hKS ?_
              refine n_step1 (f := 0) (i := 7) rfl (by kernel_rfl) ?_
              refine n_one (i := 7) rfl fun KN hKN => ?_
              refine l_st1 7 wn rfl rfl rfl rfl inf24 rfl rfl ?_
              refine l_nil (hKN _ _ (fun _ h => (h.sel [4, 8, 9, 10, 11, 12, 13, 14] (by decide) rfl)) ?_)
              refine n_done (by kernel_rfl) (e_in_n (e_go hK34 ?_))
              refine c_region ?_
              refine l_val wn (r_addn rfl rfl (by omega)) rfl ?_
              refine l_val wn (r_move rfl) rfl ?_
              refine l_nil (e_round3 (j + 1) (l ++ ([z5] : List ExprX)) (.slice A13 ((l ++ ([z5] : List ExprX)).length) cp13) (sc rfl (sc rfl (sc rfl (sc rfl (sc (ji (by omega)) sn))))) (fun _ h => (h.sel [0, 6, 7, 8, 9, 10, 11, 12, 13, 14] (by decide) rfl)) ?_ ?_)
              · exact ⟨by omega, by simp only [List.length_append, List.length_cons, List.length_nil]; omega, hw17, Pz.bares_take hI4.2.2.2 hs4 hz5⟩
              · omega
            ·
              refine n_one (i := 3) rfl fun KN hKN => ?_
              have hw18 := hwe.all _ (List.mem_of_getElem? hs4)
              refine l_opn (fun _ h => h.one 7 ExprX.Ok.loc rfl hs4) ?_
              refine l_callE0 (β := ExprX) (fun z => .agg (exprE z).toArray) (fun z => z.e = Pz.bare s4.e) (fun z S => ExprX.Ok S z) (fun z => ExprX.Ok.loc z) wn rfl Tryd.call21 rfl (fun w1 Pb hM pp => ih s4 (ExprX.kid_lt (List.mem_of_getElem? hs4)) Pb w1 pp.lt (pp.at_ 0 _ rfl) (hs9_ _ (List.mem_of_getElem? hs4))) fun z6 hz6 => ?_
              refine l_get 0 rfl (fun S w h => ExprX.Ok.wf h) fun hw19 => ?_
              refine l_nil (hKN _ _ (fun _ h => (h.sel [2, 6, 7, 8, 9, 10, 11, 12] (by decide) rfl)) ?_)
              refine n_step2 (f := 4) (i := 1) (j := 4) rfl (by kernel_rfl) ?_ ?_
              ·
                refine n_one (i := 1) rfl fun KN hKN => ?_
                refine l_val wn (r_lb 5 rfl rfl rfl flat24) rfl ?_
                refine l_nil (hKN _ _ (fun _ h => (h.sel [2, 6, 7, 8, 9, 10, 11, 12] (by decide) rfl)) ?_)
                refine n_step1 (f := 3) (i := 4) rfl (by kernel_rfl) ?_
                refine n_one (i := 4) rfl fun KN hKN => ?_
                refine l_bsL exprE ([z6] : List ExprX) wn Tryd.underlying24 inf26 rfl rfl rfl rfl (by decide) (by decide) rfl fun b66 => ?_
                refine l_nil (hKN _ _ (fun _ h => (h.sel [3, 7, 8, 9, 10, 11, 12, 13] (by decide) rfl)) ?_)
                refine n_step1 (f := 2) (i := 5) rfl (by kernel_rfl) ?_
                refine n_one (i := 5) rfl fun KN hKN => ?_
                refine l_app 5 l ([z6] : List ExprX) encExprX wn rfl rfl rfl (fun _ hM => (RowSl encExprX hM 0 rfl)) Tryd.underlying24 inf26 rfl rfl (by simp only [List.length_append, List.length_cons, List.length_nil]; omega) rfl fun A14 cp14 hc17 hm17 hA17 => ?_
                refine l_opn (fun _ h => h.allSnoc 4 1 ExprX.Ok.loc rfl rfl) ?_
                have hw20 : ∀ x ∈ (l ++ ([z6] : List ExprX)), ExprX.Wf x := fun x hx => (List.mem_append.1 hx).elim (hwf x) fun h => by rw [List.mem_singleton.1 h]; exact hw19
                refine l_nil (hKN _ _ (fun _ h => (h.sel [4, 8, 9, 10, 11, 12, 13, 14] (by decide) rfl)) ?_)
                refine n_run (f := 1) [6] rfl rfl (by kernel_rfl) (by kernel_rfl) (fun _ h => (h.sel [4, 8, 9, 10, 11, 12, 13, 14] (by decide) rfl)) fun KS hKS => ?_
                refine s_val wn (r_fa rfl fld26_6) rfl ?_
                refine s_end hKS ?_
                refine n_step1 (f := 0) (i := 7) rfl (by kernel_rfl) ?_
                refine n_one (i := 7) rfl fun KN hKN => ?_
                refine l_st1 7 wn rfl rfl rfl rfl inf24 rfl rfl ?_
                refine l_nil (hKN _ _ (fun _ h => (h.sel [4, 8, 9, 10, 11, 12, 13, 14] (by decide) rfl)) ?_)
                refine n_done (by kernel_rfl) (e_in_n (e_go hK34 ?_))
                refine c_region ?_
                refine l_val wn (r_addn rfl rfl (by omega)) rfl ?_
                refine l_val wn (r_move rfl) rfl ?_
                refine l_nil (e_round3 (j + 1) (l ++ ([z6] : List ExprX)) (.slice A14 ((l ++ ([z6] : List ExprX)).length) cp14) (sc rfl (sc rfl (sc rfl (sc rfl (sc (ji (by omega)) sn))))) (fun _ h => (h.sel [0, 6, 7, 8, 9, 10, 11, 12, 13, 14] (by decide) rfl)) ?_ ?_)
                · exact ⟨by omega, by simp only [List.length_append, List.length_cons, List.length_nil]; omega, hw20, Pz.bares_take hI4.2.2.2 hs4 hz6⟩
                · omega
              ·
                refine n_one (i := 4) rfl fun KN hKN => ?_
                refine l_bsL exprE ([z6] : List ExprX) wn Tryd.underlying24 inf26 rfl rfl rfl rfl (by decide) (by decide) rfl fun b66 => ?_
                refine l_nil (hKN _ _ (fun _ h => (h.sel [3, 7, 8, 9, 10, 11, 12, 13] (by decide) rfl)) ?_)
                refine n_step1 (f := 3) (i := 1) rfl (by kernel_rfl) ?_
                refine n_one (i := 1) rfl fun KN hKN => ?_
                refine l_val wn (r_lb 6 rfl rfl rfl flat24) rfl ?_
                refine l_nil (hKN _ _ (fun _ h => (h.sel [3, 7, 8, 9, 10, 11, 12, 13] (by decide) rfl)) ?_)
                refine n_step1 (f := 2) (i := 5) rfl (by kernel_rfl) ?_
                refine n_one (i := 5) rfl fun KN hKN => ?_
                refine l_app 5 l ([z6] : List ExprX) encExprX wn rfl rfl rfl (fun _ hM => (RowSl encExprX hM 0 rfl)) Tryd.underlying24 inf26 rfl rfl (by simp only [List.length_append, List.length_cons, List.length_nil]; omega) rfl fun A15 cp15 hc18 hm18 hA18 => ?_
                refine l_opn (fun _ h => h.allSnoc 4 1 ExprX.Ok.loc rfl rfl) ?_
                have hw21 : ∀ x ∈ (l ++ ([z6] : List ExprX)), ExprX.Wf x := fun x hx => (List.mem_append.1 hx).elim (hwf x) fun h => by rw [List.mem_singleton.1 h]; exact hw19
                refine l_nil (hKN _ _ (fun _ h => (h.sel [4, 8, 9, 10, 11, 12, 13, 14] (by decide) rfl)) ?_)
                refine n_run (f := 1) [6] rfl rfl (by kernel_rfl) (by kernel_rfl) (fun _ h => (h.sel [4, 8, 9, 10, 11, 12, 13, 14] (by decide) rfl)) fun KS hKS => ?_
                refine s_val wn (r_fa rfl fld26_6) rfl ?_
                refine s_end hKS ?_
                refine n_step1 (f := 0) (i := 7) rfl (by kernel_rfl) ?_
                refine n_one (i := 7) rfl fun KN hKN => ?_
                refine l_st1 7 wn rfl rfl rfl rfl inf24 rfl rfl ?_
                refine l_nil (hKN _ _ (fun _ h => (h.sel [4, 8, 9, 10, 11, 12, 13, 14] (by decide) rfl)) ?_)
                refine n_done (by kernel_rfl) (e_in_n (e_go hK34 ?_))
                refine c_region ?_
                refine l_val wn (r_addn rfl rfl (by omega)) rfl ?_
                refine l_val wn (r_move rfl) rfl ?_
                refine l_nil (e_round3 (j + 1) (l ++ ([z6] : List ExprX)) (.slice A15 ((l ++ ([z6] : List ExprX)).length) cp15) (sc rfl (sc rfl (sc rfl (sc rfl (sc (ji (by omega)) sn))))) (fun _ h => (h.sel [0, 6, 7, 8, 9, 10, 11, 12, 13, 14] (by decide) rfl)) ?_ ?_)
                · exact ⟨by omega, by simp only [List.length_append, List.length_cons, List.length_nil]; omega, hw21, Pz.bares_take hI4.2.2.2 hs4 hz6⟩
                · omega
          ·
            refine c_exit (e_then_x (e_loop3_x (e_in_hit (e_go hK30 ?_))))
            refine c_seq fun K36 hK36 => ?_
            refine c_region ?_
            refine l_val wn (r_lbn 2 [iV e.kind, iV 0, iV 0, .string e.word, Zs, .slice e.by_.A e.by_.l.length e.by_.c, .slice A12 l.length cp12] rfl rfl rfl rfl agg26 inf26) rfl ?_
            refine l_stn 7 wn rfl rfl rfl inf26 rfl rfl rfl ?_
            refine l_nil (e_go hK36 ?_)
            refine c_ret (e_ret1 (.inl rfl) Tryd.results21 (rv_cell 7 rfl rfl agg26 inf26 rfl) fun w1 hM => ?_)
            have hM := hM.sealRow encExprX (i := 1) rfl rfl
            have hk9 : (l).map ExprX.e = Pz.bares (e.kids.l.map ExprX.e) := hI4.2.2.2.trans (by rw [List.take_of_length_le (by omega)])
            exact hM.retE (ExprX.mk e.kind 0 0 e.word ⟨none, 0, []⟩ ⟨e.by_.A, e.by_.c, e.by_.l⟩ ⟨A12, cp12, l⟩) rfl (by rw [Pz.bareX_3 h1 h3 h7, ← hk9]; exact ExprX.e_eq _) fun Pb pp => .mk (FlatSl.nil_ _ _ _ _) (pp.sl 4 rfl) (pp.sl 1 rfl) (pp.at_ 0 _ rfl) ⟨hwe.str.word, (fun x hx => by cases hx), hwe.str.by_⟩
      ·
        refine c_region ?_
        refine l_val wn (r_fa rfl fld26_3) rfl ?_
        refine l_val wn (r_lb 6 rfl rfl rfl flat9) rfl ?_
        refine l_val wn (r_fa rfl fld26_3) rfl ?_
        refine l_st1 0 wn rfl rfl rfl rfl inf9 rfl rfl ?_
        refine l_nil (e_in_n (e_go hK3 ?_))
        refine c_seq fun K37 hK37 => ?_
        refine c_seq fun K38 hK38 => ?_
        refine c_region ?_
        refine l_val wn (r_fa rfl fld26_6) rfl ?_
        refine l_val wn (r_lb 6 rfl rfl rfl flat24) rfl ?_
        refine l_val wn (r_len rfl Tryd.underlying24) rfl ?_
        refine l_val wn (r_move rfl) rfl ?_
        refine l_nil (e_go hK38 ?_)
        refine c_block ?_
        refine c_mem (fun _ h => h.nilRow ExprX 26 7 exprE) ?_
        refine c_opn (fun _ h => h.all0 ExprX.Ok.loc) ?_
        refine c_loop3 (fun (j : Nat) (l : List ExprX) (kv : Value) => [(2, .pointer (some ⟨b2, 0, none⟩)), (3, .pointer (some ⟨b3, 0, none⟩)), (56, .slice e.kids.A e.kids.l.length e.kids.c), (57, iV e.kids.l.length), (58, iV j)]) (fun (j : Nat) (l : List ExprX) (kv : Value) => [allP ExprX.Ok l, Row kv 26 7 exprE l, .blk b3 [iV e.kind, iV 0, iV 0, .string e.word, Zs, Zs, kv] 26, slP 3 matchE (.slice e.ms.A e.ms.l.length e.ms.c) e.ms.l, slP 1 strE (.slice e.by_.A e.by_.l.length e.by_.c) e.by_.l, slP 7 exprE (.slice e.kids.A e.kids.l.length e.kids.c) e.kids.l, allP ExprX.Ok e.kids.l, .blk b2 Zx 26, .blk b1 [iV e.kind, iV e.n, iV e.range, .string e.word, .slice e.ms.A e.ms.l.length e.ms.c, .slice e.by_.A e.by_.l.length e.by_.c, .slice e.kids.A e.kids.l.length e.kids.c] 26, okP ExprX.Ok e]) (fun (j : Nat) (l : List ExprX) (kv : Value) => j ≤ e.kids.l.length ∧ l.length = j ∧ (∀ x ∈ l, ExprX.Wf x) ∧ l.map ExprX.e = Pz.bares ((e.kids.l.take j).map ExprX.e)) (fun (j : Nat) (l : List ExprX) (kv : Value) => e.kids.l.length - j) 0 [] (Zs) (sc rfl (sc rfl (sc rfl (sc rfl (sc (ji (by omega)) sn))))) (fun _ h => h) ?_ (fun j l kv hI5 => ?_)
        · exact ⟨by omega, rfl, (fun x hx => (by cases hx)), rfl⟩
        ·
          have hwf := hI5.2.2.1
          refine c_open 1 (l := l) rfl fun A16 cp16 hv5 hc19 hm19 hA19 => ?_
          subst hv5
          refine c_seq fun K39 hK39 => ?_
          refine c_region ?_
          refine l_val wn (r_lss rfl rfl) rfl ?_
          refine l_nil (e_go hK39 ?_)
          refine c_seq fun K40 hK40 => ?_
          refine c_cond rfl (fun h9 => ?_) (fun h9 => ?_)
          ·
            refine c_skip (e_go hK40 ?_)
            refine c_seq fun K41 hK41 => ?_
            refine c_block ?_
            refine c_seq fun K42 hK42 => ?_
            refine c_region ?_
            obtain ⟨ad5, hd5⟩ := hA3 (ne_nil (i := j) (by first | omega | (simp <;> omega)))
            refine l_val wn (r_ia (i := j) rfl hd5 rfl (by omega) (by first | omega | (simp <;> omega)) Tryd.underlying24 inf26) rfl ?_
            obtain ⟨s5, hs5⟩ : ∃ x, e.kids.l[j]? = some x := ⟨_, List.getElem?_eq_getElem (by first | omega | (simp <;> omega))⟩
            refine l_val wn (r_pln 5 [iV s5.kind, iV s5.n, iV s5.range, .string s5.word, .slice s5.ms.A s5.ms.l.length s5.ms.c, .slice s5.by_.A s5.by_.l.length s5.by_.c, .slice s5.kids.A s5.kids.l.length s5.kids.c] rfl rfl hd5 hs5 rfl rfl agg26 inf26) rfl ?_
            refine l_alloc wn inf26 rfl fun b7 => ?_
            refine l_stn 0 wn rfl rfl rfl inf26 rfl rfl rfl ?_
            refine l_nil (e_go hK42 ?_)
            refine c_nodes (Mem w ⟨no, P0⟩ [.blk b7 [iV s5.kind, iV s5.n, iV s5.range, .string s5.word, .slice s5.ms.A s5.ms.l.length s5.ms.c, .slice s5.by_.A s5.by_.l.length s5.by_.c, .slice s5.kids.A s5.kids.l.length s5.kids.c] 26, slP 3 matchE (.slice e.ms.A e.ms.l.length e.ms.c) e.ms.l, slP 1 strE (.slice e.by_.A e.by_.l.length e.by_.c) e.by_.l, slP 7 exprE (.slice e.kids.A e.kids.l.length e.kids.c) e.kids.l, allP ExprX.Ok e.kids.l, .blk b2 Zx 26, .blk b1 [iV e.kind, iV e.n, iV e.range, .string e.word, .slice e.ms.A e.ms.l.length e.ms.c, .slice e.by_.A e.by_.l.length e.by_.c, .slice e.kids.A e.kids.l.length e.kids.c] 26, okP ExprX.Ok e]) mix (fun _ h => h.drew) rfl ?_
            refine n_run (f := 6) [0, 2] rfl rfl (by kernel_rfl) (by kernel_rfl) (fun _ h => (h.sel [0, 4, 5, 6, 7, 8, 9, 10] (by decide) rfl)) fun KS hKS => ?_
            refine s_val wn (r_fa rfl fld26_6) rfl ?_
            refine s_val wn (r_lbn 0 [iV s5.kind, iV s5.n, iV s5.range, .string s5.word, .slice s5.ms.A s5.ms.l.length s5.ms.c, .slice s5.by_.A s5.by_.l.length s5.by_.c, .slice s5.kids.A s5.kids.l.length s5.kids.c] rfl rfl rfl rfl agg26 inf26) rfl ?_
            refine s_end hKS ?_
            refine n_step2 (f := 5) (i := 1) (j := 3) rfl (by kernel_rfl) ?_ ?_
            ·
              refine n_one (i := 1) rfl fun KN hKN => ?_
              refine l_val wn (r_lb 3 rfl rfl rfl flat24) rfl ?_
              refine l_nil (hKN _ _ (fun _ h => (h.sel [0, 4, 5, 6, 7, 8, 9, 10] (by decide) rfl)) ?_)
              refine n_step1 (f := 4) (i := 3) rfl (by kernel_rfl) ?_
              refine n_one (i := 3) rfl fun KN hKN => ?_
              have hw22 := hwe.all _ (List.mem_of_getElem? hs5)
              refine l_opn (fun _ h => h.one 7 ExprX.Ok.loc rfl hs5) ?_
              refine l_callE0 (β := ExprX) (fun z => .agg (exprE z).toArray) (fun z => z.e = Pz.bare s5.e) (fun z S => ExprX.Ok S z) (fun z => ExprX.Ok.loc z) wn rfl Tryd.call21 rfl (fun w1 Pb hM pp => ih s5 (ExprX.kid_lt (List.mem_of_getElem? hs5)) Pb w1 pp.lt (pp.at_ 0 _ rfl) (hs9_ _ (List.mem_of_getElem? hs5))) fun z7 hz7 => ?_
              refine l_get 0 rfl (fun S w h => ExprX.Ok.wf h) fun hw23 => ?_
              refine l_nil (hKN _ _ (fun _ h => (h.sel [2, 6, 7, 8, 9, 10, 11, 12] (by decide) rfl)) ?_)
              refine n_step1 (f := 3) (i := 4) rfl (by kernel_rfl) ?_
              refine n_one (i := 4) rfl fun KN hKN => ?_
              refine l_bsL exprE ([z7] : List ExprX) wn Tryd.underlying24 inf26 rfl rfl rfl rfl (by decide) (by decide) rfl fun b66 => ?_
              refine l_nil (hKN _ _ (fun _ h => (h.sel [3, 7, 8, 9, 10, 11, 12, 13] (by decide) rfl)) ?_)
              refine n_step1 (f := 2) (i := 5) rfl (by kernel_rfl) ?_
              refine n_one (i := 5) rfl fun KN hKN => ?_
              refine l_app 5 l ([z7] : List ExprX) encExprX wn rfl rfl rfl (fun _ hM => (RowSl encExprX hM 0 rfl)) Tryd.underlying24 inf26 rfl rfl (by simp only [List.length_append, List.length_cons, List.length_nil]; omega) rfl fun A17 cp17 hc20 hm20 hA20 => ?_
              refine l_opn (fun _ h => h.allSnoc 4 1 ExprX.Ok.loc rfl rfl) ?_
              have hw24 : ∀ x ∈ (l ++ ([z7] : List ExprX)), ExprX.Wf x := fun x hx => (List.mem_append.1 hx).elim (hwf x) fun h => by rw [List.mem_singleton.1 h]; exact hw23
              refine l_nil (hKN _ _ (fun _ h => (h.sel [4, 8, 9, 10, 11, 12, 13, 14] (by decide) rfl)) ?_)
              refine n_run (f := 1) [6] rfl rfl (by kernel_rfl) (by kernel_rfl) (fun _ h => (h.sel [4, 8, 9, 10, 11, 12, 13, 14] (by decide) rfl)) fun KS hKS => ?_
              refine s_val wn (r_fa rfl fld26_6) rfl ?_
              refine s_end hKS ?_
              refine n_step1 (f := 0) (i := 7) rfl (by kernel_rfl) ?_
              refine n_one (i := 7) rfl fun KN hKN => ?_
              refine l_st1 7 wn rfl rfl rfl rfl inf24 rfl rfl ?_
              refine l_nil (hKN _ _ (fun _ h => (h.sel [4, 8, 9, 10, 11, 12, 13, 14] (by decide) rfl)) ?_)
              refine n_done (by kernel_rfl) (e_in_n (e_go hK41 ?_))
              refine c_region ?_
              refine l_val wn (r_addn rfl rfl (by omega)) rfl ?_
              refine l_val wn (r_move rfl) rfl ?_
              refine l_nil (e_round3 (j + 1) (l ++ ([z7] : List ExprX)) (.slice A17 ((l ++ ([z7] : List ExprX)).length) cp17) (sc rfl (sc rfl (sc rfl (sc rfl (sc (ji (by omega)) sn))))) (fun _ h => (h.sel [0, 6, 7, 8, 9, 10, 11, 12, 13, 14] (by decide) rfl)) ?_ ?_)
              · exact ⟨by omega, by simp only [List.length_append, List.length_cons, List.length_nil]; omega, hw24, Pz.bares_take hI5.2.2.2 hs5 hz7⟩
              · omega
            ·
              refine n_one (i := 3) rfl fun KN hKN => ?_
              have hw25 := hwe.all _ (List.mem_of_getElem? hs5)
              refine l_opn (fun _ h => h.one 7 ExprX.Ok.loc rfl hs5) ?_
              refine l_callE0 (β := ExprX) (fun z => .agg (exprE z).toArray) (fun z => z.e = Pz.bare s5.e) (fun z S => ExprX.Ok S z) (fun z => ExprX.Ok.loc z) wn rfl Tryd.call21 rfl (fun w1 Pb hM pp => ih s5 (ExprX.kid_lt (List.mem_of_getElem? hs5)) Pb w1 pp.lt (pp.at_ 0 _ rfl) (hs9_ _ (List.mem_of_getElem? hs5))) fun z8 hz8 => ?_
              refine l_get 0 rfl (fun S w h => ExprX.Ok.wf h) fun hw26 => ?_
              refine l_nil (hKN _ _ (fun _ h => (h.sel [2, 6, 7, 8, 9, 10, 11, 12] (by decide) rfl)) ?_)
              refine n_step2 (f := 4) (i := 1) (j := 4) rfl (by kernel_rfl) ?_ ?_
              ·
                refine n_one (i := 1) rfl fun KN hKN => ?_
                refine l_val wn (r_lb 5 rfl rfl rfl flat24) rfl ?_
                refine l_nil (hKN _ _ (fun _ h => (h.sel [2, 6, 7, 8, 9, 10, 11, 12] (by decide) rfl)) ?_)
                refine n_step1 (f := 3) (i := 4) rfl (by kernel_rfl) ?_
                refine n_one (i := 4) rfl fun KN hKN => ?_
                refine l_bsL exprE ([z8] : List ExprX) wn Tryd.underlying24 inf26 rfl rfl rfl rfl (by decide) (by decide) rfl fun b66 => ?_
                refine l_nil (hKN _ _ (fun _ h => (h.sel [3, 7, 8, 9, 10, 11, 12, 13] (by decide) rfl)) ?_)
                refine n_step1 (f := 2) (i := 5) rfl (by kernel_rfl) ?_
                refine n_one (i := 5) rfl fun KN hKN => ?_
                refine l_app 5 l ([z8] : List ExprX) encExprX wn rfl rfl rfl (fun _ hM => (RowSl encExprX hM 0 rfl)) Tryd.underlying24 inf26 rfl rfl (by simp only [List.length_append, List.length_cons, List.length_nil]; omega) rfl fun A18 cp18 hc21 hm21 hA21 => ?_
                refine l_opn (fun _ h => h.allSnoc 4 1 ExprX.Ok.loc rfl rfl) ?_
                have hw27 : ∀ x ∈ (l ++ ([z8] : List ExprX)), ExprX.Wf x := fun x hx => (List.mem_append.1 hx).elim (hwf x) fun h => by rw [List.mem_singleton.1 h]; exact hw26
                refine l_nil (hKN _ _ (fun _ h => (h.sel [4, 8, 9, 10, 11, 12, 13, 14] (by decide) rfl)) ?_)
                refine n_run (f := 1) [6] rfl rfl (by kernel_rfl) (by kernel_rfl) (fun _ h => (h.sel [4, 8, 9, 10, 11, 12, 13, 14] (by decide) rfl)) fun KS hKS => ?_
                refine s_val wn (r_fa rfl fld26_6) rfl ?_
                refine s_end hKS ?_
                refine n_step1 (f := 0) (i := 7) rfl (by kernel_rfl) ?_
                refine n_one (i := 7) rfl fun KN hKN => ?_
                refine l_st1 7 wn rfl rfl rfl rfl inf24 rfl rfl ?_
                refine l_nil (hKN _ _ (fun _ h => (h.sel [4, 8, 9, 10, 11, 12, 13, 14] (by decide) rfl)) ?_)
                refine n_done (by kernel_rfl) (e_in_n (e_go hK41 ?_))
                refine c_region ?_
                refine l_val wn (r_addn rfl rfl (by omega)) rfl ?_
                refine l_val wn (r_move rfl) rfl ?_
                refine l_nil (e_round3 (j + 1) (l ++ ([z8] : List ExprX)) (.slice A18 ((l ++ ([z8] : List ExprX)).length) cp18) (sc rfl (sc rfl (sc rfl (sc rfl (sc (ji (by omega)) sn))))) (fun _ h => (h.sel [0, 6, 7, 8, 9, 10, 11, 12, 13, 14] (by decide) rfl)) ?_ ?_)
                · exact ⟨by omega, by simp only [List.length_append, List.length_cons, List.length_nil]; omega, hw27, Pz.bares_take hI5.2.2.2 hs5 hz8⟩
                · omega
              ·
                refine n_one (i := 4) rfl fun KN hKN => ?_
                refine l_bsL exprE ([z8] : List ExprX) wn Tryd.underlying24 inf26 rfl rfl rfl rfl (by decide) (by decide) rfl fun b66 => ?_
                refine l_nil (hKN _ _ (fun _ h => (h.sel [3, 7, 8, 9, 10, 11, 12, 13] (by decide) rfl)) ?_)
                refine n_step1 (f := 3) (i := 1) rfl (by kernel_rfl) ?_
                refine n_one (i := 1) rfl fun KN hKN => ?_
                refine l_val wn (r_lb 6 rfl rfl rfl flat24) rfl ?_
                refine l_nil (hKN _ _ (fun _ h => (h.sel [3, 7, 8, 9, 10, 11, 12, 13] (by decide) rfl)) ?_)
                refine n_step1 (f := 2) (i := 5) rfl (by kernel_rfl) ?_
                refine n_one (i := 5) rfl fun KN hKN => ?_
                refine l_app 5 l ([z8] : List ExprX) encExprX wn rfl rfl rfl (fun _ hM => (RowSl encExprX hM 0 rfl)) Tryd.underlying24 inf26 rfl rfl (by simp only [List.length_append, List.length_cons, List.length_nil]; omega) rfl fun A19 cp19 hc22 hm22 hA22 => ?_
                refine l_opn (fun _ h => h.allSnoc 4 1 ExprX.Ok.loc rfl rfl) ?_
                have hw28 : ∀ x ∈ (l ++ ([z8] : List ExprX)), ExprX.Wf x := fun x hx => (List.mem_append.1 hx).elim (hwf x) fun h => by rw [List.mem_singleton.1 h]; exact hw26
                refine l_nil (hKN _ _ (fun _ h => (h.sel [4, 8, 9, 10, 11, 12, 13, 14] (by decide) rfl)) ?_)
                refine n_run (f := 1) [6] rfl rfl (by kernel_rfl) (by kernel_rfl) (fun _ h => (h.sel [4, 8, 9, 10, 11, 12, 13, 14] (by decide) rfl)) fun KS hKS => ?_
                refine s_val wn (r_fa rfl fld26_6) rfl ?_
                refine s_end hKS ?_
                refine n_step1 (f := 0) (i := 7) rfl (by kernel_rfl) ?_
                refine n_one (i := 7) rfl fun KN hKN => ?_
                refine l_st1 7 wn rfl rfl rfl rfl inf24 rfl rfl ?_
                refine l_nil (hKN _ _ (fun _ h => (h.sel [4, 8, 9, 10, 11, 12, 13, 14] (by decide) rfl)) ?_)
                refine n_done (by kernel_rfl) (e_in_n (e_go hK41 ?_))
                refine c_region ?_
                refine l_val wn (r_addn rfl rfl (by omega)) rfl ?_
                refine l_val wn (r_move rfl) rfl ?_
                refine l_nil (e_round3 (j + 1) (l ++ ([z8] : List ExprX)) (.slice A19 ((l ++ ([z8] : List ExprX)).length) cp19) (sc rfl (sc rfl (sc rfl (sc rfl (sc (ji (by omega)) sn))))) (fun _ h => (h.sel [0, 6, 7, 8, 9, 10, 11, 12, 13, 14] (by decide) rfl)) ?_ ?_)
                · exact ⟨by omega, by simp only [List.length_append, List.length_cons, List.length_nil]; omega, hw28, Pz.bares_take hI5.2.2.2 hs5 hz8⟩
                · omega
          ·
            refine c_exit (e_then_x (e_loop3_x (e_in_hit (e_go hK37 ?_))))
            refine c_seq fun K43 hK43 => ?_
            refine c_region ?_
            refine l_val wn (r_lbn 2 [iV e.kind, iV 0, iV 0, .string e.word, Zs, Zs, .slice A16 l.length cp16] rfl rfl rfl rfl agg26 inf26) rfl ?_
            refine l_stn 7 wn rfl rfl rfl inf26 rfl rfl rfl ?_
            refine l_nil (e_go hK43 ?_)
            refine c_ret (e_ret1 (.inl rfl) Tryd.results21 (rv_cell 7 rfl rfl agg26 inf26 rfl) fun w1 hM => ?_)
            have hM := hM.sealRow encExprX (i := 1) rfl rfl
            have hk9 : (l).map ExprX.e = Pz.bares (e.kids.l.map ExprX.e) := hI5.2.2.2.trans (by rw [List.take_of_length_le (by omega)])
            exact hM.retE (ExprX.mk e.kind 0 0 e.word ⟨none, 0, []⟩ ⟨none, 0, []⟩ ⟨A16, cp16, l⟩) rfl (by rw [Pz.bareX_4 h1 h3 h7, ← hk9]; exact ExprX.e_eq _) fun Pb pp => .mk (FlatSl.nil_ _ _ _ _) (FlatSl.nil_ _ _ _ _) (pp.sl 1 rfl) (pp.at_ 0 _ rfl) ⟨hwe.str.word, (fun x hx => by cases hx), (fun x hx => by cases hx)⟩
theorem c_refBare (e : ExprX) : c_refBare_C e := recX c_refBare_step e

theorem c_alive5 (P0 : Nat → Prop) (w : World) (hP0 : ∀ b, P0 b → b < w.heap.size) (hE : ErrV P0 w) (hT : Tab P0 w)  :
    Calls Tryd.prog 20 #[] w (Ret w (.bool true)) := by
 refine fstart (N := 34) (vals := []) (S := Mem w ⟨no, P0⟩ [.pub ErrV, .pub Tab]) Tryd.func20 rfl rfl rfl (Mem.ofDatsP hP0 (dc (dp ErrV.loc hE) (dc (dp Tab.loc hT) dn))) ?_
 refine c_seq fun _ hK1 => ?_
 refine c_region ?_
 refine l_val wn (r_assign rfl) rfl ?_
 refine l_nil (e_go hK1 ?_)
 refine c_seq fun _ hK2 => ?_
 refine c_region ?_
 refine l_callE0 (β := ExprX × Pz.F) (fun z => .tuple #[.agg (exprE z.1).toArray, .agg #[iV z.2.1, iV z.2.2]]) (fun z => Pz.parse ⟨#[97, 108, 108, 32, 115, 117, 109, 32, 98, 121, 32, 104, 111, 115, 116, 32, 40, 114, 105, 115, 101, 40, 123, 106, 111, 98, 61, 119, 101, 98, 44, 33, 116, 101, 115, 116, 125, 91, 54, 48, 93, 41, 41, 32, 42, 32, 50]⟩ = (z.1.e, z.2)) (fun z S => ExprX.Ok S z.1) (fun z => ExprX.Ok.loc z.1) wn rfl Tryd.call15 rfl (fun w1 Pb hM pp => c_parse ⟨#[97, 108, 108, 32, 115, 117, 109, 32, 98, 121, 32, 104, 111, 115, 116, 32, 40, 114, 105, 115, 101, 40, 123, 106, 111, 98, 61, 119, 101, 98, 44, 33, 116, 101, 115, 116, 125, 91, 54, 48, 93, 41, 41, 32, 42, 32, 50]⟩ Pb w1 pp.lt (pp.at_ 0 _ rfl)) fun z1 hz1 => ?_
 obtain ⟨x1, er1, at1⟩ := z1
 have hq1 : Pz.parse ⟨#[97, 108, 108, 32, 115, 117, 109, 32, 98, 121, 32, 104, 111, 115, 116, 32, 40, 114, 105, 115, 101, 40, 123, 106, 111, 98, 61, 119, 101, 98, 44, 33, 116, 101, 115, 116, 125, 91, 54, 48, 93, 41, 41, 32, 42, 32, 50]⟩ = (x1.e, (er1, at1)) := hz1
 refine l_as 6 (.tuple (List.toArray [.agg (List.toArray [iV x1.kind, iV x1.n, iV x1.range, .string x1.word, .slice x1.ms.A x1.ms.l.length x1.ms.c, .slice x1.by_.A x1.by_.l.length x1.by_.c, .slice x1.kids.A x1.kids.l.length x1.kids.c]), .agg (List.toArray [iV er1, iV at1])])) [okP ExprX.Ok x1, .pub ErrV, .pub Tab] ?_
 refine l_get 0 rfl (fun S w h => ExprX.Ok.wf h) fun hw1 => ?_
 obtain ⟨hx9, he9, ha9⟩ := Pz.of_s0 hq1
 refine l_val wn (r_move rfl) rfl ?_
 refine l_val wn (r_extract rfl rfl) rfl ?_
 refine l_val wn (r_extract rfl rfl) rfl ?_
 refine l_alloc wn inf26 rfl fun b1 => ?_
 refine l_alloc wn inf33 rfl fun b2 => ?_
 refine l_stn 1 wn rfl rfl rfl inf26 rfl rfl rfl ?_
 refine l_stn 0 wn rfl rfl rfl inf33 rfl rfl rfl ?_
 refine l_nil (e_go hK2 ?_)
 refine c_seq fun _ hK3 => ?_
 refine c_region ?_
 refine l_val wn (r_lbn 1 [iV x1.kind, iV x1.n, iV x1.range, .string x1.word, .slice x1.ms.A x1.ms.l.length x1.ms.c, .slice x1.by_.A x1.by_.l.length x1.by_.c, .slice x1.kids.A x1.kids.l.length x1.kids.c] rfl rfl rfl rfl agg26 inf26) rfl ?_
 refine l_callF wn rfl Tryd.call7 rfl (fun w1 hM => c_print x1 (In w1) w1 (fun _ h => h) (hM.pubAt (i := 2) rfl) (hM.pubAt (i := 4) rfl)) ?_
 refine l_val wn (r_move rfl) rfl ?_
 refine l_val wn (r_extract rfl rfl) rfl ?_
 refine l_val wn (r_extract rfl rfl) rfl ?_
 refine l_val wn (r_assign rfl) rfl ?_
 refine l_val wn (r_assign rfl) rfl ?_
 refine l_nil (e_go hK3 ?_)
 refine c_seq fun _ hK4 => ?_
 refine c_region ?_
 refine l_val wn (r_fa rfl fld33_0) rfl ?_
 refine l_val wn (r_lb 0 rfl rfl rfl flat27) rfl ?_
 refine l_val wn (r_eql rfl rfl) rfl ?_
 refine l_val wn (r_move rfl) rfl ?_
 refine l_litt (t := 17) rfl he9 ?_
 refine l_val (wg rfl rfl rfl) (r_move rfl) rfl ?_
 refine l_val (wg rfl rfl rfl) (r_eql rfl rfl) rfl ?_
 refine l_val wn (r_pick rfl rfl) rfl ?_
 refine l_val wn (r_move rfl) rfl ?_
 refine l_litt (t := 21) rfl (by rw [hx9, Pz.print_e0]) ?_
 refine l_val (wg rfl rfl rfl) (r_move rfl) rfl ?_
 refine l_val (wg rfl rfl rfl) (r_seql rfl rfl) rfl ?_
 refine l_val wn (r_pick rfl rfl) rfl ?_
 refine l_val wn (r_move rfl) rfl ?_
 refine l_litt (t := 25) rfl (by rw [hx9, Pz.print_e0]; rfl) ?_
 refine l_val (wg rfl rfl rfl) (r_lbn 1 [iV x1.kind, iV x1.n, iV x1.range, .string x1.word, .slice x1.ms.A x1.ms.l.length x1.ms.c, .slice x1.by_.A x1.by_.l.length x1.by_.c, .slice x1.kids.A x1.kids.l.length x1.kids.c] rfl rfl rfl rfl agg26 inf26) rfl ?_
 refine l_callF (wg rfl rfl rfl) rfl Tryd.call11 rfl (fun w1 hM => c_vector x1 (In w1) w1 (fun _ h => h) (hM.pubAt (i := 2) rfl)) ?_
 refine l_val wn (r_pick rfl rfl) rfl ?_
 refine l_val wn (r_move rfl) rfl ?_
 refine l_littb (t := 29) rfl (by rw [hx9, Pz.vector_e0]) ?_
 refine l_val (wg rfl rfl rfl) (r_lbn 1 [iV x1.kind, iV x1.n, iV x1.range, .string x1.word, .slice x1.ms.A x1.ms.l.length x1.ms.c, .slice x1.by_.A x1.by_.l.length x1.by_.c, .slice x1.kids.A x1.kids.l.length x1.kids.c] rfl rfl rfl rfl agg26 inf26) rfl ?_
 refine l_callF (wg rfl rfl rfl) rfl Tryd.call13 rfl (fun w1 hM => c_typed x1 (In w1) w1 (fun _ h => h) (hM.pubAt (i := 2) rfl)) ?_
 refine l_val (wg rfl rfl rfl) (r_eql rfl rfl) rfl ?_
 refine l_val wn (r_pick rfl rfl) rfl ?_
 refine l_val wn (r_assign rfl) rfl ?_
 refine l_nil (e_go hK4 ?_)
 refine c_ret (e_ret1 (.inl rfl) Tryd.results20 (rv_tmp rfl) fun w1 hM => ?_)
 exact ret_ok (congrArg Value.bool (by first | rfl | exact decide_eq_true (by rw [hx9, Pz.typed_e0]))) hM

set_option maxHeartbeats 2000000 in
theorem law_LangTurns (e : ExprX) (P0 : Nat → Prop) (w : World) (hP0 : ∀ b, P0 b → b < w.heap.size) (he : ExprX.Ok P0 e w) (hE : ErrV P0 w) (hT : Tab P0 w)  :
    Calls Tryd.prog 5 #[.agg (exprE e).toArray] w (Ret w (.bool true)) := by
 have hwe := he.wf
 refine fstart (N := 32) (vals := [.agg (exprE e).toArray]) (S := Mem w ⟨no, P0⟩ [okP ExprX.Ok e, .pub ErrV, .pub Tab]) Tryd.func5 rfl rfl rfl (Mem.ofDatsP hP0 (dc (dp (ExprX.Ok.loc _) he) (dc (dp ErrV.loc hE) (dc (dp Tab.loc hT) dn)))) ?_
 refine c_seq fun _ hK1 => ?_
 refine c_region ?_
 refine l_box wn rfl rfl fun b1 => ?_
 refine l_val wn (r_assign rfl) rfl ?_
 refine l_nil (e_go hK1 ?_)
 refine c_seq fun _ hK2 => ?_
 refine c_seq fun _ hK3 => ?_
 refine c_region ?_
 refine l_callF wn rfl Tryd.call20 rfl (fun w1 hM => c_alive5 (In w1) w1 (fun _ h => h) (hM.pubAt (i := 2) rfl) (hM.pubAt (i := 3) rfl)) ?_
 refine l_val wn (r_notb rfl) rfl ?_
 refine l_nil (e_go hK3 ?_)
 refine c_false rfl rfl ?_
 refine c_skip (e_go hK2 ?_)
 refine c_seq fun _ hK4 => ?_
 refine c_region ?_
 refine l_val wn (r_lbn 0 [iV e.kind, iV e.n, iV e.range, .string e.word, .slice e.ms.A e.ms.l.length e.ms.c, .slice e.by_.A e.by_.l.length e.by_.c, .slice e.kids.A e.kids.l.length e.kids.c] rfl rfl rfl rfl agg26 inf26) rfl ?_
 refine l_callF wn rfl Tryd.call7 rfl (fun w1 hM => c_print e (In w1) w1 (fun _ h => h) (hM.pubAt (i := 1) rfl) (hM.pubAt (i := 3) rfl)) ?_
 refine l_val wn (r_move rfl) rfl ?_
 refine l_val wn (r_extract rfl rfl) rfl ?_
 refine l_val wn (r_extract rfl rfl) rfl ?_
 refine l_val wn (r_assign rfl) rfl ?_
 refine l_val wn (r_assign rfl) rfl ?_
 refine l_nil (e_go hK4 ?_)
 refine c_seq fun _ hK5 => ?_
 refine c_seq fun _ hK6 => ?_
 refine c_region ?_
 refine l_val wn (r_move rfl) rfl ?_
 refine l_val wn (r_neq rfl rfl) rfl ?_
 refine l_nil (e_go hK6 ?_)
 refine c_cond rfl (fun h1 => ?_) (fun h1 => ?_)
 · refine c_seq fun _ hK7 => ?_
   refine c_region ?_
   refine l_val wn (r_move rfl) rfl ?_
   refine l_val wn (r_seql rfl rfl) rfl ?_
   refine l_val wn (r_assign rfl) rfl ?_
   refine l_nil (e_go hK7 ?_)
   refine c_ret (e_then_r (e_ret1 (.inl rfl) Tryd.results5 (rv_tmp rfl) fun w1 hM => ?_))
   exact ret_ok (congrArg Value.bool (decide_eq_true (Pz.print_no h1))) hM
 refine c_skip (e_go hK5 ?_)
 refine c_seq fun _ hK8 => ?_
 refine c_region ?_
 refine l_val wn (r_move rfl) rfl ?_
 refine l_callE0 (β := ExprX × Pz.F) (fun z => .tuple #[.agg (exprE z.1).toArray, .agg #[iV z.2.1, iV z.2.2]]) (fun z => Pz.parse (⟨(Lg.print e.e).1.toArray⟩ : ByteArray) = (z.1.e, z.2)) (fun z S => ExprX.Ok S z.1) (fun z => ExprX.Ok.loc z.1) wn rfl Tryd.call15 rfl (fun w1 Pb hM pp => c_parse (⟨(Lg.print e.e).1.toArray⟩ : ByteArray) Pb w1 pp.lt (pp.at_ 2 _ rfl)) fun z1 hz1 => ?_
 obtain ⟨x1, er1, at1⟩ := z1
 have hq1 : Pz.parse (⟨(Lg.print e.e).1.toArray⟩ : ByteArray) = (x1.e, (er1, at1)) := hz1
 refine l_as 20 (.tuple (List.toArray [.agg (List.toArray [iV x1.kind, iV x1.n, iV x1.range, .string x1.word, .slice x1.ms.A x1.ms.l.length x1.ms.c, .slice x1.by_.A x1.by_.l.length x1.by_.c, .slice x1.kids.A x1.kids.l.length x1.kids.c]), .agg (List.toArray [iV er1, iV at1])])) [okP ExprX.Ok x1, .blk b1 [iV e.kind, iV e.n, iV e.range, .string e.word, .slice e.ms.A e.ms.l.length e.ms.c, .slice e.by_.A e.by_.l.length e.by_.c, .slice e.kids.A e.kids.l.length e.kids.c] 26, okP ExprX.Ok e, .pub ErrV, .pub Tab] ?_
 refine l_get 0 rfl (fun S w h => ExprX.Ok.wf h) fun hw1 => ?_
 obtain ⟨hx9, he9, ha9⟩ := Pz.turns (Classical.not_not.1 h1) hq1
 have hwr9 : Lg.wrong e.e = 0 := Pz.print_right (Classical.not_not.1 h1)
 refine l_val wn (r_move rfl) rfl ?_
 refine l_val wn (r_extract rfl rfl) rfl ?_
 refine l_val wn (r_extract rfl rfl) rfl ?_
 refine l_alloc wn inf26 rfl fun b5 => ?_
 refine l_alloc wn inf33 rfl fun b6 => ?_
 refine l_stn 1 wn rfl rfl rfl inf26 rfl rfl rfl ?_
 refine l_stn 0 wn rfl rfl rfl inf33 rfl rfl rfl ?_
 refine l_nil (e_go hK8 ?_)
 refine c_seq fun _ hK9 => ?_
 refine c_nodes (Mem w ⟨no, P0⟩ [.blk b6 [iV er1, iV at1] 33, .blk b5 [iV x1.kind, iV x1.n, iV x1.range, .string x1.word, .slice x1.ms.A x1.ms.l.length x1.ms.c, .slice x1.by_.A x1.by_.l.length x1.by_.c, .slice x1.kids.A x1.kids.l.length x1.kids.c] 26, okP ExprX.Ok x1, .blk b1 [iV e.kind, iV e.n, iV e.range, .string e.word, .slice e.ms.A e.ms.l.length e.ms.c, .slice e.by_.A e.by_.l.length e.by_.c, .slice e.kids.A e.kids.l.length e.kids.c] 26, okP ExprX.Ok e, .pub ErrV, .pub Tab]) mix (fun _ h => h.drew) rfl ?_
 refine n_run (f := 4) [0, 1, 2, 3, 4, 5] rfl rfl (by kernel_rfl) (by kernel_rfl) (fun _ h => h) fun KS hKS => ?_
 refine s_val wn (r_fa rfl fld33_0) rfl ?_
 refine s_val wn (r_lb 0 rfl rfl rfl flat27) rfl ?_
 refine s_val wn (r_eql rfl rfl) rfl ?_
 refine s_val wn (r_move rfl) rfl ?_
 refine s_litt (t := 26) rfl he9 ?_
 refine s_val (wg rfl rfl rfl) (r_lbn 1 [iV x1.kind, iV x1.n, iV x1.range, .string x1.word, .slice x1.ms.A x1.ms.l.length x1.ms.c, .slice x1.by_.A x1.by_.l.length x1.by_.c, .slice x1.kids.A x1.kids.l.length x1.kids.c] rfl rfl rfl rfl agg26 inf26) rfl ?_
 refine s_val (wg rfl rfl rfl) (r_lbn 3 [iV e.kind, iV e.n, iV e.range, .string e.word, .slice e.ms.A e.ms.l.length e.ms.c, .slice e.by_.A e.by_.l.length e.by_.c, .slice e.kids.A e.kids.l.length e.kids.c] rfl rfl rfl rfl agg26 inf26) rfl ?_
 refine s_end hKS ?_
 refine n_step1 (f := 3) (i := 6) rfl (by kernel_rfl) ?_
 refine n_one (i := 6) rfl fun KN hKN => ?_
 refine l_callE0 (β := ExprX) (fun z => .agg (exprE z).toArray) (fun z => z.e = Pz.bare e.e) (fun z S => ExprX.Ok S z) (fun z => ExprX.Ok.loc z) (wg rfl rfl rfl) rfl Tryd.call21 rfl (fun w1 Pb hM pp => c_refBare e Pb w1 pp.lt (pp.at_ 4 _ rfl) (Lg.right_of_wrong hwr9).1) fun z2 hz2 => ?_
 refine l_get 0 rfl (fun S w h => ExprX.Ok.wf h) fun hw2 => ?_
 refine l_nil (hKN _ _ (fun _ h => (h.sel [1, 2, 3, 4, 5, 6, 7] (by decide) rfl)) ?_)
 refine n_step1 (f := 2) (i := 7) rfl (by kernel_rfl) ?_
 refine n_one (i := 7) rfl fun KN hKN => ?_
 refine l_callF (wg rfl rfl rfl) rfl Tryd.call17 rfl (fun w1 hM => c_refEqual x1 z2 (In w1) w1 (fun _ h => h) (hM.pubAt (i := 3) rfl) (hM.pubAt (i := 0) rfl)) ?_
 refine l_nil (hKN _ _ (fun _ h => (h.sel [1, 2, 3, 4, 5, 6, 7] (by decide) rfl)) ?_)
 refine n_run (f := 0) [8, 9] rfl rfl (by kernel_rfl) (by kernel_rfl) (fun _ h => (h.sel [1, 2, 3, 4, 5, 6, 7] (by decide) rfl)) fun KS hKS => ?_
 refine s_val wn (r_pick rfl rfl) rfl ?_
 refine s_val wn (r_assign rfl) rfl ?_
 refine s_end hKS ?_
 refine n_done (by kernel_rfl) (e_go hK9 ?_)
 refine c_ret (e_ret1 (.inl rfl) Tryd.results5 (rv_tmp rfl) fun w1 hM => ?_)
 exact ret_ok (congrArg Value.bool (decide_eq_true (hx9.trans hz2.symm))) hM

end Go.Proofs.YtffpglgboaigfaaDoor
