/-
  Walks: what each function hands back.
-/
import Derived.Test.YtldecdningjkoaaWlang
import Derived.Test.YtldecdningjkoaaWcodec
import Derived.Test.YtldecdningjkoaaWref3c
import Derived.Test.YtldecdningjkoaaPMean
import Derived.Test.YtldecdningjkoaaGive
namespace Go.Proofs.Ytldecdningjkoaa
open Ex
set_option linter.unusedVariables false
set_option linter.unusedSimpArgs false
theorem c_check (e : ExprX) (time : Int) (P0 : Nat → Prop) (w : World) (hP0 : ∀ b, P0 b → b < w.heap.size) (he : ExprX.Ok P0 e w)  :
    Calls Try.prog 13 #[.agg (exprE e).toArray, .int .i64 time] w (Ret w (.int .i64 (Mn.check e.e time))) := by
 have hwe := he.wf
 refine fstart (N := 23) (vals := [.agg (exprE e).toArray, .int .i64 time]) (S := Mem w ⟨no, P0⟩ [okP ExprX.Ok e]) Try.func13 rfl rfl rfl (Mem.ofDatsP hP0 (dc (dp (ExprX.Ok.loc _) he) dn)) ?_
 refine c_seq fun _ hK1 => ?_
 refine c_region ?_
 refine l_box wn rfl rfl fun b2 => ?_
 refine l_val wn (r_assign rfl) rfl ?_
 refine l_nil (e_go hK1 ?_)
 refine c_seq fun _ hK2 => ?_
 refine c_seq fun _ hK3 => ?_
 refine c_region ?_
 refine l_val wn (r_lbn 0 [.int .i64 e.kind, .int .i64 e.n, .int .i64 e.range, .string e.word, .slice e.ms.A e.ms.l.length e.ms.c, .slice e.by_.A e.by_.l.length e.by_.c, .slice e.kids.A e.kids.l.length e.kids.c] rfl rfl rfl rfl agg27 inf27) rfl ?_
 refine l_callF wn rfl Try.call36 rfl (fun w1 hM => c_langWrong e (In w1) w1 (fun _ h => h) (hM.pubAt (i := 1) rfl)) ?_
 refine l_val wn (r_assign rfl) rfl ?_
 refine l_nil (e_go hK3 ?_)
 refine c_seq fun _ hK4 => ?_
 refine c_region ?_
 refine l_val wn (r_move rfl) rfl ?_
 refine l_val wn (r_neq rfl rfl) rfl ?_
 refine l_nil (e_go hK4 ?_)
 refine c_cond rfl (fun h1 => ?_) (fun h1 => ?_)
 · refine c_seq fun _ hK5 => ?_
   refine c_region ?_
   refine l_val wn (r_move rfl) rfl ?_
   refine l_val wn (r_assign rfl) rfl ?_
   refine l_nil (e_go hK5 ?_)
   refine c_ret (e_then_r (e_ret1 (.inl rfl) Try.results13 (rv_tmp rfl) fun w1 hM => ?_))
   exact ret_ok (congrArg (Value.int .i64) (by unfold Mn.check; grind)) hM
 refine c_skip (e_go hK2 ?_)
 refine c_seq fun _ hK6 => ?_
 refine c_seq fun _ hK7 => ?_
 refine c_region ?_
 refine l_val wn (r_lbn 0 [.int .i64 e.kind, .int .i64 e.n, .int .i64 e.range, .string e.word, .slice e.ms.A e.ms.l.length e.ms.c, .slice e.by_.A e.by_.l.length e.by_.c, .slice e.kids.A e.kids.l.length e.kids.c] rfl rfl rfl rfl agg27 inf27) rfl ?_
 refine l_callF wn rfl Try.call37 rfl (fun w1 hM => c_typed e (In w1) w1 (fun _ h => h) (hM.pubAt (i := 1) rfl)) ?_
 refine l_val wn (r_assign rfl) rfl ?_
 refine l_nil (e_go hK7 ?_)
 refine c_seq fun _ hK8 => ?_
 refine c_region ?_
 refine l_val wn (r_move rfl) rfl ?_
 refine l_val wn (r_neq rfl rfl) rfl ?_
 refine l_nil (e_go hK8 ?_)
 refine c_cond rfl (fun h2 => ?_) (fun h2 => ?_)
 · refine c_seq fun _ hK9 => ?_
   refine c_region ?_
   refine l_val wn (r_move rfl) rfl ?_
   refine l_val wn (r_assign rfl) rfl ?_
   refine l_nil (e_go hK9 ?_)
   refine c_ret (e_then_r (e_ret1 (.inl rfl) Try.results13 (rv_tmp rfl) fun w1 hM => ?_))
   exact ret_ok (congrArg (Value.int .i64) (by unfold Mn.check; grind)) hM
 refine c_skip (e_go hK6 ?_)
 refine c_seq fun _ hK10 => ?_
 refine c_cut [(22, .bool (decide ((time < 0) ∨ (1000000 < time))))] (Mem w ⟨no, P0⟩ [.blk b2 [.int .i64 e.kind, .int .i64 e.n, .int .i64 e.range, .string e.word, .slice e.ms.A e.ms.l.length e.ms.c, .slice e.by_.A e.by_.l.length e.by_.c, .slice e.kids.A e.kids.l.length e.kids.c] 27, okP ExprX.Ok e]) (fun _ hK11 => ?_) ?_
 · refine c_region ?_
   refine l_val wn (r_move rfl) rfl ?_
   refine l_val wn (r_lss rfl rfl) rfl ?_
   refine l_val wn (r_move rfl) rfl ?_
   refine l_case (t := 19) rfl (fun h3 => ?_) (fun h3 => ?_)
   · refine l_skip (wg rfl rfl rfl) rfl ?_
     refine l_skip (wg rfl rfl rfl) rfl ?_
     refine l_val wn (r_pick rfl rfl) rfl ?_
     refine l_nil (e_cut hK11 (sc (jt (Or.inl h3)) sn) (fun _ h => h))
   refine l_val (wg rfl rfl rfl) (r_move rfl) rfl ?_
   refine l_val (wg rfl rfl rfl) (r_gtr rfl rfl) rfl ?_
   refine l_val wn (r_pick rfl rfl) rfl ?_
   refine l_nil (e_cut hK11 (sc (jp (iff_or_right h3 Iff.rfl)) sn) (fun _ h => h))
 refine c_cond rfl (fun h4 => ?_) (fun h4 => ?_)
 · refine c_seq fun _ hK12 => ?_
   refine c_region ?_
   refine l_val wn (r_assign rfl) rfl ?_
   refine l_nil (e_go hK12 ?_)
   refine c_ret (e_then_r (e_ret1 (.inl rfl) Try.results13 (rv_tmp rfl) fun w1 hM => ?_))
   exact ret_ok (congrArg (Value.int .i64) (by unfold Mn.check; grind)) hM
 refine c_skip (e_go hK10 ?_)
 refine c_seq fun _ hK13 => ?_
 refine c_region ?_
 refine l_val wn (r_assign rfl) rfl ?_
 refine l_nil (e_go hK13 ?_)
 refine c_ret (e_ret1 (.inl rfl) Try.results13 (rv_tmp rfl) fun w1 hM => ?_)
 exact ret_ok (congrArg (Value.int .i64) (by unfold Mn.check; grind)) hM

theorem c_refCheck (e : ExprX) (time : Int) (P0 : Nat → Prop) (w : World) (hP0 : ∀ b, P0 b → b < w.heap.size) (he : ExprX.Ok P0 e w)  :
    Calls Try.prog 14 #[.agg (exprE e).toArray, .int .i64 time] w (Ret w (.int .i64 (Mn.check e.e time))) := by
 have hwe := he.wf
 refine fstart (N := 23) (vals := [.agg (exprE e).toArray, .int .i64 time]) (S := Mem w ⟨no, P0⟩ [okP ExprX.Ok e]) Try.func14 rfl rfl rfl (Mem.ofDatsP hP0 (dc (dp (ExprX.Ok.loc _) he) dn)) ?_
 refine c_seq fun _ hK1 => ?_
 refine c_region ?_
 refine l_box wn rfl rfl fun b2 => ?_
 refine l_val wn (r_assign rfl) rfl ?_
 refine l_nil (e_go hK1 ?_)
 refine c_seq fun _ hK2 => ?_
 refine c_seq fun _ hK3 => ?_
 refine c_region ?_
 refine l_val wn (r_lbn 0 [.int .i64 e.kind, .int .i64 e.n, .int .i64 e.range, .string e.word, .slice e.ms.A e.ms.l.length e.ms.c, .slice e.by_.A e.by_.l.length e.by_.c, .slice e.kids.A e.kids.l.length e.kids.c] rfl rfl rfl rfl agg27 inf27) rfl ?_
 refine l_callF wn rfl Try.call38 rfl (fun w1 hM => c_refWrongE e (In w1) w1 (fun _ h => h) (hM.pubAt (i := 1) rfl)) ?_
 refine l_val wn (r_assign rfl) rfl ?_
 refine l_nil (e_go hK3 ?_)
 refine c_seq fun _ hK4 => ?_
 refine c_region ?_
 refine l_val wn (r_move rfl) rfl ?_
 refine l_val wn (r_neq rfl rfl) rfl ?_
 refine l_nil (e_go hK4 ?_)
 refine c_cond rfl (fun h1 => ?_) (fun h1 => ?_)
 · refine c_seq fun _ hK5 => ?_
   refine c_region ?_
   refine l_val wn (r_move rfl) rfl ?_
   refine l_val wn (r_assign rfl) rfl ?_
   refine l_nil (e_go hK5 ?_)
   refine c_ret (e_then_r (e_ret1 (.inl rfl) Try.results14 (rv_tmp rfl) fun w1 hM => ?_))
   exact ret_ok (congrArg (Value.int .i64) (by unfold Mn.check; grind)) hM
 refine c_skip (e_go hK2 ?_)
 refine c_seq fun _ hK6 => ?_
 refine c_seq fun _ hK7 => ?_
 refine c_region ?_
 refine l_val wn (r_lbn 0 [.int .i64 e.kind, .int .i64 e.n, .int .i64 e.range, .string e.word, .slice e.ms.A e.ms.l.length e.ms.c, .slice e.by_.A e.by_.l.length e.by_.c, .slice e.kids.A e.kids.l.length e.kids.c] rfl rfl rfl rfl agg27 inf27) rfl ?_
 refine l_callF wn rfl Try.call39 rfl (fun w1 hM => c_refTyped e (In w1) w1 (fun _ h => h) (hM.pubAt (i := 1) rfl)) ?_
 refine l_val wn (r_assign rfl) rfl ?_
 refine l_nil (e_go hK7 ?_)
 refine c_seq fun _ hK8 => ?_
 refine c_region ?_
 refine l_val wn (r_move rfl) rfl ?_
 refine l_val wn (r_neq rfl rfl) rfl ?_
 refine l_nil (e_go hK8 ?_)
 refine c_cond rfl (fun h2 => ?_) (fun h2 => ?_)
 · refine c_seq fun _ hK9 => ?_
   refine c_region ?_
   refine l_val wn (r_move rfl) rfl ?_
   refine l_val wn (r_assign rfl) rfl ?_
   refine l_nil (e_go hK9 ?_)
   refine c_ret (e_then_r (e_ret1 (.inl rfl) Try.results14 (rv_tmp rfl) fun w1 hM => ?_))
   exact ret_ok (congrArg (Value.int .i64) (by unfold Mn.check; grind)) hM
 refine c_skip (e_go hK6 ?_)
 refine c_seq fun _ hK10 => ?_
 refine c_cut [(22, .bool (decide ((time < 0) ∨ (1000000 < time))))] (Mem w ⟨no, P0⟩ [.blk b2 [.int .i64 e.kind, .int .i64 e.n, .int .i64 e.range, .string e.word, .slice e.ms.A e.ms.l.length e.ms.c, .slice e.by_.A e.by_.l.length e.by_.c, .slice e.kids.A e.kids.l.length e.kids.c] 27, okP ExprX.Ok e]) (fun _ hK11 => ?_) ?_
 · refine c_region ?_
   refine l_val wn (r_move rfl) rfl ?_
   refine l_val wn (r_lss rfl rfl) rfl ?_
   refine l_val wn (r_move rfl) rfl ?_
   refine l_case (t := 19) rfl (fun h3 => ?_) (fun h3 => ?_)
   · refine l_skip (wg rfl rfl rfl) rfl ?_
     refine l_skip (wg rfl rfl rfl) rfl ?_
     refine l_val wn (r_pick rfl rfl) rfl ?_
     refine l_nil (e_cut hK11 (sc (jt (Or.inl h3)) sn) (fun _ h => h))
   refine l_val (wg rfl rfl rfl) (r_move rfl) rfl ?_
   refine l_val (wg rfl rfl rfl) (r_gtr rfl rfl) rfl ?_
   refine l_val wn (r_pick rfl rfl) rfl ?_
   refine l_nil (e_cut hK11 (sc (jp (iff_or_right h3 Iff.rfl)) sn) (fun _ h => h))
 refine c_cond rfl (fun h4 => ?_) (fun h4 => ?_)
 · refine c_seq fun _ hK12 => ?_
   refine c_region ?_
   refine l_val wn (r_assign rfl) rfl ?_
   refine l_nil (e_go hK12 ?_)
   refine c_ret (e_then_r (e_ret1 (.inl rfl) Try.results14 (rv_tmp rfl) fun w1 hM => ?_))
   exact ret_ok (congrArg (Value.int .i64) (by unfold Mn.check; grind)) hM
 refine c_skip (e_go hK10 ?_)
 refine c_seq fun _ hK13 => ?_
 refine c_region ?_
 refine l_val wn (r_assign rfl) rfl ?_
 refine l_nil (e_go hK13 ?_)
 refine c_ret (e_ret1 (.inl rfl) Try.results14 (rv_tmp rfl) fun w1 hM => ?_)
 exact ret_ok (congrArg (Value.int .i64) (by unfold Mn.check; grind)) hM

set_option maxHeartbeats 1000000 in
theorem c_meanWrong (lv : Value) (l : List LineX) (P0 : Nat → Prop) (w : World) (hP0 : ∀ b, P0 b → b < w.heap.size) (hl : FlatSl P0 2 lineE lv l w) (hla : ∀ x ∈ l, LineX.Ok P0 x w)  :
    Calls Try.prog 11 #[lv] w (Ret w (.agg (faultE (Mn.lines l)).toArray)) := by
 have hwl : ∀ x ∈ l, LineX.Wf x := fun x hx => (hla x hx).wf
 obtain ⟨lA, lc, rfl, hlc, hlm, hlA⟩ := hl.form
 refine fstart (N := 54) (vals := [.slice lA l.length lc]) (S := Mem w ⟨no, P0⟩ [slP 2 lineE (.slice lA l.length lc) l, allP LineX.Ok l]) Try.func11 rfl rfl rfl (Mem.ofDatsP hP0 (dc (dlp hl) (dc (dp (all_loc LineX.Ok.loc _) hla) dn))) ?_
 refine c_seq fun _ hK1 => ?_
 refine c_region ?_
 refine l_alloc wn inf34 rfl fun b2 => ?_
 refine l_nil (e_go hK1 ?_)
 refine c_seq fun _ hK2 => ?_
 refine c_seq fun _ hK3 => ?_
 refine c_region ?_
 refine l_val wn (r_move rfl) rfl ?_
 refine l_val wn (r_len rfl Try.underlying22) rfl ?_
 refine l_val wn (r_gtr rfl rfl) rfl ?_
 refine l_nil (e_go hK3 ?_)
 refine c_cond rfl (fun h1 => ?_) (fun h1 => ?_)
 · refine c_seq fun _ hK4 => ?_
   refine c_region ?_
   refine l_val wn (r_build [.int .i64 5, .int .i64 0] pl34 inf34 rfl rfl) rfl ?_
   refine l_stn 0 wn rfl rfl rfl inf34 rfl rfl rfl ?_
   refine l_nil (e_go hK4 ?_)
   refine c_ret (e_then_r (e_ret1 (.inl rfl) Try.results11 (rv_cell 0 rfl rfl agg34 inf34 rfl) fun w1 hM => ?_))
   exact ret_agg (l1 := [.int .i64 5, .int .i64 0]) (by rw [Mn.lines, if_pos (by omega)]) hM
 refine c_skip (e_go hK2 ?_)
 refine c_seq fun _ hK5 => ?_
 refine c_seq fun _ hK6 => ?_
 refine c_region ?_
 refine l_val wn (r_move rfl) rfl ?_
 refine l_val wn (r_len rfl Try.underlying22) rfl ?_
 refine l_val wn (r_move rfl) rfl ?_
 refine l_nil (e_go hK6 ?_)
 refine c_block ?_
 refine c_loop1 (fun (k : Nat) => [(0, .slice lA l.length lc), (2, .pointer (some ⟨b2, 0, none⟩)), (11, .slice lA l.length lc), (12, .int .i64 (l.length : Int)), (13, .int .i64 (k : Int))]) (fun (k : Nat) => [.blk b2 [.int .i64 0, .int .i64 0] 34, slP 2 lineE (.slice lA l.length lc) l, allP LineX.Ok l]) (fun (k : Nat) => k ≤ l.length ∧ Mn.linesFrom 0 none l = Mn.linesFrom k (Mn.prevOf l k) (l.drop k)) (fun (k : Nat) => l.length - k) 0 (sc rfl (sc rfl (sc rfl (sc rfl (sc (ji (by omega)) sn))))) (fun _ h => h) ?_ (fun k hI1 => ?_)
 · exact ⟨by omega, Mn.lines_start l⟩
 refine c_seq fun _ hK7 => ?_
 refine c_region ?_
 refine l_val wn (r_lss rfl rfl) rfl ?_
 refine l_nil (e_go hK7 ?_)
 refine c_seq fun _ hK8 => ?_
 refine c_cond rfl (fun h2 => ?_) (fun h2 => ?_)
 · refine c_skip (e_go hK8 ?_)
   refine c_seq fun _ hK9 => ?_
   refine c_block ?_
   refine c_seq fun _ hK10 => ?_
   refine c_region ?_
   refine l_val wn (r_move rfl) rfl ?_
   obtain ⟨ad1, hd1⟩ := hlA (ne_nil (i := k) (by first | omega | decide | (simp only [List.length_cons, List.length_nil, List.length_append, List.length_take, List.length_set]; omega)))
   refine l_val wn (r_ia (i := k) rfl hd1 rfl (by omega) (by first | omega | decide | (simp only [List.length_cons, List.length_nil, List.length_append, List.length_take, List.length_set]; omega)) Try.underlying22 inf49) rfl ?_
   obtain ⟨s1, hs1⟩ : ∃ x, l[k]? = some x := ⟨_, List.getElem?_eq_getElem (by first | omega | decide | (simp only [List.length_cons, List.length_nil, List.length_append, List.length_take, List.length_set]; omega))⟩
   refine l_val wn (r_pln 1 [.slice s1.sr.A s1.sr.l.length s1.sr.c, .slice s1.sm.A s1.sm.l.length s1.sm.c] rfl rfl hd1 hs1 rfl rfl agg49 inf49) rfl ?_
   refine l_alloc wn inf49 rfl fun b4 => ?_
   refine l_val wn (r_assign rfl) rfl ?_
   refine l_stn 0 wn rfl rfl rfl inf49 rfl rfl rfl ?_
   refine l_nil (e_go hK10 ?_)
   refine c_seq fun _ hK11 => ?_
   refine c_seq fun _ hK12 => ?_
   refine c_region ?_
   refine l_val wn (r_fa rfl fld49_0) rfl ?_
   refine l_val wn (r_lb 0 rfl rfl rfl flat42) rfl ?_
   have hw1 := hwl _ (List.mem_of_getElem? hs1)
   refine l_opn (fun _ h => h.one 3 LineX.Ok.loc rfl hs1) ?_
   refine l_opn (fun _ h => h.lineX 0 rfl) ?_
   obtain ⟨hc1, hm1, hA1⟩ := hw1.sr
   obtain ⟨hc2, hm2, hA2⟩ := hw1.sm
   refine l_callF wn rfl Try.call29 rfl (fun w1 hM => c_namesWrong _ s1.sr.l w1 (hM.slp 0 rfl)) ?_
   refine l_val wn (r_assign rfl) rfl ?_
   refine l_nil (e_go hK12 ?_)
   refine c_seq fun _ hK13 => ?_
   refine c_region ?_
   refine l_val wn (r_move rfl) rfl ?_
   refine l_val wn (r_neq rfl rfl) rfl ?_
   refine l_nil (e_go hK13 ?_)
   refine c_cond rfl (fun h3 => ?_) (fun h3 => ?_)
   · refine c_seq fun _ hK14 => ?_
     refine c_region ?_
     refine l_val wn (r_move rfl) rfl ?_
     refine l_val wn (r_move rfl) rfl ?_
     refine l_val wn (r_build [.int .i64 (Names.wrong s1.sr.l), .int .i64 (k : Int)] pl34 inf34 rfl rfl) rfl ?_
     refine l_stn 4 wn rfl rfl rfl inf34 rfl rfl rfl ?_
     refine l_nil (e_go hK14 ?_)
     refine c_ret (e_then_r (e_in_r (e_then_r (e_loop1_r (e_in_r (e_then_r (e_ret1 (.inl rfl) Try.results11 (rv_cell 4 rfl rfl agg34 inf34 rfl) fun w1 hM => ?_)))))))
     exact ret_agg (l1 := [.int .i64 (Names.wrong s1.sr.l), .int .i64 (k : Int)]) (by rw [Mn.lines, if_neg (by omega), hI1.2, Mn.lines_step hs1, if_pos h3]) hM
   refine c_skip (e_go hK11 ?_)
   refine c_seq fun _ hK15 => ?_
   refine c_seq fun _ hK16 => ?_
   refine c_region ?_
   refine l_val wn (r_fa rfl fld49_1) rfl ?_
   refine l_val wn (r_lb 3 rfl rfl rfl flat47) rfl ?_
   refine l_callF wn rfl Try.call30 rfl (fun w1 hM => c_codecWrong _ s1.sm.l w1 (hM.slp 1 rfl)) ?_
   refine l_alloc wn inf34 rfl fun b6 => ?_
   refine l_stn 0 wn rfl rfl rfl inf34 rfl rfl rfl ?_
   refine l_nil (e_go hK16 ?_)
   refine c_seq fun _ hK17 => ?_
   refine c_region ?_
   refine l_val wn (r_fa rfl fld34_0) rfl ?_
   refine l_val wn (r_lb 0 rfl rfl rfl flat29) rfl ?_
   refine l_val wn (r_neq rfl rfl) rfl ?_
   refine l_nil (e_go hK17 ?_)
   refine c_cond rfl (fun h4 => ?_) (fun h4 => ?_)
   · refine c_seq fun _ hK18 => ?_
     refine c_region ?_
     refine l_val wn (r_fa rfl fld34_0) rfl ?_
     refine l_val wn (r_lb 0 rfl rfl rfl flat29) rfl ?_
     refine l_val wn (r_move rfl) rfl ?_
     refine l_val wn (r_build [.int .i64 ((Codec.wrong s1.sm.l).err), .int .i64 (k : Int)] pl34 inf34 rfl rfl) rfl ?_
     refine l_stn 5 wn rfl rfl rfl inf34 rfl rfl rfl ?_
     refine l_nil (e_go hK18 ?_)
     refine c_ret (e_then_r (e_in_r (e_then_r (e_loop1_r (e_in_r (e_then_r (e_ret1 (.inl rfl) Try.results11 (rv_cell 5 rfl rfl agg34 inf34 rfl) fun w1 hM => ?_)))))))
     exact ret_agg (l1 := [.int .i64 ((Codec.wrong s1.sm.l).err), .int .i64 (k : Int)]) (by rw [Mn.lines, if_neg (by omega), hI1.2, Mn.lines_step hs1, if_neg h3, if_pos h4]) hM
   refine c_skip (e_go hK15 ?_)
   refine c_seq fun _ hK19 => ?_
   refine c_quiet mix (by kernel_rfl) (fun _ h => h.drew) ?_
   refine q_val wn (r_move rfl) rfl ?_
   refine q_val wn (r_gtr rfl rfl) rfl ?_
   refine q_val wn (r_move rfl) rfl ?_
   refine q_case (t := 38) rfl (fun h5 => ?_) (fun h5 => ?_)
   · refine q_val (wg rfl rfl rfl) (r_move rfl) rfl ?_
     refine q_val (wg rfl rfl rfl) (r_move rfl) rfl ?_
     refine q_val (wg rfl rfl rfl) (r_subn rfl rfl (by omega)) rfl ?_
     refine q_val (wg rfl rfl rfl) (r_ia (i := (k - 1)) rfl hd1 rfl (by omega) (by first | omega | decide | (simp only [List.length_cons, List.length_nil, List.length_append, List.length_take, List.length_set]; omega)) Try.underlying22 inf49) rfl ?_
     refine q_val (wg rfl rfl rfl) (r_fe rfl fld49_0) rfl ?_
     obtain ⟨s2, hs2⟩ : ∃ x, l[(k - 1)]? = some x := ⟨_, List.getElem?_eq_getElem (by first | omega | decide | (simp only [List.length_cons, List.length_nil, List.length_append, List.length_take, List.length_set]; omega))⟩
     refine q_val (wg rfl rfl rfl) (r_pl 6 rfl rfl hd1 hs2 rfl flat42) rfl ?_
     refine q_val (wg rfl rfl rfl) (r_fa rfl fld49_0) rfl ?_
     refine q_val (wg rfl rfl rfl) (r_lb 4 rfl rfl rfl flat42) rfl ?_
     have hw2 := hwl _ (List.mem_of_getElem? hs2)
     refine q_opn (fun _ h => h.one 7 LineX.Ok.loc rfl hs2) (fun _ h => h.drop1) ?_
     refine q_opn (fun _ h => h.lineX 0 rfl) (fun _ h => h.drop1.drop1) ?_
     obtain ⟨hc3, hm3, hA3⟩ := hw2.sr
     obtain ⟨hc4, hm4, hA4⟩ := hw2.sm
     refine q_callF (wg rfl rfl rfl) rfl Try.call31 rfl (fun w1 hM => c_compare _ s2.sr.l _ s1.sr.l w1 (hM.slp 0 rfl) (hM.slp 4 rfl)) ?_
     refine q_val (wg rfl rfl rfl) (r_geq rfl rfl) rfl ?_
     refine q_val wn (r_pick rfl rfl) rfl ?_
     refine q_end (e_go hK19 ?_)
     refine c_cond rfl (fun h6 => ?_) (fun h6 => ?_)
     · refine c_seq fun _ hK20 => ?_
       refine c_region ?_
       refine l_val wn (r_move rfl) rfl ?_
       refine l_val wn (r_build [.int .i64 2, .int .i64 (k : Int)] pl34 inf34 rfl rfl) rfl ?_
       refine l_stn 8 wn rfl rfl rfl inf34 rfl rfl rfl ?_
       refine l_nil (e_go hK20 ?_)
       refine c_ret (e_in_r (e_then_r (e_loop1_r (e_in_r (e_then_r (e_ret1 (.inl rfl) Try.results11 (rv_cell 8 rfl rfl agg34 inf34 rfl) fun w1 hM => ?_))))))
       exact ret_agg (l1 := [.int .i64 2, .int .i64 (k : Int)]) (by rw [Mn.lines, if_neg (by omega), hI1.2, Mn.lines_step hs1, if_neg h3, if_neg h4, if_pos ((Mn.prev_at (by omega) hs2).2 (by omega))]) hM
     refine c_skip (e_in_n (e_go hK9 ?_))
     refine c_region ?_
     refine l_val wn (r_addn rfl rfl (by omega)) rfl ?_
     refine l_val wn (r_move rfl) rfl ?_
     refine l_nil (e_round1 (k + 1) (sc rfl (sc rfl (sc rfl (sc rfl (sc (ji (by omega)) sn))))) (fun _ h => (h.sel [8, 9, 10] (by decide) rfl)) ?_ ?_)
     · exact ⟨by omega, by rw [hI1.2, Mn.lines_step hs1, if_neg h3, if_neg h4, if_neg ((fun g => by have := (Mn.prev_at (by omega) hs2).1 g; omega))]⟩
     omega
   refine q_skip (wg rfl rfl rfl) rfl ?_
   refine q_skip (wg rfl rfl rfl) rfl ?_
   refine q_skip (wg rfl rfl rfl) rfl ?_
   refine q_skip (wg rfl rfl rfl) rfl ?_
   refine q_skip (wg rfl rfl rfl) rfl ?_
   refine q_skip (wg rfl rfl rfl) rfl ?_
   refine q_skip (wg rfl rfl rfl) rfl ?_
   refine q_skip (wg rfl rfl rfl) rfl ?_
   refine q_skip (wg rfl rfl rfl) rfl ?_
   refine q_skip (wg rfl rfl rfl) rfl ?_
   refine q_val wn (r_pick rfl rfl) rfl ?_
   refine q_end (e_go hK19 ?_)
   refine c_false rfl rfl ?_
   refine c_skip (e_in_n (e_go hK9 ?_))
   refine c_region ?_
   refine l_val wn (r_addn rfl rfl (by omega)) rfl ?_
   refine l_val wn (r_move rfl) rfl ?_
   refine l_nil (e_round1 (k + 1) (sc rfl (sc rfl (sc rfl (sc rfl (sc (ji (by omega)) sn))))) (fun _ h => (h.sel [5, 6, 7] (by decide) rfl)) ?_ ?_)
   · exact ⟨by omega, by rw [hI1.2, Mn.lines_step hs1, if_neg h3, if_neg h4, if_neg (Mn.prev_0 (by omega))]⟩
   omega
 refine c_exit (e_then_x (e_loop1_x (e_in_hit (e_go hK5 ?_))))
 refine c_seq fun _ hK21 => ?_
 refine c_region ?_
 refine l_val wn (r_build [.int .i64 0, .int .i64 0] pl34 inf34 rfl rfl) rfl ?_
 refine l_stn 0 wn rfl rfl rfl inf34 rfl rfl rfl ?_
 refine l_nil (e_go hK21 ?_)
 refine c_ret (e_ret1 (.inl rfl) Try.results11 (rv_cell 0 rfl rfl agg34 inf34 rfl) fun w1 hM => ?_)
 exact ret_agg (l1 := [.int .i64 0, .int .i64 0]) (by rw [Mn.lines, if_neg (by omega), hI1.2, Mn.lines_end (by omega)]) hM

theorem c_wrongLines1 (e : Int) (ip : Nat) (i : Int) (w : World) (hip : w.heap[ip]? = some (.cells [.int .i64 i].toArray 3 (0, 0)))  :
    Calls Try.prog 32 #[.int .i64 e, .pointer (some ⟨ip, 0, none⟩)] w (Ret w (.agg (faultE ⟨e, i⟩).toArray)) := by
 refine fstart (N := 7) (vals := [.int .i64 e, .pointer (some ⟨ip, 0, none⟩)]) (S := Mem w no [datB ip [.int .i64 i] 3]) Try.func32 rfl rfl rfl (Mem.ofDats (dc (ddb hip) dn)) ?_
 refine c_seq fun _ hK1 => ?_
 refine c_region ?_
 refine l_alloc wn inf34 rfl fun b3 => ?_
 refine l_nil (e_go hK1 ?_)
 refine c_seq fun _ hK2 => ?_
 refine c_region ?_
 refine l_val wn (r_move rfl) rfl ?_
 refine l_val wn (r_ldb 1 rfl rfl rfl flat3) rfl ?_
 refine l_val wn (r_build [.int .i64 e, .int .i64 i] pl34 inf34 rfl rfl) rfl ?_
 refine l_stn 0 wn rfl rfl rfl inf34 rfl rfl rfl ?_
 refine l_nil (e_go hK2 ?_)
 refine c_ret (e_ret1 (.inl rfl) Try.results32 (rv_cell 0 rfl rfl agg34 inf34 rfl) fun w1 hM => ?_)
 exact ret_agg (l1 := [.int .i64 e, .int .i64 i]) rfl hM

set_option maxHeartbeats 1000000 in
theorem c_refWrongLines (lv : Value) (l : List LineX) (P0 : Nat → Prop) (w : World) (hP0 : ∀ b, P0 b → b < w.heap.size) (hl : FlatSl P0 2 lineE lv l w) (hla : ∀ x ∈ l, LineX.Ok P0 x w)  :
    Calls Try.prog 12 #[lv] w (Ret w (.agg (faultE (Mn.lines l)).toArray)) := by
 have hwl : ∀ x ∈ l, LineX.Wf x := fun x hx => (hla x hx).wf
 obtain ⟨lA, lc, rfl, hlc, hlm, hlA⟩ := hl.form
 refine fstart (N := 56) (vals := [.slice lA l.length lc]) (S := Mem w ⟨no, P0⟩ [slP 2 lineE (.slice lA l.length lc) l, allP LineX.Ok l]) Try.func12 rfl rfl rfl (Mem.ofDatsP hP0 (dc (dlp hl) (dc (dp (all_loc LineX.Ok.loc _) hla) dn))) ?_
 refine c_seq fun _ hK1 => ?_
 refine c_region ?_
 refine l_alloc wn inf34 rfl fun b2 => ?_
 refine l_nil (e_go hK1 ?_)
 refine c_seq fun _ hK2 => ?_
 refine c_seq fun _ hK3 => ?_
 refine c_region ?_
 refine l_val wn (r_move rfl) rfl ?_
 refine l_val wn (r_len rfl Try.underlying22) rfl ?_
 refine l_val wn (r_gtr rfl rfl) rfl ?_
 refine l_nil (e_go hK3 ?_)
 refine c_cond rfl (fun h1 => ?_) (fun h1 => ?_)
 · refine c_seq fun _ hK4 => ?_
   refine c_region ?_
   refine l_val wn (r_build [.int .i64 5, .int .i64 0] pl34 inf34 rfl rfl) rfl ?_
   refine l_stn 0 wn rfl rfl rfl inf34 rfl rfl rfl ?_
   refine l_nil (e_go hK4 ?_)
   refine c_ret (e_then_r (e_ret1 (.inl rfl) Try.results12 (rv_cell 0 rfl rfl agg34 inf34 rfl) fun w1 hM => ?_))
   exact ret_agg (l1 := [.int .i64 5, .int .i64 0]) (by rw [Mn.lines, if_pos (by omega)]) hM
 refine c_skip (e_go hK2 ?_)
 refine c_seq fun _ hK5 => ?_
 refine c_seq fun _ hK6 => ?_
 refine c_region ?_
 refine l_val wn (r_move rfl) rfl ?_
 refine l_val wn (r_len rfl Try.underlying22) rfl ?_
 refine l_val wn (r_move rfl) rfl ?_
 refine l_nil (e_go hK6 ?_)
 refine c_block ?_
 refine c_loop1 (fun (k : Nat) => [(0, .slice lA l.length lc), (2, .pointer (some ⟨b2, 0, none⟩)), (12, .slice lA l.length lc), (13, .int .i64 (l.length : Int)), (14, .int .i64 (k : Int))]) (fun (k : Nat) => [.blk b2 [.int .i64 0, .int .i64 0] 34, slP 2 lineE (.slice lA l.length lc) l, allP LineX.Ok l]) (fun (k : Nat) => k ≤ l.length ∧ Mn.linesFrom 0 none l = Mn.linesFrom k (Mn.prevOf l k) (l.drop k)) (fun (k : Nat) => l.length - k) 0 (sc rfl (sc rfl (sc rfl (sc rfl (sc (ji (by omega)) sn))))) (fun _ h => h) ?_ (fun k hI1 => ?_)
 · exact ⟨by omega, Mn.lines_start l⟩
 refine c_seq fun _ hK7 => ?_
 refine c_region ?_
 refine l_val wn (r_lss rfl rfl) rfl ?_
 refine l_nil (e_go hK7 ?_)
 refine c_seq fun _ hK8 => ?_
 refine c_cond rfl (fun h2 => ?_) (fun h2 => ?_)
 · refine c_skip (e_go hK8 ?_)
   refine c_seq fun _ hK9 => ?_
   refine c_block ?_
   refine c_seq fun _ hK10 => ?_
   refine c_region ?_
   refine l_val wn (r_move rfl) rfl ?_
   obtain ⟨ad1, hd1⟩ := hlA (ne_nil (i := k) (by first | omega | decide | (simp only [List.length_cons, List.length_nil, List.length_append, List.length_take, List.length_set]; omega)))
   refine l_val wn (r_ia (i := k) rfl hd1 rfl (by omega) (by first | omega | decide | (simp only [List.length_cons, List.length_nil, List.length_append, List.length_take, List.length_set]; omega)) Try.underlying22 inf49) rfl ?_
   obtain ⟨s1, hs1⟩ : ∃ x, l[k]? = some x := ⟨_, List.getElem?_eq_getElem (by first | omega | decide | (simp only [List.length_cons, List.length_nil, List.length_append, List.length_take, List.length_set]; omega))⟩
   refine l_val wn (r_pln 1 [.slice s1.sr.A s1.sr.l.length s1.sr.c, .slice s1.sm.A s1.sm.l.length s1.sm.c] rfl rfl hd1 hs1 rfl rfl agg49 inf49) rfl ?_
   refine l_alloc1 wn inf3 rfl rfl fun b3 => ?_
   refine l_alloc wn inf49 rfl fun b4 => ?_
   refine l_st1 1 wn rfl rfl rfl rfl inf3 rfl rfl ?_
   refine l_stn 0 wn rfl rfl rfl inf49 rfl rfl rfl ?_
   refine l_nil (e_go hK10 ?_)
   refine c_seq fun _ hK11 => ?_
   refine c_region ?_
   refine l_val wn (r_makeFunc rfl rfl) rfl ?_
   refine l_val wn (r_assign rfl) rfl ?_
   refine l_nil (e_go hK11 ?_)
   refine c_seq fun _ hK12 => ?_
   refine c_seq fun _ hK13 => ?_
   refine c_region ?_
   refine l_val wn (r_fa rfl fld49_0) rfl ?_
   refine l_val wn (r_lb 0 rfl rfl rfl flat42) rfl ?_
   have hw1 := hwl _ (List.mem_of_getElem? hs1)
   refine l_opn (fun _ h => h.one 4 LineX.Ok.loc rfl hs1) ?_
   refine l_opn (fun _ h => h.lineX 0 rfl) ?_
   obtain ⟨hc1, hm1, hA1⟩ := hw1.sr
   obtain ⟨hc2, hm2, hA2⟩ := hw1.sm
   refine l_callF wn rfl Try.call33 rfl (fun w1 hM => c_refWrongSeries _ s1.sr.l w1 (hM.slp 0 rfl) (hwl _ (List.mem_of_getElem? (by assumption))).str) ?_
   refine l_val wn (r_assign rfl) rfl ?_
   refine l_nil (e_go hK13 ?_)
   refine c_seq fun _ hK14 => ?_
   refine c_region ?_
   refine l_val wn (r_move rfl) rfl ?_
   refine l_val wn (r_neq rfl rfl) rfl ?_
   refine l_nil (e_go hK14 ?_)
   refine c_cond rfl (fun h3 => ?_) (fun h3 => ?_)
   · refine c_seq fun _ hK15 => ?_
     refine c_region ?_
     refine l_val wn (r_move rfl) rfl ?_
     refine l_val wn (r_move rfl) rfl ?_
     refine l_callR wn rfl rfl Try.call32 rfl (fun w1 hM => by simpa using c_wrongLines1 (Names.wrong s1.sr.l) b3 (k : Int) w1 (hM.blk (i := 4) rfl)) ?_
     refine l_stn 5 wn rfl rfl rfl inf34 rfl rfl rfl ?_
     refine l_nil (e_go hK15 ?_)
     refine c_ret (e_then_r (e_in_r (e_then_r (e_loop1_r (e_in_r (e_then_r (e_ret1 (.inl rfl) Try.results12 (rv_cell 5 rfl rfl agg34 inf34 rfl) fun w1 hM => ?_)))))))
     exact ret_agg (l1 := [.int .i64 (Names.wrong s1.sr.l), .int .i64 (k : Int)]) (by rw [Mn.lines, if_neg (by omega), hI1.2, Mn.lines_step hs1, if_pos h3]) hM
   refine c_skip (e_go hK12 ?_)
   refine c_seq fun _ hK16 => ?_
   refine c_seq fun _ hK17 => ?_
   refine c_region ?_
   refine l_val wn (r_fa rfl fld49_1) rfl ?_
   refine l_val wn (r_lb 3 rfl rfl rfl flat47) rfl ?_
   refine l_callF wn rfl Try.call34 rfl (fun w1 hM => c_refWrong _ s1.sm.l w1 (hM.slp 1 rfl)) ?_
   refine l_alloc wn inf34 rfl fun b7 => ?_
   refine l_stn 0 wn rfl rfl rfl inf34 rfl rfl rfl ?_
   refine l_nil (e_go hK17 ?_)
   refine c_seq fun _ hK18 => ?_
   refine c_region ?_
   refine l_val wn (r_fa rfl fld34_0) rfl ?_
   refine l_val wn (r_lb 0 rfl rfl rfl flat29) rfl ?_
   refine l_val wn (r_neq rfl rfl) rfl ?_
   refine l_nil (e_go hK18 ?_)
   refine c_cond rfl (fun h4 => ?_) (fun h4 => ?_)
   · refine c_seq fun _ hK19 => ?_
     refine c_region ?_
     refine l_val wn (r_move rfl) rfl ?_
     refine l_val wn (r_fa rfl fld34_0) rfl ?_
     refine l_val wn (r_lb 0 rfl rfl rfl flat29) rfl ?_
     refine l_callR wn rfl rfl Try.call32 rfl (fun w1 hM => by simpa using c_wrongLines1 ((Codec.wrong s1.sm.l).err) b3 (k : Int) w1 (hM.blk (i := 5) rfl)) ?_
     refine l_stn 6 wn rfl rfl rfl inf34 rfl rfl rfl ?_
     refine l_nil (e_go hK19 ?_)
     refine c_ret (e_then_r (e_in_r (e_then_r (e_loop1_r (e_in_r (e_then_r (e_ret1 (.inl rfl) Try.results12 (rv_cell 6 rfl rfl agg34 inf34 rfl) fun w1 hM => ?_)))))))
     exact ret_agg (l1 := [.int .i64 ((Codec.wrong s1.sm.l).err), .int .i64 (k : Int)]) (by rw [Mn.lines, if_neg (by omega), hI1.2, Mn.lines_step hs1, if_neg h3, if_pos h4]) hM
   refine c_skip (e_go hK16 ?_)
   refine c_seq fun _ hK20 => ?_
   refine c_quiet mix (by kernel_rfl) (fun _ h => h.drew) ?_
   refine q_val wn (r_lb 5 rfl rfl rfl flat3) rfl ?_
   refine q_val wn (r_gtr rfl rfl) rfl ?_
   refine q_val wn (r_move rfl) rfl ?_
   refine q_case (t := 40) rfl (fun h5 => ?_) (fun h5 => ?_)
   · refine q_val (wg rfl rfl rfl) (r_move rfl) rfl ?_
     refine q_val (wg rfl rfl rfl) (r_lb 5 rfl rfl rfl flat3) rfl ?_
     refine q_val (wg rfl rfl rfl) (r_subn rfl rfl (by omega)) rfl ?_
     refine q_val (wg rfl rfl rfl) (r_ia (i := (k - 1)) rfl hd1 rfl (by omega) (by first | omega | decide | (simp only [List.length_cons, List.length_nil, List.length_append, List.length_take, List.length_set]; omega)) Try.underlying22 inf49) rfl ?_
     refine q_val (wg rfl rfl rfl) (r_fe rfl fld49_0) rfl ?_
     obtain ⟨s2, hs2⟩ : ∃ x, l[(k - 1)]? = some x := ⟨_, List.getElem?_eq_getElem (by first | omega | decide | (simp only [List.length_cons, List.length_nil, List.length_append, List.length_take, List.length_set]; omega))⟩
     refine q_val (wg rfl rfl rfl) (r_pl 7 rfl rfl hd1 hs2 rfl flat42) rfl ?_
     refine q_val (wg rfl rfl rfl) (r_fa rfl fld49_0) rfl ?_
     refine q_val (wg rfl rfl rfl) (r_lb 4 rfl rfl rfl flat42) rfl ?_
     have hw2 := hwl _ (List.mem_of_getElem? hs2)
     refine q_opn (fun _ h => h.one 8 LineX.Ok.loc rfl hs2) (fun _ h => h.drop1) ?_
     refine q_opn (fun _ h => h.lineX 0 rfl) (fun _ h => h.drop1.drop1) ?_
     obtain ⟨hc3, hm3, hA3⟩ := hw2.sr
     obtain ⟨hc4, hm4, hA4⟩ := hw2.sm
     refine q_callF (wg rfl rfl rfl) rfl Try.call35 rfl (fun w1 hM => c_refCompare _ s2.sr.l _ s1.sr.l w1 (hM.slp 0 rfl) (hM.slp 4 rfl)) ?_
     refine q_val (wg rfl rfl rfl) (r_geq rfl rfl) rfl ?_
     refine q_val wn (r_pick rfl rfl) rfl ?_
     refine q_end (e_go hK20 ?_)
     refine c_cond rfl (fun h6 => ?_) (fun h6 => ?_)
     · refine c_seq fun _ hK21 => ?_
       refine c_region ?_
       refine l_val wn (r_move rfl) rfl ?_
       refine l_callR wn rfl rfl Try.call32 rfl (fun w1 hM => by simpa using c_wrongLines1 2 b3 (k : Int) w1 (hM.blk (i := 8) rfl)) ?_
       refine l_stn 9 wn rfl rfl rfl inf34 rfl rfl rfl ?_
       refine l_nil (e_go hK21 ?_)
       refine c_ret (e_in_r (e_then_r (e_loop1_r (e_in_r (e_then_r (e_ret1 (.inl rfl) Try.results12 (rv_cell 9 rfl rfl agg34 inf34 rfl) fun w1 hM => ?_))))))
       exact ret_agg (l1 := [.int .i64 2, .int .i64 (k : Int)]) (by rw [Mn.lines, if_neg (by omega), hI1.2, Mn.lines_step hs1, if_neg h3, if_neg h4, if_pos ((Mn.prev_at (by omega) hs2).2 (by omega))]) hM
     refine c_skip (e_in_n (e_go hK9 ?_))
     refine c_region ?_
     refine l_val wn (r_addn rfl rfl (by omega)) rfl ?_
     refine l_val wn (r_move rfl) rfl ?_
     refine l_nil (e_round1 (k + 1) (sc rfl (sc rfl (sc rfl (sc rfl (sc (ji (by omega)) sn))))) (fun _ h => (h.sel [9, 10, 11] (by decide) rfl)) ?_ ?_)
     · exact ⟨by omega, by rw [hI1.2, Mn.lines_step hs1, if_neg h3, if_neg h4, if_neg ((fun g => by have := (Mn.prev_at (by omega) hs2).1 g; omega))]⟩
     omega
   refine q_skip (wg rfl rfl rfl) rfl ?_
   refine q_skip (wg rfl rfl rfl) rfl ?_
   refine q_skip (wg rfl rfl rfl) rfl ?_
   refine q_skip (wg rfl rfl rfl) rfl ?_
   refine q_skip (wg rfl rfl rfl) rfl ?_
   refine q_skip (wg rfl rfl rfl) rfl ?_
   refine q_skip (wg rfl rfl rfl) rfl ?_
   refine q_skip (wg rfl rfl rfl) rfl ?_
   refine q_skip (wg rfl rfl rfl) rfl ?_
   refine q_skip (wg rfl rfl rfl) rfl ?_
   refine q_val wn (r_pick rfl rfl) rfl ?_
   refine q_end (e_go hK20 ?_)
   refine c_false rfl rfl ?_
   refine c_skip (e_in_n (e_go hK9 ?_))
   refine c_region ?_
   refine l_val wn (r_addn rfl rfl (by omega)) rfl ?_
   refine l_val wn (r_move rfl) rfl ?_
   refine l_nil (e_round1 (k + 1) (sc rfl (sc rfl (sc rfl (sc rfl (sc (ji (by omega)) sn))))) (fun _ h => (h.sel [6, 7, 8] (by decide) rfl)) ?_ ?_)
   · exact ⟨by omega, by rw [hI1.2, Mn.lines_step hs1, if_neg h3, if_neg h4, if_neg (Mn.prev_0 (by omega))]⟩
   omega
 refine c_exit (e_then_x (e_loop1_x (e_in_hit (e_go hK5 ?_))))
 refine c_seq fun _ hK22 => ?_
 refine c_region ?_
 refine l_val wn (r_build [.int .i64 0, .int .i64 0] pl34 inf34 rfl rfl) rfl ?_
 refine l_stn 0 wn rfl rfl rfl inf34 rfl rfl rfl ?_
 refine l_nil (e_go hK22 ?_)
 refine c_ret (e_ret1 (.inl rfl) Try.results12 (rv_cell 0 rfl rfl agg34 inf34 rfl) fun w1 hM => ?_)
 exact ret_agg (l1 := [.int .i64 0, .int .i64 0]) (by rw [Mn.lines, if_neg (by omega), hI1.2, Mn.lines_end (by omega)]) hM

set_option maxHeartbeats 1000000 in
theorem c_sameCells (av : Value) (a : List CellX) (bv : Value) (b : List CellX) (P0 : Nat → Prop) (w : World) (hP0 : ∀ b, P0 b → b < w.heap.size) (ha : FlatSl P0 2 cellE av a w) (haa : ∀ x ∈ a, CellX.Ok P0 x w) (hb : FlatSl P0 2 cellE bv b w) (hba : ∀ x ∈ b, CellX.Ok P0 x w)  :
    Calls Try.prog 10 #[av, bv] w (Ret w (.bool (decide (a.map CellX.e = b.map CellX.e)))) := by
 have hwa : ∀ x ∈ a, CellX.Wf x := fun x hx => (haa x hx).wf
 obtain ⟨aA, ac, rfl, hac, ham, haA⟩ := ha.form
 have hwb : ∀ x ∈ b, CellX.Wf x := fun x hx => (hba x hx).wf
 obtain ⟨bA, bc, rfl, hbc, hbm, hbA⟩ := hb.form
 refine fstart (N := 42) (vals := [.slice aA a.length ac, .slice bA b.length bc]) (S := Mem w ⟨no, P0⟩ [slP 2 cellE (.slice aA a.length ac) a, allP CellX.Ok a, slP 2 cellE (.slice bA b.length bc) b, allP CellX.Ok b]) Try.func10 rfl rfl rfl (Mem.ofDatsP hP0 (dc (dlp ha) (dc (dp (all_loc CellX.Ok.loc _) haa) (dc (dlp hb) (dc (dp (all_loc CellX.Ok.loc _) hba) dn))))) ?_
 refine c_seq fun _ hK1 => ?_
 refine c_region ?_
 refine l_val wn (r_assign rfl) rfl ?_
 refine l_nil (e_go hK1 ?_)
 refine c_seq fun _ hK2 => ?_
 refine c_seq fun _ hK3 => ?_
 refine c_region ?_
 refine l_val wn (r_move rfl) rfl ?_
 refine l_val wn (r_len rfl Try.underlying28) rfl ?_
 refine l_val wn (r_move rfl) rfl ?_
 refine l_val wn (r_len rfl Try.underlying28) rfl ?_
 refine l_val wn (r_neq rfl rfl) rfl ?_
 refine l_nil (e_go hK3 ?_)
 refine c_cond rfl (fun h1 => ?_) (fun h1 => ?_)
 · refine c_seq fun _ hK4 => ?_
   refine c_region ?_
   refine l_val wn (r_assign rfl) rfl ?_
   refine l_nil (e_go hK4 ?_)
   refine c_ret (e_then_r (e_ret1 (.inl rfl) Try.results10 (rv_tmp rfl) fun w1 hM => ?_))
   exact ret_ok (congrArg Value.bool (decide_eq_false (fun h => by have := congrArg List.length h; simp at this; omega)).symm) hM
 refine c_skip (e_go hK2 ?_)
 refine c_seq fun _ hK5 => ?_
 refine c_seq fun _ hK6 => ?_
 refine c_region ?_
 refine l_val wn (r_move rfl) rfl ?_
 refine l_val wn (r_len rfl Try.underlying28) rfl ?_
 refine l_val wn (r_move rfl) rfl ?_
 refine l_nil (e_go hK6 ?_)
 refine c_block ?_
 refine c_loop1 (fun (k : Nat) => [(0, .slice aA a.length ac), (1, .slice bA b.length bc), (12, .int .i64 (a.length : Int)), (13, .int .i64 (k : Int))]) (fun (k : Nat) => [slP 2 cellE (.slice aA a.length ac) a, allP CellX.Ok a, slP 2 cellE (.slice bA b.length bc) b, allP CellX.Ok b]) (fun (k : Nat) => k ≤ a.length ∧ a.length = b.length ∧ (a.take k).map CellX.e = (b.take k).map CellX.e) (fun (k : Nat) => a.length - k) 0 (sc rfl (sc rfl (sc rfl (sc (ji (by omega)) sn)))) (fun _ h => h) ?_ (fun k hI1 => ?_)
 · exact ⟨by omega, by omega, rfl⟩
 have hlen := hI1.2.1
 refine c_seq fun _ hK7 => ?_
 refine c_region ?_
 refine l_val wn (r_lss rfl rfl) rfl ?_
 refine l_nil (e_go hK7 ?_)
 refine c_seq fun _ hK8 => ?_
 refine c_cond rfl (fun h2 => ?_) (fun h2 => ?_)
 · refine c_skip (e_go hK8 ?_)
   refine c_seq fun _ hK9 => ?_
   refine c_block ?_
   refine c_seq fun _ hK10 => ?_
   refine c_region ?_
   refine l_val wn (r_move rfl) rfl ?_
   refine l_val wn (r_assign rfl) rfl ?_
   refine l_nil (e_go hK10 ?_)
   refine c_seq fun _ hK11 => ?_
   refine c_quiet mix (by kernel_rfl) (fun _ h => h.drew) ?_
   refine q_val wn (r_move rfl) rfl ?_
   refine q_val wn (r_move rfl) rfl ?_
   obtain ⟨ad1, hd1⟩ := haA (ne_nil (i := k) (by first | omega | decide | (simp only [List.length_cons, List.length_nil, List.length_append, List.length_take, List.length_set]; omega)))
   refine q_val wn (r_ia (i := k) rfl hd1 rfl (by omega) (by first | omega | decide | (simp only [List.length_cons, List.length_nil, List.length_append, List.length_take, List.length_set]; omega)) Try.underlying28 inf44) rfl ?_
   refine q_val wn (r_fe rfl fld44_1) rfl ?_
   obtain ⟨s1, hs1⟩ : ∃ x, a[k]? = some x := ⟨_, List.getElem?_eq_getElem (by first | omega | decide | (simp only [List.length_cons, List.length_nil, List.length_append, List.length_take, List.length_set]; omega))⟩
   refine q_val wn (r_pl 0 rfl rfl hd1 hs1 rfl flat3) rfl ?_
   refine q_val wn (r_move rfl) rfl ?_
   refine q_val wn (r_move rfl) rfl ?_
   obtain ⟨ad2, hd2⟩ := hbA (ne_nil (i := k) (by first | omega | decide | (simp only [List.length_cons, List.length_nil, List.length_append, List.length_take, List.length_set]; omega)))
   refine q_val wn (r_ia (i := k) rfl hd2 rfl (by omega) (by first | omega | decide | (simp only [List.length_cons, List.length_nil, List.length_append, List.length_take, List.length_set]; omega)) Try.underlying28 inf44) rfl ?_
   refine q_val wn (r_fe rfl fld44_1) rfl ?_
   obtain ⟨s2, hs2⟩ : ∃ x, b[k]? = some x := ⟨_, List.getElem?_eq_getElem (by first | omega | decide | (simp only [List.length_cons, List.length_nil, List.length_append, List.length_take, List.length_set]; omega))⟩
   refine q_val wn (r_pl 2 rfl rfl hd2 hs2 rfl flat3) rfl ?_
   refine q_val wn (r_neq rfl rfl) rfl ?_
   refine q_val wn (r_move rfl) rfl ?_
   refine q_case (t := 27) rfl (fun h3 => ?_) (fun h3 => ?_)
   · refine q_skip (wg rfl rfl rfl) rfl ?_
     refine q_skip (wg rfl rfl rfl) rfl ?_
     refine q_skip (wg rfl rfl rfl) rfl ?_
     refine q_skip (wg rfl rfl rfl) rfl ?_
     refine q_skip (wg rfl rfl rfl) rfl ?_
     refine q_skip (wg rfl rfl rfl) rfl ?_
     refine q_skip (wg rfl rfl rfl) rfl ?_
     refine q_skip (wg rfl rfl rfl) rfl ?_
     refine q_skip (wg rfl rfl rfl) rfl ?_
     refine q_skip (wg rfl rfl rfl) rfl ?_
     refine q_skip (wg rfl rfl rfl) rfl ?_
     refine q_skip (wg rfl rfl rfl) rfl ?_
     refine q_val wn (r_pick rfl rfl) rfl ?_
     refine q_end (e_go hK11 ?_)
     refine c_true rfl rfl ?_
     refine c_seq fun _ hK12 => ?_
     refine c_region ?_
     refine l_val wn (r_assign rfl) rfl ?_
     refine l_nil (e_go hK12 ?_)
     refine c_ret (e_in_r (e_then_r (e_loop1_r (e_in_r (e_then_r (e_ret1 (.inl rfl) Try.results10 (rv_tmp rfl) fun w1 hM => ?_))))))
     exact ret_ok (congrArg Value.bool (decide_eq_false (Mn.same_no hs1 hs2 (by grind))).symm) hM
   refine q_val (wg rfl rfl rfl) (r_move rfl) rfl ?_
   refine q_val (wg rfl rfl rfl) (r_move rfl) rfl ?_
   refine q_val (wg rfl rfl rfl) (r_ia (i := k) rfl hd1 rfl (by omega) (by first | omega | decide | (simp only [List.length_cons, List.length_nil, List.length_append, List.length_take, List.length_set]; omega)) Try.underlying28 inf44) rfl ?_
   refine q_val (wg rfl rfl rfl) (r_fe rfl fld44_0) rfl ?_
   refine q_val (wg rfl rfl rfl) (r_pl 0 rfl rfl hd1 hs1 rfl flat42) rfl ?_
   refine q_val (wg rfl rfl rfl) (r_move rfl) rfl ?_
   refine q_val (wg rfl rfl rfl) (r_move rfl) rfl ?_
   refine q_val (wg rfl rfl rfl) (r_ia (i := k) rfl hd2 rfl (by omega) (by first | omega | decide | (simp only [List.length_cons, List.length_nil, List.length_append, List.length_take, List.length_set]; omega)) Try.underlying28 inf44) rfl ?_
   refine q_val (wg rfl rfl rfl) (r_fe rfl fld44_0) rfl ?_
   refine q_val (wg rfl rfl rfl) (r_pl 2 rfl rfl hd2 hs2 rfl flat42) rfl ?_
   have hw1 := hwa _ (List.mem_of_getElem? hs1)
   refine q_opn (fun _ h => h.one 1 CellX.Ok.loc rfl hs1) (fun _ h => h.drop1) ?_
   refine q_opn (fun _ h => h.cellX 0 rfl) (fun _ h => h.drop1) ?_
   obtain ⟨hc1, hm1, hA1⟩ := hw1.sr
   have hw2 := hwb _ (List.mem_of_getElem? hs2)
   refine q_opn (fun _ h => h.one 5 CellX.Ok.loc rfl hs2) (fun _ h => h.drop1) ?_
   refine q_opn (fun _ h => h.cellX 0 rfl) (fun _ h => h.drop1) ?_
   obtain ⟨hc2, hm2, hA2⟩ := hw2.sr
   refine q_callF (wg rfl rfl rfl) rfl Try.call18 rfl (fun w1 hM => c_SameSeries _ s1.sr.l _ s2.sr.l w1 (hM.slp 2 rfl) (hM.slp 0 rfl)) ?_
   refine q_val (wg rfl rfl rfl) (r_not rfl) rfl ?_
   refine q_val wn (r_pick rfl rfl) rfl ?_
   refine q_end (e_go hK11 ?_)
   refine c_cond rfl (fun h4 => ?_) (fun h4 => ?_)
   · refine c_seq fun _ hK13 => ?_
     refine c_region ?_
     refine l_val wn (r_assign rfl) rfl ?_
     refine l_nil (e_go hK13 ?_)
     refine c_ret (e_in_r (e_then_r (e_loop1_r (e_in_r (e_then_r (e_ret1 (.inl rfl) Try.results10 (rv_tmp rfl) fun w1 hM => ?_))))))
     exact ret_ok (congrArg Value.bool (decide_eq_false (Mn.same_no hs1 hs2 (by grind))).symm) hM
   refine c_skip (e_in_n (e_go hK9 ?_))
   refine c_region ?_
   refine l_val wn (r_addn rfl rfl (by omega)) rfl ?_
   refine l_val wn (r_move rfl) rfl ?_
   refine l_nil (e_round1 (k + 1) (sc rfl (sc rfl (sc rfl (sc (ji (by omega)) sn)))) (fun _ h => (h.sel [4, 5, 6, 7] (by decide) rfl)) ?_ ?_)
   · exact ⟨by omega, by omega, Mn.same_at hI1.2.2 hs1 hs2 (by grind) (by grind)⟩
   omega
 refine c_exit (e_then_x (e_loop1_x (e_in_hit (e_go hK5 ?_))))
 refine c_seq fun _ hK14 => ?_
 refine c_region ?_
 refine l_val wn (r_assign rfl) rfl ?_
 refine l_nil (e_go hK14 ?_)
 refine c_ret (e_ret1 (.inl rfl) Try.results10 (rv_tmp rfl) fun w1 hM => ?_)
 exact ret_ok (congrArg Value.bool (decide_eq_true (by have h := hI1.2.2; rw [List.take_of_length_le (by omega), List.take_of_length_le (by omega)] at h; exact h)).symm) hM

theorem c_fits (n : Int) (w : World)   :
    Calls Try.prog 78 #[.int .i64 n] w (Ret w (.bool (Mn.fits n))) := by
 refine fstart (N := 9) (vals := [.int .i64 n]) (S := Mem w no []) Try.func78 rfl rfl rfl (Mem.ofDats dn) ?_
 refine c_seq fun _ hK1 => ?_
 refine c_region ?_
 refine l_val wn (r_assign rfl) rfl ?_
 refine l_nil (e_go hK1 ?_)
 refine c_seq fun _ hK2 => ?_
 refine c_region ?_
 refine l_val wn (r_move rfl) rfl ?_
 refine l_val wn (r_geq rfl rfl) rfl ?_
 refine l_val wn (r_move rfl) rfl ?_
 refine l_case (t := 5) rfl (fun h1 => ?_) (fun h1 => ?_)
 · refine l_val (wg rfl rfl rfl) (r_move rfl) rfl ?_
   refine l_val (wg rfl rfl rfl) (r_leq rfl rfl) rfl ?_
   refine l_val wn (r_pick rfl rfl) rfl ?_
   refine l_val wn (r_assign rfl) rfl ?_
   refine l_nil (e_go hK2 ?_)
   refine c_ret (e_ret1 (.inl rfl) Try.results78 (rv_tmp rfl) fun w1 hM => ?_)
   exact ret_ok (congrArg Value.bool (by unfold Mn.fits; grind)) hM
 refine l_skip (wg rfl rfl rfl) rfl ?_
 refine l_skip (wg rfl rfl rfl) rfl ?_
 refine l_val wn (r_pick rfl rfl) rfl ?_
 refine l_val wn (r_assign rfl) rfl ?_
 refine l_nil (e_go hK2 ?_)
 refine c_ret (e_ret1 (.inl rfl) Try.results78 (rv_tmp rfl) fun w1 hM => ?_)
 exact ret_ok (congrArg Value.bool (by unfold Mn.fits; grind)) hM

theorem c_big (n : Int) (w : World)   :
    Calls Try.prog 65 #[.int .i64 n] w (Ret w (.bool (!Mn.fits n))) := by
 refine fstart (N := 9) (vals := [.int .i64 n]) (S := Mem w no []) Try.func65 rfl rfl rfl (Mem.ofDats dn) ?_
 refine c_seq fun _ hK1 => ?_
 refine c_region ?_
 refine l_val wn (r_assign rfl) rfl ?_
 refine l_nil (e_go hK1 ?_)
 refine c_seq fun _ hK2 => ?_
 refine c_region ?_
 refine l_val wn (r_move rfl) rfl ?_
 refine l_val wn (r_gtr rfl rfl) rfl ?_
 refine l_val wn (r_move rfl) rfl ?_
 refine l_case (t := 5) rfl (fun h1 => ?_) (fun h1 => ?_)
 · refine l_skip (wg rfl rfl rfl) rfl ?_
   refine l_skip (wg rfl rfl rfl) rfl ?_
   refine l_val wn (r_pick rfl rfl) rfl ?_
   refine l_val wn (r_assign rfl) rfl ?_
   refine l_nil (e_go hK2 ?_)
   refine c_ret (e_ret1 (.inl rfl) Try.results65 (rv_tmp rfl) fun w1 hM => ?_)
   exact ret_ok (congrArg Value.bool (by unfold Mn.fits; grind)) hM
 refine l_val (wg rfl rfl rfl) (r_move rfl) rfl ?_
 refine l_val (wg rfl rfl rfl) (r_lss rfl rfl) rfl ?_
 refine l_val wn (r_pick rfl rfl) rfl ?_
 refine l_val wn (r_assign rfl) rfl ?_
 refine l_nil (e_go hK2 ?_)
 refine c_ret (e_ret1 (.inl rfl) Try.results65 (rv_tmp rfl) fun w1 hM => ?_)
 exact ret_ok (congrArg Value.bool (by unfold Mn.fits; grind)) hM

theorem c_abs (n : Int) (w : World)  (hn : -9223372036854775807 ≤ n ∧ n ≤ 9223372036854775807) :
    Calls Try.prog 92 #[.int .i64 n] w (Ret w (.int .i64 (Mn.abs n))) := by
 refine fstart (N := 7) (vals := [.int .i64 n]) (S := Mem w no []) Try.func92 rfl rfl rfl (Mem.ofDats dn) ?_
 refine c_seq fun _ hK1 => ?_
 refine c_region ?_
 refine l_val wn (r_assign rfl) rfl ?_
 refine l_nil (e_go hK1 ?_)
 refine c_seq fun _ hK2 => ?_
 refine c_region ?_
 refine l_val wn (r_move rfl) rfl ?_
 refine l_val wn (r_move rfl) rfl ?_
 refine l_val wn (r_neg rfl (by omega)) rfl ?_
 refine l_val wn (r_max rfl rfl) rfl ?_
 refine l_val wn (r_assign rfl) rfl ?_
 refine l_nil (e_go hK2 ?_)
 refine c_ret (e_ret1 (.inl rfl) Try.results92 (rv_tmp rfl) fun w1 hM => ?_)
 exact ret_ok (congrArg (Value.int .i64) (by unfold Mn.abs; grind)) hM

theorem c_op (v : ByteArray) (a : Int) (b : Int) (w : World)  (hab : -1125899906842624 ≤ a ∧ a ≤ 1125899906842624) (hbb : -1125899906842624 ≤ b ∧ b ≤ 1125899906842624) :
    Calls Try.prog 80 #[.string v, .int .i64 a, .int .i64 b] w (Ret w (.tuple #[.int .i64 (Mn.op v a b).1, .bool (Mn.op v a b).2])) := by
 have ha3 := Mn.abs_all a
 have hb3 := Mn.abs_all b
 have hd3 : 0 ≤ 1125899906842624 / Mn.abs b := Int.ediv_nonneg (by omega) hb3.1
 refine fstart (N := 44) (vals := [.string v, .int .i64 a, .int .i64 b]) (S := Mem w no []) Try.func80 rfl rfl rfl (Mem.ofDats dn) ?_
 refine c_seq fun _ hK1 => ?_
 refine c_region ?_
 refine l_val wn (r_assign rfl) rfl ?_
 refine l_val wn (r_assign rfl) rfl ?_
 refine l_nil (e_go hK1 ?_)
 refine c_seq fun _ hK2 => ?_
 refine c_seq fun _ hK3 => ?_
 refine c_region ?_
 refine l_val wn (r_move rfl) rfl ?_
 refine l_nil (e_go hK3 ?_)
 refine c_block ?_
 refine c_seq fun _ hK4 => ?_
 refine c_region ?_
 refine l_val wn (r_seql rfl rfl) rfl ?_
 refine l_val wn (r_assign rfl) rfl ?_
 refine l_nil (e_go hK4 ?_)
 refine c_cond rfl (fun h1 => ?_) (fun h1 => ?_)
 · refine c_seq fun _ hK5 => ?_
   refine c_region ?_
   refine l_val wn (r_move rfl) rfl ?_
   refine l_val wn (r_move rfl) rfl ?_
   refine l_val wn (r_addn rfl rfl (by first | omega | (have := Mn.mul_rng (a := a) (b := b) (by unfold Mn.tooBig; grind); omega))) rfl ?_
   refine l_val wn (r_move rfl) rfl ?_
   refine l_val wn (r_move rfl) rfl ?_
   refine l_val wn (r_addn rfl rfl (by first | omega | (have := Mn.mul_rng (a := a) (b := b) (by unfold Mn.tooBig; grind); omega))) rfl ?_
   refine l_callF wn rfl Try.call78 rfl (fun w1 hM => c_fits (a + b) w1) ?_
   refine l_val wn (r_assign rfl) rfl ?_
   refine l_val wn (r_assign rfl) rfl ?_
   refine l_nil (e_go hK5 ?_)
   refine c_ret (e_in_r (e_then_r (e_ret2 (.inl rfl) Try.results80 (rv_tmp rfl) (rv_tmp rfl) fun w1 hM => ?_)))
   exact ret_ok (by rw [show Mn.op v a b = ((a + b), (Mn.fits (a + b))) from by unfold Mn.op Mn.tooBig; grind]) hM
 refine c_seq fun _ hK6 => ?_
 refine c_region ?_
 refine l_val wn (r_seql rfl rfl) rfl ?_
 refine l_val wn (r_assign rfl) rfl ?_
 refine l_nil (e_go hK6 ?_)
 refine c_cond rfl (fun h2 => ?_) (fun h2 => ?_)
 · refine c_seq fun _ hK7 => ?_
   refine c_region ?_
   refine l_val wn (r_move rfl) rfl ?_
   refine l_val wn (r_move rfl) rfl ?_
   refine l_val wn (r_subn rfl rfl (by first | omega | (have := Mn.mul_rng (a := a) (b := b) (by unfold Mn.tooBig; grind); omega))) rfl ?_
   refine l_val wn (r_move rfl) rfl ?_
   refine l_val wn (r_move rfl) rfl ?_
   refine l_val wn (r_subn rfl rfl (by first | omega | (have := Mn.mul_rng (a := a) (b := b) (by unfold Mn.tooBig; grind); omega))) rfl ?_
   refine l_callF wn rfl Try.call78 rfl (fun w1 hM => c_fits (a - b) w1) ?_
   refine l_val wn (r_assign rfl) rfl ?_
   refine l_val wn (r_assign rfl) rfl ?_
   refine l_nil (e_go hK7 ?_)
   refine c_ret (e_in_r (e_then_r (e_ret2 (.inl rfl) Try.results80 (rv_tmp rfl) (rv_tmp rfl) fun w1 hM => ?_)))
   exact ret_ok (by rw [show Mn.op v a b = ((a - b), (Mn.fits (a - b))) from by unfold Mn.op Mn.tooBig; grind]) hM
 refine c_skip (e_in_n (e_go hK2 ?_))
 refine c_seq fun _ hK8 => ?_
 refine c_cut [(1, .int .i64 a), (2, .int .i64 b), (40, .bool (decide ((a ≠ 0) ∧ ((b ≠ 0) ∧ ((1125899906842624 / (Mn.abs b)) < (Mn.abs a))))))] (Mem w no []) (fun _ hK9 => ?_) ?_
 · refine c_region ?_
   refine l_val wn (r_move rfl) rfl ?_
   refine l_val wn (r_neq rfl rfl) rfl ?_
   refine l_val wn (r_move rfl) rfl ?_
   refine l_case (t := 29) rfl (fun h3 => ?_) (fun h3 => ?_)
   · refine l_val (wg rfl rfl rfl) (r_move rfl) rfl ?_
     refine l_val (wg rfl rfl rfl) (r_neq rfl rfl) rfl ?_
     refine l_val wn (r_pick rfl rfl) rfl ?_
     refine l_val wn (r_move rfl) rfl ?_
     refine l_case (t := 33) rfl (fun h4 => ?_) (fun h4 => ?_)
     · refine l_val (wg rfl rfl rfl) (r_move rfl) rfl ?_
       refine l_callF (wg rfl rfl rfl) rfl Try.call92 rfl (fun w1 hM => c_abs a w1 (by omega)) ?_
       refine l_val (wg rfl rfl rfl) (r_move rfl) rfl ?_
       refine l_callF (wg rfl rfl rfl) rfl Try.call92 rfl (fun w1 hM => c_abs b w1 (by omega)) ?_
       refine l_val (wg rfl rfl rfl) (r_quon rfl rfl (by omega) (by omega)) rfl ?_
       refine l_val (wg rfl rfl rfl) (r_gtr rfl rfl) rfl ?_
       refine l_val wn (r_pick rfl rfl) rfl ?_
       refine l_nil (e_cut hK9 (sc rfl (sc rfl (sc (jp (iff_and_right h3 (iff_and_right h4 Iff.rfl))) sn))) (fun _ h => h))
     refine l_skip (wg rfl rfl rfl) rfl ?_
     refine l_skip (wg rfl rfl rfl) rfl ?_
     refine l_skip (wg rfl rfl rfl) rfl ?_
     refine l_skip (wg rfl rfl rfl) rfl ?_
     refine l_skip (wg rfl rfl rfl) rfl ?_
     refine l_skip (wg rfl rfl rfl) rfl ?_
     refine l_val wn (r_pick rfl rfl) rfl ?_
     refine l_nil (e_cut hK9 (sc rfl (sc rfl (sc (jf (fun g => (fun g => h4 g.1) g.2)) sn))) (fun _ h => h))
   refine l_skip (wg rfl rfl rfl) rfl ?_
   refine l_skip (wg rfl rfl rfl) rfl ?_
   refine l_val wn (r_pick rfl rfl) rfl ?_
   refine l_val wn (r_move rfl) rfl ?_
   refine l_skip (wg rfl rfl rfl) rfl ?_
   refine l_skip (wg rfl rfl rfl) rfl ?_
   refine l_skip (wg rfl rfl rfl) rfl ?_
   refine l_skip (wg rfl rfl rfl) rfl ?_
   refine l_skip (wg rfl rfl rfl) rfl ?_
   refine l_skip (wg rfl rfl rfl) rfl ?_
   refine l_val wn (r_pick rfl rfl) rfl ?_
   refine l_nil (e_cut hK9 (sc rfl (sc rfl (sc (jf (fun g => h3 g.1)) sn))) (fun _ h => h))
 refine c_cond rfl (fun h5 => ?_) (fun h5 => ?_)
 · refine c_seq fun _ hK10 => ?_
   refine c_region ?_
   refine l_val wn (r_assign rfl) rfl ?_
   refine l_val wn (r_assign rfl) rfl ?_
   refine l_nil (e_go hK10 ?_)
   refine c_ret (e_then_r (e_ret2 (.inl rfl) Try.results80 (rv_tmp rfl) (rv_tmp rfl) fun w1 hM => ?_))
   exact ret_ok (by rw [show Mn.op v a b = (0, false) from by unfold Mn.op Mn.tooBig; grind]) hM
 refine c_skip (e_go hK8 ?_)
 refine c_seq fun _ hK11 => ?_
 refine c_region ?_
 refine l_val wn (r_move rfl) rfl ?_
 refine l_val wn (r_move rfl) rfl ?_
 refine l_val wn (r_muln rfl rfl (by first | omega | (have := Mn.mul_rng (a := a) (b := b) (by unfold Mn.tooBig; grind); omega))) rfl ?_
 refine l_val wn (r_assign rfl) rfl ?_
 refine l_val wn (r_assign rfl) rfl ?_
 refine l_nil (e_go hK11 ?_)
 refine c_ret (e_ret2 (.inl rfl) Try.results80 (rv_tmp rfl) (rv_tmp rfl) fun w1 hM => ?_)
 exact ret_ok (by rw [show Mn.op v a b = ((a * b), true) from by unfold Mn.op Mn.tooBig; grind]) hM

theorem c_refOp (v : ByteArray) (a : Int) (b : Int) (w : World)  (hab : -1125899906842624 ≤ a ∧ a ≤ 1125899906842624) (hbb : -1125899906842624 ≤ b ∧ b ≤ 1125899906842624) :
    Calls Try.prog 48 #[.string v, .int .i64 a, .int .i64 b] w (Ret w (.tuple #[.int .i64 (Mn.op v a b).1, .bool (Mn.op v a b).2])) := by
 have ha3 := Mn.abs_all a
 have hb3 := Mn.abs_all b
 have hd3 : 0 ≤ 1125899906842624 / Mn.abs b := Int.ediv_nonneg (by omega) hb3.1
 have hae : Mn.abs a = if a < 0 then (-a) else a := rfl
 have hbe : Mn.abs b = if b < 0 then (-b) else b := rfl
 refine fstart (N := 52) (vals := [.string v, .int .i64 a, .int .i64 b]) (S := Mem w no []) Try.func48 rfl rfl rfl (Mem.ofDats dn) ?_
 refine c_seq fun _ hK1 => ?_
 refine c_region ?_
 refine l_val wn (r_assign rfl) rfl ?_
 refine l_val wn (r_assign rfl) rfl ?_
 refine l_nil (e_go hK1 ?_)
 refine c_seq fun _ hK2 => ?_
 refine c_seq fun _ hK3 => ?_
 refine c_region ?_
 refine l_val wn (r_move rfl) rfl ?_
 refine l_nil (e_go hK3 ?_)
 refine c_block ?_
 refine c_seq fun _ hK4 => ?_
 refine c_region ?_
 refine l_val wn (r_seql rfl rfl) rfl ?_
 refine l_val wn (r_assign rfl) rfl ?_
 refine l_nil (e_go hK4 ?_)
 refine c_cond rfl (fun h1 => ?_) (fun h1 => ?_)
 · refine c_seq fun _ hK5 => ?_
   refine c_region ?_
   refine l_val wn (r_move rfl) rfl ?_
   refine l_val wn (r_move rfl) rfl ?_
   refine l_val wn (r_addn rfl rfl (by first | omega | (have := Mn.mul_rng (a := a) (b := b) (by unfold Mn.tooBig; grind); omega))) rfl ?_
   refine l_val wn (r_move rfl) rfl ?_
   refine l_val wn (r_move rfl) rfl ?_
   refine l_val wn (r_addn rfl rfl (by first | omega | (have := Mn.mul_rng (a := a) (b := b) (by unfold Mn.tooBig; grind); omega))) rfl ?_
   refine l_callF wn rfl Try.call65 rfl (fun w1 hM => c_big (a + b) w1) ?_
   refine l_val wn (r_notb rfl) rfl ?_
   refine l_val wn (r_assign rfl) rfl ?_
   refine l_val wn (r_assign rfl) rfl ?_
   refine l_nil (e_go hK5 ?_)
   refine c_ret (e_in_r (e_then_r (e_ret2 (.inl rfl) Try.results48 (rv_tmp rfl) (rv_tmp rfl) fun w1 hM => ?_)))
   exact ret_ok (by rw [show Mn.op v a b = ((a + b), (!(!Mn.fits (a + b)))) from by unfold Mn.op Mn.tooBig; grind]) hM
 refine c_seq fun _ hK6 => ?_
 refine c_region ?_
 refine l_val wn (r_seql rfl rfl) rfl ?_
 refine l_val wn (r_assign rfl) rfl ?_
 refine l_nil (e_go hK6 ?_)
 refine c_cond rfl (fun h2 => ?_) (fun h2 => ?_)
 · refine c_seq fun _ hK7 => ?_
   refine c_region ?_
   refine l_val wn (r_move rfl) rfl ?_
   refine l_val wn (r_move rfl) rfl ?_
   refine l_val wn (r_subn rfl rfl (by first | omega | (have := Mn.mul_rng (a := a) (b := b) (by unfold Mn.tooBig; grind); omega))) rfl ?_
   refine l_val wn (r_move rfl) rfl ?_
   refine l_val wn (r_move rfl) rfl ?_
   refine l_val wn (r_subn rfl rfl (by first | omega | (have := Mn.mul_rng (a := a) (b := b) (by unfold Mn.tooBig; grind); omega))) rfl ?_
   refine l_callF wn rfl Try.call65 rfl (fun w1 hM => c_big (a - b) w1) ?_
   refine l_val wn (r_notb rfl) rfl ?_
   refine l_val wn (r_assign rfl) rfl ?_
   refine l_val wn (r_assign rfl) rfl ?_
   refine l_nil (e_go hK7 ?_)
   refine c_ret (e_in_r (e_then_r (e_ret2 (.inl rfl) Try.results48 (rv_tmp rfl) (rv_tmp rfl) fun w1 hM => ?_)))
   exact ret_ok (by rw [show Mn.op v a b = ((a - b), (!(!Mn.fits (a - b)))) from by unfold Mn.op Mn.tooBig; grind]) hM
 refine c_skip (e_in_n (e_go hK2 ?_))
 refine c_seq fun _ hK8 => ?_
 refine c_region ?_
 refine l_val wn (r_move rfl) rfl ?_
 refine l_val wn (r_move rfl) rfl ?_
 refine l_val wn (r_assign rfl) rfl ?_
 refine l_val wn (r_assign rfl) rfl ?_
 refine l_nil (e_go hK8 ?_)
 refine c_cut [(1, .int .i64 a), (2, .int .i64 b), (8, .int .i64 (if a < 0 then (-a) else a)), (9, .int .i64 b)] (Mem w no []) (fun _ hK9 => ?_) ?_
 · refine c_seq fun _ hK10 => ?_
   refine c_region ?_
   refine l_val wn (r_move rfl) rfl ?_
   refine l_val wn (r_lss rfl rfl) rfl ?_
   refine l_nil (e_go hK10 ?_)
   refine c_cond rfl (fun h3 => ?_) (fun h3 => ?_)
   · refine c_region ?_
     refine l_val wn (r_move rfl) rfl ?_
     refine l_val wn (r_neg rfl (by omega)) rfl ?_
     refine l_val wn (r_assign rfl) rfl ?_
     refine l_nil (e_cut hK9 (sc rfl (sc rfl (sc (by first | (simp only [if_pos h3]; done) | (simp only [if_pos h3]; rfl)) (sc rfl sn)))) (fun _ h => h))
   refine c_skip (e_cut hK9 (sc rfl (sc rfl (sc (by first | (simp only [if_neg h3]; done) | (simp only [if_neg h3]; rfl)) (sc rfl sn)))) (fun _ h => h))
 refine c_cut [(1, .int .i64 a), (2, .int .i64 b), (8, .int .i64 (if a < 0 then (-a) else a)), (9, .int .i64 (if b < 0 then (-b) else b))] (Mem w no []) (fun _ hK11 => ?_) ?_
 · refine c_seq fun _ hK12 => ?_
   refine c_region ?_
   refine l_val wn (r_move rfl) rfl ?_
   refine l_val wn (r_lss rfl rfl) rfl ?_
   refine l_nil (e_go hK12 ?_)
   refine c_cond rfl (fun h4 => ?_) (fun h4 => ?_)
   · refine c_region ?_
     refine l_val wn (r_move rfl) rfl ?_
     refine l_val wn (r_neg rfl (by omega)) rfl ?_
     refine l_val wn (r_assign rfl) rfl ?_
     refine l_nil (e_cut hK11 (sc rfl (sc rfl (sc rfl (sc (by first | (simp only [if_pos h4]; done) | (simp only [if_pos h4]; rfl)) sn)))) (fun _ h => h))
   refine c_skip (e_cut hK11 (sc rfl (sc rfl (sc rfl (sc (by first | (simp only [if_neg h4]; done) | (simp only [if_neg h4]; rfl)) sn)))) (fun _ h => h))
 refine c_seq fun _ hK13 => ?_
 refine c_cut [(1, .int .i64 a), (2, .int .i64 b), (48, .bool (decide ((0 < (if b < 0 then (-b) else b)) ∧ ((1125899906842624 / (if b < 0 then (-b) else b)) < (if a < 0 then (-a) else a)))))] (Mem w no []) (fun _ hK14 => ?_) ?_
 · refine c_region ?_
   refine l_val wn (r_move rfl) rfl ?_
   refine l_val wn (r_gtr rfl rfl) rfl ?_
   refine l_val wn (r_move rfl) rfl ?_
   refine l_case (t := 43) rfl (fun h5 => ?_) (fun h5 => ?_)
   · refine l_val (wg rfl rfl rfl) (r_move rfl) rfl ?_
     refine l_val (wg rfl rfl rfl) (r_move rfl) rfl ?_
     refine l_val (wg rfl rfl rfl) (r_quon rfl rfl (by omega) (by omega)) rfl ?_
     refine l_val (wg rfl rfl rfl) (r_gtr rfl rfl) rfl ?_
     refine l_val wn (r_pick rfl rfl) rfl ?_
     refine l_nil (e_cut hK14 (sc rfl (sc rfl (sc (jp (iff_and_right h5 Iff.rfl)) sn))) (fun _ h => h))
   refine l_skip (wg rfl rfl rfl) rfl ?_
   refine l_skip (wg rfl rfl rfl) rfl ?_
   refine l_skip (wg rfl rfl rfl) rfl ?_
   refine l_skip (wg rfl rfl rfl) rfl ?_
   refine l_val wn (r_pick rfl rfl) rfl ?_
   refine l_nil (e_cut hK14 (sc rfl (sc rfl (sc (jf (fun g => h5 g.1)) sn))) (fun _ h => h))
 refine c_cond rfl (fun h6 => ?_) (fun h6 => ?_)
 · refine c_seq fun _ hK15 => ?_
   refine c_region ?_
   refine l_val wn (r_assign rfl) rfl ?_
   refine l_val wn (r_assign rfl) rfl ?_
   refine l_nil (e_go hK15 ?_)
   refine c_ret (e_then_r (e_ret2 (.inl rfl) Try.results48 (rv_tmp rfl) (rv_tmp rfl) fun w1 hM => ?_))
   exact ret_ok (by rw [show Mn.op v a b = (0, false) from by unfold Mn.op Mn.tooBig; grind]) hM
 refine c_skip (e_go hK13 ?_)
 refine c_seq fun _ hK16 => ?_
 refine c_region ?_
 refine l_val wn (r_move rfl) rfl ?_
 refine l_val wn (r_move rfl) rfl ?_
 refine l_val wn (r_muln rfl rfl (by first | omega | (have := Mn.mul_rng (a := a) (b := b) (by unfold Mn.tooBig; grind); omega))) rfl ?_
 refine l_val wn (r_assign rfl) rfl ?_
 refine l_val wn (r_assign rfl) rfl ?_
 refine l_nil (e_go hK16 ?_)
 refine c_ret (e_ret2 (.inl rfl) Try.results48 (rv_tmp rfl) (rv_tmp rfl) fun w1 hM => ?_)
 exact ret_ok (by rw [show Mn.op v a b = ((a * b), true) from by unfold Mn.op Mn.tooBig; grind]) hM

theorem c_equalL (av : Value) (a : List Label) (bv : Value) (b : List Label) (w : World) (ha : FlatSl (In w) 2 labelE av a w) (hb : FlatSl (In w) 2 labelE bv b w)  :
    Calls Try.prog 83 #[av, bv] w (Ret w (.bool (decide (a = b)))) := by
 obtain ⟨aA, ac, rfl, hac, ham, haA⟩ := ha.form
 obtain ⟨bA, bc, rfl, hbc, hbm, hbA⟩ := hb.form
 refine fstart (N := 26) (vals := [.slice aA a.length ac, .slice bA b.length bc]) (S := Mem w no [slO (In w) 2 labelE (.slice aA a.length ac) a, slO (In w) 2 labelE (.slice bA b.length bc) b]) Try.func83 rfl rfl rfl (Mem.ofDats (dc (dl ha) (dc (dl hb) dn))) ?_
 refine c_seq fun _ hK1 => ?_
 refine c_region ?_
 refine l_val wn (r_assign rfl) rfl ?_
 refine l_nil (e_go hK1 ?_)
 refine c_seq fun _ hK2 => ?_
 refine c_seq fun _ hK3 => ?_
 refine c_region ?_
 refine l_val wn (r_move rfl) rfl ?_
 refine l_val wn (r_len rfl Try.underlying42) rfl ?_
 refine l_val wn (r_move rfl) rfl ?_
 refine l_val wn (r_len rfl Try.underlying42) rfl ?_
 refine l_val wn (r_neq rfl rfl) rfl ?_
 refine l_nil (e_go hK3 ?_)
 refine c_cond rfl (fun h1 => ?_) (fun h1 => ?_)
 · refine c_seq fun _ hK4 => ?_
   refine c_region ?_
   refine l_val wn (r_assign rfl) rfl ?_
   refine l_nil (e_go hK4 ?_)
   refine c_ret (e_then_r (e_ret1 (.inl rfl) Try.results83 (rv_tmp rfl) fun w1 hM => ?_))
   exact ret_ok (by rw [decide_eq_false (fun e => h1 (by rw [e]))]) hM
 refine c_skip (e_go hK2 ?_)
 refine c_seq fun _ hK5 => ?_
 refine c_seq fun _ hK6 => ?_
 refine c_region ?_
 refine l_val wn (r_move rfl) rfl ?_
 refine l_val wn (r_len rfl Try.underlying42) rfl ?_
 refine l_val wn (r_move rfl) rfl ?_
 refine l_nil (e_go hK6 ?_)
 refine c_block ?_
 refine c_loop1 (fun (k : Nat) => [(0, .slice aA a.length ac), (1, .slice bA b.length bc), (12, .int .i64 (a.length : Int)), (13, .int .i64 (k : Int))]) (fun (k : Nat) => [slO (In w) 2 labelE (.slice aA a.length ac) a, slO (In w) 2 labelE (.slice bA b.length bc) b]) (fun (k : Nat) => k ≤ a.length ∧ a.take k = b.take k) (fun (k : Nat) => a.length - k) 0 (sc rfl (sc rfl (sc rfl (sc (ji (by omega)) sn)))) (fun _ h => h) ?_ (fun k hI1 => ?_)
 · simp
 refine c_seq fun _ hK7 => ?_
 refine c_region ?_
 refine l_val wn (r_lss rfl rfl) rfl ?_
 refine l_nil (e_go hK7 ?_)
 refine c_seq fun _ hK8 => ?_
 refine c_cond rfl (fun h2 => ?_) (fun h2 => ?_)
 · refine c_skip (e_go hK8 ?_)
   refine c_seq fun _ hK9 => ?_
   refine c_block ?_
   refine c_seq fun _ hK10 => ?_
   refine c_region ?_
   refine l_val wn (r_move rfl) rfl ?_
   refine l_val wn (r_assign rfl) rfl ?_
   refine l_nil (e_go hK10 ?_)
   refine c_seq fun _ hK11 => ?_
   refine c_quiet mix (by kernel_rfl) (fun _ h => h.drew) ?_
   refine q_val wn (r_move rfl) rfl ?_
   refine q_val wn (r_move rfl) rfl ?_
   obtain ⟨ad1, hd1⟩ := haA (ne_nil (i := k) (by first | omega | decide | (simp only [List.length_cons, List.length_nil, List.length_append, List.length_take, List.length_set]; omega)))
   refine q_val wn (r_ia (i := k) rfl hd1 rfl (by omega) (by first | omega | decide | (simp only [List.length_cons, List.length_nil, List.length_append, List.length_take, List.length_set]; omega)) Try.underlying42 inf51) rfl ?_
   obtain ⟨s1, hs1⟩ : ∃ x, a[k]? = some x := ⟨_, List.getElem?_eq_getElem (by first | omega | decide | (simp only [List.length_cons, List.length_nil, List.length_append, List.length_take, List.length_set]; omega))⟩
   refine q_val wn (r_eln 0 [.string s1.key, .string s1.val] rfl rfl hd1 hs1 rfl rfl agg51 inf51) rfl ?_
   refine q_val wn (r_move rfl) rfl ?_
   refine q_val wn (r_move rfl) rfl ?_
   obtain ⟨ad2, hd2⟩ := hbA (ne_nil (i := k) (by first | omega | decide | (simp only [List.length_cons, List.length_nil, List.length_append, List.length_take, List.length_set]; omega)))
   refine q_val wn (r_ia (i := k) rfl hd2 rfl (by omega) (by first | omega | decide | (simp only [List.length_cons, List.length_nil, List.length_append, List.length_take, List.length_set]; omega)) Try.underlying42 inf51) rfl ?_
   obtain ⟨s2, hs2⟩ : ∃ x, b[k]? = some x := ⟨_, List.getElem?_eq_getElem (by first | omega | decide | (simp only [List.length_cons, List.length_nil, List.length_append, List.length_take, List.length_set]; omega))⟩
   refine q_val wn (r_eln 1 [.string s2.key, .string s2.val] rfl rfl hd2 hs2 rfl rfl agg51 inf51) rfl ?_
   refine q_val wn (r_neqS (a := s1) (b := s2) rfl rfl eqv51) rfl ?_
   refine q_end (e_go hK11 ?_)
   refine c_cond rfl (fun h3 => ?_) (fun h3 => ?_)
   · refine c_seq fun _ hK12 => ?_
     refine c_region ?_
     refine l_val wn (r_assign rfl) rfl ?_
     refine l_nil (e_go hK12 ?_)
     refine c_ret (e_in_r (e_then_r (e_loop1_r (e_in_r (e_then_r (e_ret1 (.inl rfl) Try.results83 (rv_tmp rfl) fun w1 hM => ?_))))))
     exact ret_ok (by rw [decide_eq_false (fun e => h3 (Option.some.inj (hs1.symm.trans (by rw [e]; exact hs2))))]) hM
   refine c_skip (e_in_n (e_go hK9 ?_))
   refine c_region ?_
   refine l_val wn (r_addn rfl rfl (by omega)) rfl ?_
   refine l_val wn (r_move rfl) rfl ?_
   refine l_nil (e_round1 (k + 1) (sc rfl (sc rfl (sc rfl (sc (ji (by omega)) sn)))) (fun _ h => h) ?_ ?_)
   · exact ⟨by omega, same_step hI1.2 hs1 hs2 (Classical.not_not.1 h3)⟩
   omega
 refine c_exit (e_then_x (e_loop1_x (e_in_hit (e_go hK5 ?_))))
 refine c_seq fun _ hK13 => ?_
 refine c_region ?_
 refine l_val wn (r_assign rfl) rfl ?_
 refine l_nil (e_go hK13 ?_)
 refine c_ret (e_ret1 (.inl rfl) Try.results83 (rv_tmp rfl) fun w1 hM => ?_)
 exact ret_ok (by rw [decide_eq_true (same_done (by omega) (by omega) hI1.2)]) hM

theorem c_idxC (lv : Value) (l : List CellX) (f : Nat) (fcap : Array Value) (fp : CellX → Bool) (P0 : Nat → Prop) (w : World) (hP0 : ∀ b, P0 b → b < w.heap.size) (hl : FlatSl P0 2 cellE lv l w) (hla : ∀ x ∈ l, CellX.Ok P0 x w) (fc : ∀ vs w, (callFunc f vs).run Try.prog w = .ok (.enter f vs) w) (fh : ∀ x : CellX, x ∈ l → ∀ w1 : World, Fr no w w1 → Calls Try.prog f (#[.agg (cellE x).toArray] ++ fcap) w1 (Ret w1 (.bool (fp x))))  :
    Calls Try.prog 81 #[lv, .func (.func f) #[] fcap] w (Ret w (.int .i64 (Sh.idx fp l))) := by
 have hwl : ∀ x ∈ l, CellX.Wf x := fun x hx => (hla x hx).wf
 obtain ⟨lA, lc, rfl, hlc, hlm, hlA⟩ := hl.form
 refine fstart (N := 19) (vals := [.slice lA l.length lc, .func (.func f) #[] fcap]) (S := Mem w ⟨no, P0⟩ [slP 2 cellE (.slice lA l.length lc) l, allP CellX.Ok l]) Try.func81 rfl rfl rfl (Mem.ofDatsP hP0 (dc (dlp hl) (dc (dp (all_loc CellX.Ok.loc _) hla) dn))) ?_
 refine c_seq fun _ hK1 => ?_
 refine c_region ?_
 refine l_val wn (r_assign rfl) rfl ?_
 refine l_nil (e_go hK1 ?_)
 refine c_seq fun _ hK2 => ?_
 refine c_seq fun _ hK3 => ?_
 refine c_region ?_
 refine l_val wn (r_move rfl) rfl ?_
 refine l_val wn (r_len rfl Try.underlying28) rfl ?_
 refine l_val wn (r_move rfl) rfl ?_
 refine l_nil (e_go hK3 ?_)
 refine c_block ?_
 refine c_loop1 (fun (k : Nat) => [(0, .slice lA l.length lc), (1, .func (.func f) #[] fcap), (7, .int .i64 (l.length : Int)), (8, .int .i64 (k : Int))]) (fun (k : Nat) => [slP 2 cellE (.slice lA l.length lc) l, allP CellX.Ok l]) (fun (k : Nat) => k ≤ l.length ∧ ∀ y ∈ l.take k, fp y = false) (fun (k : Nat) => l.length - k) 0 (sc rfl (sc rfl (sc rfl (sc (ji (by omega)) sn)))) (fun _ h => h) ?_ (fun k hI1 => ?_)
 · simp
 refine c_seq fun _ hK4 => ?_
 refine c_region ?_
 refine l_val wn (r_lss rfl rfl) rfl ?_
 refine l_nil (e_go hK4 ?_)
 refine c_seq fun _ hK5 => ?_
 refine c_cond rfl (fun h1 => ?_) (fun h1 => ?_)
 · refine c_skip (e_go hK5 ?_)
   refine c_seq fun _ hK6 => ?_
   refine c_block ?_
   refine c_seq fun _ hK7 => ?_
   refine c_region ?_
   refine l_val wn (r_move rfl) rfl ?_
   refine l_val wn (r_assign rfl) rfl ?_
   refine l_nil (e_go hK7 ?_)
   refine c_seq fun _ hK8 => ?_
   refine c_region ?_
   refine l_val wn (r_move rfl) rfl ?_
   refine l_val wn (r_move rfl) rfl ?_
   refine l_val wn (r_move rfl) rfl ?_
   obtain ⟨ad1, hd1⟩ := hlA (ne_nil (i := k) (by first | omega | decide | (simp only [List.length_cons, List.length_nil, List.length_append, List.length_take, List.length_set]; omega)))
   refine l_val wn (r_ia (i := k) rfl hd1 rfl (by omega) (by first | omega | decide | (simp only [List.length_cons, List.length_nil, List.length_append, List.length_take, List.length_set]; omega)) Try.underlying28 inf44) rfl ?_
   obtain ⟨s1, hs1⟩ : ∃ x, l[k]? = some x := ⟨_, List.getElem?_eq_getElem (by first | omega | decide | (simp only [List.length_cons, List.length_nil, List.length_append, List.length_take, List.length_set]; omega))⟩
   refine l_val wn (r_pln 0 [.slice s1.sr.A s1.sr.l.length s1.sr.c, .int .i64 s1.value] rfl rfl hd1 hs1 rfl rfl agg44 inf44) rfl ?_
   refine l_callR wn rfl rfl fc rfl (fun w1 hM => fh s1 (List.mem_of_getElem? hs1) w1 hM.fr) ?_
   refine l_nil (e_go hK8 ?_)
   refine c_condb rfl (fun h2 => ?_) (fun h2 => ?_)
   · refine c_seq fun _ hK9 => ?_
     refine c_region ?_
     refine l_val wn (r_move rfl) rfl ?_
     refine l_val wn (r_assign rfl) rfl ?_
     refine l_nil (e_go hK9 ?_)
     refine c_ret (e_in_r (e_then_r (e_loop1_r (e_in_r (e_then_r (e_ret1 (.inl rfl) Try.results81 (rv_tmp rfl) fun w1 hM => ?_))))))
     exact ret_ok (by rw [Sh.idx_at hI1.2 hs1 h2]) hM
   refine c_skip (e_in_n (e_go hK6 ?_))
   refine c_region ?_
   refine l_val wn (r_addn rfl rfl (by omega)) rfl ?_
   refine l_val wn (r_move rfl) rfl ?_
   refine l_nil (e_round1 (k + 1) (sc rfl (sc rfl (sc rfl (sc (ji (by omega)) sn)))) (fun _ h => h) ?_ ?_)
   · exact ⟨by omega, Sh.none_step hI1.2 hs1 h2⟩
   omega
 refine c_exit (e_then_x (e_loop1_x (e_in_hit (e_go hK2 ?_))))
 refine c_seq fun _ hK10 => ?_
 refine c_region ?_
 refine l_val wn (r_assign rfl) rfl ?_
 refine l_nil (e_go hK10 ?_)
 refine c_ret (e_ret1 (.inl rfl) Try.results81 (rv_tmp rfl) fun w1 hM => ?_)
 exact ret_ok (by rw [Sh.idx_none hI1.2 (by omega)]) hM

theorem c_bin2 (d : CellX) (cad : Addr) (c : CellX) (P0 : Nat → Prop) (w : World) (hP0 : ∀ b, P0 b → b < w.heap.size) (hd : CellX.Ok P0 d w) (hcc : CelAt P0 cad (cellE c) w) (hc : CellX.Ok P0 c w)  :
    Calls Try.prog 82 #[.agg (cellE d).toArray, .pointer (some cad)] w (Ret w (.bool (decide (c.sr.l = d.sr.l)))) := by
 have hwd := hd.wf
 have hwc := hc.wf
 refine fstart (N := 9) (vals := [.agg (cellE d).toArray, .pointer (some ((Addr.add cad 0).add 0))]) (S := Mem w ⟨no, P0⟩ [okP CellX.Ok d, celP cad [.slice c.sr.A c.sr.l.length c.sr.c, .int .i64 c.value], okP CellX.Ok c]) Try.func82 rfl rfl rfl (Mem.ofDatsP hP0 (dc (dp (CellX.Ok.loc _) hd) (dc (dp (CelAt.loc _ _) hcc) (dc (dp (CellX.Ok.loc _) hc) dn)))) ?_
 refine c_seq fun _ hK1 => ?_
 refine c_region ?_
 refine l_box wn rfl rfl fun b2 => ?_
 refine l_val wn (r_assign rfl) rfl ?_
 refine l_nil (e_go hK1 ?_)
 refine c_seq fun _ hK2 => ?_
 refine c_region ?_
 refine l_val wn (r_fe rfl fld44_0) rfl ?_
 refine l_val wn (r_cel 2 rfl rfl rfl flat42) rfl ?_
 refine l_val wn (r_fa rfl fld44_0) rfl ?_
 refine l_val wn (r_lb 0 rfl rfl rfl flat42) rfl ?_
 refine l_opn (fun _ h => h.cellX 3 rfl) ?_
 obtain ⟨hc1, hm1, hA1⟩ := hwc.sr
 refine l_opn (fun _ h => h.cellX 2 rfl) ?_
 obtain ⟨hc2, hm2, hA2⟩ := hwd.sr
 refine l_callF wn rfl Try.call83 rfl (fun w1 hM => c_equalL _ c.sr.l _ d.sr.l w1 (hM.slp 1 rfl) (hM.slp 0 rfl)) ?_
 refine l_val wn (r_assign rfl) rfl ?_
 refine l_nil (e_go hK2 ?_)
 refine c_ret (e_ret1 (.inl rfl) Try.results82 (rv_tmp rfl) fun w1 hM => ?_)
 exact ret_ok rfl hM

theorem c_put (word : ByteArray) (vec : Bool) (n : Int) (v : Value) (l : List CellX) (z : SlX Label) (a b : Int) (wp op : Nat) (Pb : Nat → Prop) (w : World) (hG : Mem w ⟨fpOf [.blk wp [.string word] 9, .blk op [.bool vec, .int .i64 n, v] 77, Row v 44 2 cellE l, allP CellX.Ok l, slP 2 labelE (.slice z.A z.l.length z.c) z.l], Pb⟩ [.blk wp [.string word] 9, .blk op [.bool vec, .int .i64 n, v] 77, Row v 44 2 cellE l, allP CellX.Ok l, slP 2 labelE (.slice z.A z.l.length z.c) z.l] w) (hab : -1125899906842624 ≤ a ∧ a ≤ 1125899906842624) (hbb : -1125899906842624 ≤ b ∧ b ≤ 1125899906842624) (hl1 : l.length ≤ 1048576) :
    Calls Try.prog 79 #[.slice z.A z.l.length z.c, .int .i64 a, .int .i64 b, .pointer (some ⟨wp, 0, none⟩), .pointer (some ⟨op, 0, none⟩)] w (RetA w [.blk wp [.string word] 9, .blk op [.bool vec, .int .i64 n, v] 77, Row v 44 2 cellE l, allP CellX.Ok l, slP 2 labelE (.slice z.A z.l.length z.c) z.l] Pb (fun _ : Value => .bool (Mn.op word a b).2) (fun _ => True) (fun v => [.blk wp [.string word] 9, .blk op [.bool vec, .int .i64 n, v] 77, Row v 44 2 cellE (l ++ [CellX.mk z (Mn.op word a b).1]), allP CellX.Ok (l ++ [CellX.mk z (Mn.op word a b).1]), slP 2 labelE (.slice z.A z.l.length z.c) z.l])) := by
 obtain ⟨rA, rc, rfl, hrc, hrm, hrA⟩ := row_form' (hG.row (i := 2) rfl)
 obtain ⟨hzc, hzm, hzA⟩ := FlatSl.wf (hG.pubAt (i := 4) rfl)
 have hwl : ∀ x ∈ l, CellX.Wf x := fun x hx => (hG.pubAt (i := 3) rfl x hx).wf
 refine fstart (N := 27) (vals := [.slice z.A z.l.length z.c, .int .i64 a, .int .i64 b, .pointer (some ⟨wp, 0, none⟩), .pointer (some ⟨op, 0, none⟩)]) (S := Mem w ⟨fpOf [.blk wp [.string word] 9, .blk op [.bool vec, .int .i64 n, .slice rA l.length rc] 77, Row (.slice rA l.length rc) 44 2 cellE l, allP CellX.Ok l, slP 2 labelE (.slice z.A z.l.length z.c) z.l], Pb⟩ [.blk wp [.string word] 9, .blk op [.bool vec, .int .i64 n, .slice rA l.length rc] 77, Row (.slice rA l.length rc) 44 2 cellE l, allP CellX.Ok l, slP 2 labelE (.slice z.A z.l.length z.c) z.l]) Try.func79 rfl rfl rfl hG ?_
 refine c_seq fun _ hK1 => ?_
 refine c_region ?_
 refine l_val wn (r_assign rfl) rfl ?_
 refine l_nil (e_go hK1 ?_)
 refine c_seq fun _ hK2 => ?_
 refine c_region ?_
 refine l_val wn (r_lb 0 rfl rfl rfl flat9) rfl ?_
 refine l_val wn (r_move rfl) rfl ?_
 refine l_val wn (r_move rfl) rfl ?_
 refine l_callF wn rfl Try.call80 rfl (fun w1 hM => c_op word a b w1 (by first | assumption | omega) (by first | assumption | omega)) ?_
 refine l_val wn (r_move rfl) rfl ?_
 refine l_val wn (r_extract rfl rfl) rfl ?_
 refine l_val wn (r_extract rfl rfl) rfl ?_
 refine l_val wn (r_assign rfl) rfl ?_
 refine l_val wn (r_assign rfl) rfl ?_
 refine l_nil (e_go hK2 ?_)
 refine c_seq fun _ hK3 => ?_
 refine c_region ?_
 refine l_val wn (r_fa rfl fld77_2) rfl ?_
 refine l_val wn (r_lb 1 rfl rfl rfl flat28) rfl ?_
 refine l_val wn (r_move rfl) rfl ?_
 refine l_val wn (r_move rfl) rfl ?_
 refine l_val wn (r_build [.slice z.A z.l.length z.c, .int .i64 ((Mn.op word a b).1)] pl44 inf44 rfl rfl) rfl ?_
 refine l_bsL cellE ([(CellX.mk ⟨z.A, z.c, z.l⟩ ((Mn.op word a b).1))] : List CellX) wn Try.underlying28 inf44 rfl rfl rfl rfl (by decide) (by decide) rfl fun b23 => ?_
 refine l_app 3 l ([(CellX.mk ⟨z.A, z.c, z.l⟩ ((Mn.op word a b).1))] : List CellX) encCellX wn rfl rfl rfl (fun _ hM => (RowSl encCellX hM 0 rfl)) Try.underlying28 inf44 rfl rfl (by simp only [List.length_append, List.length_cons, List.length_nil]; omega) rfl fun A1 cp1 hc1 hm1 hA1 => ?_
 refine l_opn (fun _ h => h.allCell (n := (Mn.op word a b).1) 4 5 rfl rfl) ?_
 have hw1 : ∀ x ∈ (l ++ ([(CellX.mk ⟨z.A, z.c, z.l⟩ ((Mn.op word a b).1))] : List CellX)), CellX.Wf x := fun x hx => (List.mem_append.1 hx).elim (hwl x) fun h => by rw [List.mem_singleton.1 h]; exact ⟨⟨by omega, by omega, hzA⟩⟩
 refine l_val wn (r_fa rfl fld77_2) rfl ?_
 refine l_st1 3 wn rfl rfl rfl rfl inf28 rfl rfl ?_
 refine l_nil (e_go hK3 ?_)
 refine c_seq fun _ hK4 => ?_
 refine c_region ?_
 refine l_val wn (r_move rfl) rfl ?_
 refine l_val wn (r_assign rfl) rfl ?_
 refine l_nil (e_go hK4 ?_)
 refine c_ret (e_ret1 (.inl rfl) Try.results79 (rv_tmp rfl) fun w1 hM => ?_)
 exact hM.retA (.slice A1 ((l ++ ([(CellX.mk ⟨z.A, z.c, z.l⟩ ((Mn.op word a b).1))] : List CellX)).length) cp1) rfl trivial (fun h => h.sel [2, 3, 4, 0, 6] (by decide) rfl)

end Go.Proofs.Ytldecdningjkoaa
