/-
  Walks: what each function hands back.
-/
import Derived.Test.YtffpglgboaigfaaDoorWparse3
import Derived.Test.YtffpglgboaigfaaDoorWrparse4
namespace Go.Proofs.YtffpglgboaigfaaDoor
open Ex
set_option linter.unusedVariables false
set_option linter.unusedSimpArgs false
set_option maxHeartbeats 2000000 in
theorem law_LangTells (s : ByteArray) (P0 : Nat → Prop) (w : World) (hP0 : ∀ b, P0 b → b < w.heap.size) (hE : ErrV P0 w)  :
    Calls Tryd.prog 4 #[.string s] w (Ret w (.bool true)) := by
 refine fstart (N := 47) (vals := [.string s]) (S := Mem w ⟨no, P0⟩ [.pub ErrV]) Tryd.func4 rfl rfl rfl (Mem.ofDatsP hP0 (dc (dp ErrV.loc hE) dn)) ?_
 refine c_seq fun _ hK1 => ?_
 refine c_region ?_
 refine l_val wn (r_assign rfl) rfl ?_
 refine l_nil (e_go hK1 ?_)
 refine c_seq fun _ hK2 => ?_
 refine c_region ?_
 refine l_val wn (r_move rfl) rfl ?_
 refine l_callE0 (β := ExprX × Pz.F) (fun z => .tuple #[.agg (exprE z.1).toArray, .agg #[iV z.2.1, iV z.2.2]]) (fun z => Pz.parse s = (z.1.e, z.2)) (fun z S => ExprX.Ok S z.1) (fun z => ExprX.Ok.loc z.1) wn rfl Tryd.call15 rfl (fun w1 Pb hM pp => c_parse s Pb w1 pp.lt (pp.at_ 0 _ rfl)) fun z1 hz1 => ?_
 obtain ⟨x1, er1, at1⟩ := z1
 have hq1 : Pz.parse s = (x1.e, (er1, at1)) := hz1
 refine l_as 11 (.tuple (List.toArray [.agg (List.toArray [iV x1.kind, iV x1.n, iV x1.range, .string x1.word, .slice x1.ms.A x1.ms.l.length x1.ms.c, .slice x1.by_.A x1.by_.l.length x1.by_.c, .slice x1.kids.A x1.kids.l.length x1.kids.c]), .agg (List.toArray [iV er1, iV at1])])) [okP ExprX.Ok x1, .pub ErrV] ?_
 refine l_get 0 rfl (fun S w h => ExprX.Ok.wf h) fun hw1 => ?_
 refine l_val wn (r_move rfl) rfl ?_
 refine l_val wn (r_extract rfl rfl) rfl ?_
 refine l_val wn (r_extract rfl rfl) rfl ?_
 refine l_alloc wn inf26 rfl fun b3 => ?_
 refine l_alloc wn inf33 rfl fun b4 => ?_
 refine l_stn 1 wn rfl rfl rfl inf26 rfl rfl rfl ?_
 refine l_stn 0 wn rfl rfl rfl inf33 rfl rfl rfl ?_
 refine l_nil (e_go hK2 ?_)
 refine c_seq fun _ hK3 => ?_
 refine c_region ?_
 refine l_val wn (r_move rfl) rfl ?_
 refine l_callE0 (β := ExprX × Pz.F) (fun z => .tuple #[.agg (exprE z.1).toArray, .agg #[iV z.2.1, iV z.2.2]]) (fun z => Pz.parse s = (z.1.e, z.2)) (fun z S => ExprX.Ok S z.1) (fun z => ExprX.Ok.loc z.1) wn rfl Tryd.call16 rfl (fun w1 Pb hM pp => c_refParse s Pb w1 pp.lt) fun z2 hz2 => ?_
 obtain ⟨x2, er2, at2⟩ := z2
 have hq2 : Pz.parse s = (x2.e, (er2, at2)) := hz2
 refine l_as 16 (.tuple (List.toArray [.agg (List.toArray [iV x2.kind, iV x2.n, iV x2.range, .string x2.word, .slice x2.ms.A x2.ms.l.length x2.ms.c, .slice x2.by_.A x2.by_.l.length x2.by_.c, .slice x2.kids.A x2.kids.l.length x2.kids.c]), .agg (List.toArray [iV er2, iV at2])])) [okP ExprX.Ok x2, .blk b4 [iV er1, iV at1] 33, .blk b3 [iV x1.kind, iV x1.n, iV x1.range, .string x1.word, .slice x1.ms.A x1.ms.l.length x1.ms.c, .slice x1.by_.A x1.by_.l.length x1.by_.c, .slice x1.kids.A x1.kids.l.length x1.kids.c] 26, okP ExprX.Ok x1, .pub ErrV] ?_
 refine l_get 0 rfl (fun S w h => ExprX.Ok.wf h) fun hw2 => ?_
 obtain ⟨he9, hf9⟩ := Prod.mk.inj (hq1.symm.trans hq2)
 refine l_val wn (r_move rfl) rfl ?_
 refine l_val wn (r_extract rfl rfl) rfl ?_
 refine l_val wn (r_extract rfl rfl) rfl ?_
 refine l_alloc wn inf26 rfl fun b5 => ?_
 refine l_alloc wn inf33 rfl fun b6 => ?_
 refine l_stn 1 wn rfl rfl rfl inf26 rfl rfl rfl ?_
 refine l_stn 0 wn rfl rfl rfl inf33 rfl rfl rfl ?_
 refine l_nil (e_go hK3 ?_)
 refine c_seq fun _ hK4 => ?_
 refine c_seq fun _ hK5 => ?_
 refine c_region ?_
 refine l_val wn (r_lbn 3 [iV er1, iV at1] rfl rfl rfl rfl agg33 inf33) rfl ?_
 refine l_val wn (r_lbn 0 [iV er2, iV at2] rfl rfl rfl rfl agg33 inf33) rfl ?_
 refine l_val wn (r_neqS (a := (⟨er1, at1⟩ : Fault)) (b := (⟨er2, at2⟩ : Fault)) rfl rfl eqv33) rfl ?_
 refine l_val wn (r_move rfl) rfl ?_
 refine l_litf (t := 22) rfl (fun g => g (by obtain ⟨e1, e2⟩ := Prod.mk.inj hf9; rw [e1, e2])) ?_
 refine l_val (wg rfl rfl rfl) (r_lbn 4 [iV x1.kind, iV x1.n, iV x1.range, .string x1.word, .slice x1.ms.A x1.ms.l.length x1.ms.c, .slice x1.by_.A x1.by_.l.length x1.by_.c, .slice x1.kids.A x1.kids.l.length x1.kids.c] rfl rfl rfl rfl agg26 inf26) rfl ?_
 refine l_val (wg rfl rfl rfl) (r_lbn 1 [iV x2.kind, iV x2.n, iV x2.range, .string x2.word, .slice x2.ms.A x2.ms.l.length x2.ms.c, .slice x2.by_.A x2.by_.l.length x2.by_.c, .slice x2.kids.A x2.kids.l.length x2.kids.c] rfl rfl rfl rfl agg26 inf26) rfl ?_
 refine l_callF (wg rfl rfl rfl) rfl Tryd.call17 rfl (fun w1 hM => c_refEqual x1 x2 (In w1) w1 (fun _ h => h) (hM.pubAt (i := 5) rfl) (hM.pubAt (i := 2) rfl)) ?_
 refine l_val (wg rfl rfl rfl) (r_notb rfl) rfl ?_
 refine l_val wn (r_pick rfl rfl) rfl ?_
 refine l_val wn (r_move rfl) rfl ?_
 refine l_litfb (t := 28) rfl (by simp [he9]) ?_
 refine l_callL Lg.totals (wg rfl rfl rfl) rfl Tryd.call18 rfl (fun w1 hM => c_Totals  w1) fun A1 cp1 hc1 hm1 hA1 => ?_
 refine l_val (wg rfl rfl rfl) (r_len rfl Tryd.underlying23) rfl ?_
 refine l_val (wg rfl rfl rfl) (r_neq rfl rfl) rfl ?_
 refine l_val wn (r_pick rfl rfl) rfl ?_
 refine l_nil (e_go hK5 ?_)
 refine c_false rfl (decide_eq_false (by decide)) ?_
 refine c_skip (e_go hK4 ?_)
 refine c_seq fun _ hK6 => ?_
 refine c_seq fun _ hK7 => ?_
 refine c_region ?_
 refine l_callL Lg.totals wn rfl Tryd.call18 rfl (fun w1 hM => c_Totals  w1) fun A2 cp2 hc2 hm2 hA2 => ?_
 refine l_val wn (r_len rfl Tryd.underlying23) rfl ?_
 refine l_val wn (r_move rfl) rfl ?_
 refine l_nil (e_go hK7 ?_)
 refine c_block ?_
 refine c_loop1 (fun (k : Nat) => [(33, .slice A2 Lg.totals.length cp2), (34, iV Lg.totals.length), (35, iV k)]) (fun (k : Nat) => [Row (.slice A2 Lg.totals.length cp2) 9 1 strE Lg.totals, Row (.slice A1 Lg.totals.length cp1) 9 1 strE Lg.totals, .blk b6 [iV er2, iV at2] 33, .blk b5 [iV x2.kind, iV x2.n, iV x2.range, .string x2.word, .slice x2.ms.A x2.ms.l.length x2.ms.c, .slice x2.by_.A x2.by_.l.length x2.by_.c, .slice x2.kids.A x2.kids.l.length x2.kids.c] 26, okP ExprX.Ok x2, .blk b4 [iV er1, iV at1] 33, .blk b3 [iV x1.kind, iV x1.n, iV x1.range, .string x1.word, .slice x1.ms.A x1.ms.l.length x1.ms.c, .slice x1.by_.A x1.by_.l.length x1.by_.c, .slice x1.kids.A x1.kids.l.length x1.kids.c] 26, okP ExprX.Ok x1, .pub ErrV]) (fun (k : Nat) => k ≤ Lg.totals.length) (fun (k : Nat) => Lg.totals.length - k) 0 (sc rfl (sc rfl (sc (ji (by omega)) sn))) (fun _ h => h) ?_ (fun k hI1 => ?_)
 · omega
 refine c_seq fun _ hK8 => ?_
 refine c_region ?_
 refine l_val wn (r_lss rfl rfl) rfl ?_
 refine l_nil (e_go hK8 ?_)
 refine c_seq fun _ hK9 => ?_
 refine c_cond rfl (fun h1 => ?_) (fun h1 => ?_)
 · refine c_skip (e_go hK9 ?_)
   refine c_seq fun _ hK10 => ?_
   refine c_block ?_
   refine c_seq fun _ hK11 => ?_
   refine c_region ?_
   refine l_val wn (r_move rfl) rfl ?_
   obtain ⟨ad1, hd1⟩ := hA2 (ne_nil (i := k) (by first | omega | (simp <;> omega)))
   refine l_val wn (r_ia (i := k) rfl hd1 rfl (by omega) (by first | omega | (simp <;> omega)) Tryd.underlying23 inf9) rfl ?_
   obtain ⟨s1, hs1⟩ : ∃ x, Lg.totals[k]? = some x := ⟨_, List.getElem?_eq_getElem (by first | omega | (simp <;> omega))⟩
   refine l_val wn (r_rl 0 encString rfl rfl hd1 hs1 rfl flat9) rfl ?_
   refine l_val wn (r_assign rfl) rfl ?_
   refine l_val wn (r_assign rfl) rfl ?_
   refine l_nil (e_go hK11 ?_)
   refine c_seq fun _ hK12 => ?_
   refine c_region ?_
   refine l_val wn (r_move rfl) rfl ?_
   refine l_callL Lg.totals wn rfl Tryd.call19 rfl (fun w1 hM => c_refTotals  w1) fun A3 cp3 hc3 hm3 hA3 => ?_
   refine l_val wn (r_move rfl) rfl ?_
   obtain ⟨ad2, hd2⟩ := hA3 (ne_nil (i := k) (by first | omega | (simp <;> omega)))
   refine l_val wn (r_ia (i := k) rfl hd2 rfl (by omega) (by first | omega | (simp <;> omega)) Tryd.underlying23 inf9) rfl ?_
   obtain ⟨s2, hs2⟩ : ∃ x, Lg.totals[k]? = some x := ⟨_, List.getElem?_eq_getElem (by first | omega | (simp <;> omega))⟩
   refine l_val wn (r_rl 0 encString rfl rfl hd2 hs2 rfl flat9) rfl ?_
   refine l_val wn (r_sneq rfl rfl) rfl ?_
   refine l_nil (e_go hK12 ?_)
   refine c_false rfl (decide_eq_false (fun g => g (Option.some.inj (hs1.symm.trans hs2)))) ?_
   refine c_skip (e_in_n (e_go hK10 ?_))
   refine c_region ?_
   refine l_val wn (r_addn rfl rfl (by omega)) rfl ?_
   refine l_val wn (r_move rfl) rfl ?_
   refine l_nil (e_round1 (k + 1) (sc rfl (sc rfl (sc (ji (by omega)) sn))) (fun _ h => (h.sel [1, 2, 3, 4, 5, 6, 7, 8, 9] (by decide) rfl)) ?_ ?_)
   · omega
   omega
 refine c_exit (e_then_x (e_loop1_x (e_in_hit (e_go hK6 ?_))))
 refine c_seq fun _ hK13 => ?_
 refine c_region ?_
 refine l_val wn (r_assign rfl) rfl ?_
 refine l_nil (e_go hK13 ?_)
 refine c_ret (e_ret1 (.inl rfl) Tryd.results4 (rv_tmp rfl) fun w1 hM => ?_)
 exact ret_ok rfl hM

end Go.Proofs.YtffpglgboaigfaaDoor
