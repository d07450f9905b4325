/-
  Walks: what each function hands back.
-/
import Derived.Test.YtldecdningjkoaaWref6
import Derived.Test.YtldecdningjkoaaWmeand
import Derived.Test.YtldecdningjkoaaRd3
namespace Go.Proofs.Ytldecdningjkoaa
open Ex
set_option linter.unusedVariables false
set_option linter.unusedSimpArgs false
theorem ask_ref {l : List LineX} (h8 : l.length ≤ 1048576) (hsz : ∀ x ∈ l, x.sr.l.length ≤ 1048576 ∧ x.sm.l.length ≤ 1048576) (hvl : ∀ x ∈ l, ∀ s ∈ x.sm.l, -1000000000 ≤ s.value ∧ s.value ≤ 1000000000) (lad : Addr) {sA : Option Addr} {sc : Nat} : RefFn Try.prog 26 #[.pointer (some lad)] (LinesAt lad sA sc l) (Mn.lookL (l.map LineX.e)) :=
  ⟨Try.call26, LinesAt.loc _ _ _ _, fun ms a b w P0 hP hms hC ha hb => by simpa using c_refAsk1 _ ms.l a b lad _ l P0 w hP hms hC.cel hC.sl hC.all h8 hsz hvl⟩

theorem c_refAsk (lv : Value) (l : List LineX) (e : ExprX) (time : Int) (P0 : Nat → Prop) (w : World) (hP0 : ∀ b, P0 b → b < w.heap.size) (hl : FlatSl P0 2 lineE lv l w) (hla : ∀ x ∈ l, LineX.Ok P0 x w) (he : ExprX.Ok P0 e w)  :
    Calls Try.prog 9 #[lv, .agg (exprE e).toArray, .int .i64 time] w (RetE w P0 (celsV (Mn.ask l e.e time).2) (fun z => z.l.map CellX.e = (Mn.ask l e.e time).1) (fun z S => CelsX.Ok S z)) := by
 have hwl : ∀ x ∈ l, LineX.Wf x := fun x hx => (hla x hx).wf
 obtain ⟨lA, lc, rfl, hlc, hlm, hlA⟩ := hl.form
 have hwe := he.wf
 refine fstart (N := 36) (vals := [.slice lA l.length lc, .agg (exprE e).toArray, .int .i64 time]) (S := Mem w ⟨no, P0⟩ [slP 2 lineE (.slice lA l.length lc) l, allP LineX.Ok l, okP ExprX.Ok e]) Try.func9 rfl rfl rfl (Mem.ofDatsP hP0 (dc (dlp hl) (dc (dp (all_loc LineX.Ok.loc _) hla) (dc (dp (ExprX.Ok.loc _) he) dn)))) ?_
 refine c_seq fun _ hK1 => ?_
 refine c_region ?_
 refine l_box1 wn rfl rfl rfl fun b3 => ?_
 refine l_box wn rfl rfl fun b4 => ?_
 refine l_val wn (r_assign rfl) rfl ?_
 refine l_val wn (r_assign rfl) rfl ?_
 refine l_nil (e_go hK1 ?_)
 refine c_seq fun _ hK2 => ?_
 refine c_seq fun _ hK3 => ?_
 refine c_region ?_
 refine l_val wn (r_lb 1 rfl rfl rfl flat22) rfl ?_
 refine l_callF wn rfl Try.call12 rfl (fun w1 hM => c_refWrongLines _ l (In w1) w1 (fun _ h => h) (hM.slp 2 rfl) (hM.pubAt (i := 3) rfl)) ?_
 refine l_alloc wn inf34 rfl fun b8 => ?_
 refine l_stn 0 wn rfl rfl rfl inf34 rfl rfl rfl ?_
 refine l_nil (e_go hK3 ?_)
 refine c_seq fun _ hK4 => ?_
 refine c_region ?_
 refine l_val wn (r_fa rfl fld34_0) rfl ?_
 refine l_val wn (r_lb 0 rfl rfl rfl flat29) rfl ?_
 refine l_val wn (r_neq rfl rfl) rfl ?_
 refine l_nil (e_go hK4 ?_)
 refine c_cond rfl (fun h1 => ?_) (fun h1 => ?_)
 · refine c_seq fun _ hK5 => ?_
   refine c_quiet mix (by kernel_rfl) (fun _ h => h.drew) ?_
   refine q_val wn (r_fa rfl fld34_0) rfl ?_
   refine q_val wn (r_lb 0 rfl rfl rfl flat29) rfl ?_
   refine q_val wn (r_assign rfl) rfl ?_
   refine q_val wn (r_assign rfl) rfl ?_
   refine q_end (e_go hK5 ?_)
   refine c_ret (e_then_r (e_ret2 (.inl rfl) Try.results9 (rv_tmp rfl) (rv_tmp rfl) fun w1 hM => ?_))
   have hb9 : Mn.ask l e.e time = ([], (Mn.lines l).err) := by rw [Mn.ask, if_pos h1]
   exact hM.retE (⟨none, 0, []⟩ : SlX CellX) (by first | (rw [hb9]; done) | (rw [hb9]; rfl)) (by first | (rw [hb9]; done) | (rw [hb9]; rfl)) fun Pb pp => ⟨FlatSl.nil_ _ _ _ _, fun c hc => (by cases hc)⟩
 refine c_skip (e_go hK2 ?_)
 refine c_seq fun _ hK6 => ?_
 refine c_seq fun _ hK7 => ?_
 refine c_region ?_
 refine l_val wn (r_lbn 1 [.int .i64 e.kind, .int .i64 e.n, .int .i64 e.range, .string e.word, .slice e.ms.A e.ms.l.length e.ms.c, .slice e.by_.A e.by_.l.length e.by_.c, .slice e.kids.A e.kids.l.length e.kids.c] rfl rfl rfl rfl agg27 inf27) rfl ?_
 refine l_val wn (r_move rfl) rfl ?_
 refine l_callF wn rfl Try.call14 rfl (fun w1 hM => c_refCheck e time (In w1) w1 (fun _ h => h) (hM.pubAt (i := 5) rfl)) ?_
 refine l_val wn (r_assign rfl) rfl ?_
 refine l_nil (e_go hK7 ?_)
 refine c_seq fun _ hK8 => ?_
 refine c_region ?_
 refine l_val wn (r_move rfl) rfl ?_
 refine l_val wn (r_neq rfl rfl) rfl ?_
 refine l_nil (e_go hK8 ?_)
 refine c_cond rfl (fun h2 => ?_) (fun h2 => ?_)
 · refine c_seq fun _ hK9 => ?_
   refine c_region ?_
   refine l_val wn (r_move rfl) rfl ?_
   refine l_val wn (r_assign rfl) rfl ?_
   refine l_val wn (r_assign rfl) rfl ?_
   refine l_nil (e_go hK9 ?_)
   refine c_ret (e_then_r (e_ret2 (.inl rfl) Try.results9 (rv_tmp rfl) (rv_tmp rfl) fun w1 hM => ?_))
   have hb9 : Mn.ask l e.e time = ([], Mn.check e.e time) := by rw [Mn.ask, if_neg h1, if_pos h2]
   exact hM.retE (⟨none, 0, []⟩ : SlX CellX) (by first | (rw [hb9]; done) | (rw [hb9]; rfl)) (by first | (rw [hb9]; done) | (rw [hb9]; rfl)) fun Pb pp => ⟨FlatSl.nil_ _ _ _ _, fun c hc => (by cases hc)⟩
 refine c_skip (e_go hK6 ?_)
 refine c_seq fun _ hK10 => ?_
 refine c_region ?_
 have hok := Mn.lines_ok (Classical.not_not.1 h1)
 have hck := Mn.check_right (Classical.not_not.1 h2)
 have hso := Mn.sound_of (Classical.not_not.1 h2)
 refine l_val wn (r_lbn 1 [.int .i64 e.kind, .int .i64 e.n, .int .i64 e.range, .string e.word, .slice e.ms.A e.ms.l.length e.ms.c, .slice e.by_.A e.by_.l.length e.by_.c, .slice e.kids.A e.kids.l.length e.kids.c] rfl rfl rfl rfl agg27 inf27) rfl ?_
 refine l_val wn (r_move rfl) rfl ?_
 refine l_val wn (r_makeFunc rfl rfl) rfl ?_
 refine l_sealB 2 rfl rfl ?_
 refine l_callE0 (β := SlX CellX) (rV (Mn.rout (Mn.eval (Mn.lookL (l.map LineX.e)) time e.e))) (fun z => z.l.map CellX.e = (Mn.rout (Mn.eval (Mn.lookL (l.map LineX.e)) time e.e)).1) (fun z S => CelsX.Ok S z) (fun z => CelsX.Ok.loc z) wn rfl Try.call25 rfl (fun w1 Pb hM pp => c_refEval e time 26 #[.pointer (some ⟨b3, 0, none⟩)] (LinesAt ⟨b3, 0, none⟩ lA lc l) (Mn.lookL (l.map LineX.e)) Pb w1 pp.lt (pp.at_ 5 _ rfl) ⟨pp.at_ 2 _ rfl, pp.sl 3 rfl, pp.at_ 4 _ rfl⟩ (ask_ref (by have := hok.len; omega) hok.sizes hok.vals _) (Mn.good_lookL hok) (Mn.dst_lookL hok) hck.2 hso) fun z1 hz1 => ?_
 refine l_get 0 rfl (fun S w h => CelsX.Ok.wf h) fun hw1 => ?_
 refine l_opn (fun _ h => h.celsX 0 rfl) ?_
 obtain ⟨hc1, hm1, hA1⟩ := hw1.cells
 refine l_val wn (r_move rfl) rfl ?_
 refine l_val wn (r_extract rfl rfl) rfl ?_
 refine l_val wn (r_extract rfl rfl) rfl ?_
 refine l_val wn (r_extract rfl rfl) rfl ?_
 refine l_val wn (r_assign rfl) rfl ?_
 refine l_val wn (r_assign rfl) rfl ?_
 refine l_val wn (r_assign rfl) rfl ?_
 refine l_nil (e_go hK10 ?_)
 refine c_seq fun _ hK11 => ?_
 refine c_region ?_
 refine l_val wn (r_move rfl) rfl ?_
 refine l_val wn (r_move rfl) rfl ?_
 refine l_val wn (r_assign rfl) rfl ?_
 refine l_val wn (r_assign rfl) rfl ?_
 refine l_nil (e_go hK11 ?_)
 refine c_ret (e_ret2 (.inl rfl) Try.results9 (rv_tmp rfl) (rv_tmp rfl) fun w1 hM => ?_)
 have hb9 : Mn.ask l e.e time = ((Mn.rout (Mn.eval (Mn.lookL (l.map LineX.e)) time e.e)).1, (Mn.rout (Mn.eval (Mn.lookL (l.map LineX.e)) time e.e)).2.2) := by rw [Mn.ask, if_neg h1, if_neg h2, Mn.rout_out]
 exact hM.retE z1 (by first | (rw [hb9]; done) | (rw [hb9]; rfl)) (by rw [hb9]; exact hz1) fun Pb pp => pp.at_ 2 _ rfl

set_option maxHeartbeats 2000000 in
theorem law_MeanTells (lv : Value) (l : List LineX) (e : ExprX) (time : Int) (P0 : Nat → Prop) (w : World) (hP0 : ∀ b, P0 b → b < w.heap.size) (hl : FlatSl P0 2 lineE lv l w) (hla : ∀ x ∈ l, LineX.Ok P0 x w) (he : ExprX.Ok P0 e w)  :
    Calls Try.prog 3 #[lv, .agg (exprE e).toArray, .int .i64 time] w (Ret w (.bool true)) := by
 have hwl : ∀ x ∈ l, LineX.Wf x := fun x hx => (hla x hx).wf
 obtain ⟨lA, lc, rfl, hlc, hlm, hlA⟩ := hl.form
 have hwe := he.wf
 refine fstart (N := 49) (vals := [.slice lA l.length lc, .agg (exprE e).toArray, .int .i64 time]) (S := Mem w ⟨no, P0⟩ [slP 2 lineE (.slice lA l.length lc) l, allP LineX.Ok l, okP ExprX.Ok e]) Try.func3 rfl rfl rfl (Mem.ofDatsP hP0 (dc (dlp hl) (dc (dp (all_loc LineX.Ok.loc _) hla) (dc (dp (ExprX.Ok.loc _) he) dn)))) ?_
 refine c_seq fun _ hK1 => ?_
 refine c_region ?_
 refine l_box wn rfl rfl fun b4 => ?_
 refine l_val wn (r_assign rfl) rfl ?_
 refine l_nil (e_go hK1 ?_)
 refine c_seq fun _ hK2 => ?_
 refine c_region ?_
 refine l_val wn (r_move rfl) rfl ?_
 refine l_val wn (r_lbn 0 [.int .i64 e.kind, .int .i64 e.n, .int .i64 e.range, .string e.word, .slice e.ms.A e.ms.l.length e.ms.c, .slice e.by_.A e.by_.l.length e.by_.c, .slice e.kids.A e.kids.l.length e.kids.c] rfl rfl rfl rfl agg27 inf27) rfl ?_
 refine l_val wn (r_move rfl) rfl ?_
 refine l_callE0 (β := SlX CellX) (celsV (Mn.ask l e.e time).2) (fun z => z.l.map CellX.e = (Mn.ask l e.e time).1) (fun z S => CelsX.Ok S z) (fun z => CelsX.Ok.loc z) wn rfl Try.call8 rfl (fun w1 Pb hM pp => c_ask _ l e time Pb w1 pp.lt (pp.sl 1 rfl) (pp.at_ 2 _ rfl) (pp.at_ 3 _ rfl)) fun z1 hz1 => ?_
 refine l_get 0 rfl (fun S w h => CelsX.Ok.wf h) fun hw1 => ?_
 refine l_opn (fun _ h => h.celsX 0 rfl) ?_
 obtain ⟨hc1, hm1, hA1⟩ := hw1.cells
 refine l_val wn (r_move rfl) rfl ?_
 refine l_val wn (r_extract rfl rfl) rfl ?_
 refine l_val wn (r_extract rfl rfl) rfl ?_
 refine l_val wn (r_assign rfl) rfl ?_
 refine l_val wn (r_assign rfl) rfl ?_
 refine l_nil (e_go hK2 ?_)
 refine c_seq fun _ hK3 => ?_
 refine c_region ?_
 refine l_val wn (r_move rfl) rfl ?_
 refine l_val wn (r_lbn 3 [.int .i64 e.kind, .int .i64 e.n, .int .i64 e.range, .string e.word, .slice e.ms.A e.ms.l.length e.ms.c, .slice e.by_.A e.by_.l.length e.by_.c, .slice e.kids.A e.kids.l.length e.kids.c] rfl rfl rfl rfl agg27 inf27) rfl ?_
 refine l_val wn (r_move rfl) rfl ?_
 refine l_callE0 (β := SlX CellX) (celsV (Mn.ask l e.e time).2) (fun z => z.l.map CellX.e = (Mn.ask l e.e time).1) (fun z S => CelsX.Ok S z) (fun z => CelsX.Ok.loc z) wn rfl Try.call9 rfl (fun w1 Pb hM pp => c_refAsk _ l e time Pb w1 pp.lt (pp.sl 4 rfl) (pp.at_ 5 _ rfl) (pp.at_ 6 _ rfl)) fun z2 hz2 => ?_
 refine l_get 0 rfl (fun S w h => CelsX.Ok.wf h) fun hw2 => ?_
 refine l_opn (fun _ h => h.celsX 0 rfl) ?_
 obtain ⟨hc2, hm2, hA2⟩ := hw2.cells
 refine l_val wn (r_move rfl) rfl ?_
 refine l_val wn (r_extract rfl rfl) rfl ?_
 refine l_val wn (r_extract rfl rfl) rfl ?_
 refine l_val wn (r_assign rfl) rfl ?_
 refine l_val wn (r_assign rfl) rfl ?_
 refine l_nil (e_go hK3 ?_)
 refine c_seq fun _ hK4 => ?_
 refine c_quiet mix (by kernel_rfl) (fun _ h => h.drew) ?_
 refine q_val wn (r_move rfl) rfl ?_
 refine q_val wn (r_move rfl) rfl ?_
 refine q_val wn (r_eql rfl rfl) rfl ?_
 refine q_val wn (r_move rfl) rfl ?_
 refine q_litt (t := 28) rfl rfl ?_
 refine q_val (wg rfl rfl rfl) (r_move rfl) rfl ?_
 refine q_val (wg rfl rfl rfl) (r_move rfl) rfl ?_
 refine q_callF (wg rfl rfl rfl) rfl Try.call10 rfl (fun w1 hM => c_sameCells _ z1.l _ z2.l (In w1) w1 (fun _ h => h) (hM.slp 3 rfl) (hM.pubAt (i := 4) rfl) (hM.slp 0 rfl) (hM.pubAt (i := 1) rfl)) ?_
 refine q_val wn (r_pick rfl rfl) rfl ?_
 refine q_val wn (r_move rfl) rfl ?_
 refine q_litt (t := 33) rfl (hz1.trans hz2.symm) ?_
 refine q_val (wg rfl rfl rfl) (r_move rfl) rfl ?_
 refine q_callF (wg rfl rfl rfl) rfl Try.call11 rfl (fun w1 hM => c_meanWrong _ l (In w1) w1 (fun _ h => h) (hM.slp 7 rfl) (hM.pubAt (i := 8) rfl)) ?_
 refine q_val (wg rfl rfl rfl) (r_move rfl) rfl ?_
 refine q_callF (wg rfl rfl rfl) rfl Try.call12 rfl (fun w1 hM => c_refWrongLines _ l (In w1) w1 (fun _ h => h) (hM.slp 7 rfl) (hM.pubAt (i := 8) rfl)) ?_
 refine q_val (wg rfl rfl rfl) (r_eqlS (a := (Mn.lines l)) (b := (Mn.lines l)) rfl rfl eqv34) rfl ?_
 refine q_val wn (r_pick rfl rfl) rfl ?_
 refine q_val wn (r_move rfl) rfl ?_
 refine q_litt (t := 40) rfl rfl ?_
 refine q_val (wg rfl rfl rfl) (r_lbn 6 [.int .i64 e.kind, .int .i64 e.n, .int .i64 e.range, .string e.word, .slice e.ms.A e.ms.l.length e.ms.c, .slice e.by_.A e.by_.l.length e.by_.c, .slice e.kids.A e.kids.l.length e.kids.c] rfl rfl rfl rfl agg27 inf27) rfl ?_
 refine q_val (wg rfl rfl rfl) (r_move rfl) rfl ?_
 refine q_callF (wg rfl rfl rfl) rfl Try.call13 rfl (fun w1 hM => c_check e time (In w1) w1 (fun _ h => h) (hM.pubAt (i := 9) rfl)) ?_
 refine q_val (wg rfl rfl rfl) (r_lbn 6 [.int .i64 e.kind, .int .i64 e.n, .int .i64 e.range, .string e.word, .slice e.ms.A e.ms.l.length e.ms.c, .slice e.by_.A e.by_.l.length e.by_.c, .slice e.kids.A e.kids.l.length e.kids.c] rfl rfl rfl rfl agg27 inf27) rfl ?_
 refine q_val (wg rfl rfl rfl) (r_move rfl) rfl ?_
 refine q_callF (wg rfl rfl rfl) rfl Try.call14 rfl (fun w1 hM => c_refCheck e time (In w1) w1 (fun _ h => h) (hM.pubAt (i := 9) rfl)) ?_
 refine q_val (wg rfl rfl rfl) (r_eql rfl rfl) rfl ?_
 refine q_val wn (r_pick rfl rfl) rfl ?_
 refine q_val wn (r_assign rfl) rfl ?_
 refine q_end (e_go hK4 ?_)
 refine c_ret (e_ret1 (.inl rfl) Try.results3 (rv_tmp rfl) fun w1 hM => ?_)
 exact ret_ok (congrArg Value.bool (decide_eq_true rfl)) hM

end Go.Proofs.Ytldecdningjkoaa
