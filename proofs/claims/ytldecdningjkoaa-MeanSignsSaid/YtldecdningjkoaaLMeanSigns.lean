/-
  Walks: what each function hands back.
-/
import Derived.Test.YtldecdningjkoaaWmeanc
import Derived.Test.YtldecdningjkoaaPSigns
import Derived.Test.YtldecdningjkoaaRd3
namespace Go.Proofs.Ytldecdningjkoaa
open Ex
set_option linter.unusedVariables false
set_option linter.unusedSimpArgs false
theorem c_law6num (n : Int) (w : World)   :
    Calls Try.prog 16 #[.int .i64 n] w (Ret w (.agg (exprE (numX n)).toArray)) := by
 refine fstart (N := 5) (vals := [.int .i64 n]) (S := Mem w no []) Try.func16 rfl rfl rfl (Mem.ofDats dn) ?_
 refine c_seq fun _ hK1 => ?_
 refine c_region ?_
 refine l_alloc wn inf27 rfl fun b2 => ?_
 refine l_nil (e_go hK1 ?_)
 refine c_seq fun _ hK2 => ?_
 refine c_region ?_
 refine l_val wn (r_move rfl) rfl ?_
 refine l_val wn (r_build [.int .i64 1, .int .i64 n, .int .i64 0, .string ⟨#[]⟩, .slice none 0 0, .slice none 0 0, .slice none 0 0] pl27 inf27 rfl rfl) rfl ?_
 refine l_stn 0 wn rfl rfl rfl inf27 rfl rfl rfl ?_
 refine l_nil (e_go hK2 ?_)
 refine c_ret (e_ret1 (.inl rfl) Try.results16 (rv_cell 0 rfl rfl agg27 inf27 rfl) fun w1 hM => ?_)
 exact ret_agg (l1 := [.int .i64 1, .int .i64 n, .int .i64 0, .string ⟨#[]⟩, .slice none 0 0, .slice none 0 0, .slice none 0 0]) rfl hM

theorem c_law6two (wd : ByteArray) (a : ExprX) (b : ExprX) (P0 : Nat → Prop) (w : World) (hP0 : ∀ b, P0 b → b < w.heap.size) (ha : ExprX.Ok P0 a w) (hb : ExprX.Ok P0 b w) (hwd : wd.size ≤ 9223372036854775807) :
    Calls Try.prog 17 #[.string wd, .agg (exprE a).toArray, .agg (exprE b).toArray] w (RetE w P0 (fun z : ExprX => .agg (exprE z).toArray) (fun z => z.e = Mn.two wd a.e b.e) (fun z S => ExprX.Ok S z)) := by
 have hwa := ha.wf
 have hwb := hb.wf
 refine fstart (N := 12) (vals := [.string wd, .agg (exprE a).toArray, .agg (exprE b).toArray]) (S := Mem w ⟨no, P0⟩ [okP ExprX.Ok a, okP ExprX.Ok b]) Try.func17 rfl rfl rfl (Mem.ofDatsP hP0 (dc (dp (ExprX.Ok.loc _) ha) (dc (dp (ExprX.Ok.loc _) hb) dn))) ?_
 refine c_seq fun _ hK1 => ?_
 refine c_region ?_
 refine l_box wn rfl rfl fun b4 => ?_
 refine l_box wn rfl rfl fun b5 => ?_
 refine l_alloc wn inf27 rfl fun b6 => ?_
 refine l_nil (e_go hK1 ?_)
 refine c_seq fun _ hK2 => ?_
 refine c_region ?_
 refine l_val wn (r_move rfl) rfl ?_
 refine l_val wn (r_lbn 2 [.int .i64 a.kind, .int .i64 a.n, .int .i64 a.range, .string a.word, .slice a.ms.A a.ms.l.length a.ms.c, .slice a.by_.A a.by_.l.length a.by_.c, .slice a.kids.A a.kids.l.length a.kids.c] rfl rfl rfl rfl agg27 inf27) rfl ?_
 refine l_val wn (r_lbn 1 [.int .i64 b.kind, .int .i64 b.n, .int .i64 b.range, .string b.word, .slice b.ms.A b.ms.l.length b.ms.c, .slice b.by_.A b.by_.l.length b.by_.c, .slice b.kids.A b.kids.l.length b.kids.c] rfl rfl rfl rfl agg27 inf27) rfl ?_
 refine l_bsL exprE ([a, b] : List ExprX) wn Try.underlying25 inf27 rfl rfl rfl rfl (by decide) (by decide) rfl fun b10 => ?_
 refine l_val wn (r_build [.int .i64 4, .int .i64 0, .int .i64 0, .string wd, .slice none 0 0, .slice none 0 0, .slice (some ⟨b10, 0, none⟩) 2 2] pl27 inf27 rfl rfl) rfl ?_
 refine l_seal 0 encExprX rfl rfl ?_
 refine l_opn (fun _ h => h.all0 ExprX.Ok.loc) ?_
 refine l_opn (fun _ h => h.allSnoc 0 5 ExprX.Ok.loc rfl rfl) ?_
 refine l_opn (fun _ h => h.allSnoc 0 7 ExprX.Ok.loc rfl rfl) ?_
 refine l_nilSl 1 strE ?_
 refine l_opn (fun _ h => h.exprK (bs := ([] : List ByteArray)) (k := 4) (n := 0) (r := 0) (wd := wd) 4 1 0 (by first | decide | omega | assumption) (fun x hx => by cases hx) rfl rfl rfl) ?_
 refine l_get 0 rfl (fun S w h => ExprX.Ok.wf h) fun hw1 => ?_
 refine l_stn 6 wn rfl rfl rfl inf27 rfl rfl rfl ?_
 refine l_nil (e_go hK2 ?_)
 refine c_ret (e_ret1 (.inl rfl) Try.results17 (rv_cell 6 rfl rfl agg27 inf27 rfl) fun w1 hM => ?_)
 exact hM.retE (ExprX.mk 4 0 0 wd ⟨none, 0, []⟩ ⟨none, 0, []⟩ ⟨(some ⟨b10, 0, none⟩), 2, ([a, b] : List ExprX)⟩) rfl (by rw [ExprX.e_eq]; rfl) fun Pb pp => pp.at_ 0 _ rfl

set_option maxHeartbeats 4000000 in
theorem law_MeanSigns (lv : Value) (l : List LineX) (e : ExprX) (time : Int) (P0 : Nat → Prop) (w : World) (hP0 : ∀ b, P0 b → b < w.heap.size) (hl : FlatSl P0 2 lineE lv l w) (hla : ∀ x ∈ l, LineX.Ok P0 x w) (he : ExprX.Ok P0 e w)  :
    Calls Try.prog 4 #[lv, .agg (exprE e).toArray, .int .i64 time] w (Ret w (.bool true)) := by
 have hwl : ∀ x ∈ l, LineX.Wf x := fun x hx => (hla x hx).wf
 obtain ⟨lA, lc, rfl, hlc, hlm, hlA⟩ := hl.form
 have hwe := he.wf
 refine fstart (N := 134) (vals := [.slice lA l.length lc, .agg (exprE e).toArray, .int .i64 time]) (S := Mem w ⟨no, P0⟩ [slP 2 lineE (.slice lA l.length lc) l, allP LineX.Ok l, okP ExprX.Ok e]) Try.func4 rfl rfl rfl (Mem.ofDatsP hP0 (dc (dlp hl) (dc (dp (all_loc LineX.Ok.loc _) hla) (dc (dp (ExprX.Ok.loc _) he) dn)))) ?_
 refine c_seq fun _ hK1 => ?_
 refine c_region ?_
 refine l_box wn rfl rfl fun b4 => ?_
 refine l_val wn (r_assign rfl) rfl ?_
 refine l_nil (e_go hK1 ?_)
 refine c_seq fun _ hK2 => ?_
 refine c_seq fun _ hK3 => ?_
 refine c_region ?_
 refine l_callF wn rfl Try.call15 rfl (fun w1 hM => c_alive  w1) ?_
 refine l_val wn (r_notb rfl) rfl ?_
 refine l_nil (e_go hK3 ?_)
 refine c_false rfl rfl ?_
 refine c_skip (e_go hK2 ?_)
 refine c_seq fun _ hK4 => ?_
 refine c_region ?_
 refine l_val wn (r_move rfl) rfl ?_
 refine l_val wn (r_lbn 0 [.int .i64 e.kind, .int .i64 e.n, .int .i64 e.range, .string e.word, .slice e.ms.A e.ms.l.length e.ms.c, .slice e.by_.A e.by_.l.length e.by_.c, .slice e.kids.A e.kids.l.length e.kids.c] rfl rfl rfl rfl agg27 inf27) rfl ?_
 refine l_val wn (r_move rfl) rfl ?_
 refine l_callE0 (β := SlX CellX) (celsV (Mn.ask l e.e time).2) (fun z => z.l.map CellX.e = (Mn.ask l e.e time).1) (fun z S => CelsX.Ok S z) (fun z => CelsX.Ok.loc z) wn rfl Try.call8 rfl (fun w1 Pb hM pp => c_ask _ l e time Pb w1 pp.lt (pp.sl 1 rfl) (pp.at_ 2 _ rfl) (pp.at_ 3 _ rfl)) fun z1 hz1 => ?_
 refine l_get 0 rfl (fun S w h => CelsX.Ok.wf h) fun hw1 => ?_
 refine l_opn (fun _ h => h.celsX 0 rfl) ?_
 obtain ⟨hc1, hm1, hA1⟩ := hw1.cells
 refine l_val wn (r_move rfl) rfl ?_
 refine l_val wn (r_extract rfl rfl) rfl ?_
 refine l_val wn (r_extract rfl rfl) rfl ?_
 refine l_val wn (r_assign rfl) rfl ?_
 refine l_val wn (r_assign rfl) rfl ?_
 refine l_nil (e_go hK4 ?_)
 refine c_seq fun _ hK5 => ?_
 refine c_seq fun _ hK6 => ?_
 refine c_region ?_
 refine l_val wn (r_move rfl) rfl ?_
 refine l_val wn (r_neq rfl rfl) rfl ?_
 refine l_nil (e_go hK6 ?_)
 refine c_cond rfl (fun h1 => ?_) (fun h1 => ?_)
 · refine c_seq fun _ hK7 => ?_
   refine c_region ?_
   refine l_val wn (r_move rfl) rfl ?_
   refine l_val wn (r_len rfl Try.underlying28) rfl ?_
   refine l_val wn (r_eql rfl rfl) rfl ?_
   refine l_val wn (r_assign rfl) rfl ?_
   refine l_nil (e_go hK7 ?_)
   refine c_ret (e_then_r (e_ret1 (.inl rfl) Try.results4 (rv_tmp rfl) fun w1 hM => ?_))
   have hn9 : (Mn.ask l e.e time).1 = [] := Mn.ask_bad h1
   exact ret_ok (congrArg Value.bool (decide_eq_true (by have := congrArg List.length hz1; rw [hn9] at this; simp at this; rw [this]; rfl))) hM
 refine c_skip (e_go hK5 ?_)
 refine c_seq fun _ hK8 => ?_
 refine c_region ?_
 refine l_val wn (r_assign rfl) rfl ?_
 refine l_nil (e_go hK8 ?_)
 refine c_seq fun _ hK9 => ?_
 refine c_region ?_
 refine l_val wn (r_assign rfl) rfl ?_
 refine l_nil (e_go hK9 ?_)
 refine c_seq fun _ hK10 => ?_
 refine c_nodes (Mem w ⟨no, P0⟩ [slP 2 cellE (.slice z1.A z1.l.length z1.c) z1.l, allP CellX.Ok z1.l, okP CelsX.Ok z1, .blk b4 [.int .i64 e.kind, .int .i64 e.n, .int .i64 e.range, .string e.word, .slice e.ms.A e.ms.l.length e.ms.c, .slice e.by_.A e.by_.l.length e.by_.c, .slice e.kids.A e.kids.l.length e.kids.c] 27, slP 2 lineE (.slice lA l.length lc) l, allP LineX.Ok l, okP ExprX.Ok e]) mix (fun _ h => h.drew) rfl ?_
 refine n_run (f := 8) [0, 1, 2, 3, 6] rfl rfl (by kernel_rfl) (by kernel_rfl) (fun _ h => h) fun KS hKS => ?_
 refine s_val wn (r_move rfl) rfl ?_
 refine s_val wn (r_move rfl) rfl ?_
 refine s_val wn (r_lbn 3 [.int .i64 e.kind, .int .i64 e.n, .int .i64 e.range, .string e.word, .slice e.ms.A e.ms.l.length e.ms.c, .slice e.by_.A e.by_.l.length e.by_.c, .slice e.kids.A e.kids.l.length e.kids.c] rfl rfl rfl rfl agg27 inf27) rfl ?_
 refine s_val wn (r_move rfl) rfl ?_
 refine s_val wn (r_move rfl) rfl ?_
 refine s_end hKS ?_
 refine n_step1 (f := 7) (i := 4) rfl (by kernel_rfl) ?_
 refine n_one (i := 4) rfl fun KN hKN => ?_
 refine l_callV wn rfl rfl Try.call16 rfl (fun w1 hM => c_law6num 2 w1) ?_
 refine l_opn (fun _ h => h.okAny (ok := ExprX.Ok) (x := (numX 2)) ExprX.Ok.loc (numX_ok _)) ?_
 refine l_get 0 rfl (fun S w h => ExprX.Ok.wf h) fun hw2 => ?_
 refine l_nil (hKN _ _ (fun _ h => (h.sel [1, 2, 3, 4, 5, 6, 7] (by decide) rfl)) ?_)
 refine n_step1 (f := 6) (i := 5) rfl (by kernel_rfl) ?_
 refine n_one (i := 5) rfl fun KN hKN => ?_
 refine l_callEC (β := ExprX) (fun z : ExprX => .agg (exprE z).toArray) (fun z => z.e = Mn.two ⟨#[42]⟩ e.e (numX 2).e) (fun z S => ExprX.Ok S z) (fun z => ExprX.Ok.loc z) wn rfl rfl Try.call17 rfl (fun w1 Pb hM pp => c_law6two ⟨#[42]⟩ e (numX 2) Pb w1 pp.lt (pp.at_ 7 _ rfl) (pp.at_ 0 _ rfl) (by decide)) fun z2 hz2 => ?_
 refine l_get 0 rfl (fun S w h => ExprX.Ok.wf h) fun hw3 => ?_
 refine l_nil (hKN _ _ (fun _ h => (h.sel [2, 3, 4, 5, 6, 7, 8] (by decide) rfl)) ?_)
 refine n_step1 (f := 5) (i := 7) rfl (by kernel_rfl) ?_
 refine n_one (i := 7) rfl fun KN hKN => ?_
 refine l_callE0 (β := SlX CellX) (celsV (Mn.ask l z2.e time).2) (fun z => z.l.map CellX.e = (Mn.ask l z2.e time).1) (fun z S => CelsX.Ok S z) (fun z => CelsX.Ok.loc z) wn rfl Try.call8 rfl (fun w1 Pb hM pp => c_ask _ l z2 time Pb w1 pp.lt (pp.sl 6 rfl) (pp.at_ 7 _ rfl) (pp.at_ 0 _ rfl)) fun z3 hz3 => ?_
 refine l_get 0 rfl (fun S w h => CelsX.Ok.wf h) fun hw4 => ?_
 refine l_opn (fun _ h => h.celsX 0 rfl) ?_
 obtain ⟨hc2, hm2, hA2⟩ := hw4.cells
 refine l_nil (hKN _ _ (fun _ h => (h.sel [5, 6, 7, 8, 9, 10, 11] (by decide) rfl)) ?_)
 refine n_run (f := 0) [8, 9, 10, 11, 12] rfl rfl (by kernel_rfl) (by kernel_rfl) (fun _ h => (h.sel [5, 6, 7, 8, 9, 10, 11] (by decide) rfl)) fun KS hKS => ?_
 refine s_val wn (r_move rfl) rfl ?_
 refine s_val wn (r_extract rfl rfl) rfl ?_
 refine s_val wn (r_extract rfl rfl) rfl ?_
 refine s_val wn (r_assign rfl) rfl ?_
 refine s_val wn (r_assign rfl) rfl ?_
 refine s_end hKS ?_
 refine n_done (by kernel_rfl) (e_go hK10 ?_)
 refine c_seq fun _ hK11 => ?_
 refine c_region ?_
 refine l_val wn (r_move rfl) rfl ?_
 refine l_val wn (r_move rfl) rfl ?_
 refine l_val wn (r_lbn 8 [.int .i64 e.kind, .int .i64 e.n, .int .i64 e.range, .string e.word, .slice e.ms.A e.ms.l.length e.ms.c, .slice e.by_.A e.by_.l.length e.by_.c, .slice e.kids.A e.kids.l.length e.kids.c] rfl rfl rfl rfl agg27 inf27) rfl ?_
 refine l_val wn (r_lbn 8 [.int .i64 e.kind, .int .i64 e.n, .int .i64 e.range, .string e.word, .slice e.ms.A e.ms.l.length e.ms.c, .slice e.by_.A e.by_.l.length e.by_.c, .slice e.kids.A e.kids.l.length e.kids.c] rfl rfl rfl rfl agg27 inf27) rfl ?_
 refine l_callEC (β := ExprX) (fun z : ExprX => .agg (exprE z).toArray) (fun z => z.e = Mn.two ⟨#[43]⟩ e.e e.e) (fun z S => ExprX.Ok S z) (fun z => ExprX.Ok.loc z) wn rfl rfl Try.call17 rfl (fun w1 Pb hM pp => c_law6two ⟨#[43]⟩ e e Pb w1 pp.lt (pp.at_ 11 _ rfl) (pp.at_ 11 _ rfl) (by decide)) fun z4 hz4 => ?_
 refine l_get 0 rfl (fun S w h => ExprX.Ok.wf h) fun hw5 => ?_
 refine l_val wn (r_move rfl) rfl ?_
 refine l_callE0 (β := SlX CellX) (celsV (Mn.ask l z4.e time).2) (fun z => z.l.map CellX.e = (Mn.ask l z4.e time).1) (fun z S => CelsX.Ok S z) (fun z => CelsX.Ok.loc z) wn rfl Try.call8 rfl (fun w1 Pb hM pp => c_ask _ l z4 time Pb w1 pp.lt (pp.sl 10 rfl) (pp.at_ 11 _ rfl) (pp.at_ 0 _ rfl)) fun z5 hz5 => ?_
 refine l_get 0 rfl (fun S w h => CelsX.Ok.wf h) fun hw6 => ?_
 refine l_opn (fun _ h => h.celsX 0 rfl) ?_
 obtain ⟨hc3, hm3, hA3⟩ := hw6.cells
 refine l_val wn (r_move rfl) rfl ?_
 refine l_val wn (r_extract rfl rfl) rfl ?_
 refine l_val wn (r_extract rfl rfl) rfl ?_
 refine l_val wn (r_assign rfl) rfl ?_
 refine l_val wn (r_assign rfl) rfl ?_
 refine l_nil (e_go hK11 ?_)
 refine c_seq fun _ hK12 => ?_
 refine c_region ?_
 refine l_val wn (r_move rfl) rfl ?_
 refine l_val wn (r_move rfl) rfl ?_
 refine l_val wn (r_lbn 12 [.int .i64 e.kind, .int .i64 e.n, .int .i64 e.range, .string e.word, .slice e.ms.A e.ms.l.length e.ms.c, .slice e.by_.A e.by_.l.length e.by_.c, .slice e.kids.A e.kids.l.length e.kids.c] rfl rfl rfl rfl agg27 inf27) rfl ?_
 refine l_val wn (r_lbn 12 [.int .i64 e.kind, .int .i64 e.n, .int .i64 e.range, .string e.word, .slice e.ms.A e.ms.l.length e.ms.c, .slice e.by_.A e.by_.l.length e.by_.c, .slice e.kids.A e.kids.l.length e.kids.c] rfl rfl rfl rfl agg27 inf27) rfl ?_
 refine l_callEC (β := ExprX) (fun z : ExprX => .agg (exprE z).toArray) (fun z => z.e = Mn.two ⟨#[45]⟩ e.e e.e) (fun z S => ExprX.Ok S z) (fun z => ExprX.Ok.loc z) wn rfl rfl Try.call17 rfl (fun w1 Pb hM pp => c_law6two ⟨#[45]⟩ e e Pb w1 pp.lt (pp.at_ 15 _ rfl) (pp.at_ 15 _ rfl) (by decide)) fun z6 hz6 => ?_
 refine l_get 0 rfl (fun S w h => ExprX.Ok.wf h) fun hw7 => ?_
 refine l_val wn (r_move rfl) rfl ?_
 refine l_callE0 (β := SlX CellX) (celsV (Mn.ask l z6.e time).2) (fun z => z.l.map CellX.e = (Mn.ask l z6.e time).1) (fun z S => CelsX.Ok S z) (fun z => CelsX.Ok.loc z) wn rfl Try.call8 rfl (fun w1 Pb hM pp => c_ask _ l z6 time Pb w1 pp.lt (pp.sl 14 rfl) (pp.at_ 15 _ rfl) (pp.at_ 0 _ rfl)) fun z7 hz7 => ?_
 refine l_get 0 rfl (fun S w h => CelsX.Ok.wf h) fun hw8 => ?_
 refine l_opn (fun _ h => h.celsX 0 rfl) ?_
 obtain ⟨hc4, hm4, hA4⟩ := hw8.cells
 refine l_val wn (r_move rfl) rfl ?_
 refine l_val wn (r_extract rfl rfl) rfl ?_
 refine l_val wn (r_extract rfl rfl) rfl ?_
 refine l_val wn (r_assign rfl) rfl ?_
 refine l_val wn (r_assign rfl) rfl ?_
 refine l_nil (e_go hK12 ?_)
 refine c_seq fun _ hK13 => ?_
 refine c_nodes (Mem w ⟨no, P0⟩ [slP 2 cellE (.slice z7.A z7.l.length z7.c) z7.l, allP CellX.Ok z7.l, okP CelsX.Ok z7, okP ExprX.Ok z6, slP 2 cellE (.slice z5.A z5.l.length z5.c) z5.l, allP CellX.Ok z5.l, okP CelsX.Ok z5, okP ExprX.Ok z4, slP 2 cellE (.slice z3.A z3.l.length z3.c) z3.l, allP CellX.Ok z3.l, okP CelsX.Ok z3, okP ExprX.Ok z2, okP ExprX.Ok (numX 2), slP 2 cellE (.slice z1.A z1.l.length z1.c) z1.l, allP CellX.Ok z1.l, okP CelsX.Ok z1, .blk b4 [.int .i64 e.kind, .int .i64 e.n, .int .i64 e.range, .string e.word, .slice e.ms.A e.ms.l.length e.ms.c, .slice e.by_.A e.by_.l.length e.by_.c, .slice e.kids.A e.kids.l.length e.kids.c] 27, slP 2 lineE (.slice lA l.length lc) l, allP LineX.Ok l, okP ExprX.Ok e]) mix (fun _ h => h.drew) rfl ?_
 refine n_run (f := 8) [0, 1, 2, 4, 6] rfl rfl (by kernel_rfl) (by kernel_rfl) (fun _ h => h) fun KS hKS => ?_
 refine s_val wn (r_move rfl) rfl ?_
 refine s_val wn (r_move rfl) rfl ?_
 refine s_val wn (r_move rfl) rfl ?_
 refine s_val wn (r_lbn 16 [.int .i64 e.kind, .int .i64 e.n, .int .i64 e.range, .string e.word, .slice e.ms.A e.ms.l.length e.ms.c, .slice e.by_.A e.by_.l.length e.by_.c, .slice e.kids.A e.kids.l.length e.kids.c] rfl rfl rfl rfl agg27 inf27) rfl ?_
 refine s_val wn (r_move rfl) rfl ?_
 refine s_end hKS ?_
 refine n_step1 (f := 7) (i := 3) rfl (by kernel_rfl) ?_
 refine n_one (i := 3) rfl fun KN hKN => ?_
 refine l_callV wn rfl rfl Try.call16 rfl (fun w1 hM => c_law6num 0 w1) ?_
 refine l_opn (fun _ h => h.okAny (ok := ExprX.Ok) (x := (numX 0)) ExprX.Ok.loc (numX_ok _)) ?_
 refine l_get 0 rfl (fun S w h => ExprX.Ok.wf h) fun hw9 => ?_
 refine l_nil (hKN _ _ (fun _ h => (h.sel [1, 2, 3, 4, 5, 6, 7, 8, 9, 10, 11, 12, 13, 14, 15, 16, 17, 18, 19, 20] (by decide) rfl)) ?_)
 refine n_step1 (f := 6) (i := 5) rfl (by kernel_rfl) ?_
 refine n_one (i := 5) rfl fun KN hKN => ?_
 refine l_callEC (β := ExprX) (fun z : ExprX => .agg (exprE z).toArray) (fun z => z.e = Mn.two ⟨#[43]⟩ (numX 0).e e.e) (fun z S => ExprX.Ok S z) (fun z => ExprX.Ok.loc z) wn rfl rfl Try.call17 rfl (fun w1 Pb hM pp => c_law6two ⟨#[43]⟩ (numX 0) e Pb w1 pp.lt (pp.at_ 0 _ rfl) (pp.at_ 20 _ rfl) (by decide)) fun z8 hz8 => ?_
 refine l_get 0 rfl (fun S w h => ExprX.Ok.wf h) fun hw10 => ?_
 refine l_nil (hKN _ _ (fun _ h => (h.sel [2, 3, 4, 5, 6, 7, 8, 9, 10, 11, 12, 13, 14, 15, 16, 17, 18, 19, 20, 21] (by decide) rfl)) ?_)
 refine n_step1 (f := 5) (i := 7) rfl (by kernel_rfl) ?_
 refine n_one (i := 7) rfl fun KN hKN => ?_
 refine l_callE0 (β := SlX CellX) (celsV (Mn.ask l z8.e time).2) (fun z => z.l.map CellX.e = (Mn.ask l z8.e time).1) (fun z S => CelsX.Ok S z) (fun z => CelsX.Ok.loc z) wn rfl Try.call8 rfl (fun w1 Pb hM pp => c_ask _ l z8 time Pb w1 pp.lt (pp.sl 19 rfl) (pp.at_ 20 _ rfl) (pp.at_ 0 _ rfl)) fun z9 hz9 => ?_
 refine l_get 0 rfl (fun S w h => CelsX.Ok.wf h) fun hw11 => ?_
 refine l_opn (fun _ h => h.celsX 0 rfl) ?_
 obtain ⟨hc5, hm5, hA5⟩ := hw11.cells
 refine l_nil (hKN _ _ (fun _ h => (h.sel [5, 6, 7, 8, 9, 10, 11, 12, 13, 14, 15, 16, 17, 18, 19, 20, 21, 22, 23, 24] (by decide) rfl)) ?_)
 refine n_run (f := 0) [8, 9, 10, 11, 12] rfl rfl (by kernel_rfl) (by kernel_rfl) (fun _ h => (h.sel [5, 6, 7, 8, 9, 10, 11, 12, 13, 14, 15, 16, 17, 18, 19, 20, 21, 22, 23, 24] (by decide) rfl)) fun KS hKS => ?_
 refine s_val wn (r_move rfl) rfl ?_
 refine s_val wn (r_extract rfl rfl) rfl ?_
 refine s_val wn (r_extract rfl rfl) rfl ?_
 refine s_val wn (r_assign rfl) rfl ?_
 refine s_val wn (r_assign rfl) rfl ?_
 refine s_end hKS ?_
 refine n_done (by kernel_rfl) (e_go hK13 ?_)
 refine c_seq fun _ hK14 => ?_
 refine c_seq fun _ hK15 => ?_
 refine c_region ?_
 refine l_val wn (r_move rfl) rfl ?_
 refine l_val wn (r_eql rfl rfl) rfl ?_
 refine l_val wn (r_move rfl) rfl ?_
 refine l_case (t := 78) rfl (fun h2 => ?_) (fun h2 => ?_)
 · refine l_skip (wg rfl rfl rfl) rfl ?_
   refine l_skip (wg rfl rfl rfl) rfl ?_
   refine l_val wn (r_pick rfl rfl) rfl ?_
   refine l_nil (e_go hK15 ?_)
   refine c_true rfl rfl ?_
   refine c_seq fun _ hK16 => ?_
   refine c_region ?_
   refine l_val wn (r_assign rfl) rfl ?_
   refine l_nil (e_go hK16 ?_)
   refine c_ret (e_then_r (e_ret1 (.inl rfl) Try.results4 (rv_tmp rfl) fun w1 hM => ?_))
   exact ret_ok rfl hM
 refine l_val (wg rfl rfl rfl) (r_move rfl) rfl ?_
 refine l_val (wg rfl rfl rfl) (r_eql rfl rfl) rfl ?_
 refine l_val wn (r_pick rfl rfl) rfl ?_
 refine l_nil (e_go hK15 ?_)
 refine c_cond rfl (fun h3 => ?_) (fun h3 => ?_)
 · refine c_seq fun _ hK17 => ?_
   refine c_region ?_
   refine l_val wn (r_assign rfl) rfl ?_
   refine l_nil (e_go hK17 ?_)
   refine c_ret (e_then_r (e_ret1 (.inl rfl) Try.results4 (rv_tmp rfl) fun w1 hM => ?_))
   exact ret_ok rfl hM
 refine c_skip (e_go hK14 ?_)
 refine c_seq fun _ hK18 => ?_
 refine c_seq fun _ hK19 => ?_
 refine c_region ?_
 have hx0 : z2.e = Mn.two ⟨#[42]⟩ e.e (Mn.num 2) := hz2
 have hx1 : z4.e = Mn.two ⟨#[43]⟩ e.e e.e := hz4
 have hx2 : z6.e = Mn.two ⟨#[45]⟩ e.e e.e := hz6
 have hx3 : z8.e = Mn.two ⟨#[43]⟩ (Mn.num 0) e.e := hz8
 obtain ⟨sg1, sg2, sg3, sg4, sg5⟩ := Mn.signs (l := l) (e := e.e) (t := time) (Classical.not_not.1 h1) (by rw [← hx0]; exact h2) (by rw [← hx1]; exact h3)
 rw [← hx0, ← hx1] at sg1
 rw [← hx2] at sg2 sg5
 rw [← hx3] at sg3 sg4
 have hA := hz1
 have hP := hz3
 have hQ := hz5
 have hR := hz7
 have hS := hz9
 have hRA : z7.l.map CellX.e = z1.l.map fun c => (⟨c.sr.l, 0⟩ : Cell) := by rw [hR, sg5, ← hA, List.map_map]; rfl
 have hln : z7.l.length = z1.l.length := by have := congrArg List.length hRA; simpa using this
 refine l_val wn (r_move rfl) rfl ?_
 refine l_val wn (r_move rfl) rfl ?_
 refine l_val wn (r_neq rfl rfl) rfl ?_
 refine l_val wn (r_move rfl) rfl ?_
 refine l_litf (t := 85) rfl (fun h => h (by rw [sg1])) ?_
 refine l_val (wg rfl rfl rfl) (r_move rfl) rfl ?_
 refine l_val (wg rfl rfl rfl) (r_move rfl) rfl ?_
 refine l_callF (wg rfl rfl rfl) rfl Try.call10 rfl (fun w1 hM => c_sameCells _ z3.l _ z5.l (In w1) w1 (fun _ h => h) (hM.slp 13 rfl) (hM.pubAt (i := 14) rfl) (hM.slp 9 rfl) (hM.pubAt (i := 10) rfl)) ?_
 refine l_val (wg rfl rfl rfl) (r_not rfl) rfl ?_
 refine l_val wn (r_pick rfl rfl) rfl ?_
 refine l_val wn (r_move rfl) rfl ?_
 refine l_litf (t := 91) rfl (fun h => h (by rw [hz3, hz5]; first | rw [sg1] | exact sg4)) ?_
 refine l_val (wg rfl rfl rfl) (r_move rfl) rfl ?_
 refine l_val (wg rfl rfl rfl) (r_neq rfl rfl) rfl ?_
 refine l_val wn (r_pick rfl rfl) rfl ?_
 refine l_val wn (r_move rfl) rfl ?_
 refine l_litf (t := 95) rfl (fun h => h (by assumption)) ?_
 refine l_val (wg rfl rfl rfl) (r_move rfl) rfl ?_
 refine l_val (wg rfl rfl rfl) (r_neq rfl rfl) rfl ?_
 refine l_val wn (r_pick rfl rfl) rfl ?_
 refine l_val wn (r_move rfl) rfl ?_
 refine l_litf (t := 99) rfl (fun h => h (by assumption)) ?_
 refine l_val (wg rfl rfl rfl) (r_move rfl) rfl ?_
 refine l_val (wg rfl rfl rfl) (r_move rfl) rfl ?_
 refine l_callF (wg rfl rfl rfl) rfl Try.call10 rfl (fun w1 hM => c_sameCells _ z9.l _ z1.l (In w1) w1 (fun _ h => h) (hM.slp 0 rfl) (hM.pubAt (i := 1) rfl) (hM.slp 18 rfl) (hM.pubAt (i := 19) rfl)) ?_
 refine l_val (wg rfl rfl rfl) (r_not rfl) rfl ?_
 refine l_val wn (r_pick rfl rfl) rfl ?_
 refine l_val wn (r_move rfl) rfl ?_
 refine l_litf (t := 105) rfl (fun h => h (by rw [hz9, hz1]; first | rw [sg1] | exact sg4)) ?_
 refine l_val (wg rfl rfl rfl) (r_move rfl) rfl ?_
 refine l_val (wg rfl rfl rfl) (r_len rfl Try.underlying28) rfl ?_
 refine l_val (wg rfl rfl rfl) (r_move rfl) rfl ?_
 refine l_val (wg rfl rfl rfl) (r_len rfl Try.underlying28) rfl ?_
 refine l_val (wg rfl rfl rfl) (r_neq rfl rfl) rfl ?_
 refine l_val wn (r_pick rfl rfl) rfl ?_
 refine l_nil (e_go hK19 ?_)
 refine c_false rfl (decide_eq_false (fun h => h (by omega))) ?_
 refine c_skip (e_go hK18 ?_)
 refine c_seq fun _ hK20 => ?_
 refine c_seq fun _ hK21 => ?_
 refine c_region ?_
 refine l_val wn (r_move rfl) rfl ?_
 refine l_val wn (r_len rfl Try.underlying28) rfl ?_
 refine l_val wn (r_move rfl) rfl ?_
 refine l_nil (e_go hK21 ?_)
 refine c_block ?_
 refine c_loop1 (fun (k : Nat) => [(7, .slice z1.A z1.l.length z1.c), (112, .slice z7.A z7.l.length z7.c), (113, .int .i64 (z7.l.length : Int)), (114, .int .i64 (k : Int))]) (fun (k : Nat) => [slP 2 cellE (.slice z9.A z9.l.length z9.c) z9.l, allP CellX.Ok z9.l, okP CelsX.Ok z9, okP ExprX.Ok z8, okP ExprX.Ok (numX 0), slP 2 cellE (.slice z7.A z7.l.length z7.c) z7.l, allP CellX.Ok z7.l, okP CelsX.Ok z7, okP ExprX.Ok z6, slP 2 cellE (.slice z5.A z5.l.length z5.c) z5.l, allP CellX.Ok z5.l, okP CelsX.Ok z5, okP ExprX.Ok z4, slP 2 cellE (.slice z3.A z3.l.length z3.c) z3.l, allP CellX.Ok z3.l, okP CelsX.Ok z3, okP ExprX.Ok z2, okP ExprX.Ok (numX 2), slP 2 cellE (.slice z1.A z1.l.length z1.c) z1.l, allP CellX.Ok z1.l, okP CelsX.Ok z1, .blk b4 [.int .i64 e.kind, .int .i64 e.n, .int .i64 e.range, .string e.word, .slice e.ms.A e.ms.l.length e.ms.c, .slice e.by_.A e.by_.l.length e.by_.c, .slice e.kids.A e.kids.l.length e.kids.c] 27, slP 2 lineE (.slice lA l.length lc) l, allP LineX.Ok l, okP ExprX.Ok e]) (fun (k : Nat) => k ≤ z7.l.length) (fun (k : Nat) => z7.l.length - k) 0 (sc rfl (sc rfl (sc rfl (sc (ji (by omega)) sn)))) (fun _ h => h) ?_ (fun k hI1 => ?_)
 · exact Nat.zero_le _
 refine c_seq fun _ hK22 => ?_
 refine c_region ?_
 refine l_val wn (r_lss rfl rfl) rfl ?_
 refine l_nil (e_go hK22 ?_)
 refine c_seq fun _ hK23 => ?_
 refine c_cond rfl (fun h4 => ?_) (fun h4 => ?_)
 · refine c_skip (e_go hK23 ?_)
   refine c_seq fun _ hK24 => ?_
   refine c_block ?_
   refine c_seq fun _ hK25 => ?_
   refine c_region ?_
   refine l_val wn (r_move rfl) rfl ?_
   obtain ⟨ad1, hd1⟩ := hA4 (ne_nil (i := k) (by first | omega | decide | (simp only [List.length_cons, List.length_nil, List.length_append, List.length_take, List.length_set]; omega)))
   refine l_val wn (r_ia (i := k) rfl hd1 rfl (by omega) (by first | omega | decide | (simp only [List.length_cons, List.length_nil, List.length_append, List.length_take, List.length_set]; omega)) Try.underlying28 inf44) rfl ?_
   obtain ⟨s1, hs1⟩ : ∃ x, z7.l[k]? = some x := ⟨_, List.getElem?_eq_getElem (by first | omega | decide | (simp only [List.length_cons, List.length_nil, List.length_append, List.length_take, List.length_set]; omega))⟩
   obtain ⟨u9, hu9⟩ : ∃ x, z1.l[k]? = some x := ⟨_, List.getElem?_eq_getElem (by omega)⟩
   have hc9 : CellX.e s1 = ⟨u9.sr.l, 0⟩ := by have h := congrArg (·[k]?) hRA; rw [List.getElem?_map, List.getElem?_map, hs1, hu9] at h; simpa using h
   have hv9 : s1.value = 0 := congrArg Cell.value hc9
   have hs9 : s1.sr.l = u9.sr.l := congrArg Cell.sr hc9
   refine l_val wn (r_pln 5 [.slice s1.sr.A s1.sr.l.length s1.sr.c, .int .i64 s1.value] rfl rfl hd1 hs1 rfl rfl agg44 inf44) rfl ?_
   refine l_alloc wn inf44 rfl fun b19 => ?_
   refine l_val wn (r_assign rfl) rfl ?_
   refine l_stn 0 wn rfl rfl rfl inf44 rfl rfl rfl ?_
   refine l_nil (e_go hK25 ?_)
   refine c_seq fun _ hK26 => ?_
   refine c_quiet mix (by kernel_rfl) (fun _ h => h.drew) ?_
   refine q_val wn (r_fa rfl fld44_1) rfl ?_
   refine q_val wn (r_lb 0 rfl rfl rfl flat3) rfl ?_
   refine q_val wn (r_neq rfl rfl) rfl ?_
   refine q_val wn (r_move rfl) rfl ?_
   refine q_litf (t := 122) rfl (fun h => h (by assumption)) ?_
   refine q_val (wg rfl rfl rfl) (r_fa rfl fld44_0) rfl ?_
   refine q_val (wg rfl rfl rfl) (r_lb 0 rfl rfl rfl flat42) rfl ?_
   refine q_val (wg rfl rfl rfl) (r_move rfl) rfl ?_
   refine q_val (wg rfl rfl rfl) (r_move rfl) rfl ?_
   obtain ⟨ad2, hd2⟩ := hA1 (ne_nil (i := k) (by first | omega | decide | (simp only [List.length_cons, List.length_nil, List.length_append, List.length_take, List.length_set]; omega)))
   refine q_val (wg rfl rfl rfl) (r_ia (i := k) rfl hd2 rfl (by omega) (by first | omega | decide | (simp only [List.length_cons, List.length_nil, List.length_append, List.length_take, List.length_set]; omega)) Try.underlying28 inf44) rfl ?_
   refine q_val (wg rfl rfl rfl) (r_fe rfl fld44_0) rfl ?_
   obtain ⟨s2, hs2⟩ : ∃ x, z1.l[k]? = some x := ⟨_, List.getElem?_eq_getElem (by first | omega | decide | (simp only [List.length_cons, List.length_nil, List.length_append, List.length_take, List.length_set]; omega))⟩
   have hu8 : u9 = s2 := Option.some.inj (hu9.symm.trans hs2)
   refine q_val (wg rfl rfl rfl) (r_pl 19 rfl rfl hd2 hs2 rfl flat42) rfl ?_
   have hw12 := hw8.all _ (List.mem_of_getElem? hs1)
   refine q_opn (fun _ h => h.one 7 CellX.Ok.loc rfl hs1) (fun _ h => h.drop1) ?_
   refine q_opn (fun _ h => h.cellX 0 rfl) (fun _ h => h.drop1) ?_
   obtain ⟨hc6, hm6, hA6⟩ := hw12.sr
   have hw13 := hw1.all _ (List.mem_of_getElem? hs2)
   refine q_opn (fun _ h => h.one 22 CellX.Ok.loc rfl hs2) (fun _ h => h.drop1) ?_
   refine q_opn (fun _ h => h.cellX 0 rfl) (fun _ h => h.drop1) ?_
   obtain ⟨hc7, hm7, hA7⟩ := hw13.sr
   refine q_callF (wg rfl rfl rfl) rfl Try.call18 rfl (fun w1 hM => c_SameSeries _ s1.sr.l _ s2.sr.l w1 (hM.slp 2 rfl) (hM.slp 0 rfl)) ?_
   refine q_val (wg rfl rfl rfl) (r_not rfl) rfl ?_
   refine q_val wn (r_pick rfl rfl) rfl ?_
   refine q_end (e_go hK26 ?_)
   refine c_false rfl (decide_eq_false (fun h => h (by rw [← hu8]; exact hs9))) ?_
   refine c_skip (e_in_n (e_go hK24 ?_))
   refine c_region ?_
   refine l_val wn (r_addn rfl rfl (by omega)) rfl ?_
   refine l_val wn (r_move rfl) rfl ?_
   refine l_nil (e_round1 (k + 1) (sc rfl (sc rfl (sc rfl (sc (ji (by omega)) sn)))) (fun _ h => (h.sel [5, 6, 7, 8, 9, 10, 11, 12, 13, 14, 15, 16, 17, 18, 19, 20, 21, 22, 23, 24, 25, 26, 27, 28, 29] (by decide) rfl)) ?_ ?_)
   · omega
   omega
 refine c_exit (e_then_x (e_loop1_x (e_in_hit (e_go hK20 ?_))))
 refine c_seq fun _ hK27 => ?_
 refine c_region ?_
 refine l_val wn (r_assign rfl) rfl ?_
 refine l_nil (e_go hK27 ?_)
 refine c_ret (e_ret1 (.inl rfl) Try.results4 (rv_tmp rfl) fun w1 hM => ?_)
 exact ret_ok rfl hM

end Go.Proofs.Ytldecdningjkoaa
