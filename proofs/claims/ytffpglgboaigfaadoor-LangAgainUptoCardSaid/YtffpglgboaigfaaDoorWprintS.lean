/-
  Walks: what each function hands back.
-/
import Derived.Test.YtffpglgboaigfaaDoorWlangS
import Derived.Test.YtffpglgboaigfaaDoorTab
import Derived.Test.YtffpglgboaigfaaDoorShlf
namespace Go.Proofs.YtffpglgboaigfaaDoor
open Ex
set_option linter.unusedVariables false
set_option linter.unusedSimpArgs false
theorem c_idxX (lv : Value) (l : List ExprX) (f : Nat) (fcap : Array Value) (fp : ExprX → Bool) (P0 : Nat → Prop) (w : World) (hP0 : ∀ b, P0 b → b < w.heap.size) (hl : FlatSl P0 7 exprE lv l w) (hla : ∀ x ∈ l, ExprX.Ok P0 x w) (fc : ∀ vs w, (callFunc f vs).run Tryd.prog w = .ok (.enter f vs) w) (fh : ∀ x : ExprX, x ∈ l → ∀ w1 : World, Fr no w w1 → Calls Tryd.prog f (#[.agg (exprE x).toArray] ++ fcap) w1 (Ret w1 (.bool (fp x))))  :
    Calls Tryd.prog 48 #[lv, .func (.func f) #[] fcap] w (Ret w (iV (Sh.idx fp l))) := by
 have hwl : ∀ x ∈ l, ExprX.Wf x := fun x hx => (hla x hx).wf
 obtain ⟨lA, lc, rfl, hlc, hlm, hlA⟩ := hl.form
 refine fstart (N := 19) (vals := [.slice lA l.length lc, .func (.func f) #[] fcap]) (S := Mem w ⟨no, P0⟩ [slP 7 exprE (.slice lA l.length lc) l, allP ExprX.Ok l]) Tryd.func48 rfl rfl rfl (Mem.ofDatsP hP0 (dc (dlp hl) (dc (dp (all_loc ExprX.Ok.loc _) hla) dn))) ?_
 refine c_seq fun _ hK1 => ?_
 refine c_region ?_
 refine l_val wn (r_assign rfl) rfl ?_
 refine l_nil (e_go hK1 ?_)
 refine c_seq fun _ hK2 => ?_
 refine c_seq fun _ hK3 => ?_
 refine c_region ?_
 refine l_val wn (r_move rfl) rfl ?_
 refine l_val wn (r_len rfl Tryd.underlying24) rfl ?_
 refine l_val wn (r_move rfl) rfl ?_
 refine l_nil (e_go hK3 ?_)
 refine c_block ?_
 refine c_loop1 (fun (k : Nat) => [(0, .slice lA l.length lc), (1, .func (.func f) #[] fcap), (7, iV l.length), (8, iV k)]) (fun (k : Nat) => [slP 7 exprE (.slice lA l.length lc) l, allP ExprX.Ok l]) (fun (k : Nat) => k ≤ l.length ∧ ∀ y ∈ l.take k, fp y = false) (fun (k : Nat) => l.length - k) 0 (sc rfl (sc rfl (sc rfl (sc (ji (by omega)) sn)))) (fun _ h => h) ?_ (fun k hI1 => ?_)
 · simp
 refine c_seq fun _ hK4 => ?_
 refine c_region ?_
 refine l_val wn (r_lss rfl rfl) rfl ?_
 refine l_nil (e_go hK4 ?_)
 refine c_seq fun _ hK5 => ?_
 refine c_cond rfl (fun h1 => ?_) (fun h1 => ?_)
 · refine c_skip (e_go hK5 ?_)
   refine c_seq fun _ hK6 => ?_
   refine c_block ?_
   refine c_seq fun _ hK7 => ?_
   refine c_region ?_
   refine l_val wn (r_move rfl) rfl ?_
   refine l_val wn (r_assign rfl) rfl ?_
   refine l_nil (e_go hK7 ?_)
   refine c_seq fun _ hK8 => ?_
   refine c_region ?_
   refine l_val wn (r_move rfl) rfl ?_
   refine l_val wn (r_move rfl) rfl ?_
   refine l_val wn (r_move rfl) rfl ?_
   obtain ⟨ad1, hd1⟩ := hlA (ne_nil (i := k) (by first | omega | (simp <;> omega)))
   refine l_val wn (r_ia (i := k) rfl hd1 rfl (by omega) (by first | omega | (simp <;> omega)) Tryd.underlying24 inf26) rfl ?_
   obtain ⟨s1, hs1⟩ : ∃ x, l[k]? = some x := ⟨_, List.getElem?_eq_getElem (by first | omega | (simp <;> omega))⟩
   refine l_val wn (r_pln 0 [iV s1.kind, iV s1.n, iV s1.range, .string s1.word, .slice s1.ms.A s1.ms.l.length s1.ms.c, .slice s1.by_.A s1.by_.l.length s1.by_.c, .slice s1.kids.A s1.kids.l.length s1.kids.c] rfl rfl hd1 hs1 rfl rfl agg26 inf26) rfl ?_
   refine l_callR wn rfl rfl fc rfl (fun w1 hM => fh s1 (List.mem_of_getElem? hs1) w1 hM.fr) ?_
   refine l_nil (e_go hK8 ?_)
   refine c_condb rfl (fun h2 => ?_) (fun h2 => ?_)
   · refine c_seq fun _ hK9 => ?_
     refine c_region ?_
     refine l_val wn (r_move rfl) rfl ?_
     refine l_val wn (r_assign rfl) rfl ?_
     refine l_nil (e_go hK9 ?_)
     refine c_ret (e_in_r (e_then_r (e_loop1_r (e_in_r (e_then_r (e_ret1 (.inl rfl) Tryd.results48 (rv_tmp rfl) fun w1 hM => ?_))))))
     exact ret_ok (by rw [Sh.idx_at hI1.2 hs1 h2]) hM
   refine c_skip (e_in_n (e_go hK6 ?_))
   refine c_region ?_
   refine l_val wn (r_addn rfl rfl (by omega)) rfl ?_
   refine l_val wn (r_move rfl) rfl ?_
   refine l_nil (e_round1 (k + 1) (sc rfl (sc rfl (sc rfl (sc (ji (by omega)) sn)))) (fun _ h => h) ?_ ?_)
   · exact ⟨by omega, Sh.none_step hI1.2 hs1 h2⟩
   omega
 refine c_exit (e_then_x (e_loop1_x (e_in_hit (e_go hK2 ?_))))
 refine c_seq fun _ hK10 => ?_
 refine c_region ?_
 refine l_val wn (r_assign rfl) rfl ?_
 refine l_nil (e_go hK10 ?_)
 refine c_ret (e_ret1 (.inl rfl) Tryd.results48 (rv_tmp rfl) fun w1 hM => ?_)
 exact ret_ok (by rw [Sh.idx_none hI1.2 (by omega)]) hM

theorem c_contX (lv : Value) (l : List ExprX) (f : Nat) (fcap : Array Value) (fp : ExprX → Bool) (P0 : Nat → Prop) (w : World) (hP0 : ∀ b, P0 b → b < w.heap.size) (hl : FlatSl P0 7 exprE lv l w) (hla : ∀ x ∈ l, ExprX.Ok P0 x w) (fc : ∀ vs w, (callFunc f vs).run Tryd.prog w = .ok (.enter f vs) w) (fh : ∀ x : ExprX, x ∈ l → ∀ w1 : World, Fr no w w1 → Calls Tryd.prog f (#[.agg (exprE x).toArray] ++ fcap) w1 (Ret w1 (.bool (fp x))))  :
    Calls Tryd.prog 28 #[lv, .func (.func f) #[] fcap] w (Ret w (.bool (l.any fp))) := by
 have hwl : ∀ x ∈ l, ExprX.Wf x := fun x hx => (hla x hx).wf
 obtain ⟨lA, lc, rfl, hlc, hlm, hlA⟩ := hl.form
 refine fstart (N := 9) (vals := [.slice lA l.length lc, .func (.func f) #[] fcap]) (S := Mem w ⟨no, P0⟩ [slP 7 exprE (.slice lA l.length lc) l, allP ExprX.Ok l]) Tryd.func28 rfl rfl rfl (Mem.ofDatsP hP0 (dc (dlp hl) (dc (dp (all_loc ExprX.Ok.loc _) hla) dn))) ?_
 refine c_seq fun _ hK1 => ?_
 refine c_region ?_
 refine l_val wn (r_assign rfl) rfl ?_
 refine l_nil (e_go hK1 ?_)
 refine c_seq fun _ hK2 => ?_
 refine c_region ?_
 refine l_val wn (r_move rfl) rfl ?_
 refine l_val wn (r_move rfl) rfl ?_
 refine l_callF wn rfl Tryd.call48 rfl (fun w1 hM => c_idxX _ l f fcap fp (In w1) w1 (fun _ h => h) (hM.slp 0 rfl) (hM.pubAt (i := 1) rfl) fc (fun x hx w2 hf => fh x hx w2 (hM.fr.trans hf (fun _ _ h => h)))) ?_
 refine l_val wn (r_geq rfl rfl) rfl ?_
 refine l_val wn (r_assign rfl) rfl ?_
 refine l_nil (e_go hK2 ?_)
 refine c_ret (e_ret1 (.inl rfl) Tryd.results28 (rv_tmp rfl) fun w1 hM => ?_)
 exact ret_ok (congrArg Value.bool (by rw [Bool.eq_iff_iff, decide_eq_true_iff]; exact Sh.idx_any)) hM

def c_vector_C (e : ExprX) : Prop := ∀ (P0 : Nat → Prop) (w : World) (hP0 : ∀ b, P0 b → b < w.heap.size) (he : ExprX.Ok P0 e w) ,
    Calls Tryd.prog 11 #[.agg (exprE e).toArray] w (Ret w (.bool (Lg.vector e.e)))
theorem c_vector_step (e : ExprX) (ih : ∀ k : ExprX, SizeOf.sizeOf k < SizeOf.sizeOf e → c_vector_C k) : c_vector_C e := by
  intro P0 w hP0 he
  have hwe := he.wf
  refine fstart (N := 11) (vals := [.agg (exprE e).toArray]) (S := Mem w ⟨no, P0⟩ [okP ExprX.Ok e]) Tryd.func11 rfl rfl rfl (Mem.ofDatsP hP0 (dc (dp (ExprX.Ok.loc _) he) dn)) ?_
  refine c_seq fun K1 hK1 => ?_
  refine c_region ?_
  refine l_box wn rfl rfl fun b1 => ?_
  refine l_val wn (r_assign rfl) rfl ?_
  refine l_nil (e_go hK1 ?_)
  refine c_seq fun K2 hK2 => ?_
  refine c_seq fun K3 hK3 => ?_
  refine c_region ?_
  refine l_val wn (r_fa rfl fld26_0) rfl ?_
  refine l_val wn (r_lb 0 rfl rfl rfl flat3) rfl ?_
  refine l_nil (e_go hK3 ?_)
  refine c_block ?_
  refine c_cut [(1, .pointer (some ⟨b1, 0, none⟩)), (5, .bool (decide (((e.kind = 2) ∧ (e.kind = 2)) ∨ (¬ (e.kind = 2) ∧ (e.kind = 3)))))] (Mem w ⟨no, P0⟩ [.blk b1 [iV e.kind, iV e.n, iV e.range, .string e.word, .slice e.ms.A e.ms.l.length e.ms.c, .slice e.by_.A e.by_.l.length e.by_.c, .slice e.kids.A e.kids.l.length e.kids.c] 26, okP ExprX.Ok e]) (fun K4 hK4 => ?_) ?_
  ·
    refine c_seq fun K5 hK5 => ?_
    refine c_region ?_
    refine l_val wn (r_eql rfl rfl) rfl ?_
    refine l_val wn (r_assign rfl) rfl ?_
    refine l_nil (e_go hK5 ?_)
    refine c_cond rfl (fun h1 => ?_) (fun h1 => ?_)
    ·
      refine c_skip (e_cut hK4 (sc rfl (sc (jp (iff_ite_l h1 Iff.rfl)) sn)) (fun _ h => h))
    ·
      refine c_region ?_
      refine l_val wn (r_eql rfl rfl) rfl ?_
      refine l_val wn (r_assign rfl) rfl ?_
      refine l_nil (e_cut hK4 (sc rfl (sc (jp (iff_ite_r h1 Iff.rfl)) sn)) (fun _ h => h))
  ·
    refine c_cond rfl (fun h2 => ?_) (fun h2 => ?_)
    ·
      refine c_seq fun K6 hK6 => ?_
      refine c_region ?_
      refine l_val wn (r_assign rfl) rfl ?_
      refine l_nil (e_go hK6 ?_)
      refine c_ret (e_in_r (e_then_r (e_ret1 (.inl rfl) Tryd.results11 (rv_tmp rfl) fun w1 hM => ?_)))
      exact ret_ok (congrArg Value.bool (Lg.vector_yes (by have := h2; omega)).symm) hM
    ·
      refine c_skip (e_in_n (e_go hK2 ?_))
      refine c_seq fun K7 hK7 => ?_
      refine c_region ?_
      refine l_val wn (r_fa rfl fld26_6) rfl ?_
      refine l_val wn (r_lb 0 rfl rfl rfl flat24) rfl ?_
      refine l_opn (fun _ h => h.exprX 1 rfl) ?_
      obtain ⟨hc1, hm1, hA1⟩ := hwe.ms
      obtain ⟨hc2, hm2, hA2⟩ := hwe.by_
      obtain ⟨hc3, hm3, hA3⟩ := hwe.kids
      refine l_callF wn rfl Tryd.call28 rfl (fun w1 hM => c_contX _ e.kids.l 11 #[] (fun k => Lg.vector k.e) (In w1) w1 (fun _ h => h) (hM.slp 2 rfl) (hM.pubAt (i := 3) rfl) Tryd.call11 (fun k hk w2 hf => by simpa using ih k (ExprX.kid_lt hk) (In w2) w2 (fun _ h => h) (ExprX.Ok.loc k (In w1) (In w2) w1 w2 (fun b hb => Nat.lt_of_lt_of_le hb hf.size) (fun b hb => hf.block b hb id) (hM.pubAt (i := 3) rfl k hk)))) ?_
      refine l_val wn (r_assign rfl) rfl ?_
      refine l_nil (e_go hK7 ?_)
      refine c_ret (e_ret1 (.inl rfl) Tryd.results11 (rv_tmp rfl) fun w1 hM => ?_)
      exact ret_ok (congrArg Value.bool (Lg.vector_no (by have := h2; omega)).symm) hM
theorem c_vector (e : ExprX) : c_vector_C e := recX c_vector_step e

def c_typed_C (e : ExprX) : Prop := ∀ (P0 : Nat → Prop) (w : World) (hP0 : ∀ b, P0 b → b < w.heap.size) (he : ExprX.Ok P0 e w) ,
    Calls Tryd.prog 13 #[.agg (exprE e).toArray] w (Ret w (iV (Lg.typed e.e)))
theorem c_typed_step (e : ExprX) (ih : ∀ k : ExprX, SizeOf.sizeOf k < SizeOf.sizeOf e → c_typed_C k) : c_typed_C e := by
  intro P0 w hP0 he
  have hwe := he.wf
  refine fstart (N := 36) (vals := [.agg (exprE e).toArray]) (S := Mem w ⟨no, P0⟩ [okP ExprX.Ok e]) Tryd.func13 rfl rfl rfl (Mem.ofDatsP hP0 (dc (dp (ExprX.Ok.loc _) he) dn)) ?_
  refine c_seq fun K1 hK1 => ?_
  refine c_region ?_
  refine l_box wn rfl rfl fun b1 => ?_
  refine l_val wn (r_assign rfl) rfl ?_
  refine l_nil (e_go hK1 ?_)
  refine c_seq fun K2 hK2 => ?_
  refine c_cut [(1, .pointer (some ⟨b1, 0, none⟩)), (22, .bool (decide ((e.kind = 3) ∧ (((e.kids.l.length : Int) = 1) ∧ ((!(e.kids.l.any fun k => Lg.vector k.e)) = true)))))] (Mem w ⟨no, P0⟩ [.blk b1 [iV e.kind, iV e.n, iV e.range, .string e.word, .slice e.ms.A e.ms.l.length e.ms.c, .slice e.by_.A e.by_.l.length e.by_.c, .slice e.kids.A e.kids.l.length e.kids.c] 26, okP ExprX.Ok e]) (fun K3 hK3 => ?_) ?_
  ·
    refine c_region ?_
    refine l_val wn (r_fa rfl fld26_0) rfl ?_
    refine l_val wn (r_lb 0 rfl rfl rfl flat3) rfl ?_
    refine l_val wn (r_eql rfl rfl) rfl ?_
    refine l_val wn (r_move rfl) rfl ?_
    refine l_case (t := 9) rfl (fun h1 => ?_) (fun h1 => ?_)
    ·
      refine l_val (wg rfl rfl rfl) (r_fa rfl fld26_6) rfl ?_
      refine l_val (wg rfl rfl rfl) (r_lb 0 rfl rfl rfl flat24) rfl ?_
      refine l_val (wg rfl rfl rfl) (r_len rfl Tryd.underlying24) rfl ?_
      refine l_val (wg rfl rfl rfl) (r_eql rfl rfl) rfl ?_
      refine l_val wn (r_pick rfl rfl) rfl ?_
      refine l_val wn (r_move rfl) rfl ?_
      refine l_case (t := 15) rfl (fun h2 => ?_) (fun h2 => ?_)
      ·
        refine l_val (wg rfl rfl rfl) (r_fa rfl fld26_6) rfl ?_
        refine l_val (wg rfl rfl rfl) (r_lb 0 rfl rfl rfl flat24) rfl ?_
        refine l_opn (fun _ h => h.exprX 1 rfl) ?_
        obtain ⟨hc1, hm1, hA1⟩ := hwe.ms
        obtain ⟨hc2, hm2, hA2⟩ := hwe.by_
        obtain ⟨hc3, hm3, hA3⟩ := hwe.kids
        obtain ⟨ad1, hd1⟩ := hA3 (ne_nil (i := 0) (by first | omega | (simp <;> omega)))
        refine l_val (wg rfl rfl rfl) (r_ia (i := 0) rfl hd1 rfl (by omega) (by first | omega | (simp <;> omega)) Tryd.underlying24 inf26) rfl ?_
        obtain ⟨s1, hs1⟩ : ∃ x, e.kids.l[0]? = some x := ⟨_, List.getElem?_eq_getElem (by first | omega | (simp <;> omega))⟩
        refine l_val (wg rfl rfl rfl) (r_pln 2 [iV s1.kind, iV s1.n, iV s1.range, .string s1.word, .slice s1.ms.A s1.ms.l.length s1.ms.c, .slice s1.by_.A s1.by_.l.length s1.by_.c, .slice s1.kids.A s1.kids.l.length s1.kids.c] rfl rfl hd1 hs1 rfl rfl agg26 inf26) rfl ?_
        have hw1 := hwe.all _ (List.mem_of_getElem? hs1)
        refine l_opn (fun _ h => h.one 3 ExprX.Ok.loc rfl hs1) ?_
        refine l_callF (wg rfl rfl rfl) rfl Tryd.call11 rfl (fun w1 hM => c_vector s1 (In w1) w1 (fun _ h => h) (hM.pubAt (i := 0) rfl)) ?_
        refine l_val (wg rfl rfl rfl) (rv_b (show _ = (!(e.kids.l.any fun k => Lg.vector k.e)) from congrArg Bool.not (Lg.any_one (by omega) hs1).symm) (r_notb rfl)) rfl ?_
        refine l_val wn (r_pick rfl rfl) rfl ?_
        refine l_nil (e_cut hK3 (sc rfl (sc (jpb (iff_and_right h1 (iff_and_right h2 Iff.rfl))) sn)) (fun _ h => (h.sel [5, 6] (by decide) rfl)))
      ·
        refine l_skip (wg rfl rfl rfl) rfl ?_
        refine l_skip (wg rfl rfl rfl) rfl ?_
        refine l_skip (wg rfl rfl rfl) rfl ?_
        refine l_skip (wg rfl rfl rfl) rfl ?_
        refine l_skip (wg rfl rfl rfl) rfl ?_
        refine l_skip (wg rfl rfl rfl) rfl ?_
        refine l_val wn (r_pick rfl rfl) rfl ?_
        refine l_nil (e_cut hK3 (sc rfl (sc (jf (fun g => (fun g => h2 g.1) g.2)) sn)) (fun _ h => h))
    ·
      refine l_skip (wg rfl rfl rfl) rfl ?_
      refine l_skip (wg rfl rfl rfl) rfl ?_
      refine l_skip (wg rfl rfl rfl) rfl ?_
      refine l_skip (wg rfl rfl rfl) rfl ?_
      refine l_val wn (r_pick rfl rfl) rfl ?_
      refine l_val wn (r_move rfl) rfl ?_
      refine l_skip (wg rfl rfl rfl) rfl ?_
      refine l_skip (wg rfl rfl rfl) rfl ?_
      refine l_skip (wg rfl rfl rfl) rfl ?_
      refine l_skip (wg rfl rfl rfl) rfl ?_
      refine l_skip (wg rfl rfl rfl) rfl ?_
      refine l_skip (wg rfl rfl rfl) rfl ?_
      refine l_val wn (r_pick rfl rfl) rfl ?_
      refine l_nil (e_cut hK3 (sc rfl (sc (jf (fun g => h1 g.1)) sn)) (fun _ h => h))
  ·
    refine c_cond rfl (fun h3 => ?_) (fun h3 => ?_)
    ·
      refine c_seq fun K4 hK4 => ?_
      refine c_region ?_
      refine l_val wn (r_assign rfl) rfl ?_
      refine l_nil (e_go hK4 ?_)
      refine c_ret (e_then_r (e_ret1 (.inl rfl) Tryd.results13 (rv_tmp rfl) fun w1 hM => ?_))
      exact ret_ok (congrArg (Value.int .i64) (Lg.typed_8 h3).symm) hM
    ·
      refine c_skip (e_go hK2 ?_)
      refine c_seq fun K5 hK5 => ?_
      refine c_seq fun K6 hK6 => ?_
      refine c_region ?_
      refine l_val wn (r_fa rfl fld26_6) rfl ?_
      refine l_val wn (r_lb 0 rfl rfl rfl flat24) rfl ?_
      refine l_val wn (r_len rfl Tryd.underlying24) rfl ?_
      refine l_val wn (r_move rfl) rfl ?_
      refine l_nil (e_go hK6 ?_)
      refine c_block ?_
      refine c_loop1 (fun (k : Nat) => [(24, .slice e.kids.A e.kids.l.length e.kids.c), (25, iV e.kids.l.length), (26, iV k)]) (fun (k : Nat) => [.blk b1 [iV e.kind, iV e.n, iV e.range, .string e.word, .slice e.ms.A e.ms.l.length e.ms.c, .slice e.by_.A e.by_.l.length e.by_.c, .slice e.kids.A e.kids.l.length e.kids.c] 26, okP ExprX.Ok e]) (fun (k : Nat) => k ≤ e.kids.l.length ∧ Lg.typeds ((e.kids.l.take k).map ExprX.e) = 0) (fun (k : Nat) => e.kids.l.length - k) 0 (sc rfl (sc rfl (sc (ji (by omega)) sn))) (fun _ h => h) ?_ (fun k hI1 => ?_)
      · exact ⟨by omega, rfl⟩
      ·
        refine c_seq fun K7 hK7 => ?_
        refine c_region ?_
        refine l_val wn (r_lss rfl rfl) rfl ?_
        refine l_nil (e_go hK7 ?_)
        refine c_seq fun K8 hK8 => ?_
        refine c_cond rfl (fun h4 => ?_) (fun h4 => ?_)
        ·
          refine c_skip (e_go hK8 ?_)
          refine c_seq fun K9 hK9 => ?_
          refine c_block ?_
          refine c_seq fun K10 hK10 => ?_
          refine c_region ?_
          refine l_opn (fun _ h => h.exprX 1 rfl) ?_
          obtain ⟨hc4, hm4, hA4⟩ := hwe.ms
          obtain ⟨hc5, hm5, hA5⟩ := hwe.by_
          obtain ⟨hc6, hm6, hA6⟩ := hwe.kids
          obtain ⟨ad2, hd2⟩ := hA6 (ne_nil (i := k) (by first | omega | (simp <;> omega)))
          refine l_val wn (r_ia (i := k) rfl hd2 rfl (by omega) (by first | omega | (simp <;> omega)) Tryd.underlying24 inf26) rfl ?_
          obtain ⟨s2, hs2⟩ : ∃ x, e.kids.l[k]? = some x := ⟨_, List.getElem?_eq_getElem (by first | omega | (simp <;> omega))⟩
          refine l_val wn (r_pln 2 [iV s2.kind, iV s2.n, iV s2.range, .string s2.word, .slice s2.ms.A s2.ms.l.length s2.ms.c, .slice s2.by_.A s2.by_.l.length s2.by_.c, .slice s2.kids.A s2.kids.l.length s2.kids.c] rfl rfl hd2 hs2 rfl rfl agg26 inf26) rfl ?_
          refine l_alloc wn inf26 rfl fun b4 => ?_
          refine l_stn 0 wn rfl rfl rfl inf26 rfl rfl rfl ?_
          refine l_nil (e_go hK10 ?_)
          refine c_seq fun K11 hK11 => ?_
          refine c_region ?_
          refine l_val wn (r_lbn 0 [iV s2.kind, iV s2.n, iV s2.range, .string s2.word, .slice s2.ms.A s2.ms.l.length s2.ms.c, .slice s2.by_.A s2.by_.l.length s2.by_.c, .slice s2.kids.A s2.kids.l.length s2.kids.c] rfl rfl rfl rfl agg26 inf26) rfl ?_
          have hw2 := hwe.all _ (List.mem_of_getElem? hs2)
          refine l_opn (fun _ h => h.one 4 ExprX.Ok.loc rfl hs2) ?_
          refine l_callF wn rfl Tryd.call13 rfl (fun w1 hM => ih s2 (ExprX.kid_lt (List.mem_of_getElem? hs2)) (In w1) w1 (fun _ h => h) (hM.pubAt (i := 0) rfl)) ?_
          refine l_val wn (r_assign rfl) rfl ?_
          refine l_nil (e_go hK11 ?_)
          refine c_seq fun K12 hK12 => ?_
          refine c_region ?_
          refine l_val wn (r_move rfl) rfl ?_
          refine l_val wn (r_neq rfl rfl) rfl ?_
          refine l_nil (e_go hK12 ?_)
          refine c_cond rfl (fun h5 => ?_) (fun h5 => ?_)
          ·
            refine c_seq fun K13 hK13 => ?_
            refine c_region ?_
            refine l_val wn (r_move rfl) rfl ?_
            refine l_val wn (r_assign rfl) rfl ?_
            refine l_nil (e_go hK13 ?_)
            refine c_ret (e_in_r (e_then_r (e_loop1_r (e_in_r (e_then_r (e_ret1 (.inl rfl) Tryd.results13 (rv_tmp rfl) fun w1 hM => ?_))))))
            exact ret_ok (congrArg (Value.int .i64) (((Lg.typed_rest h3).trans ((Lg.typeds_next hI1.2 hs2).2 h5)).symm)) hM
          ·
            refine c_skip (e_in_n (e_go hK9 ?_))
            refine c_region ?_
            refine l_val wn (r_addn rfl rfl (by omega)) rfl ?_
            refine l_val wn (r_move rfl) rfl ?_
            refine l_nil (e_round1 (k + 1) (sc rfl (sc rfl (sc (ji (by omega)) sn))) (fun _ h => (h.sel [6, 7] (by decide) rfl)) ?_ ?_)
            · exact ⟨by omega, (Lg.typeds_next hI1.2 hs2).1.trans (Classical.not_not.1 h5)⟩
            · omega
        ·
          refine c_exit (e_then_x (e_loop1_x (e_in_hit (e_go hK5 ?_))))
          refine c_seq fun K14 hK14 => ?_
          refine c_region ?_
          refine l_val wn (r_assign rfl) rfl ?_
          refine l_nil (e_go hK14 ?_)
          refine c_ret (e_ret1 (.inl rfl) Tryd.results13 (rv_tmp rfl) fun w1 hM => ?_)
          exact ret_ok (congrArg (Value.int .i64) (((Lg.typed_rest h3).trans (by rw [← hI1.2, List.take_of_length_le (by omega)])).symm)) hM
theorem c_typed (e : ExprX) : c_typed_C e := recX c_typed_step e

theorem c_langWrong (e : ExprX) (P0 : Nat → Prop) (w : World) (hP0 : ∀ b, P0 b → b < w.heap.size) (he : ExprX.Ok P0 e w)  :
    Calls Tryd.prog 9 #[.agg (exprE e).toArray] w (Ret w (iV (Lg.wrong e.e))) := by
 have hwe := he.wf
 refine fstart (N := 6) (vals := [.agg (exprE e).toArray]) (S := Mem w ⟨no, P0⟩ [okP ExprX.Ok e]) Tryd.func9 rfl rfl rfl (Mem.ofDatsP hP0 (dc (dp (ExprX.Ok.loc _) he) dn)) ?_
 refine c_seq fun _ hK1 => ?_
 refine c_region ?_
 refine l_box wn rfl rfl fun b1 => ?_
 refine l_val wn (r_assign rfl) rfl ?_
 refine l_nil (e_go hK1 ?_)
 refine c_seq fun _ hK2 => ?_
 refine c_region ?_
 refine l_val wn (r_build [iV 0] pl55 inf55 rfl rfl) rfl ?_
 refine l_box wn rfl rfl fun b4 => ?_
 refine l_sealB 1 rfl rfl ?_
 refine l_callM 0 (v := iV ((Lg.shape e.e 1 0).1)) (cs' := [iV ((Lg.shape e.e 1 0).2)]) wn rfl rfl Tryd.call26 rfl (fun w1 Pb hM pp => c_shape e b4 0 ⟨b1, 0, none⟩ 1 Pb w1 (hM.blk (i := 0) rfl) (pp.sub' (i := 0) rfl) (pp.at_ 1 _ rfl) (pp.at_ 2 _ rfl) (by omega) (by omega) (by omega)) ?_
 refine l_val wn (r_assign rfl) rfl ?_
 refine l_nil (e_go hK2 ?_)
 refine c_ret (e_ret1 (.inl rfl) Tryd.results9 (rv_tmp rfl) fun w1 hM => ?_)
 exact ret_ok rfl hM

theorem c_cc0 (b : Nat) (v : Value) (Pb : Nat → Prop) (w : World) (hG : Mem w ⟨fpOf [.blk b [.pointer none, v] 47], Pb⟩ [.blk b [.pointer none, v] 47] w)  :
    Calls Tryd.prog 55 #[.pointer (some ⟨b, 0, none⟩)] w (RetA w [.blk b [.pointer none, v] 47] Pb (fun _ : Unit => .tuple #[]) (fun _ => True) (fun _ => [.blk b [.pointer (some ⟨b, 0, none⟩), v] 47])) := by
 refine fstart (N := 20) (vals := [.pointer (some ⟨b, 0, none⟩)]) (S := Mem w ⟨fpOf [.blk b [.pointer none, v] 47], Pb⟩ [.blk b [.pointer none, v] 47]) Tryd.func55 rfl rfl rfl hG ?_
 refine c_seq fun _ hK1 => ?_
 refine c_region ?_
 refine l_val wn (r_move rfl) rfl ?_
 refine l_val wn (r_nilCheck rfl) rfl ?_
 refine l_val wn (r_fa rfl fld45_0) rfl ?_
 refine l_val wn (r_lb 0 rfl rfl rfl flat42) rfl ?_
 refine l_val wn (r_pnil_t rfl rfl Tryd.underlying42) rfl ?_
 refine l_nil (e_go hK1 ?_)
 refine c_true rfl rfl ?_
 refine c_region ?_
 refine l_val wn (r_move rfl) rfl ?_
 refine l_val wn (r_move rfl) rfl ?_
 refine l_val wn (r_toUns 0 rfl rfl Tryd.underlying42 Tryd.underlying100 inf45 rfl rfl) rfl ?_
 refine l_val wn (r_ext1 rfl rfl (run_callFunc_extern Tryd.func70 (by kernel_rfl) (by kernel_rfl) (by kernel_rfl) (e := Extern.AbiNoEscape.same) (by kernel_rfl)) fun _ => rfl) rfl ?_
 refine l_val wn (r_fromUns 0 rfl rfl Tryd.underlying100 Tryd.underlying42 inf45 (by kernel_rfl)) rfl ?_
 refine l_val wn (r_nilCheck rfl) rfl ?_
 refine l_val wn (r_fa rfl fld45_0) rfl ?_
 refine l_st1 0 wn rfl rfl rfl rfl inf42 rfl rfl ?_
 refine l_nil (e_ret0 (.inr rfl) Tryd.results55  fun w1 hM => ?_)
 exact hM.retA () rfl trivial (fun h => h.sel [0] (by decide) rfl)

theorem c_cc1 (b : Nat) (v : Value) (Pb : Nat → Prop) (w : World) (hG : Mem w ⟨fpOf [.blk b [.pointer (some ⟨b, 0, none⟩), v] 47], Pb⟩ [.blk b [.pointer (some ⟨b, 0, none⟩), v] 47] w)  :
    Calls Tryd.prog 55 #[.pointer (some ⟨b, 0, none⟩)] w (RetA w [.blk b [.pointer (some ⟨b, 0, none⟩), v] 47] Pb (fun _ : Unit => .tuple #[]) (fun _ => True) (fun _ => [.blk b [.pointer (some ⟨b, 0, none⟩), v] 47])) := by
 refine fstart (N := 20) (vals := [.pointer (some ⟨b, 0, none⟩)]) (S := Mem w ⟨fpOf [.blk b [.pointer (some ⟨b, 0, none⟩), v] 47], Pb⟩ [.blk b [.pointer (some ⟨b, 0, none⟩), v] 47]) Tryd.func55 rfl rfl rfl hG ?_
 refine c_seq fun _ hK1 => ?_
 refine c_region ?_
 refine l_val wn (r_move rfl) rfl ?_
 refine l_val wn (r_nilCheck rfl) rfl ?_
 refine l_val wn (r_fa rfl fld45_0) rfl ?_
 refine l_val wn (r_lb 0 rfl rfl rfl flat42) rfl ?_
 refine l_val wn (r_pnil_f rfl rfl Tryd.underlying42) rfl ?_
 refine l_nil (e_go hK1 ?_)
 refine c_false rfl rfl ?_
 refine c_seq fun _ hK2 => ?_
 refine c_region ?_
 refine l_val wn (r_move rfl) rfl ?_
 refine l_val wn (r_nilCheck rfl) rfl ?_
 refine l_val wn (r_fa rfl fld45_0) rfl ?_
 refine l_val wn (r_lb 0 rfl rfl rfl flat42) rfl ?_
 refine l_val wn (r_move rfl) rfl ?_
 refine l_val wn (r_pself rfl rfl Tryd.underlying42 inf45) rfl ?_
 refine l_nil (e_go hK2 ?_)
 refine c_false rfl rfl ?_
 refine c_skip (e_ret0 (.inr rfl) Tryd.results55  fun w1 hM => ?_)
 exact hM.retA () rfl trivial (fun h => h.sel [0] (by decide) rfl)

theorem c_cc (b : Nat) (p v : Value) (Pb : Nat → Prop) (w : World) (hG : Mem w ⟨fpOf [.blk b [p, v] 47], Pb⟩ [.blk b [p, v] 47] w) (hp : p = .pointer none ∨ p = .pointer (some ⟨b, 0, none⟩)) : Calls Tryd.prog 55 #[.pointer (some ⟨b, 0, none⟩)] w (RetA w [.blk b [p, v] 47] Pb (fun _ : Unit => .tuple #[]) (fun _ => True) (fun _ => [.blk b [.pointer (some ⟨b, 0, none⟩), v] 47])) := by
 rcases hp with rfl | rfl
 · exact c_cc0 b v Pb w hG
 exact c_cc1 b v Pb w hG

theorem c_wb (b : Nat) (p : Value) (v : Value) (bs : List UInt8) (c : UInt8) (cv : Int) (Pb : Nat → Prop) (w : World) (hG : Mem w ⟨fpOf [.blk b [p, v] 47, Row v 5 1 byteE bs], Pb⟩ [.blk b [p, v] 47, Row v 5 1 byteE bs] w) (hp : p = .pointer none ∨ p = .pointer (some ⟨b, 0, none⟩)) (hc : cv = (c.toNat : Int)) (hbl : bs.length ≤ 1000000000) :
    Calls Tryd.prog 38 #[.pointer (some ⟨b, 0, none⟩), .int .u8 cv] w (RetA w [.blk b [p, v] 47, Row v 5 1 byteE bs] Pb (fun _ : Value => .nilIface) (fun _ => True) (fun z => [.blk b [.pointer (some ⟨b, 0, none⟩), z] 47, Row z 5 1 byteE (bs ++ [c])])) := by
 subst hc
 obtain ⟨rA, rc, rfl, hrc, hrm, hrA⟩ := row_form' (hG.row (i := 1) rfl)
 refine fstart (N := 17) (vals := [.pointer (some ⟨b, 0, none⟩), .int .u8 (c.toNat : Int)]) (S := Mem w ⟨fpOf [.blk b [p, .slice rA bs.length rc] 47, Row (.slice rA bs.length rc) 5 1 byteE bs], Pb⟩ [.blk b [p, .slice rA bs.length rc] 47, Row (.slice rA bs.length rc) 5 1 byteE bs]) Tryd.func38 rfl rfl rfl hG ?_
 refine c_seq fun _ hK1 => ?_
 refine c_region ?_
 refine l_val wn (r_assign rfl) rfl ?_
 refine l_nil (e_go hK1 ?_)
 refine c_seq fun _ hK2 => ?_
 refine c_region ?_
 refine l_val wn (r_move rfl) rfl ?_
 refine l_give (α := Unit) [.blk b [p, .slice rA bs.length rc] 47] [Row (.slice rA bs.length rc) 5 1 byteE bs] (fun _ => .tuple #[]) (fun z1 => True) (fun z1 => [.blk b [.pointer (some ⟨b, 0, none⟩), .slice rA bs.length rc] 47]) (fun z1 => [.blk b [.pointer (some ⟨b, 0, none⟩), .slice rA bs.length rc] 47, Row (.slice rA bs.length rc) 5 1 byteE bs]) (fun _ => rfl) (fun _ h => h.sel [0, 1] (by decide) rfl) (fun _ => rfl) wn rfl rfl Tryd.call55 rfl (fun w1 Pb hG => c_cc b p (.slice rA bs.length rc) Pb w1 hG hp) fun z1 hz1 => ?_
 refine l_nil (e_go hK2 ?_)
 refine c_seq fun _ hK3 => ?_
 refine c_region ?_
 refine l_val wn (r_move rfl) rfl ?_
 refine l_val wn (r_move rfl) rfl ?_
 refine l_val wn (r_nilCheck rfl) rfl ?_
 refine l_val wn (r_fa rfl fld45_1) rfl ?_
 refine l_val wn (r_lb 0 rfl rfl rfl flat43) rfl ?_
 refine l_val wn (r_move rfl) rfl ?_
 refine l_bsL byteE ([c] : List UInt8) wn Tryd.underlying43 inf5 rfl rfl rfl rfl (by decide) (by decide) rfl fun b13 => ?_
 refine l_app 2 bs ([c] : List UInt8) encByte wn rfl rfl rfl (fun _ hM => (RowSl encByte hM 0 rfl)) Tryd.underlying43 inf5 rfl rfl (by simp only [List.length_cons, List.length_nil]; omega) rfl fun A1 cp1 hc1 hm1 hA1 => ?_
 refine l_val wn (r_nilCheck rfl) rfl ?_
 refine l_val wn (r_fa rfl fld45_1) rfl ?_
 refine l_st1 1 wn rfl rfl rfl rfl inf43 rfl rfl ?_
 refine l_nil (e_go hK3 ?_)
 refine c_seq fun _ hK4 => ?_
 refine c_region ?_
 refine l_val wn (r_assign rfl) rfl ?_
 refine l_nil (e_go hK4 ?_)
 refine c_ret (e_ret1 (.inl rfl) Tryd.results38 (rv_tmp rfl) fun w1 hM => ?_)
 exact hM.retA (.slice A1 ((bs ++ ([c] : List UInt8)).length) cp1) rfl trivial (fun h => h.sel [1, 2] (by decide) rfl)

theorem c_ws (b : Nat) (p : Value) (v : Value) (bs : List UInt8) (s : ByteArray) (t : List UInt8) (Pb : Nat → Prop) (w : World) (hG : Mem w ⟨fpOf [.blk b [p, v] 47, Row v 5 1 byteE bs], Pb⟩ [.blk b [p, v] 47, Row v 5 1 byteE bs] w) (hp : p = .pointer none ∨ p = .pointer (some ⟨b, 0, none⟩)) (ht : s.data.toList = t) (hbl : bs.length + t.length ≤ 1000000000) :
    Calls Tryd.prog 39 #[.pointer (some ⟨b, 0, none⟩), .string s] w (RetA w [.blk b [p, v] 47, Row v 5 1 byteE bs] Pb (fun _ : Value => .tuple #[iV s.size, .nilIface]) (fun _ => True) (fun z => [.blk b [.pointer (some ⟨b, 0, none⟩), z] 47, Row z 5 1 byteE (bs ++ t)])) := by
 obtain ⟨rA, rc, rfl, hrc, hrm, hrA⟩ := row_form' (hG.row (i := 1) rfl)
 have hsz : s.size = t.length := by rw [bl_size, ht]
 refine fstart (N := 19) (vals := [.pointer (some ⟨b, 0, none⟩), .string s]) (S := Mem w ⟨fpOf [.blk b [p, .slice rA bs.length rc] 47, Row (.slice rA bs.length rc) 5 1 byteE bs], Pb⟩ [.blk b [p, .slice rA bs.length rc] 47, Row (.slice rA bs.length rc) 5 1 byteE bs]) Tryd.func39 rfl rfl rfl hG ?_
 refine c_seq fun _ hK1 => ?_
 refine c_region ?_
 refine l_val wn (r_assign rfl) rfl ?_
 refine l_val wn (r_assign rfl) rfl ?_
 refine l_nil (e_go hK1 ?_)
 refine c_seq fun _ hK2 => ?_
 refine c_region ?_
 refine l_val wn (r_move rfl) rfl ?_
 refine l_give (α := Unit) [.blk b [p, .slice rA bs.length rc] 47] [Row (.slice rA bs.length rc) 5 1 byteE bs] (fun _ => .tuple #[]) (fun z1 => True) (fun z1 => [.blk b [.pointer (some ⟨b, 0, none⟩), .slice rA bs.length rc] 47]) (fun z1 => [.blk b [.pointer (some ⟨b, 0, none⟩), .slice rA bs.length rc] 47, Row (.slice rA bs.length rc) 5 1 byteE bs]) (fun _ => rfl) (fun _ h => h.sel [0, 1] (by decide) rfl) (fun _ => rfl) wn rfl rfl Tryd.call55 rfl (fun w1 Pb hG => c_cc b p (.slice rA bs.length rc) Pb w1 hG hp) fun z1 hz1 => ?_
 refine l_nil (e_go hK2 ?_)
 refine c_seq fun _ hK3 => ?_
 refine c_region ?_
 refine l_val wn (r_move rfl) rfl ?_
 refine l_val wn (r_move rfl) rfl ?_
 refine l_val wn (r_nilCheck rfl) rfl ?_
 refine l_val wn (r_fa rfl fld45_1) rfl ?_
 refine l_val wn (r_lb 0 rfl rfl rfl flat43) rfl ?_
 refine l_val wn (r_move rfl) rfl ?_
 refine l_appS 1 bs s wn rfl rfl rfl Tryd.underlying43 Tryd.underlying9 inf5 rfl rfl (by omega) rfl fun A1 cp1 hc1 hm1 hA1 => ?_
 refine l_val wn (r_nilCheck rfl) rfl ?_
 refine l_val wn (r_fa rfl fld45_1) rfl ?_
 refine l_st1 0 wn rfl rfl rfl rfl inf43 rfl rfl ?_
 refine l_nil (e_go hK3 ?_)
 refine c_seq fun _ hK4 => ?_
 refine c_region ?_
 refine l_val wn (r_move rfl) rfl ?_
 refine l_val wn (r_slen rfl Tryd.underlying9) rfl ?_
 refine l_val wn (r_assign rfl) rfl ?_
 refine l_val wn (r_assign rfl) rfl ?_
 refine l_nil (e_go hK4 ?_)
 refine c_ret (e_ret2 (.inl rfl) Tryd.results39 (rv_tmp rfl) (rv_tmp rfl) fun w1 hM => ?_)
 have hl9 : (bs ++ s.data.toList) = (bs ++ t) := by rw [ht]
 rw [hl9] at hM
 exact hM.retA (.slice A1 ((bs ++ t).length) cp1) rfl trivial (fun h => h.sel [0, 1] (by decide) rfl)

theorem c_blen (b : Nat) (p : Value) (v : Value) (bs : List UInt8) (Pb : Nat → Prop) (w : World) (hG : Mem w ⟨fpOf [.blk b [p, v] 47, Row v 5 1 byteE bs], Pb⟩ [.blk b [p, v] 47, Row v 5 1 byteE bs] w)  :
    Calls Tryd.prog 23 #[.pointer (some ⟨b, 0, none⟩)] w (RetA w [.blk b [p, v] 47, Row v 5 1 byteE bs] Pb (fun _ : Unit => iV bs.length) (fun _ => True) (fun _ => [.blk b [p, v] 47, Row v 5 1 byteE bs])) := by
 obtain ⟨rA, rc, rfl, hrc, hrm, hrA⟩ := row_form' (hG.row (i := 1) rfl)
 refine fstart (N := 8) (vals := [.pointer (some ⟨b, 0, none⟩)]) (S := Mem w ⟨fpOf [.blk b [p, .slice rA bs.length rc] 47, Row (.slice rA bs.length rc) 5 1 byteE bs], Pb⟩ [.blk b [p, .slice rA bs.length rc] 47, Row (.slice rA bs.length rc) 5 1 byteE bs]) Tryd.func23 rfl rfl rfl hG ?_
 refine c_seq fun _ hK1 => ?_
 refine c_region ?_
 refine l_val wn (r_assign rfl) rfl ?_
 refine l_nil (e_go hK1 ?_)
 refine c_seq fun _ hK2 => ?_
 refine c_region ?_
 refine l_val wn (r_move rfl) rfl ?_
 refine l_val wn (r_nilCheck rfl) rfl ?_
 refine l_val wn (r_fa rfl fld45_1) rfl ?_
 refine l_val wn (r_lb 0 rfl rfl rfl flat43) rfl ?_
 refine l_val wn (r_len rfl Tryd.underlying43) rfl ?_
 refine l_val wn (r_assign rfl) rfl ?_
 refine l_nil (e_go hK2 ?_)
 refine c_ret (e_ret1 (.inl rfl) Tryd.results23 (rv_tmp rfl) fun w1 hM => ?_)
 exact hM.retA () rfl trivial (fun h => h)

theorem c_bstr (b : Nat) (p : Value) (v : Value) (bs : List UInt8) (Pb : Nat → Prop) (w : World) (hG : Mem w ⟨fpOf [.blk b [p, v] 47, Row v 5 1 byteE bs], Pb⟩ [.blk b [p, v] 47, Row v 5 1 byteE bs] w) (hne : bs ≠ []) :
    Calls Tryd.prog 24 #[.pointer (some ⟨b, 0, none⟩)] w (RetA w [.blk b [p, v] 47, Row v 5 1 byteE bs] Pb (fun _ : Unit => .string ⟨bs.toArray⟩) (fun _ => True) (fun _ => [.blk b [p, v] 47])) := by
 obtain ⟨rA, rc, rfl, hrc, hrm, hrA⟩ := row_form' (hG.row (i := 1) rfl)
 have hcap : rc ≠ 0 := fun h => hne (List.eq_nil_of_length_eq_zero (by omega))
 refine fstart (N := 14) (vals := [.pointer (some ⟨b, 0, none⟩)]) (S := Mem w ⟨fpOf [.blk b [p, .slice rA bs.length rc] 47, Row (.slice rA bs.length rc) 5 1 byteE bs], Pb⟩ [.blk b [p, .slice rA bs.length rc] 47, Row (.slice rA bs.length rc) 5 1 byteE bs]) Tryd.func24 rfl rfl rfl hG ?_
 refine c_seq fun _ hK1 => ?_
 refine c_region ?_
 refine l_val wn (r_assign rfl) rfl ?_
 refine l_nil (e_go hK1 ?_)
 refine c_seq fun _ hK2 => ?_
 refine c_nodes (Mem w ⟨fpOf [.blk b [p, .slice rA bs.length rc] 47, Row (.slice rA bs.length rc) 5 1 byteE bs], Pb⟩ [.blk b [p, .slice rA bs.length rc] 47]) mix (fun _ h => h.drew) rfl ?_
 refine n_run (f := 3) [0, 1, 2, 3, 5, 6, 7, 8, 9] rfl rfl (by kernel_rfl) (by kernel_rfl) (fun _ h => (h.sel [0] (by decide) rfl)) fun KS hKS => ?_
 refine s_val wn (r_move rfl) rfl ?_
 refine s_val wn (r_nilCheck rfl) rfl ?_
 refine s_val wn (r_fa rfl fld45_1) rfl ?_
 refine s_val wn (r_lb 0 rfl rfl rfl flat43) rfl ?_
 refine s_val wn (r_move rfl) rfl ?_
 refine s_val wn (r_nilCheck rfl) rfl ?_
 refine s_val wn (r_fa rfl fld45_1) rfl ?_
 refine s_val wn (r_lb 0 rfl rfl rfl flat43) rfl ?_
 refine s_val wn (r_len rfl Tryd.underlying43) rfl ?_
 refine s_end hKS ?_
 refine n_step1 (f := 2) (i := 4) rfl (by kernel_rfl) ?_
 refine n_one (i := 4) rfl fun KN hKN => ?_
 refine l_val wn (r_sliceData rfl (by exact hcap)) rfl ?_
 refine l_nil (hKN _ _ (fun _ h => (h.sel [0] (by decide) rfl)) ?_)
 refine n_step1 (f := 1) (i := 10) rfl (by kernel_rfl) ?_
 refine n_one (i := 10) rfl fun KN hKN => ?_
 refine l_usString 1 bs wn rfl rfl rfl (by exact hne) Tryd.underlying84 (by kernel_rfl) rfl ?_
 refine l_nil (hKN _ _ (fun _ h => (h.sel [0] (by decide) rfl)) ?_)
 refine n_run (f := 0) [11] rfl rfl (by kernel_rfl) (by kernel_rfl) (fun _ h => (h.sel [0] (by decide) rfl)) fun KS hKS => ?_
 refine s_val wn (r_assign rfl) rfl ?_
 refine s_end hKS ?_
 refine n_done (by kernel_rfl) (e_go hK2 ?_)
 refine c_ret (e_ret1 (.inl rfl) Tryd.results24 (rv_tmp rfl) fun w1 hM => ?_)
 exact hM.retA () rfl trivial (fun h => h.sel [0] (by decide) rfl)

/-- the table of powers of ten, as the program's start lays it -/
def Tab : (Nat → Prop) → World → Prop := TabOk Tryd.prog "internal/strconv.uint64pow10" .u64 Go.Lib.pow10Tab
theorem Tab.loc : Ex.Loc Tab := TabOk.loc _ _ _ _
theorem c_itoa (n : Int) (P0 : Nat → Prop) (w : World) (hP0 : ∀ b, P0 b → b < w.heap.size) (hn : -9223372036854775808 ≤ n ∧ n ≤ 9223372036854775807) (hT : Tab P0 w) : Calls Tryd.prog 40 #[iV n] w (Ret w (.string ⟨(Lg.nb n).toArray⟩)) :=
  (Tryd.strconv_Itoa n hn.1 hn.2 w hT.2).mono fun e w' ⟨he, k, os, hw⟩ => ⟨he, by rw [hw]; exact Fr.of_grow k os⟩
theorem c_join (lv : Value) (l : List ByteArray) (sep : ByteArray) (P0 : Nat → Prop) (w : World) (hP0 : ∀ b, P0 b → b < w.heap.size) (hl : FlatSl P0 1 strE lv l w) (hne : l ≠ []) (hn : l.length ≤ 1000000) (hlen : (Go.Lib.join (l.map (·.data.toList)) sep.data.toList).length ≤ 1000000) :
    Calls Tryd.prog 42 #[lv, .string sep] w (Ret w (.string ⟨(Go.Lib.join (l.map (·.data.toList)) sep.data.toList).toArray⟩)) := by
 obtain ⟨bk, o, c, rfl, h1, h2, h3⟩ := strs_at hl hne
 exact (Tryd.strings_Join bk o c l sep w h3 (hP0 _ h2) (by omega) h1 (by omega)).mono fun e w' ⟨he, hw⟩ => ⟨he, Fr.of_below hw⟩

set_option maxHeartbeats 1000000 in
theorem c_match (b : Nat) (p : Value) (v : Value) (bs : List UInt8) (mad : Addr) (m : Match) (Pb : Nat → Prop) (w : World) (hG : Mem w ⟨fpOf [.blk b [p, v] 47, Row v 5 1 byteE bs, celP mad [iV m.kind, .string m.key, .string m.val]], Pb⟩ [.blk b [p, v] 47, Row v 5 1 byteE bs, celP mad [iV m.kind, .string m.key, .string m.val]] w) (hp : p = .pointer none ∨ p = .pointer (some ⟨b, 0, none⟩)) (hmr : Lg.MatchR m) (hbl : bs.length ≤ 1001000) :
    Calls Tryd.prog 41 #[.pointer (some ⟨b, 0, none⟩), .pointer (some ((Addr.add mad 0).add 0))] w (RetA w [.blk b [p, v] 47, Row v 5 1 byteE bs, celP mad [iV m.kind, .string m.key, .string m.val]] Pb (fun _ : Value => .tuple #[]) (fun _ => True) (fun z => [.blk b [.pointer (some ⟨b, 0, none⟩), z] 47, Row z 5 1 byteE (bs ++ Lg.mt m), celP mad [iV m.kind, .string m.key, .string m.val]])) := by
 obtain ⟨rA, rc, rfl, hrc, hrm, hrA⟩ := row_form' (hG.row (i := 1) rfl)
 have hkey := hmr.key
 have hval := hmr.val
 rw [bl_size] at hkey hval
 refine fstart (N := 59) (vals := [.pointer (some ⟨b, 0, none⟩), .pointer (some ((Addr.add mad 0).add 0))]) (S := Mem w ⟨fpOf [.blk b [p, .slice rA bs.length rc] 47, Row (.slice rA bs.length rc) 5 1 byteE bs, celP mad [iV m.kind, .string m.key, .string m.val]], Pb⟩ [.blk b [p, .slice rA bs.length rc] 47, Row (.slice rA bs.length rc) 5 1 byteE bs, celP mad [iV m.kind, .string m.key, .string m.val]]) Tryd.func41 rfl rfl rfl hG ?_
 refine c_seq fun _ hK1 => ?_
 refine c_region ?_
 refine l_val wn (r_move rfl) rfl ?_
 refine l_val wn (r_nilCheck rfl) rfl ?_
 refine l_val wn (r_fe rfl fld74_0) rfl ?_
 refine l_val wn (r_cel 2 rfl rfl rfl flat3) rfl ?_
 refine l_nil (e_go hK1 ?_)
 refine c_block ?_
 refine c_seq fun _ hK2 => ?_
 refine c_region ?_
 refine l_val wn (r_eql rfl rfl) rfl ?_
 refine l_val wn (r_assign rfl) rfl ?_
 refine l_nil (e_go hK2 ?_)
 refine c_cond rfl (fun h1 => ?_) (fun h1 => ?_)
 · refine c_quietT 13 mix (by kernel_rfl) (fun _ h => h.drew) fun _ hT1 => ?_
   refine q_val wn (r_move rfl) rfl ?_
   refine q_val wn (r_nilCheck rfl) rfl ?_
   refine q_val wn (r_fa rfl fld47_0) rfl ?_
   refine q_val wn (r_move rfl) rfl ?_
   refine q_val wn (r_nilCheck rfl) rfl ?_
   refine q_val wn (r_fe rfl fld74_1) rfl ?_
   refine q_val wn (r_cel 2 rfl rfl rfl flat9) rfl ?_
   refine q_val wn (r_sadd rfl rfl (by simp only [bl_size, bl_app, bl_mk, List.length_append, List.length_cons, List.length_nil]; omega)) rfl ?_
   refine q_val wn (r_move rfl) rfl ?_
   refine q_val wn (r_nilCheck rfl) rfl ?_
   refine q_val wn (r_fe rfl fld74_2) rfl ?_
   refine q_val wn (r_cel 2 rfl rfl rfl flat9) rfl ?_
   refine q_val wn (r_sadd rfl rfl (by simp only [bl_size, bl_app, bl_mk, List.length_append, List.length_cons, List.length_nil]; omega)) rfl ?_
   refine q_tail hT1 ?_
   refine l_give (α := Value) [.blk b [p, .slice rA bs.length rc] 47, Row (.slice rA bs.length rc) 5 1 byteE bs] [celP mad [iV m.kind, .string m.key, .string m.val]] (fun _ => .tuple #[iV ((((m.key ++ ⟨#[61]⟩) ++ m.val) : ByteArray).size : Int), .nilIface]) (fun z1 => True) (fun z1 => [.blk b [.pointer (some ⟨b, 0, none⟩), z1] 47, Row z1 5 1 byteE (bs ++ (m.key.data.toList ++ ([61] : List UInt8) ++ m.val.data.toList))]) (fun z1 => [.blk b [.pointer (some ⟨b, 0, none⟩), z1] 47, Row z1 5 1 byteE (bs ++ (m.key.data.toList ++ ([61] : List UInt8) ++ m.val.data.toList)), celP mad [iV m.kind, .string m.key, .string m.val]]) (fun _ => rfl) (fun _ h => h.sel [0, 1, 2] (by decide) rfl) (fun _ => rfl) wn rfl rfl Tryd.call39 rfl (fun w1 Pb hG => c_ws b p (.slice rA bs.length rc) bs ((m.key ++ ⟨#[61]⟩) ++ m.val) (m.key.data.toList ++ ([61] : List UInt8) ++ m.val.data.toList) Pb w1 hG hp (by first | rfl | (simp only [bl_app, bl_mk]; done) | (simp only [bl_app, bl_mk]; rfl)) (by first | omega | (simp only [List.length_append, List.length_cons, List.length_nil]; omega))) fun z1 hz1 => ?_
   refine l_open 1 (l := (bs ++ (m.key.data.toList ++ ([61] : List UInt8) ++ m.val.data.toList))) rfl fun A1 cp1 hv1 hc1 hm1 hA1 => ?_
   subst hv1
   refine l_nil (e_in_n (e_ret0 (.inr rfl) Tryd.results41  fun w1 hM => ?_))
   have hl9 : (bs ++ (m.key.data.toList ++ ([61] : List UInt8) ++ m.val.data.toList)) = (bs ++ Lg.mt m) := by unfold Lg.mt; simp [h1]
   rw [hl9] at hM
   exact hM.retA (.slice A1 ((bs ++ Lg.mt m).length) cp1) rfl trivial (fun h => h.sel [0, 1, 2] (by decide) rfl)
 refine c_seq fun _ hK3 => ?_
 refine c_region ?_
 refine l_val wn (r_eql rfl rfl) rfl ?_
 refine l_val wn (r_assign rfl) rfl ?_
 refine l_nil (e_go hK3 ?_)
 refine c_cond rfl (fun h2 => ?_) (fun h2 => ?_)
 · refine c_quietT 13 mix (by kernel_rfl) (fun _ h => h.drew) fun _ hT2 => ?_
   refine q_val wn (r_move rfl) rfl ?_
   refine q_val wn (r_nilCheck rfl) rfl ?_
   refine q_val wn (r_fa rfl fld47_0) rfl ?_
   refine q_val wn (r_move rfl) rfl ?_
   refine q_val wn (r_nilCheck rfl) rfl ?_
   refine q_val wn (r_fe rfl fld74_1) rfl ?_
   refine q_val wn (r_cel 2 rfl rfl rfl flat9) rfl ?_
   refine q_val wn (r_sadd rfl rfl (by simp only [bl_size, bl_app, bl_mk, List.length_append, List.length_cons, List.length_nil]; omega)) rfl ?_
   refine q_val wn (r_move rfl) rfl ?_
   refine q_val wn (r_nilCheck rfl) rfl ?_
   refine q_val wn (r_fe rfl fld74_2) rfl ?_
   refine q_val wn (r_cel 2 rfl rfl rfl flat9) rfl ?_
   refine q_val wn (r_sadd rfl rfl (by simp only [bl_size, bl_app, bl_mk, List.length_append, List.length_cons, List.length_nil]; omega)) rfl ?_
   refine q_tail hT2 ?_
   refine l_give (α := Value) [.blk b [p, .slice rA bs.length rc] 47, Row (.slice rA bs.length rc) 5 1 byteE bs] [celP mad [iV m.kind, .string m.key, .string m.val]] (fun _ => .tuple #[iV ((((m.key ++ ⟨#[33, 61]⟩) ++ m.val) : ByteArray).size : Int), .nilIface]) (fun z2 => True) (fun z2 => [.blk b [.pointer (some ⟨b, 0, none⟩), z2] 47, Row z2 5 1 byteE (bs ++ (m.key.data.toList ++ ([33, 61] : List UInt8) ++ m.val.data.toList))]) (fun z2 => [.blk b [.pointer (some ⟨b, 0, none⟩), z2] 47, Row z2 5 1 byteE (bs ++ (m.key.data.toList ++ ([33, 61] : List UInt8) ++ m.val.data.toList)), celP mad [iV m.kind, .string m.key, .string m.val]]) (fun _ => rfl) (fun _ h => h.sel [0, 1, 2] (by decide) rfl) (fun _ => rfl) wn rfl rfl Tryd.call39 rfl (fun w1 Pb hG => c_ws b p (.slice rA bs.length rc) bs ((m.key ++ ⟨#[33, 61]⟩) ++ m.val) (m.key.data.toList ++ ([33, 61] : List UInt8) ++ m.val.data.toList) Pb w1 hG hp (by first | rfl | (simp only [bl_app, bl_mk]; done) | (simp only [bl_app, bl_mk]; rfl)) (by first | omega | (simp only [List.length_append, List.length_cons, List.length_nil]; omega))) fun z2 hz2 => ?_
   refine l_open 1 (l := (bs ++ (m.key.data.toList ++ ([33, 61] : List UInt8) ++ m.val.data.toList))) rfl fun A2 cp2 hv2 hc2 hm2 hA2 => ?_
   subst hv2
   refine l_nil (e_in_n (e_ret0 (.inr rfl) Tryd.results41  fun w1 hM => ?_))
   have hl9 : (bs ++ (m.key.data.toList ++ ([33, 61] : List UInt8) ++ m.val.data.toList)) = (bs ++ Lg.mt m) := by unfold Lg.mt; simp [h1, h2]
   rw [hl9] at hM
   exact hM.retA (.slice A2 ((bs ++ Lg.mt m).length) cp2) rfl trivial (fun h => h.sel [0, 1, 2] (by decide) rfl)
 refine c_seq fun _ hK4 => ?_
 refine c_region ?_
 refine l_val wn (r_eql rfl rfl) rfl ?_
 refine l_val wn (r_assign rfl) rfl ?_
 refine l_nil (e_go hK4 ?_)
 refine c_cond rfl (fun h3 => ?_) (fun h3 => ?_)
 · refine c_quietT 7 mix (by kernel_rfl) (fun _ h => h.drew) fun _ hT3 => ?_
   refine q_val wn (r_move rfl) rfl ?_
   refine q_val wn (r_nilCheck rfl) rfl ?_
   refine q_val wn (r_fa rfl fld47_0) rfl ?_
   refine q_val wn (r_move rfl) rfl ?_
   refine q_val wn (r_nilCheck rfl) rfl ?_
   refine q_val wn (r_fe rfl fld74_1) rfl ?_
   refine q_val wn (r_cel 2 rfl rfl rfl flat9) rfl ?_
   refine q_tail hT3 ?_
   refine l_give (α := Value) [.blk b [p, .slice rA bs.length rc] 47, Row (.slice rA bs.length rc) 5 1 byteE bs] [celP mad [iV m.kind, .string m.key, .string m.val]] (fun _ => .tuple #[iV ((m.key : ByteArray).size : Int), .nilIface]) (fun z3 => True) (fun z3 => [.blk b [.pointer (some ⟨b, 0, none⟩), z3] 47, Row z3 5 1 byteE (bs ++ m.key.data.toList)]) (fun z3 => [.blk b [.pointer (some ⟨b, 0, none⟩), z3] 47, Row z3 5 1 byteE (bs ++ m.key.data.toList), celP mad [iV m.kind, .string m.key, .string m.val]]) (fun _ => rfl) (fun _ h => h.sel [0, 1, 2] (by decide) rfl) (fun _ => rfl) wn rfl rfl Tryd.call39 rfl (fun w1 Pb hG => c_ws b p (.slice rA bs.length rc) bs m.key m.key.data.toList Pb w1 hG hp (by first | rfl | (simp only [bl_app, bl_mk]; done) | (simp only [bl_app, bl_mk]; rfl)) (by first | omega | (simp only [List.length_append, List.length_cons, List.length_nil]; omega))) fun z3 hz3 => ?_
   refine l_open 1 (l := (bs ++ m.key.data.toList)) rfl fun A3 cp3 hv3 hc3 hm3 hA3 => ?_
   subst hv3
   refine l_nil (e_in_n (e_ret0 (.inr rfl) Tryd.results41  fun w1 hM => ?_))
   have hl9 : (bs ++ m.key.data.toList) = (bs ++ Lg.mt m) := by unfold Lg.mt; simp [h1, h2, h3]
   rw [hl9] at hM
   exact hM.retA (.slice A3 ((bs ++ Lg.mt m).length) cp3) rfl trivial (fun h => h.sel [0, 1, 2] (by decide) rfl)
 refine c_quietT 8 mix (by kernel_rfl) (fun _ h => h.drew) fun _ hT4 => ?_
 refine q_val wn (r_move rfl) rfl ?_
 refine q_val wn (r_nilCheck rfl) rfl ?_
 refine q_val wn (r_fa rfl fld47_0) rfl ?_
 refine q_val wn (r_move rfl) rfl ?_
 refine q_val wn (r_nilCheck rfl) rfl ?_
 refine q_val wn (r_fe rfl fld74_1) rfl ?_
 refine q_val wn (r_cel 2 rfl rfl rfl flat9) rfl ?_
 refine q_val wn (r_sadd rfl rfl (by simp only [bl_size, bl_app, bl_mk, List.length_append, List.length_cons, List.length_nil]; omega)) rfl ?_
 refine q_tail hT4 ?_
 refine l_give (α := Value) [.blk b [p, .slice rA bs.length rc] 47, Row (.slice rA bs.length rc) 5 1 byteE bs] [celP mad [iV m.kind, .string m.key, .string m.val]] (fun _ => .tuple #[iV (((⟨#[33]⟩ ++ m.key) : ByteArray).size : Int), .nilIface]) (fun z4 => True) (fun z4 => [.blk b [.pointer (some ⟨b, 0, none⟩), z4] 47, Row z4 5 1 byteE (bs ++ (([33] : List UInt8) ++ m.key.data.toList))]) (fun z4 => [.blk b [.pointer (some ⟨b, 0, none⟩), z4] 47, Row z4 5 1 byteE (bs ++ (([33] : List UInt8) ++ m.key.data.toList)), celP mad [iV m.kind, .string m.key, .string m.val]]) (fun _ => rfl) (fun _ h => h.sel [0, 1, 2] (by decide) rfl) (fun _ => rfl) wn rfl rfl Tryd.call39 rfl (fun w1 Pb hG => c_ws b p (.slice rA bs.length rc) bs (⟨#[33]⟩ ++ m.key) (([33] : List UInt8) ++ m.key.data.toList) Pb w1 hG hp (by first | rfl | (simp only [bl_app, bl_mk]; done) | (simp only [bl_app, bl_mk]; rfl)) (by first | omega | (simp only [List.length_append, List.length_cons, List.length_nil]; omega))) fun z4 hz4 => ?_
 refine l_open 1 (l := (bs ++ (([33] : List UInt8) ++ m.key.data.toList))) rfl fun A4 cp4 hv4 hc4 hm4 hA4 => ?_
 subst hv4
 refine l_nil (e_in_n (e_ret0 (.inr rfl) Tryd.results41  fun w1 hM => ?_))
 have hl9 : (bs ++ (([33] : List UInt8) ++ m.key.data.toList)) = (bs ++ Lg.mt m) := by unfold Lg.mt; simp [h1, h2, h3]
 rw [hl9] at hM
 exact hM.retA (.slice A4 ((bs ++ Lg.mt m).length) cp4) rfl trivial (fun h => h.sel [0, 1, 2] (by decide) rfl)

def c_at_C (e : ExprX) : Prop := ∀ (b : Nat) (p : Value) (v : Value) (bs : List UInt8) (ead : Addr) (least : Int) (Pb : Nat → Prop) (w : World) (hG : Mem w ⟨fpOf [.blk b [p, v] 47, Row v 5 1 byteE bs, celP ead [iV e.kind, iV e.n, iV e.range, .string e.word, .slice e.ms.A e.ms.l.length e.ms.c, .slice e.by_.A e.by_.l.length e.by_.c, .slice e.kids.A e.kids.l.length e.kids.c], okP ExprX.Ok e, .pub Tab], Pb⟩ [.blk b [p, v] 47, Row v 5 1 byteE bs, celP ead [iV e.kind, iV e.n, iV e.range, .string e.word, .slice e.ms.A e.ms.l.length e.ms.c, .slice e.by_.A e.by_.l.length e.by_.c, .slice e.kids.A e.kids.l.length e.kids.c], okP ExprX.Ok e, .pub Tab] w) (hp : p = .pointer none ∨ p = .pointer (some ⟨b, 0, none⟩)) (hfine : Mn.fineE e.e) (hl : 0 ≤ least ∧ least ≤ 2) (hbl : (bs.length : Int) + 250 * Mn.nodes e.e ≤ 1000000),
    Calls Tryd.prog 22 #[.pointer (some ⟨b, 0, none⟩), .pointer (some ((Addr.add ead 0).add 0)), iV least] w (RetA w [.blk b [p, v] 47, Row v 5 1 byteE bs, celP ead [iV e.kind, iV e.n, iV e.range, .string e.word, .slice e.ms.A e.ms.l.length e.ms.c, .slice e.by_.A e.by_.l.length e.by_.c, .slice e.kids.A e.kids.l.length e.kids.c], okP ExprX.Ok e, .pub Tab] Pb (fun _ : Value => .tuple #[]) (fun _ => True) (fun z => [.blk b [.pointer (some ⟨b, 0, none⟩), z] 47, Row z 5 1 byteE (bs ++ Lg.txt e.e least), celP ead [iV e.kind, iV e.n, iV e.range, .string e.word, .slice e.ms.A e.ms.l.length e.ms.c, .slice e.by_.A e.by_.l.length e.by_.c, .slice e.kids.A e.kids.l.length e.kids.c], okP ExprX.Ok e, .pub Tab]))
set_option maxHeartbeats 4000000 in
set_option maxRecDepth 4000 in
theorem c_at_core (b : Nat) (p : Value) (v : Value) (bs : List UInt8) (ead : Addr) (e : ExprX) (least : Int) (Pb : Nat → Prop) (w : World) (hG : Mem w ⟨fpOf [.blk b [p, v] 47, Row v 5 1 byteE bs, celP ead [iV e.kind, iV e.n, iV e.range, .string e.word, .slice e.ms.A e.ms.l.length e.ms.c, .slice e.by_.A e.by_.l.length e.by_.c, .slice e.kids.A e.kids.l.length e.kids.c], okP ExprX.Ok e, .pub Tab], Pb⟩ [.blk b [p, v] 47, Row v 5 1 byteE bs, celP ead [iV e.kind, iV e.n, iV e.range, .string e.word, .slice e.ms.A e.ms.l.length e.ms.c, .slice e.by_.A e.by_.l.length e.by_.c, .slice e.kids.A e.kids.l.length e.kids.c], okP ExprX.Ok e, .pub Tab] w) (hp : p = .pointer none ∨ p = .pointer (some ⟨b, 0, none⟩)) (hfine : Mn.fineE e.e) (hl : 0 ≤ least ∧ least ≤ 2) (hbl : (bs.length : Int) + 250 * Mn.nodes e.e ≤ 1000001) (hlv : ¬ (e.kind = 4 ∧ Lg.lv e.word < least)) (ih : ∀ k : ExprX, SizeOf.sizeOf k < SizeOf.sizeOf e → c_at_C k) :
    Calls Tryd.prog 22 #[.pointer (some ⟨b, 0, none⟩), .pointer (some ((Addr.add ead 0).add 0)), iV least] w (RetA w [.blk b [p, v] 47, Row v 5 1 byteE bs, celP ead [iV e.kind, iV e.n, iV e.range, .string e.word, .slice e.ms.A e.ms.l.length e.ms.c, .slice e.by_.A e.by_.l.length e.by_.c, .slice e.kids.A e.kids.l.length e.kids.c], okP ExprX.Ok e, .pub Tab] Pb (fun _ : Value => .tuple #[]) (fun _ => True) (fun z => [.blk b [.pointer (some ⟨b, 0, none⟩), z] 47, Row z 5 1 byteE (bs ++ Lg.txt e.e least), celP ead [iV e.kind, iV e.n, iV e.range, .string e.word, .slice e.ms.A e.ms.l.length e.ms.c, .slice e.by_.A e.by_.l.length e.by_.c, .slice e.kids.A e.kids.l.length e.kids.c], okP ExprX.Ok e, .pub Tab])) := by
 obtain ⟨rA, rc, rfl, hrc, hrm, hrA⟩ := row_form' (hG.row (i := 1) rfl)
 have htn := Mn.nodes_pos e.e
 have hwe := (hG.pubAt (i := 3) rfl).wf
 obtain ⟨hk9, ha9, ho9, hf9⟩ := Lg.fine_x hfine
 refine fstart (N := 161) (vals := [.pointer (some ⟨b, 0, none⟩), .pointer (some ((Addr.add ead 0).add 0)), iV least]) (S := Mem w ⟨fpOf [.blk b [p, .slice rA bs.length rc] 47, Row (.slice rA bs.length rc) 5 1 byteE bs, celP ead [iV e.kind, iV e.n, iV e.range, .string e.word, .slice e.ms.A e.ms.l.length e.ms.c, .slice e.by_.A e.by_.l.length e.by_.c, .slice e.kids.A e.kids.l.length e.kids.c], okP ExprX.Ok e, .pub Tab], Pb⟩ [.blk b [p, .slice rA bs.length rc] 47, Row (.slice rA bs.length rc) 5 1 byteE bs, celP ead [iV e.kind, iV e.n, iV e.range, .string e.word, .slice e.ms.A e.ms.l.length e.ms.c, .slice e.by_.A e.by_.l.length e.by_.c, .slice e.kids.A e.kids.l.length e.kids.c], okP ExprX.Ok e, .pub Tab]) Tryd.func22 rfl rfl rfl hG ?_
 refine c_seq fun _ hK1 => ?_
 refine c_region ?_
 refine l_val wn (r_assign rfl) rfl ?_
 refine l_nil (e_go hK1 ?_)
 refine c_seq fun _ hK2 => ?_
 refine c_seq fun _ hK3 => ?_
 refine c_region ?_
 refine l_val wn (r_move rfl) rfl ?_
 refine l_val wn (r_nilCheck rfl) rfl ?_
 refine l_val wn (r_fe rfl fld26_0) rfl ?_
 refine l_val wn (r_cel 2 rfl rfl rfl flat3) rfl ?_
 refine l_val wn (r_eql rfl rfl) rfl ?_
 refine l_nil (e_go hK3 ?_)
 refine c_cond rfl (fun h1 => ?_) (fun h1 => ?_)
 · refine c_seq fun _ hK4 => ?_
   refine c_region ?_
   refine l_val wn (r_assign rfl) rfl ?_
   refine l_nil (e_go hK4 ?_)
   refine c_seq fun _ hK5 => ?_
   refine c_region ?_
   refine l_val wn (r_move rfl) rfl ?_
   refine l_val wn (r_nilCheck rfl) rfl ?_
   refine l_val wn (r_fe rfl fld26_3) rfl ?_
   refine l_val wn (r_cel 2 rfl rfl rfl flat9) rfl ?_
   refine l_val wn (r_seql rfl rfl) rfl ?_
   refine l_nil (e_go hK5 ?_)
   refine c_cond rfl (fun h2 => ?_) (fun h2 => ?_)
   · refine c_region ?_
     refine l_val wn (r_assign rfl) rfl ?_
     refine l_nil (e_go hK2 ?_)
     refine c_seq fun _ hK6 => ?_
     refine c_seq fun _ hK7 => ?_
     refine c_region ?_
     refine l_val wn (r_move rfl) rfl ?_
     refine l_val wn (r_move rfl) rfl ?_
     refine l_val wn (r_lss rfl rfl) rfl ?_
     refine l_nil (e_go hK7 ?_)
     refine c_false rfl (decide_eq_false (fun h => hlv ⟨h1, by rw [show Lg.lv e.word = 1 from by unfold Lg.lv; rw [if_pos h2]]; exact h⟩)) ?_
     refine c_skip (e_go hK6 ?_)
     refine c_seq fun _ hK8 => ?_
     refine c_region ?_
     refine l_val wn (r_move rfl) rfl ?_
     refine l_val wn (r_nilCheck rfl) rfl ?_
     refine l_val wn (r_fe rfl fld26_0) rfl ?_
     refine l_val wn (r_cel 2 rfl rfl rfl flat3) rfl ?_
     refine l_nil (e_go hK8 ?_)
     refine c_block ?_
     refine c_seq fun _ hK9 => ?_
     refine c_region ?_
     refine l_val wn (r_eql rfl rfl) rfl ?_
     refine l_val wn (r_assign rfl) rfl ?_
     refine l_nil (e_go hK9 ?_)
     refine c_false rfl (decide_eq_false (by omega)) ?_
     refine c_seq fun _ hK10 => ?_
     refine c_region ?_
     refine l_val wn (r_eql rfl rfl) rfl ?_
     refine l_val wn (r_assign rfl) rfl ?_
     refine l_nil (e_go hK10 ?_)
     refine c_false rfl (decide_eq_false (by omega)) ?_
     refine c_seq fun _ hK11 => ?_
     refine c_region ?_
     refine l_val wn (r_eql rfl rfl) rfl ?_
     refine l_val wn (r_assign rfl) rfl ?_
     refine l_nil (e_go hK11 ?_)
     refine c_false rfl (decide_eq_false (by omega)) ?_
     refine c_seq fun _ hK12 => ?_
     refine c_region ?_
     have hbin := Lg.binR_of (by have h9 := ho9; rw [h1] at h9; exact h9)
     have hwl := hbin.1
     rw [bl_size] at hwl
     have hkl : e.kids.l.length = 2 := by have h9 := ha9; rw [h1] at h9; simp [Lg.arity] at h9; omega
     obtain ⟨k0, hk0⟩ : ∃ x, e.kids.l[0]? = some x := ⟨_, List.getElem?_eq_getElem (by omega)⟩
     obtain ⟨k1, hk1⟩ : ∃ x, e.kids.l[1]? = some x := ⟨_, List.getElem?_eq_getElem (by omega)⟩
     have hnd := Lg.nodes_bin hkl hk0 hk1
     have hp0 := Mn.nodes_pos k0.e
     have hp1 := Mn.nodes_pos k1.e
     have htl := Lg.txt_len k0.e 1 (hf9 _ (List.mem_of_getElem? hk0))
     refine l_val wn (r_move rfl) rfl ?_
     refine l_val wn (r_move rfl) rfl ?_
     refine l_val wn (r_nilCheck rfl) rfl ?_
     refine l_val wn (r_fe rfl fld26_6) rfl ?_
     refine l_val wn (r_cel 2 rfl rfl rfl flat24) rfl ?_
     refine l_opn (fun _ h => h.exprX 3 rfl) ?_
     obtain ⟨hc1, hm1, hA1⟩ := hwe.ms
     obtain ⟨hc2, hm2, hA2⟩ := hwe.by_
     obtain ⟨hc3, hm3, hA3⟩ := hwe.kids
     obtain ⟨ad1, hd1⟩ := hA3 (ne_nil (i := 0) (by first | omega | (simp <;> omega)))
     refine l_val wn (r_ia (i := 0) rfl hd1 rfl (by omega) (by first | omega | (simp <;> omega)) Tryd.underlying24 inf26) rfl ?_
     refine l_val wn (r_move rfl) rfl ?_
     obtain ⟨s1, hs1⟩ : ∃ x, e.kids.l[0]? = some x := ⟨_, List.getElem?_eq_getElem (by first | omega | (simp <;> omega))⟩
     have hq0 : s1 = k0 := Option.some.inj (hs1.symm.trans hk0)
     rw [← hq0] at hnd htl hp0
     refine l_opn (fun _ h => h.celAt 2 rfl hd1 hs1) ?_
     have hw1 := hwe.all _ (List.mem_of_getElem? hs1)
     refine l_opn (fun _ h => h.one 4 ExprX.Ok.loc rfl hs1) ?_
     refine l_give (α := Value) [.blk b [p, .slice rA bs.length rc] 47, Row (.slice rA bs.length rc) 5 1 byteE bs, celP (Addr.add ad1 (0 * 7)) [iV s1.kind, iV s1.n, iV s1.range, .string s1.word, .slice s1.ms.A s1.ms.l.length s1.ms.c, .slice s1.by_.A s1.by_.l.length s1.by_.c, .slice s1.kids.A s1.kids.l.length s1.kids.c], okP ExprX.Ok s1, .pub Tab] [slP 3 matchE (.slice e.ms.A e.ms.l.length e.ms.c) e.ms.l, slP 1 strE (.slice e.by_.A e.by_.l.length e.by_.c) e.by_.l, slP 7 exprE (.slice e.kids.A e.kids.l.length e.kids.c) e.kids.l, allP ExprX.Ok e.kids.l, celP ead [iV e.kind, iV e.n, iV e.range, .string e.word, .slice e.ms.A e.ms.l.length e.ms.c, .slice e.by_.A e.by_.l.length e.by_.c, .slice e.kids.A e.kids.l.length e.kids.c], okP ExprX.Ok e] (fun _ => .tuple #[]) (fun z1 => True) (fun z1 => [.blk b [.pointer (some ⟨b, 0, none⟩), z1] 47, Row z1 5 1 byteE (bs ++ Lg.txt s1.e 1), celP (Addr.add ad1 (0 * 7)) [iV s1.kind, iV s1.n, iV s1.range, .string s1.word, .slice s1.ms.A s1.ms.l.length s1.ms.c, .slice s1.by_.A s1.by_.l.length s1.by_.c, .slice s1.kids.A s1.kids.l.length s1.kids.c], okP ExprX.Ok s1, .pub Tab]) (fun z1 => [.blk b [.pointer (some ⟨b, 0, none⟩), z1] 47, Row z1 5 1 byteE (bs ++ Lg.txt s1.e 1), celP (Addr.add ad1 (0 * 7)) [iV s1.kind, iV s1.n, iV s1.range, .string s1.word, .slice s1.ms.A s1.ms.l.length s1.ms.c, .slice s1.by_.A s1.by_.l.length s1.by_.c, .slice s1.kids.A s1.kids.l.length s1.kids.c], okP ExprX.Ok s1, .pub Tab, slP 3 matchE (.slice e.ms.A e.ms.l.length e.ms.c) e.ms.l, slP 1 strE (.slice e.by_.A e.by_.l.length e.by_.c) e.by_.l, slP 7 exprE (.slice e.kids.A e.kids.l.length e.kids.c) e.kids.l, allP ExprX.Ok e.kids.l, celP ead [iV e.kind, iV e.n, iV e.range, .string e.word, .slice e.ms.A e.ms.l.length e.ms.c, .slice e.by_.A e.by_.l.length e.by_.c, .slice e.kids.A e.kids.l.length e.kids.c], okP ExprX.Ok e]) (fun _ => rfl) (fun _ h => h.sel [6, 7, 1, 0, 10, 2, 3, 4, 5, 8, 9] (by decide) rfl) (fun _ => rfl) wn rfl rfl Tryd.call22 rfl (fun w1 Pb hG => ih s1 (ExprX.kid_lt (List.mem_of_getElem? hs1)) b p (.slice rA bs.length rc) bs (Addr.add ad1 (0 * 7)) 1 Pb w1 hG hp (hf9 _ (List.mem_of_getElem? hs1)) (by omega) (by first | omega | (simp only [List.length_append, List.length_cons, List.length_nil]; omega))) fun z1 hz1 => ?_
     refine l_open 1 (l := (bs ++ Lg.txt s1.e 1)) rfl fun A1 cp1 hv1 hc4 hm4 hA4 => ?_
     subst hv1
     refine l_nil (e_go hK12 ?_)
     refine c_seq fun _ hK13 => ?_
     refine c_quietT 9 mix (by kernel_rfl) (fun _ h => h.drew) fun _ hT1 => ?_
     refine q_val wn (r_move rfl) rfl ?_
     refine q_val wn (r_nilCheck rfl) rfl ?_
     refine q_val wn (r_fa rfl fld47_0) rfl ?_
     refine q_val wn (r_move rfl) rfl ?_
     refine q_val wn (r_nilCheck rfl) rfl ?_
     refine q_val wn (r_fe rfl fld26_3) rfl ?_
     refine q_val wn (r_cel 9 rfl rfl rfl flat9) rfl ?_
     refine q_val wn (r_sadd rfl rfl (by simp only [bl_size, bl_app, bl_mk, List.length_append, List.length_cons, List.length_nil]; omega)) rfl ?_
     refine q_val wn (r_sadd rfl rfl (by simp only [bl_size, bl_app, bl_mk, List.length_append, List.length_cons, List.length_nil]; omega)) rfl ?_
     refine q_tail hT1 ?_
     refine l_give (α := Value) [.blk b [.pointer (some ⟨b, 0, none⟩), .slice A1 ((bs ++ Lg.txt s1.e 1).length) cp1] 47, Row (.slice A1 ((bs ++ Lg.txt s1.e 1).length) cp1) 5 1 byteE (bs ++ Lg.txt s1.e 1)] [celP (Addr.add ad1 (0 * 7)) [iV s1.kind, iV s1.n, iV s1.range, .string s1.word, .slice s1.ms.A s1.ms.l.length s1.ms.c, .slice s1.by_.A s1.by_.l.length s1.by_.c, .slice s1.kids.A s1.kids.l.length s1.kids.c], okP ExprX.Ok s1, .pub Tab, slP 3 matchE (.slice e.ms.A e.ms.l.length e.ms.c) e.ms.l, slP 1 strE (.slice e.by_.A e.by_.l.length e.by_.c) e.by_.l, slP 7 exprE (.slice e.kids.A e.kids.l.length e.kids.c) e.kids.l, allP ExprX.Ok e.kids.l, celP ead [iV e.kind, iV e.n, iV e.range, .string e.word, .slice e.ms.A e.ms.l.length e.ms.c, .slice e.by_.A e.by_.l.length e.by_.c, .slice e.kids.A e.kids.l.length e.kids.c], okP ExprX.Ok e] (fun _ => .tuple #[iV ((((⟨#[32]⟩ ++ e.word) ++ ⟨#[32]⟩) : ByteArray).size : Int), .nilIface]) (fun z2 => True) (fun z2 => [.blk b [.pointer (some ⟨b, 0, none⟩), z2] 47, Row z2 5 1 byteE ((bs ++ Lg.txt s1.e 1) ++ (([32] : List UInt8) ++ e.word.data.toList ++ ([32] : List UInt8)))]) (fun z2 => [.blk b [.pointer (some ⟨b, 0, none⟩), z2] 47, Row z2 5 1 byteE ((bs ++ Lg.txt s1.e 1) ++ (([32] : List UInt8) ++ e.word.data.toList ++ ([32] : List UInt8))), celP (Addr.add ad1 (0 * 7)) [iV s1.kind, iV s1.n, iV s1.range, .string s1.word, .slice s1.ms.A s1.ms.l.length s1.ms.c, .slice s1.by_.A s1.by_.l.length s1.by_.c, .slice s1.kids.A s1.kids.l.length s1.kids.c], okP ExprX.Ok s1, .pub Tab, slP 3 matchE (.slice e.ms.A e.ms.l.length e.ms.c) e.ms.l, slP 1 strE (.slice e.by_.A e.by_.l.length e.by_.c) e.by_.l, slP 7 exprE (.slice e.kids.A e.kids.l.length e.kids.c) e.kids.l, allP ExprX.Ok e.kids.l, celP ead [iV e.kind, iV e.n, iV e.range, .string e.word, .slice e.ms.A e.ms.l.length e.ms.c, .slice e.by_.A e.by_.l.length e.by_.c, .slice e.kids.A e.kids.l.length e.kids.c], okP ExprX.Ok e]) (fun _ => rfl) (fun _ h => h.sel [0, 1, 2, 3, 4, 5, 6, 7, 8, 9, 10] (by decide) rfl) (fun _ => rfl) wn rfl rfl Tryd.call39 rfl (fun w1 Pb hG => c_ws b (.pointer (some ⟨b, 0, none⟩)) (.slice A1 ((bs ++ Lg.txt s1.e 1).length) cp1) (bs ++ Lg.txt s1.e 1) ((⟨#[32]⟩ ++ e.word) ++ ⟨#[32]⟩) (([32] : List UInt8) ++ e.word.data.toList ++ ([32] : List UInt8)) Pb w1 hG (.inr rfl) (by first | rfl | (simp only [bl_app, bl_mk]; done) | (simp only [bl_app, bl_mk]; rfl)) (by first | omega | (simp only [List.length_append, List.length_cons, List.length_nil]; omega))) fun z2 hz2 => ?_
     refine l_open 1 (l := ((bs ++ Lg.txt s1.e 1) ++ (([32] : List UInt8) ++ e.word.data.toList ++ ([32] : List UInt8)))) rfl fun A2 cp2 hv2 hc5 hm5 hA5 => ?_
     subst hv2
     refine l_nil (e_go hK13 ?_)
     refine c_region ?_
     refine l_val wn (r_move rfl) rfl ?_
     refine l_val wn (r_move rfl) rfl ?_
     refine l_val wn (r_nilCheck rfl) rfl ?_
     refine l_val wn (r_fe rfl fld26_6) rfl ?_
     refine l_val wn (r_cel 9 rfl rfl rfl flat24) rfl ?_
     refine l_val wn (r_ia (i := 1) rfl hd1 rfl (by omega) (by first | omega | (simp <;> omega)) Tryd.underlying24 inf26) rfl ?_
     refine l_val wn (r_move rfl) rfl ?_
     refine l_val wn (r_addn rfl rfl (by omega)) rfl ?_
     obtain ⟨s2, hs2⟩ : ∃ x, e.kids.l[1]? = some x := ⟨_, List.getElem?_eq_getElem (by first | omega | (simp <;> omega))⟩
     have hq1 : s2 = k1 := Option.some.inj (hs2.symm.trans hk1)
     rw [← hq1] at hnd hp1
     refine l_opn (fun _ h => h.celAt 7 rfl hd1 hs2) ?_
     have hw2 := hwe.all _ (List.mem_of_getElem? hs2)
     refine l_opn (fun _ h => h.one 9 ExprX.Ok.loc rfl hs2) ?_
     refine l_give (α := Value) [.blk b [.pointer (some ⟨b, 0, none⟩), .slice A2 (((bs ++ Lg.txt s1.e 1) ++ (([32] : List UInt8) ++ e.word.data.toList ++ ([32] : List UInt8))).length) cp2] 47, Row (.slice A2 (((bs ++ Lg.txt s1.e 1) ++ (([32] : List UInt8) ++ e.word.data.toList ++ ([32] : List UInt8))).length) cp2) 5 1 byteE ((bs ++ Lg.txt s1.e 1) ++ (([32] : List UInt8) ++ e.word.data.toList ++ ([32] : List UInt8))), celP (Addr.add ad1 (1 * 7)) [iV s2.kind, iV s2.n, iV s2.range, .string s2.word, .slice s2.ms.A s2.ms.l.length s2.ms.c, .slice s2.by_.A s2.by_.l.length s2.by_.c, .slice s2.kids.A s2.kids.l.length s2.kids.c], okP ExprX.Ok s2, .pub Tab] [celP (Addr.add ad1 (0 * 7)) [iV s1.kind, iV s1.n, iV s1.range, .string s1.word, .slice s1.ms.A s1.ms.l.length s1.ms.c, .slice s1.by_.A s1.by_.l.length s1.by_.c, .slice s1.kids.A s1.kids.l.length s1.kids.c], okP ExprX.Ok s1, slP 3 matchE (.slice e.ms.A e.ms.l.length e.ms.c) e.ms.l, slP 1 strE (.slice e.by_.A e.by_.l.length e.by_.c) e.by_.l, slP 7 exprE (.slice e.kids.A e.kids.l.length e.kids.c) e.kids.l, allP ExprX.Ok e.kids.l, celP ead [iV e.kind, iV e.n, iV e.range, .string e.word, .slice e.ms.A e.ms.l.length e.ms.c, .slice e.by_.A e.by_.l.length e.by_.c, .slice e.kids.A e.kids.l.length e.kids.c], okP ExprX.Ok e] (fun _ => .tuple #[]) (fun z3 => True) (fun z3 => [.blk b [.pointer (some ⟨b, 0, none⟩), z3] 47, Row z3 5 1 byteE (((bs ++ Lg.txt s1.e 1) ++ (([32] : List UInt8) ++ e.word.data.toList ++ ([32] : List UInt8))) ++ Lg.txt s2.e (1 + 1)), celP (Addr.add ad1 (1 * 7)) [iV s2.kind, iV s2.n, iV s2.range, .string s2.word, .slice s2.ms.A s2.ms.l.length s2.ms.c, .slice s2.by_.A s2.by_.l.length s2.by_.c, .slice s2.kids.A s2.kids.l.length s2.kids.c], okP ExprX.Ok s2, .pub Tab]) (fun z3 => [.blk b [.pointer (some ⟨b, 0, none⟩), z3] 47, Row z3 5 1 byteE (((bs ++ Lg.txt s1.e 1) ++ (([32] : List UInt8) ++ e.word.data.toList ++ ([32] : List UInt8))) ++ Lg.txt s2.e (1 + 1)), celP (Addr.add ad1 (1 * 7)) [iV s2.kind, iV s2.n, iV s2.range, .string s2.word, .slice s2.ms.A s2.ms.l.length s2.ms.c, .slice s2.by_.A s2.by_.l.length s2.by_.c, .slice s2.kids.A s2.kids.l.length s2.kids.c], okP ExprX.Ok s2, .pub Tab, celP (Addr.add ad1 (0 * 7)) [iV s1.kind, iV s1.n, iV s1.range, .string s1.word, .slice s1.ms.A s1.ms.l.length s1.ms.c, .slice s1.by_.A s1.by_.l.length s1.by_.c, .slice s1.kids.A s1.kids.l.length s1.kids.c], okP ExprX.Ok s1, slP 3 matchE (.slice e.ms.A e.ms.l.length e.ms.c) e.ms.l, slP 1 strE (.slice e.by_.A e.by_.l.length e.by_.c) e.by_.l, slP 7 exprE (.slice e.kids.A e.kids.l.length e.kids.c) e.kids.l, allP ExprX.Ok e.kids.l, celP ead [iV e.kind, iV e.n, iV e.range, .string e.word, .slice e.ms.A e.ms.l.length e.ms.c, .slice e.by_.A e.by_.l.length e.by_.c, .slice e.kids.A e.kids.l.length e.kids.c], okP ExprX.Ok e]) (fun _ => rfl) (fun _ h => h.sel [2, 3, 1, 0, 6, 4, 5, 7, 8, 9, 10, 11, 12] (by decide) rfl) (fun _ => rfl) wn rfl rfl Tryd.call22 rfl (fun w1 Pb hG => ih s2 (ExprX.kid_lt (List.mem_of_getElem? hs2)) b (.pointer (some ⟨b, 0, none⟩)) (.slice A2 (((bs ++ Lg.txt s1.e 1) ++ (([32] : List UInt8) ++ e.word.data.toList ++ ([32] : List UInt8))).length) cp2) ((bs ++ Lg.txt s1.e 1) ++ (([32] : List UInt8) ++ e.word.data.toList ++ ([32] : List UInt8))) (Addr.add ad1 (1 * 7)) (1 + 1) Pb w1 hG (.inr rfl) (hf9 _ (List.mem_of_getElem? hs2)) (by omega) (by first | omega | (simp only [List.length_append, List.length_cons, List.length_nil]; omega))) fun z3 hz3 => ?_
     refine l_open 1 (l := (((bs ++ Lg.txt s1.e 1) ++ (([32] : List UInt8) ++ e.word.data.toList ++ ([32] : List UInt8))) ++ Lg.txt s2.e (1 + 1))) rfl fun A3 cp3 hv3 hc6 hm6 hA6 => ?_
     subst hv3
     refine l_nil (e_in_n (e_ret0 (.inr rfl) Tryd.results22  fun w1 hM => ?_))
     have hlv9 : Lg.lv e.word = 1 := by unfold Lg.lv; rw [if_pos h2]
     have hl9 : (((bs ++ Lg.txt s1.e 1) ++ (([32] : List UInt8) ++ e.word.data.toList ++ ([32] : List UInt8))) ++ Lg.txt s2.e (1 + 1)) = (bs ++ Lg.txt e.e least) := by rw [Lg.txt_bin (b := (1 + 1)) h1 hs1 hs2 least (by rw [hlv9]), if_neg (fun g => hlv ⟨h1, g⟩), hlv9]; simp
     rw [hl9] at hM
     exact hM.retA (.slice A3 ((bs ++ Lg.txt e.e least).length) cp3) rfl trivial (fun h => h.sel [0, 1, 11, 12, 4] (by decide) rfl)
   refine c_skip (e_go hK2 ?_)
   refine c_seq fun _ hK14 => ?_
   refine c_seq fun _ hK15 => ?_
   refine c_region ?_
   refine l_val wn (r_move rfl) rfl ?_
   refine l_val wn (r_move rfl) rfl ?_
   refine l_val wn (r_lss rfl rfl) rfl ?_
   refine l_nil (e_go hK15 ?_)
   refine c_false rfl (decide_eq_false (fun h => hlv ⟨h1, by rw [show Lg.lv e.word = 0 from by unfold Lg.lv; rw [if_neg h2]]; exact h⟩)) ?_
   refine c_skip (e_go hK14 ?_)
   refine c_seq fun _ hK16 => ?_
   refine c_region ?_
   refine l_val wn (r_move rfl) rfl ?_
   refine l_val wn (r_nilCheck rfl) rfl ?_
   refine l_val wn (r_fe rfl fld26_0) rfl ?_
   refine l_val wn (r_cel 2 rfl rfl rfl flat3) rfl ?_
   refine l_nil (e_go hK16 ?_)
   refine c_block ?_
   refine c_seq fun _ hK17 => ?_
   refine c_region ?_
   refine l_val wn (r_eql rfl rfl) rfl ?_
   refine l_val wn (r_assign rfl) rfl ?_
   refine l_nil (e_go hK17 ?_)
   refine c_false rfl (decide_eq_false (by omega)) ?_
   refine c_seq fun _ hK18 => ?_
   refine c_region ?_
   refine l_val wn (r_eql rfl rfl) rfl ?_
   refine l_val wn (r_assign rfl) rfl ?_
   refine l_nil (e_go hK18 ?_)
   refine c_false rfl (decide_eq_false (by omega)) ?_
   refine c_seq fun _ hK19 => ?_
   refine c_region ?_
   refine l_val wn (r_eql rfl rfl) rfl ?_
   refine l_val wn (r_assign rfl) rfl ?_
   refine l_nil (e_go hK19 ?_)
   refine c_false rfl (decide_eq_false (by omega)) ?_
   refine c_seq fun _ hK20 => ?_
   refine c_region ?_
   have hbin := Lg.binR_of (by have h9 := ho9; rw [h1] at h9; exact h9)
   have hwl := hbin.1
   rw [bl_size] at hwl
   have hkl : e.kids.l.length = 2 := by have h9 := ha9; rw [h1] at h9; simp [Lg.arity] at h9; omega
   obtain ⟨k0, hk0⟩ : ∃ x, e.kids.l[0]? = some x := ⟨_, List.getElem?_eq_getElem (by omega)⟩
   obtain ⟨k1, hk1⟩ : ∃ x, e.kids.l[1]? = some x := ⟨_, List.getElem?_eq_getElem (by omega)⟩
   have hnd := Lg.nodes_bin hkl hk0 hk1
   have hp0 := Mn.nodes_pos k0.e
   have hp1 := Mn.nodes_pos k1.e
   have htl := Lg.txt_len k0.e 0 (hf9 _ (List.mem_of_getElem? hk0))
   refine l_val wn (r_move rfl) rfl ?_
   refine l_val wn (r_move rfl) rfl ?_
   refine l_val wn (r_nilCheck rfl) rfl ?_
   refine l_val wn (r_fe rfl fld26_6) rfl ?_
   refine l_val wn (r_cel 2 rfl rfl rfl flat24) rfl ?_
   refine l_opn (fun _ h => h.exprX 3 rfl) ?_
   obtain ⟨hc7, hm7, hA7⟩ := hwe.ms
   obtain ⟨hc8, hm8, hA8⟩ := hwe.by_
   obtain ⟨hc9, hm9, hA9⟩ := hwe.kids
   obtain ⟨ad2, hd2⟩ := hA9 (ne_nil (i := 0) (by first | omega | (simp <;> omega)))
   refine l_val wn (r_ia (i := 0) rfl hd2 rfl (by omega) (by first | omega | (simp <;> omega)) Tryd.underlying24 inf26) rfl ?_
   refine l_val wn (r_move rfl) rfl ?_
   obtain ⟨s3, hs3⟩ : ∃ x, e.kids.l[0]? = some x := ⟨_, List.getElem?_eq_getElem (by first | omega | (simp <;> omega))⟩
   have hq0 : s3 = k0 := Option.some.inj (hs3.symm.trans hk0)
   rw [← hq0] at hnd htl hp0
   refine l_opn (fun _ h => h.celAt 2 rfl hd2 hs3) ?_
   have hw3 := hwe.all _ (List.mem_of_getElem? hs3)
   refine l_opn (fun _ h => h.one 4 ExprX.Ok.loc rfl hs3) ?_
   refine l_give (α := Value) [.blk b [p, .slice rA bs.length rc] 47, Row (.slice rA bs.length rc) 5 1 byteE bs, celP (Addr.add ad2 (0 * 7)) [iV s3.kind, iV s3.n, iV s3.range, .string s3.word, .slice s3.ms.A s3.ms.l.length s3.ms.c, .slice s3.by_.A s3.by_.l.length s3.by_.c, .slice s3.kids.A s3.kids.l.length s3.kids.c], okP ExprX.Ok s3, .pub Tab] [slP 3 matchE (.slice e.ms.A e.ms.l.length e.ms.c) e.ms.l, slP 1 strE (.slice e.by_.A e.by_.l.length e.by_.c) e.by_.l, slP 7 exprE (.slice e.kids.A e.kids.l.length e.kids.c) e.kids.l, allP ExprX.Ok e.kids.l, celP ead [iV e.kind, iV e.n, iV e.range, .string e.word, .slice e.ms.A e.ms.l.length e.ms.c, .slice e.by_.A e.by_.l.length e.by_.c, .slice e.kids.A e.kids.l.length e.kids.c], okP ExprX.Ok e] (fun _ => .tuple #[]) (fun z4 => True) (fun z4 => [.blk b [.pointer (some ⟨b, 0, none⟩), z4] 47, Row z4 5 1 byteE (bs ++ Lg.txt s3.e 0), celP (Addr.add ad2 (0 * 7)) [iV s3.kind, iV s3.n, iV s3.range, .string s3.word, .slice s3.ms.A s3.ms.l.length s3.ms.c, .slice s3.by_.A s3.by_.l.length s3.by_.c, .slice s3.kids.A s3.kids.l.length s3.kids.c], okP ExprX.Ok s3, .pub Tab]) (fun z4 => [.blk b [.pointer (some ⟨b, 0, none⟩), z4] 47, Row z4 5 1 byteE (bs ++ Lg.txt s3.e 0), celP (Addr.add ad2 (0 * 7)) [iV s3.kind, iV s3.n, iV s3.range, .string s3.word, .slice s3.ms.A s3.ms.l.length s3.ms.c, .slice s3.by_.A s3.by_.l.length s3.by_.c, .slice s3.kids.A s3.kids.l.length s3.kids.c], okP ExprX.Ok s3, .pub Tab, slP 3 matchE (.slice e.ms.A e.ms.l.length e.ms.c) e.ms.l, slP 1 strE (.slice e.by_.A e.by_.l.length e.by_.c) e.by_.l, slP 7 exprE (.slice e.kids.A e.kids.l.length e.kids.c) e.kids.l, allP ExprX.Ok e.kids.l, celP ead [iV e.kind, iV e.n, iV e.range, .string e.word, .slice e.ms.A e.ms.l.length e.ms.c, .slice e.by_.A e.by_.l.length e.by_.c, .slice e.kids.A e.kids.l.length e.kids.c], okP ExprX.Ok e]) (fun _ => rfl) (fun _ h => h.sel [6, 7, 1, 0, 10, 2, 3, 4, 5, 8, 9] (by decide) rfl) (fun _ => rfl) wn rfl rfl Tryd.call22 rfl (fun w1 Pb hG => ih s3 (ExprX.kid_lt (List.mem_of_getElem? hs3)) b p (.slice rA bs.length rc) bs (Addr.add ad2 (0 * 7)) 0 Pb w1 hG hp (hf9 _ (List.mem_of_getElem? hs3)) (by omega) (by first | omega | (simp only [List.length_append, List.length_cons, List.length_nil]; omega))) fun z4 hz4 => ?_
   refine l_open 1 (l := (bs ++ Lg.txt s3.e 0)) rfl fun A4 cp4 hv4 hc10 hm10 hA10 => ?_
   subst hv4
   refine l_nil (e_go hK20 ?_)
   refine c_seq fun _ hK21 => ?_
   refine c_quietT 9 mix (by kernel_rfl) (fun _ h => h.drew) fun _ hT2 => ?_
   refine q_val wn (r_move rfl) rfl ?_
   refine q_val wn (r_nilCheck rfl) rfl ?_
   refine q_val wn (r_fa rfl fld47_0) rfl ?_
   refine q_val wn (r_move rfl) rfl ?_
   refine q_val wn (r_nilCheck rfl) rfl ?_
   refine q_val wn (r_fe rfl fld26_3) rfl ?_
   refine q_val wn (r_cel 9 rfl rfl rfl flat9) rfl ?_
   refine q_val wn (r_sadd rfl rfl (by simp only [bl_size, bl_app, bl_mk, List.length_append, List.length_cons, List.length_nil]; omega)) rfl ?_
   refine q_val wn (r_sadd rfl rfl (by simp only [bl_size, bl_app, bl_mk, List.length_append, List.length_cons, List.length_nil]; omega)) rfl ?_
   refine q_tail hT2 ?_
   refine l_give (α := Value) [.blk b [.pointer (some ⟨b, 0, none⟩), .slice A4 ((bs ++ Lg.txt s3.e 0).length) cp4] 47, Row (.slice A4 ((bs ++ Lg.txt s3.e 0).length) cp4) 5 1 byteE (bs ++ Lg.txt s3.e 0)] [celP (Addr.add ad2 (0 * 7)) [iV s3.kind, iV s3.n, iV s3.range, .string s3.word, .slice s3.ms.A s3.ms.l.length s3.ms.c, .slice s3.by_.A s3.by_.l.length s3.by_.c, .slice s3.kids.A s3.kids.l.length s3.kids.c], okP ExprX.Ok s3, .pub Tab, slP 3 matchE (.slice e.ms.A e.ms.l.length e.ms.c) e.ms.l, slP 1 strE (.slice e.by_.A e.by_.l.length e.by_.c) e.by_.l, slP 7 exprE (.slice e.kids.A e.kids.l.length e.kids.c) e.kids.l, allP ExprX.Ok e.kids.l, celP ead [iV e.kind, iV e.n, iV e.range, .string e.word, .slice e.ms.A e.ms.l.length e.ms.c, .slice e.by_.A e.by_.l.length e.by_.c, .slice e.kids.A e.kids.l.length e.kids.c], okP ExprX.Ok e] (fun _ => .tuple #[iV ((((⟨#[32]⟩ ++ e.word) ++ ⟨#[32]⟩) : ByteArray).size : Int), .nilIface]) (fun z5 => True) (fun z5 => [.blk b [.pointer (some ⟨b, 0, none⟩), z5] 47, Row z5 5 1 byteE ((bs ++ Lg.txt s3.e 0) ++ (([32] : List UInt8) ++ e.word.data.toList ++ ([32] : List UInt8)))]) (fun z5 => [.blk b [.pointer (some ⟨b, 0, none⟩), z5] 47, Row z5 5 1 byteE ((bs ++ Lg.txt s3.e 0) ++ (([32] : List UInt8) ++ e.word.data.toList ++ ([32] : List UInt8))), celP (Addr.add ad2 (0 * 7)) [iV s3.kind, iV s3.n, iV s3.range, .string s3.word, .slice s3.ms.A s3.ms.l.length s3.ms.c, .slice s3.by_.A s3.by_.l.length s3.by_.c, .slice s3.kids.A s3.kids.l.length s3.kids.c], okP ExprX.Ok s3, .pub Tab, slP 3 matchE (.slice e.ms.A e.ms.l.length e.ms.c) e.ms.l, slP 1 strE (.slice e.by_.A e.by_.l.length e.by_.c) e.by_.l, slP 7 exprE (.slice e.kids.A e.kids.l.length e.kids.c) e.kids.l, allP ExprX.Ok e.kids.l, celP ead [iV e.kind, iV e.n, iV e.range, .string e.word, .slice e.ms.A e.ms.l.length e.ms.c, .slice e.by_.A e.by_.l.length e.by_.c, .slice e.kids.A e.kids.l.length e.kids.c], okP ExprX.Ok e]) (fun _ => rfl) (fun _ h => h.sel [0, 1, 2, 3, 4, 5, 6, 7, 8, 9, 10] (by decide) rfl) (fun _ => rfl) wn rfl rfl Tryd.call39 rfl (fun w1 Pb hG => c_ws b (.pointer (some ⟨b, 0, none⟩)) (.slice A4 ((bs ++ Lg.txt s3.e 0).length) cp4) (bs ++ Lg.txt s3.e 0) ((⟨#[32]⟩ ++ e.word) ++ ⟨#[32]⟩) (([32] : List UInt8) ++ e.word.data.toList ++ ([32] : List UInt8)) Pb w1 hG (.inr rfl) (by first | rfl | (simp only [bl_app, bl_mk]; done) | (simp only [bl_app, bl_mk]; rfl)) (by first | omega | (simp only [List.length_append, List.length_cons, List.length_nil]; omega))) fun z5 hz5 => ?_
   refine l_open 1 (l := ((bs ++ Lg.txt s3.e 0) ++ (([32] : List UInt8) ++ e.word.data.toList ++ ([32] : List UInt8)))) rfl fun A5 cp5 hv5 hc11 hm11 hA11 => ?_
   subst hv5
   refine l_nil (e_go hK21 ?_)
   refine c_region ?_
   refine l_val wn (r_move rfl) rfl ?_
   refine l_val wn (r_move rfl) rfl ?_
   refine l_val wn (r_nilCheck rfl) rfl ?_
   refine l_val wn (r_fe rfl fld26_6) rfl ?_
   refine l_val wn (r_cel 9 rfl rfl rfl flat24) rfl ?_
   refine l_val wn (r_ia (i := 1) rfl hd2 rfl (by omega) (by first | omega | (simp <;> omega)) Tryd.underlying24 inf26) rfl ?_
   refine l_val wn (r_move rfl) rfl ?_
   refine l_val wn (r_addn rfl rfl (by omega)) rfl ?_
   obtain ⟨s4, hs4⟩ : ∃ x, e.kids.l[1]? = some x := ⟨_, List.getElem?_eq_getElem (by first | omega | (simp <;> omega))⟩
   have hq1 : s4 = k1 := Option.some.inj (hs4.symm.trans hk1)
   rw [← hq1] at hnd hp1
   refine l_opn (fun _ h => h.celAt 7 rfl hd2 hs4) ?_
   have hw4 := hwe.all _ (List.mem_of_getElem? hs4)
   refine l_opn (fun _ h => h.one 9 ExprX.Ok.loc rfl hs4) ?_
   refine l_give (α := Value) [.blk b [.pointer (some ⟨b, 0, none⟩), .slice A5 (((bs ++ Lg.txt s3.e 0) ++ (([32] : List UInt8) ++ e.word.data.toList ++ ([32] : List UInt8))).length) cp5] 47, Row (.slice A5 (((bs ++ Lg.txt s3.e 0) ++ (([32] : List UInt8) ++ e.word.data.toList ++ ([32] : List UInt8))).length) cp5) 5 1 byteE ((bs ++ Lg.txt s3.e 0) ++ (([32] : List UInt8) ++ e.word.data.toList ++ ([32] : List UInt8))), celP (Addr.add ad2 (1 * 7)) [iV s4.kind, iV s4.n, iV s4.range, .string s4.word, .slice s4.ms.A s4.ms.l.length s4.ms.c, .slice s4.by_.A s4.by_.l.length s4.by_.c, .slice s4.kids.A s4.kids.l.length s4.kids.c], okP ExprX.Ok s4, .pub Tab] [celP (Addr.add ad2 (0 * 7)) [iV s3.kind, iV s3.n, iV s3.range, .string s3.word, .slice s3.ms.A s3.ms.l.length s3.ms.c, .slice s3.by_.A s3.by_.l.length s3.by_.c, .slice s3.kids.A s3.kids.l.length s3.kids.c], okP ExprX.Ok s3, slP 3 matchE (.slice e.ms.A e.ms.l.length e.ms.c) e.ms.l, slP 1 strE (.slice e.by_.A e.by_.l.length e.by_.c) e.by_.l, slP 7 exprE (.slice e.kids.A e.kids.l.length e.kids.c) e.kids.l, allP ExprX.Ok e.kids.l, celP ead [iV e.kind, iV e.n, iV e.range, .string e.word, .slice e.ms.A e.ms.l.length e.ms.c, .slice e.by_.A e.by_.l.length e.by_.c, .slice e.kids.A e.kids.l.length e.kids.c], okP ExprX.Ok e] (fun _ => .tuple #[]) (fun z6 => True) (fun z6 => [.blk b [.pointer (some ⟨b, 0, none⟩), z6] 47, Row z6 5 1 byteE (((bs ++ Lg.txt s3.e 0) ++ (([32] : List UInt8) ++ e.word.data.toList ++ ([32] : List UInt8))) ++ Lg.txt s4.e (0 + 1)), celP (Addr.add ad2 (1 * 7)) [iV s4.kind, iV s4.n, iV s4.range, .string s4.word, .slice s4.ms.A s4.ms.l.length s4.ms.c, .slice s4.by_.A s4.by_.l.length s4.by_.c, .slice s4.kids.A s4.kids.l.length s4.kids.c], okP ExprX.Ok s4, .pub Tab]) (fun z6 => [.blk b [.pointer (some ⟨b, 0, none⟩), z6] 47, Row z6 5 1 byteE (((bs ++ Lg.txt s3.e 0) ++ (([32] : List UInt8) ++ e.word.data.toList ++ ([32] : List UInt8))) ++ Lg.txt s4.e (0 + 1)), celP (Addr.add ad2 (1 * 7)) [iV s4.kind, iV s4.n, iV s4.range, .string s4.word, .slice s4.ms.A s4.ms.l.length s4.ms.c, .slice s4.by_.A s4.by_.l.length s4.by_.c, .slice s4.kids.A s4.kids.l.length s4.kids.c], okP ExprX.Ok s4, .pub Tab, celP (Addr.add ad2 (0 * 7)) [iV s3.kind, iV s3.n, iV s3.range, .string s3.word, .slice s3.ms.A s3.ms.l.length s3.ms.c, .slice s3.by_.A s3.by_.l.length s3.by_.c, .slice s3.kids.A s3.kids.l.length s3.kids.c], okP ExprX.Ok s3, slP 3 matchE (.slice e.ms.A e.ms.l.length e.ms.c) e.ms.l, slP 1 strE (.slice e.by_.A e.by_.l.length e.by_.c) e.by_.l, slP 7 exprE (.slice e.kids.A e.kids.l.length e.kids.c) e.kids.l, allP ExprX.Ok e.kids.l, celP ead [iV e.kind, iV e.n, iV e.range, .string e.word, .slice e.ms.A e.ms.l.length e.ms.c, .slice e.by_.A e.by_.l.length e.by_.c, .slice e.kids.A e.kids.l.length e.kids.c], okP ExprX.Ok e]) (fun _ => rfl) (fun _ h => h.sel [2, 3, 1, 0, 6, 4, 5, 7, 8, 9, 10, 11, 12] (by decide) rfl) (fun _ => rfl) wn rfl rfl Tryd.call22 rfl (fun w1 Pb hG => ih s4 (ExprX.kid_lt (List.mem_of_getElem? hs4)) b (.pointer (some ⟨b, 0, none⟩)) (.slice A5 (((bs ++ Lg.txt s3.e 0) ++ (([32] : List UInt8) ++ e.word.data.toList ++ ([32] : List UInt8))).length) cp5) ((bs ++ Lg.txt s3.e 0) ++ (([32] : List UInt8) ++ e.word.data.toList ++ ([32] : List UInt8))) (Addr.add ad2 (1 * 7)) (0 + 1) Pb w1 hG (.inr rfl) (hf9 _ (List.mem_of_getElem? hs4)) (by omega) (by first | omega | (simp only [List.length_append, List.length_cons, List.length_nil]; omega))) fun z6 hz6 => ?_
   refine l_open 1 (l := (((bs ++ Lg.txt s3.e 0) ++ (([32] : List UInt8) ++ e.word.data.toList ++ ([32] : List UInt8))) ++ Lg.txt s4.e (0 + 1))) rfl fun A6 cp6 hv6 hc12 hm12 hA12 => ?_
   subst hv6
   refine l_nil (e_in_n (e_ret0 (.inr rfl) Tryd.results22  fun w1 hM => ?_))
   have hlv9 : Lg.lv e.word = 0 := by unfold Lg.lv; rw [if_neg h2]
   have hl9 : (((bs ++ Lg.txt s3.e 0) ++ (([32] : List UInt8) ++ e.word.data.toList ++ ([32] : List UInt8))) ++ Lg.txt s4.e (0 + 1)) = (bs ++ Lg.txt e.e least) := by rw [Lg.txt_bin (b := (0 + 1)) h1 hs3 hs4 least (by rw [hlv9]), if_neg (fun g => hlv ⟨h1, g⟩), hlv9]; simp
   rw [hl9] at hM
   exact hM.retA (.slice A6 ((bs ++ Lg.txt e.e least).length) cp6) rfl trivial (fun h => h.sel [0, 1, 11, 12, 4] (by decide) rfl)
 refine c_skip (e_go hK2 ?_)
 refine c_seq fun _ hK22 => ?_
 refine c_seq fun _ hK23 => ?_
 refine c_region ?_
 refine l_val wn (r_move rfl) rfl ?_
 refine l_val wn (r_move rfl) rfl ?_
 refine l_val wn (r_lss rfl rfl) rfl ?_
 refine l_nil (e_go hK23 ?_)
 refine c_false rfl (decide_eq_false (by omega)) ?_
 refine c_skip (e_go hK22 ?_)
 refine c_seq fun _ hK24 => ?_
 refine c_region ?_
 refine l_val wn (r_move rfl) rfl ?_
 refine l_val wn (r_nilCheck rfl) rfl ?_
 refine l_val wn (r_fe rfl fld26_0) rfl ?_
 refine l_val wn (r_cel 2 rfl rfl rfl flat3) rfl ?_
 refine l_nil (e_go hK24 ?_)
 refine c_block ?_
 refine c_seq fun _ hK25 => ?_
 refine c_region ?_
 refine l_val wn (r_eql rfl rfl) rfl ?_
 refine l_val wn (r_assign rfl) rfl ?_
 refine l_nil (e_go hK25 ?_)
 refine c_cond rfl (fun h3 => ?_) (fun h3 => ?_)
 · refine c_quietT 8 mix (by kernel_rfl) (fun _ h => h.drew) fun _ hT3 => ?_
   have hnum : -9223372036854775808 ≤ e.n ∧ e.n ≤ 9223372036854775807 := by have h9 := ho9; rw [h3] at h9; have := Lg.numR_of h9; omega
   have hnl : (Lg.nb e.n).length ≤ 21 := by have h9 := ho9; rw [h3] at h9; exact Lg.nb_len (Lg.numR_of h9)
   refine q_val wn (r_move rfl) rfl ?_
   refine q_val wn (r_nilCheck rfl) rfl ?_
   refine q_val wn (r_fa rfl fld47_0) rfl ?_
   refine q_val wn (r_move rfl) rfl ?_
   refine q_val wn (r_nilCheck rfl) rfl ?_
   refine q_val wn (r_fe rfl fld26_1) rfl ?_
   refine q_val wn (r_cel 2 rfl rfl rfl flat3) rfl ?_
   refine q_callF wn rfl Tryd.call40 rfl (fun w1 hM => c_itoa e.n (In w1) w1 (fun _ h => h) (by first | exact hnum | omega) (hM.pubAt (i := 4) rfl)) ?_
   refine q_tail hT3 ?_
   refine l_give (α := Value) [.blk b [p, .slice rA bs.length rc] 47, Row (.slice rA bs.length rc) 5 1 byteE bs] [celP ead [iV e.kind, iV e.n, iV e.range, .string e.word, .slice e.ms.A e.ms.l.length e.ms.c, .slice e.by_.A e.by_.l.length e.by_.c, .slice e.kids.A e.kids.l.length e.kids.c], okP ExprX.Ok e, .pub Tab] (fun _ => .tuple #[iV (((⟨(Lg.nb e.n).toArray⟩ : ByteArray) : ByteArray).size : Int), .nilIface]) (fun z7 => True) (fun z7 => [.blk b [.pointer (some ⟨b, 0, none⟩), z7] 47, Row z7 5 1 byteE (bs ++ (Lg.nb e.n))]) (fun z7 => [.blk b [.pointer (some ⟨b, 0, none⟩), z7] 47, Row z7 5 1 byteE (bs ++ (Lg.nb e.n)), celP ead [iV e.kind, iV e.n, iV e.range, .string e.word, .slice e.ms.A e.ms.l.length e.ms.c, .slice e.by_.A e.by_.l.length e.by_.c, .slice e.kids.A e.kids.l.length e.kids.c], okP ExprX.Ok e, .pub Tab]) (fun _ => rfl) (fun _ h => h.sel [0, 1, 2, 3, 4] (by decide) rfl) (fun _ => rfl) wn rfl rfl Tryd.call39 rfl (fun w1 Pb hG => c_ws b p (.slice rA bs.length rc) bs (⟨(Lg.nb e.n).toArray⟩ : ByteArray) (Lg.nb e.n) Pb w1 hG hp (by first | rfl | (simp only [bl_app, bl_mk]; done) | (simp only [bl_app, bl_mk]; rfl)) (by first | omega | (simp only [List.length_append, List.length_cons, List.length_nil]; omega))) fun z7 hz7 => ?_
   refine l_open 1 (l := (bs ++ (Lg.nb e.n))) rfl fun A7 cp7 hv7 hc13 hm13 hA13 => ?_
   subst hv7
   refine l_nil (e_in_n (e_ret0 (.inr rfl) Tryd.results22  fun w1 hM => ?_))
   have hl9 : (bs ++ (Lg.nb e.n)) = (bs ++ Lg.txt e.e least) := by rw [Lg.txt_num h3]
   rw [hl9] at hM
   exact hM.retA (.slice A7 ((bs ++ Lg.txt e.e least).length) cp7) rfl trivial (fun h => h.sel [0, 1, 2, 3, 4] (by decide) rfl)
 refine c_seq fun _ hK26 => ?_
 refine c_region ?_
 refine l_val wn (r_eql rfl rfl) rfl ?_
 refine l_val wn (r_assign rfl) rfl ?_
 refine l_nil (e_go hK26 ?_)
 refine c_cond rfl (fun h4 => ?_) (fun h4 => ?_)
 · refine c_seq fun _ hK27 => ?_
   refine c_quietT 8 mix (by kernel_rfl) (fun _ h => h.drew) fun _ hT4 => ?_
   have hwin : Lg.WinR e.word e.ms.l e.range := by have h9 := ho9; rw [h4] at h9; exact Lg.winR_of h9
   have hwl := hwin.word
   rw [bl_size] at hwl
   refine q_val wn (r_move rfl) rfl ?_
   refine q_val wn (r_nilCheck rfl) rfl ?_
   refine q_val wn (r_fa rfl fld47_0) rfl ?_
   refine q_val wn (r_move rfl) rfl ?_
   refine q_val wn (r_nilCheck rfl) rfl ?_
   refine q_val wn (r_fe rfl fld26_3) rfl ?_
   refine q_val wn (r_cel 2 rfl rfl rfl flat9) rfl ?_
   refine q_val wn (r_sadd rfl rfl (by simp only [bl_size, bl_app, bl_mk, List.length_append, List.length_cons, List.length_nil]; omega)) rfl ?_
   refine q_tail hT4 ?_
   refine l_give (α := Value) [.blk b [p, .slice rA bs.length rc] 47, Row (.slice rA bs.length rc) 5 1 byteE bs] [celP ead [iV e.kind, iV e.n, iV e.range, .string e.word, .slice e.ms.A e.ms.l.length e.ms.c, .slice e.by_.A e.by_.l.length e.by_.c, .slice e.kids.A e.kids.l.length e.kids.c], okP ExprX.Ok e, .pub Tab] (fun _ => .tuple #[iV (((e.word ++ ⟨#[40, 123]⟩) : ByteArray).size : Int), .nilIface]) (fun z8 => True) (fun z8 => [.blk b [.pointer (some ⟨b, 0, none⟩), z8] 47, Row z8 5 1 byteE (bs ++ (e.word.data.toList ++ ([40, 123] : List UInt8)))]) (fun z8 => [.blk b [.pointer (some ⟨b, 0, none⟩), z8] 47, Row z8 5 1 byteE (bs ++ (e.word.data.toList ++ ([40, 123] : List UInt8))), celP ead [iV e.kind, iV e.n, iV e.range, .string e.word, .slice e.ms.A e.ms.l.length e.ms.c, .slice e.by_.A e.by_.l.length e.by_.c, .slice e.kids.A e.kids.l.length e.kids.c], okP ExprX.Ok e, .pub Tab]) (fun _ => rfl) (fun _ h => h.sel [0, 1, 2, 3, 4] (by decide) rfl) (fun _ => rfl) wn rfl rfl Tryd.call39 rfl (fun w1 Pb hG => c_ws b p (.slice rA bs.length rc) bs (e.word ++ ⟨#[40, 123]⟩) (e.word.data.toList ++ ([40, 123] : List UInt8)) Pb w1 hG hp (by first | rfl | (simp only [bl_app, bl_mk]; done) | (simp only [bl_app, bl_mk]; rfl)) (by first | omega | (simp only [List.length_append, List.length_cons, List.length_nil]; omega))) fun z8 hz8 => ?_
   refine l_open 1 (l := (bs ++ (e.word.data.toList ++ ([40, 123] : List UInt8)))) rfl fun A8 cp8 hv8 hc14 hm14 hA14 => ?_
   subst hv8
   refine l_nil (e_go hK27 ?_)
   refine c_seq fun _ hK28 => ?_
   refine c_seq fun _ hK29 => ?_
   refine c_region ?_
   refine l_val wn (r_move rfl) rfl ?_
   refine l_val wn (r_nilCheck rfl) rfl ?_
   refine l_val wn (r_fe rfl fld26_4) rfl ?_
   refine l_val wn (r_cel 2 rfl rfl rfl flat22) rfl ?_
   refine l_val wn (r_len rfl Tryd.underlying22) rfl ?_
   refine l_val wn (r_move rfl) rfl ?_
   refine l_nil (e_go hK29 ?_)
   refine c_block ?_
   refine c_loop3 (fun (k : Nat) (cs : List UInt8) (rv : Value) => [(0, .pointer (some ⟨b, 0, none⟩)), (1, .pointer (some ((Addr.add ead 0).add 0))), (89, iV e.ms.l.length), (90, iV k)]) (fun (k : Nat) (cs : List UInt8) (rv : Value) => [.blk b [.pointer (some ⟨b, 0, none⟩), rv] 47, Row rv 5 1 byteE cs, celP ead [iV e.kind, iV e.n, iV e.range, .string e.word, .slice e.ms.A e.ms.l.length e.ms.c, .slice e.by_.A e.by_.l.length e.by_.c, .slice e.kids.A e.kids.l.length e.kids.c], okP ExprX.Ok e, .pub Tab]) (fun (k : Nat) (cs : List UInt8) (rv : Value) => k ≤ e.ms.l.length ∧ cs = bs ++ (e.word.data.toList ++ [40, 123] ++ Lg.mts true (e.ms.l.take k))) (fun (k : Nat) (cs : List UInt8) (rv : Value) => e.ms.l.length - k) 0 (bs ++ (e.word.data.toList ++ ([40, 123] : List UInt8))) (.slice A8 ((bs ++ (e.word.data.toList ++ ([40, 123] : List UInt8))).length) cp8) (sc rfl (sc rfl (sc rfl (sc (ji (by omega)) sn)))) (fun _ h => h) ?_ (fun k cs rv hI1 => ?_)
   · exact ⟨Nat.zero_le _, by simp [Lg.mts]⟩
   have hcl : cs.length ≤ bs.length + 160 := by rw [hI1.2]; have := Lg.win_len hwin k; simp only [List.length_append, List.length_cons, List.length_nil] at this ⊢; omega
   refine c_open 1 (l := cs) rfl fun A9 cp9 hv9 hc15 hm15 hA15 => ?_
   subst hv9
   refine c_seq fun _ hK30 => ?_
   refine c_region ?_
   refine l_val wn (r_lss rfl rfl) rfl ?_
   refine l_nil (e_go hK30 ?_)
   refine c_seq fun _ hK31 => ?_
   refine c_cond rfl (fun h5 => ?_) (fun h5 => ?_)
   · refine c_skip (e_go hK31 ?_)
     refine c_seq fun _ hK32 => ?_
     refine c_block ?_
     refine c_seq fun _ hK33 => ?_
     refine c_region ?_
     refine l_val wn (r_move rfl) rfl ?_
     refine l_val wn (r_assign rfl) rfl ?_
     refine l_nil (e_go hK33 ?_)
     refine c_seq fun _ hK34 => ?_
     refine c_seq fun _ hK35 => ?_
     refine c_region ?_
     refine l_val wn (r_move rfl) rfl ?_
     refine l_val wn (r_gtr rfl rfl) rfl ?_
     refine l_nil (e_go hK35 ?_)
     refine c_cond rfl (fun h6 => ?_) (fun h6 => ?_)
     · refine c_region ?_
       refine l_val wn (r_move rfl) rfl ?_
       refine l_val wn (r_nilCheck rfl) rfl ?_
       refine l_val wn (r_fa rfl fld47_0) rfl ?_
       refine l_give (α := Value) [.blk b [.pointer (some ⟨b, 0, none⟩), .slice A9 cs.length cp9] 47, Row (.slice A9 cs.length cp9) 5 1 byteE cs] [celP ead [iV e.kind, iV e.n, iV e.range, .string e.word, .slice e.ms.A e.ms.l.length e.ms.c, .slice e.by_.A e.by_.l.length e.by_.c, .slice e.kids.A e.kids.l.length e.kids.c], okP ExprX.Ok e, .pub Tab] (fun _ => .nilIface) (fun z9 => True) (fun z9 => [.blk b [.pointer (some ⟨b, 0, none⟩), z9] 47, Row z9 5 1 byteE (cs ++ ([44] : List UInt8))]) (fun z9 => [.blk b [.pointer (some ⟨b, 0, none⟩), z9] 47, Row z9 5 1 byteE (cs ++ ([44] : List UInt8)), celP ead [iV e.kind, iV e.n, iV e.range, .string e.word, .slice e.ms.A e.ms.l.length e.ms.c, .slice e.by_.A e.by_.l.length e.by_.c, .slice e.kids.A e.kids.l.length e.kids.c], okP ExprX.Ok e, .pub Tab]) (fun _ => rfl) (fun _ h => h.sel [0, 1, 2, 3, 4] (by decide) rfl) (fun _ => rfl) wn rfl rfl Tryd.call38 rfl (fun w1 Pb hG => c_wb b (.pointer (some ⟨b, 0, none⟩)) (.slice A9 cs.length cp9) cs 44 44 Pb w1 hG (.inr rfl) (by first | rfl | decide) (by first | omega | (simp only [List.length_append, List.length_cons, List.length_nil]; omega))) fun z9 hz9 => ?_
       refine l_open 1 (l := (cs ++ ([44] : List UInt8))) rfl fun A10 cp10 hv10 hc16 hm16 hA16 => ?_
       subst hv10
       refine l_nil (e_go hK34 ?_)
       refine c_region ?_
       refine l_val wn (r_move rfl) rfl ?_
       refine l_val wn (r_move rfl) rfl ?_
       refine l_val wn (r_nilCheck rfl) rfl ?_
       refine l_val wn (r_fe rfl fld26_4) rfl ?_
       refine l_val wn (r_cel 2 rfl rfl rfl flat22) rfl ?_
       refine l_val wn (r_move rfl) rfl ?_
       refine l_opn (fun _ h => h.exprX 3 rfl) ?_
       obtain ⟨hc17, hm17, hA17⟩ := hwe.ms
       obtain ⟨hc18, hm18, hA18⟩ := hwe.by_
       obtain ⟨hc19, hm19, hA19⟩ := hwe.kids
       obtain ⟨ad3, hd3⟩ := hA17 (ne_nil (i := k) (by first | omega | (simp <;> omega)))
       refine l_val wn (r_ia (i := k) rfl hd3 rfl (by omega) (by first | omega | (simp <;> omega)) Tryd.underlying22 inf74) rfl ?_
       obtain ⟨s5, hs5⟩ : ∃ x, e.ms.l[k]? = some x := ⟨_, List.getElem?_eq_getElem (by first | omega | (simp <;> omega))⟩
       refine l_opn (fun _ h => h.celAt 0 rfl hd3 hs5) ?_
       refine l_give (α := Value) [.blk b [.pointer (some ⟨b, 0, none⟩), .slice A10 ((cs ++ ([44] : List UInt8)).length) cp10] 47, Row (.slice A10 ((cs ++ ([44] : List UInt8)).length) cp10) 5 1 byteE (cs ++ ([44] : List UInt8)), celP (Addr.add ad3 (k * 3)) [iV s5.kind, .string s5.key, .string s5.val]] [slP 3 matchE (.slice e.ms.A e.ms.l.length e.ms.c) e.ms.l, slP 1 strE (.slice e.by_.A e.by_.l.length e.by_.c) e.by_.l, slP 7 exprE (.slice e.kids.A e.kids.l.length e.kids.c) e.kids.l, allP ExprX.Ok e.kids.l, celP ead [iV e.kind, iV e.n, iV e.range, .string e.word, .slice e.ms.A e.ms.l.length e.ms.c, .slice e.by_.A e.by_.l.length e.by_.c, .slice e.kids.A e.kids.l.length e.kids.c], okP ExprX.Ok e, .pub Tab] (fun _ => .tuple #[]) (fun z10 => True) (fun z10 => [.blk b [.pointer (some ⟨b, 0, none⟩), z10] 47, Row z10 5 1 byteE ((cs ++ ([44] : List UInt8)) ++ Lg.mt s5), celP (Addr.add ad3 (k * 3)) [iV s5.kind, .string s5.key, .string s5.val]]) (fun z10 => [.blk b [.pointer (some ⟨b, 0, none⟩), z10] 47, Row z10 5 1 byteE ((cs ++ ([44] : List UInt8)) ++ Lg.mt s5), celP (Addr.add ad3 (k * 3)) [iV s5.kind, .string s5.key, .string s5.val], slP 3 matchE (.slice e.ms.A e.ms.l.length e.ms.c) e.ms.l, slP 1 strE (.slice e.by_.A e.by_.l.length e.by_.c) e.by_.l, slP 7 exprE (.slice e.kids.A e.kids.l.length e.kids.c) e.kids.l, allP ExprX.Ok e.kids.l, celP ead [iV e.kind, iV e.n, iV e.range, .string e.word, .slice e.ms.A e.ms.l.length e.ms.c, .slice e.by_.A e.by_.l.length e.by_.c, .slice e.kids.A e.kids.l.length e.kids.c], okP ExprX.Ok e, .pub Tab]) (fun _ => rfl) (fun _ h => h.sel [5, 6, 0, 1, 2, 3, 4, 7, 8, 9] (by decide) rfl) (fun _ => rfl) wn rfl rfl Tryd.call41 rfl (fun w1 Pb hG => c_match b (.pointer (some ⟨b, 0, none⟩)) (.slice A10 ((cs ++ ([44] : List UInt8)).length) cp10) (cs ++ ([44] : List UInt8)) (Addr.add ad3 (k * 3)) s5 Pb w1 hG (.inr rfl) (hwin.each _ (List.mem_of_getElem? hs5)) (by first | omega | (simp only [List.length_append, List.length_cons, List.length_nil]; omega))) fun z10 hz10 => ?_
       refine l_open 1 (l := ((cs ++ ([44] : List UInt8)) ++ Lg.mt s5)) rfl fun A11 cp11 hv11 hc20 hm20 hA20 => ?_
       subst hv11
       refine l_nil (e_in_n (e_go hK32 ?_))
       refine c_region ?_
       refine l_val wn (r_addn rfl rfl (by omega)) rfl ?_
       refine l_val wn (r_move rfl) rfl ?_
       refine l_nil (e_round3 (k + 1) ((cs ++ ([44] : List UInt8)) ++ Lg.mt s5) (.slice A11 (((cs ++ ([44] : List UInt8)) ++ Lg.mt s5).length) cp11) (sc rfl (sc rfl (sc rfl (sc (ji (by omega)) sn)))) (fun _ h => (h.sel [0, 1, 7, 8, 9] (by decide) rfl)) ?_ ?_)
       · exact ⟨by omega, by rw [hI1.2, Lg.mts_at hs5, if_neg (by omega)]; simp⟩
       omega
     refine c_skip (e_go hK34 ?_)
     refine c_region ?_
     refine l_val wn (r_move rfl) rfl ?_
     refine l_val wn (r_move rfl) rfl ?_
     refine l_val wn (r_nilCheck rfl) rfl ?_
     refine l_val wn (r_fe rfl fld26_4) rfl ?_
     refine l_val wn (r_cel 2 rfl rfl rfl flat22) rfl ?_
     refine l_val wn (r_move rfl) rfl ?_
     refine l_opn (fun _ h => h.exprX 3 rfl) ?_
     obtain ⟨hc21, hm21, hA21⟩ := hwe.ms
     obtain ⟨hc22, hm22, hA22⟩ := hwe.by_
     obtain ⟨hc23, hm23, hA23⟩ := hwe.kids
     obtain ⟨ad4, hd4⟩ := hA21 (ne_nil (i := k) (by first | omega | (simp <;> omega)))
     refine l_val wn (r_ia (i := k) rfl hd4 rfl (by omega) (by first | omega | (simp <;> omega)) Tryd.underlying22 inf74) rfl ?_
     obtain ⟨s6, hs6⟩ : ∃ x, e.ms.l[k]? = some x := ⟨_, List.getElem?_eq_getElem (by first | omega | (simp <;> omega))⟩
     refine l_opn (fun _ h => h.celAt 0 rfl hd4 hs6) ?_
     refine l_give (α := Value) [.blk b [.pointer (some ⟨b, 0, none⟩), .slice A9 cs.length cp9] 47, Row (.slice A9 cs.length cp9) 5 1 byteE cs, celP (Addr.add ad4 (k * 3)) [iV s6.kind, .string s6.key, .string s6.val]] [slP 3 matchE (.slice e.ms.A e.ms.l.length e.ms.c) e.ms.l, slP 1 strE (.slice e.by_.A e.by_.l.length e.by_.c) e.by_.l, slP 7 exprE (.slice e.kids.A e.kids.l.length e.kids.c) e.kids.l, allP ExprX.Ok e.kids.l, celP ead [iV e.kind, iV e.n, iV e.range, .string e.word, .slice e.ms.A e.ms.l.length e.ms.c, .slice e.by_.A e.by_.l.length e.by_.c, .slice e.kids.A e.kids.l.length e.kids.c], okP ExprX.Ok e, .pub Tab] (fun _ => .tuple #[]) (fun z11 => True) (fun z11 => [.blk b [.pointer (some ⟨b, 0, none⟩), z11] 47, Row z11 5 1 byteE (cs ++ Lg.mt s6), celP (Addr.add ad4 (k * 3)) [iV s6.kind, .string s6.key, .string s6.val]]) (fun z11 => [.blk b [.pointer (some ⟨b, 0, none⟩), z11] 47, Row z11 5 1 byteE (cs ++ Lg.mt s6), celP (Addr.add ad4 (k * 3)) [iV s6.kind, .string s6.key, .string s6.val], slP 3 matchE (.slice e.ms.A e.ms.l.length e.ms.c) e.ms.l, slP 1 strE (.slice e.by_.A e.by_.l.length e.by_.c) e.by_.l, slP 7 exprE (.slice e.kids.A e.kids.l.length e.kids.c) e.kids.l, allP ExprX.Ok e.kids.l, celP ead [iV e.kind, iV e.n, iV e.range, .string e.word, .slice e.ms.A e.ms.l.length e.ms.c, .slice e.by_.A e.by_.l.length e.by_.c, .slice e.kids.A e.kids.l.length e.kids.c], okP ExprX.Ok e, .pub Tab]) (fun _ => rfl) (fun _ h => h.sel [5, 6, 0, 1, 2, 3, 4, 7, 8, 9] (by decide) rfl) (fun _ => rfl) wn rfl rfl Tryd.call41 rfl (fun w1 Pb hG => c_match b (.pointer (some ⟨b, 0, none⟩)) (.slice A9 cs.length cp9) cs (Addr.add ad4 (k * 3)) s6 Pb w1 hG (.inr rfl) (hwin.each _ (List.mem_of_getElem? hs6)) (by first | omega | (simp only [List.length_append, List.length_cons, List.length_nil]; omega))) fun z11 hz11 => ?_
     refine l_open 1 (l := (cs ++ Lg.mt s6)) rfl fun A12 cp12 hv12 hc24 hm24 hA24 => ?_
     subst hv12
     refine l_nil (e_in_n (e_go hK32 ?_))
     refine c_region ?_
     refine l_val wn (r_addn rfl rfl (by omega)) rfl ?_
     refine l_val wn (r_move rfl) rfl ?_
     refine l_nil (e_round3 (k + 1) (cs ++ Lg.mt s6) (.slice A12 ((cs ++ Lg.mt s6).length) cp12) (sc rfl (sc rfl (sc rfl (sc (ji (by omega)) sn)))) (fun _ h => (h.sel [0, 1, 7, 8, 9] (by decide) rfl)) ?_ ?_)
     · exact ⟨by omega, by rw [hI1.2, Lg.mts_at hs6, if_pos (by omega)]; simp⟩
     omega
   refine c_exit (e_then_x (e_loop3_x (e_in_hit (e_go hK28 ?_))))
   refine c_quietT 10 mix (by kernel_rfl) (fun _ h => h.drew) fun _ hT5 => ?_
   have hnum : -9223372036854775808 ≤ e.range ∧ e.range ≤ 9223372036854775807 := by have := hwin.range; omega
   have hnl : (Lg.nb e.range).length ≤ 21 := Lg.nb_len ⟨by have := hwin.range; omega, by have := hwin.range; omega⟩
   refine q_val wn (r_move rfl) rfl ?_
   refine q_val wn (r_nilCheck rfl) rfl ?_
   refine q_val wn (r_fa rfl fld47_0) rfl ?_
   refine q_val wn (r_move rfl) rfl ?_
   refine q_val wn (r_nilCheck rfl) rfl ?_
   refine q_val wn (r_fe rfl fld26_2) rfl ?_
   refine q_val wn (r_cel 2 rfl rfl rfl flat3) rfl ?_
   refine q_callF wn rfl Tryd.call40 rfl (fun w1 hM => c_itoa e.range (In w1) w1 (fun _ h => h) (by first | exact hnum | omega) (hM.pubAt (i := 4) rfl)) ?_
   refine q_val wn (r_sadd rfl rfl (by simp only [bl_size, bl_app, bl_mk, List.length_append, List.length_cons, List.length_nil]; omega)) rfl ?_
   refine q_val wn (r_sadd rfl rfl (by simp only [bl_size, bl_app, bl_mk, List.length_append, List.length_cons, List.length_nil]; omega)) rfl ?_
   refine q_tail hT5 ?_
   refine l_give (α := Value) [.blk b [.pointer (some ⟨b, 0, none⟩), .slice A9 cs.length cp9] 47, Row (.slice A9 cs.length cp9) 5 1 byteE cs] [celP ead [iV e.kind, iV e.n, iV e.range, .string e.word, .slice e.ms.A e.ms.l.length e.ms.c, .slice e.by_.A e.by_.l.length e.by_.c, .slice e.kids.A e.kids.l.length e.kids.c], okP ExprX.Ok e, .pub Tab] (fun _ => .tuple #[iV ((((⟨#[125, 91]⟩ ++ (⟨(Lg.nb e.range).toArray⟩ : ByteArray)) ++ ⟨#[93, 41]⟩) : ByteArray).size : Int), .nilIface]) (fun z12 => True) (fun z12 => [.blk b [.pointer (some ⟨b, 0, none⟩), z12] 47, Row z12 5 1 byteE (cs ++ (([125, 91] : List UInt8) ++ (Lg.nb e.range) ++ ([93, 41] : List UInt8)))]) (fun z12 => [.blk b [.pointer (some ⟨b, 0, none⟩), z12] 47, Row z12 5 1 byteE (cs ++ (([125, 91] : List UInt8) ++ (Lg.nb e.range) ++ ([93, 41] : List UInt8))), celP ead [iV e.kind, iV e.n, iV e.range, .string e.word, .slice e.ms.A e.ms.l.length e.ms.c, .slice e.by_.A e.by_.l.length e.by_.c, .slice e.kids.A e.kids.l.length e.kids.c], okP ExprX.Ok e, .pub Tab]) (fun _ => rfl) (fun _ h => h.sel [0, 1, 2, 3, 4] (by decide) rfl) (fun _ => rfl) wn rfl rfl Tryd.call39 rfl (fun w1 Pb hG => c_ws b (.pointer (some ⟨b, 0, none⟩)) (.slice A9 cs.length cp9) cs ((⟨#[125, 91]⟩ ++ (⟨(Lg.nb e.range).toArray⟩ : ByteArray)) ++ ⟨#[93, 41]⟩) (([125, 91] : List UInt8) ++ (Lg.nb e.range) ++ ([93, 41] : List UInt8)) Pb w1 hG (.inr rfl) (by first | rfl | (simp only [bl_app, bl_mk]; done) | (simp only [bl_app, bl_mk]; rfl)) (by first | omega | (simp only [List.length_append, List.length_cons, List.length_nil]; omega))) fun z12 hz12 => ?_
   refine l_open 1 (l := (cs ++ (([125, 91] : List UInt8) ++ (Lg.nb e.range) ++ ([93, 41] : List UInt8)))) rfl fun A13 cp13 hv13 hc25 hm25 hA25 => ?_
   subst hv13
   refine l_nil (e_in_n (e_ret0 (.inr rfl) Tryd.results22  fun w1 hM => ?_))
   have hl9 : (cs ++ (([125, 91] : List UInt8) ++ (Lg.nb e.range) ++ ([93, 41] : List UInt8))) = (bs ++ Lg.txt e.e least) := by rw [Lg.txt_win h4, hI1.2, List.take_of_length_le (by omega)]; simp [Lg.wint]
   rw [hl9] at hM
   exact hM.retA (.slice A13 ((bs ++ Lg.txt e.e least).length) cp13) rfl trivial (fun h => h.sel [0, 1, 2, 3, 4] (by decide) rfl)
 refine c_seq fun _ hK36 => ?_
 refine c_region ?_
 refine l_val wn (r_eql rfl rfl) rfl ?_
 refine l_val wn (r_assign rfl) rfl ?_
 refine l_nil (e_go hK36 ?_)
 refine c_true rfl (decide_eq_true (by omega)) ?_
 refine c_seq fun _ hK37 => ?_
 refine c_quietT 8 mix (by kernel_rfl) (fun _ h => h.drew) fun _ hT6 => ?_
 have hall : Lg.AllR e.word e.by_.l := by have h9 := ho9; rw [(show e.kind = 3 by omega)] at h9; exact Lg.allR_of h9
 have hwl := hall.word
 rw [bl_size] at hwl
 have hkl : e.kids.l.length = 1 := by have h9 := ha9; rw [(show e.kind = 3 by omega)] at h9; simp [Lg.arity] at h9; omega
 refine q_val wn (r_move rfl) rfl ?_
 refine q_val wn (r_nilCheck rfl) rfl ?_
 refine q_val wn (r_fa rfl fld47_0) rfl ?_
 refine q_val wn (r_move rfl) rfl ?_
 refine q_val wn (r_nilCheck rfl) rfl ?_
 refine q_val wn (r_fe rfl fld26_3) rfl ?_
 refine q_val wn (r_cel 2 rfl rfl rfl flat9) rfl ?_
 refine q_val wn (r_sadd rfl rfl (by simp only [bl_size, bl_app, bl_mk, List.length_append, List.length_cons, List.length_nil]; omega)) rfl ?_
 refine q_tail hT6 ?_
 refine l_give (α := Value) [.blk b [p, .slice rA bs.length rc] 47, Row (.slice rA bs.length rc) 5 1 byteE bs] [celP ead [iV e.kind, iV e.n, iV e.range, .string e.word, .slice e.ms.A e.ms.l.length e.ms.c, .slice e.by_.A e.by_.l.length e.by_.c, .slice e.kids.A e.kids.l.length e.kids.c], okP ExprX.Ok e, .pub Tab] (fun _ => .tuple #[iV (((⟨#[97, 108, 108, 32]⟩ ++ e.word) : ByteArray).size : Int), .nilIface]) (fun z13 => True) (fun z13 => [.blk b [.pointer (some ⟨b, 0, none⟩), z13] 47, Row z13 5 1 byteE (bs ++ (([97, 108, 108, 32] : List UInt8) ++ e.word.data.toList))]) (fun z13 => [.blk b [.pointer (some ⟨b, 0, none⟩), z13] 47, Row z13 5 1 byteE (bs ++ (([97, 108, 108, 32] : List UInt8) ++ e.word.data.toList)), celP ead [iV e.kind, iV e.n, iV e.range, .string e.word, .slice e.ms.A e.ms.l.length e.ms.c, .slice e.by_.A e.by_.l.length e.by_.c, .slice e.kids.A e.kids.l.length e.kids.c], okP ExprX.Ok e, .pub Tab]) (fun _ => rfl) (fun _ h => h.sel [0, 1, 2, 3, 4] (by decide) rfl) (fun _ => rfl) wn rfl rfl Tryd.call39 rfl (fun w1 Pb hG => c_ws b p (.slice rA bs.length rc) bs (⟨#[97, 108, 108, 32]⟩ ++ e.word) (([97, 108, 108, 32] : List UInt8) ++ e.word.data.toList) Pb w1 hG hp (by first | rfl | (simp only [bl_app, bl_mk]; done) | (simp only [bl_app, bl_mk]; rfl)) (by first | omega | (simp only [List.length_append, List.length_cons, List.length_nil]; omega))) fun z13 hz13 => ?_
 refine l_open 1 (l := (bs ++ (([97, 108, 108, 32] : List UInt8) ++ e.word.data.toList))) rfl fun A14 cp14 hv14 hc26 hm26 hA26 => ?_
 subst hv14
 refine l_nil (e_go hK37 ?_)
 refine c_seq fun _ hK38 => ?_
 refine c_seq fun _ hK39 => ?_
 refine c_region ?_
 refine l_val wn (r_move rfl) rfl ?_
 refine l_val wn (r_nilCheck rfl) rfl ?_
 refine l_val wn (r_fe rfl fld26_5) rfl ?_
 refine l_val wn (r_cel 2 rfl rfl rfl flat23) rfl ?_
 refine l_val wn (r_len rfl Tryd.underlying23) rfl ?_
 refine l_val wn (r_gtr rfl rfl) rfl ?_
 refine l_nil (e_go hK39 ?_)
 refine c_cond rfl (fun h7 => ?_) (fun h7 => ?_)
 · refine c_quietT 9 mix (by kernel_rfl) (fun _ h => h.drew) fun _ hT7 => ?_
   have hjne : e.by_.l ≠ [] := fun h => by rw [h] at h7; simp at h7
   have hjl := Lg.join_len hall
   have hjlen : (Go.Lib.join (e.by_.l.map (·.data.toList)) [44]).length ≤ 1000000 := by omega
   have hbyl := hall.len
   refine q_val wn (r_move rfl) rfl ?_
   refine q_val wn (r_nilCheck rfl) rfl ?_
   refine q_val wn (r_fa rfl fld47_0) rfl ?_
   refine q_val wn (r_move rfl) rfl ?_
   refine q_val wn (r_nilCheck rfl) rfl ?_
   refine q_val wn (r_fe rfl fld26_5) rfl ?_
   refine q_val wn (r_cel 2 rfl rfl rfl flat23) rfl ?_
   refine q_opn (fun _ h => h.exprX 3 rfl) (fun _ h => h.drop1.drop1.drop1.drop1) ?_
   obtain ⟨hc27, hm27, hA27⟩ := hwe.ms
   obtain ⟨hc28, hm28, hA28⟩ := hwe.by_
   obtain ⟨hc29, hm29, hA29⟩ := hwe.kids
   refine q_callF wn rfl Tryd.call42 rfl (fun w1 hM => c_join _ e.by_.l ⟨#[44]⟩ (In w1) w1 (fun _ h => h) (hM.slp 1 rfl) (by first | exact hjne | assumption) (by omega) (by exact hjlen)) ?_
   refine q_val wn (r_sadd rfl rfl (by simp only [bl_size, bl_app, bl_mk, List.length_append, List.length_cons, List.length_nil]; omega)) rfl ?_
   refine q_tail hT7 ?_
   refine l_give (α := Value) [.blk b [.pointer (some ⟨b, 0, none⟩), .slice A14 ((bs ++ (([97, 108, 108, 32] : List UInt8) ++ e.word.data.toList)).length) cp14] 47, Row (.slice A14 ((bs ++ (([97, 108, 108, 32] : List UInt8) ++ e.word.data.toList)).length) cp14) 5 1 byteE (bs ++ (([97, 108, 108, 32] : List UInt8) ++ e.word.data.toList))] [slP 3 matchE (.slice e.ms.A e.ms.l.length e.ms.c) e.ms.l, slP 1 strE (.slice e.by_.A e.by_.l.length e.by_.c) e.by_.l, slP 7 exprE (.slice e.kids.A e.kids.l.length e.kids.c) e.kids.l, allP ExprX.Ok e.kids.l, celP ead [iV e.kind, iV e.n, iV e.range, .string e.word, .slice e.ms.A e.ms.l.length e.ms.c, .slice e.by_.A e.by_.l.length e.by_.c, .slice e.kids.A e.kids.l.length e.kids.c], okP ExprX.Ok e, .pub Tab] (fun _ => .tuple #[iV (((⟨#[32, 98, 121, 32]⟩ ++ (⟨(Go.Lib.join (e.by_.l.map (·.data.toList)) ([44] : List UInt8)).toArray⟩ : ByteArray)) : ByteArray).size : Int), .nilIface]) (fun z14 => True) (fun z14 => [.blk b [.pointer (some ⟨b, 0, none⟩), z14] 47, Row z14 5 1 byteE ((bs ++ (([97, 108, 108, 32] : List UInt8) ++ e.word.data.toList)) ++ (([32, 98, 121, 32] : List UInt8) ++ (Go.Lib.join (e.by_.l.map (·.data.toList)) ([44] : List UInt8))))]) (fun z14 => [.blk b [.pointer (some ⟨b, 0, none⟩), z14] 47, Row z14 5 1 byteE ((bs ++ (([97, 108, 108, 32] : List UInt8) ++ e.word.data.toList)) ++ (([32, 98, 121, 32] : List UInt8) ++ (Go.Lib.join (e.by_.l.map (·.data.toList)) ([44] : List UInt8)))), slP 3 matchE (.slice e.ms.A e.ms.l.length e.ms.c) e.ms.l, slP 1 strE (.slice e.by_.A e.by_.l.length e.by_.c) e.by_.l, slP 7 exprE (.slice e.kids.A e.kids.l.length e.kids.c) e.kids.l, allP ExprX.Ok e.kids.l, celP ead [iV e.kind, iV e.n, iV e.range, .string e.word, .slice e.ms.A e.ms.l.length e.ms.c, .slice e.by_.A e.by_.l.length e.by_.c, .slice e.kids.A e.kids.l.length e.kids.c], okP ExprX.Ok e, .pub Tab]) (fun _ => rfl) (fun _ h => h.sel [4, 5, 0, 1, 2, 3, 6, 7, 8] (by decide) rfl) (fun _ => rfl) wn rfl rfl Tryd.call39 rfl (fun w1 Pb hG => c_ws b (.pointer (some ⟨b, 0, none⟩)) (.slice A14 ((bs ++ (([97, 108, 108, 32] : List UInt8) ++ e.word.data.toList)).length) cp14) (bs ++ (([97, 108, 108, 32] : List UInt8) ++ e.word.data.toList)) (⟨#[32, 98, 121, 32]⟩ ++ (⟨(Go.Lib.join (e.by_.l.map (·.data.toList)) ([44] : List UInt8)).toArray⟩ : ByteArray)) (([32, 98, 121, 32] : List UInt8) ++ (Go.Lib.join (e.by_.l.map (·.data.toList)) ([44] : List UInt8))) Pb w1 hG (.inr rfl) (by first | rfl | (simp only [bl_app, bl_mk]; done) | (simp only [bl_app, bl_mk]; rfl)) (by first | omega | (simp only [List.length_append, List.length_cons, List.length_nil]; omega))) fun z14 hz14 => ?_
   refine l_open 1 (l := ((bs ++ (([97, 108, 108, 32] : List UInt8) ++ e.word.data.toList)) ++ (([32, 98, 121, 32] : List UInt8) ++ (Go.Lib.join (e.by_.l.map (·.data.toList)) ([44] : List UInt8))))) rfl fun A15 cp15 hv15 hc30 hm30 hA30 => ?_
   subst hv15
   refine l_nil (e_go hK38 ?_)
   refine c_seq fun _ hK40 => ?_
   refine c_region ?_
   refine l_val wn (r_move rfl) rfl ?_
   refine l_val wn (r_nilCheck rfl) rfl ?_
   refine l_val wn (r_fa rfl fld47_0) rfl ?_
   refine l_give (α := Value) [.blk b [.pointer (some ⟨b, 0, none⟩), .slice A15 (((bs ++ (([97, 108, 108, 32] : List UInt8) ++ e.word.data.toList)) ++ (([32, 98, 121, 32] : List UInt8) ++ (Go.Lib.join (e.by_.l.map (·.data.toList)) ([44] : List UInt8)))).length) cp15] 47, Row (.slice A15 (((bs ++ (([97, 108, 108, 32] : List UInt8) ++ e.word.data.toList)) ++ (([32, 98, 121, 32] : List UInt8) ++ (Go.Lib.join (e.by_.l.map (·.data.toList)) ([44] : List UInt8)))).length) cp15) 5 1 byteE ((bs ++ (([97, 108, 108, 32] : List UInt8) ++ e.word.data.toList)) ++ (([32, 98, 121, 32] : List UInt8) ++ (Go.Lib.join (e.by_.l.map (·.data.toList)) ([44] : List UInt8))))] [slP 3 matchE (.slice e.ms.A e.ms.l.length e.ms.c) e.ms.l, slP 1 strE (.slice e.by_.A e.by_.l.length e.by_.c) e.by_.l, slP 7 exprE (.slice e.kids.A e.kids.l.length e.kids.c) e.kids.l, allP ExprX.Ok e.kids.l, celP ead [iV e.kind, iV e.n, iV e.range, .string e.word, .slice e.ms.A e.ms.l.length e.ms.c, .slice e.by_.A e.by_.l.length e.by_.c, .slice e.kids.A e.kids.l.length e.kids.c], okP ExprX.Ok e, .pub Tab] (fun _ => .tuple #[iV ((⟨#[32, 40]⟩ : ByteArray).size : Int), .nilIface]) (fun z15 => True) (fun z15 => [.blk b [.pointer (some ⟨b, 0, none⟩), z15] 47, Row z15 5 1 byteE (((bs ++ (([97, 108, 108, 32] : List UInt8) ++ e.word.data.toList)) ++ (([32, 98, 121, 32] : List UInt8) ++ (Go.Lib.join (e.by_.l.map (·.data.toList)) ([44] : List UInt8)))) ++ ([32, 40] : List UInt8))]) (fun z15 => [.blk b [.pointer (some ⟨b, 0, none⟩), z15] 47, Row z15 5 1 byteE (((bs ++ (([97, 108, 108, 32] : List UInt8) ++ e.word.data.toList)) ++ (([32, 98, 121, 32] : List UInt8) ++ (Go.Lib.join (e.by_.l.map (·.data.toList)) ([44] : List UInt8)))) ++ ([32, 40] : List UInt8)), slP 3 matchE (.slice e.ms.A e.ms.l.length e.ms.c) e.ms.l, slP 1 strE (.slice e.by_.A e.by_.l.length e.by_.c) e.by_.l, slP 7 exprE (.slice e.kids.A e.kids.l.length e.kids.c) e.kids.l, allP ExprX.Ok e.kids.l, celP ead [iV e.kind, iV e.n, iV e.range, .string e.word, .slice e.ms.A e.ms.l.length e.ms.c, .slice e.by_.A e.by_.l.length e.by_.c, .slice e.kids.A e.kids.l.length e.kids.c], okP ExprX.Ok e, .pub Tab]) (fun _ => rfl) (fun _ h => h.sel [0, 1, 2, 3, 4, 5, 6, 7, 8] (by decide) rfl) (fun _ => rfl) wn rfl rfl Tryd.call39 rfl (fun w1 Pb hG => c_ws b (.pointer (some ⟨b, 0, none⟩)) (.slice A15 (((bs ++ (([97, 108, 108, 32] : List UInt8) ++ e.word.data.toList)) ++ (([32, 98, 121, 32] : List UInt8) ++ (Go.Lib.join (e.by_.l.map (·.data.toList)) ([44] : List UInt8)))).length) cp15) ((bs ++ (([97, 108, 108, 32] : List UInt8) ++ e.word.data.toList)) ++ (([32, 98, 121, 32] : List UInt8) ++ (Go.Lib.join (e.by_.l.map (·.data.toList)) ([44] : List UInt8)))) ⟨#[32, 40]⟩ ([32, 40] : List UInt8) Pb w1 hG (.inr rfl) (by first | rfl | (simp only [bl_app, bl_mk]; done) | (simp only [bl_app, bl_mk]; rfl)) (by first | omega | (simp only [List.length_append, List.length_cons, List.length_nil]; omega))) fun z15 hz15 => ?_
   refine l_open 1 (l := (((bs ++ (([97, 108, 108, 32] : List UInt8) ++ e.word.data.toList)) ++ (([32, 98, 121, 32] : List UInt8) ++ (Go.Lib.join (e.by_.l.map (·.data.toList)) ([44] : List UInt8)))) ++ ([32, 40] : List UInt8))) rfl fun A16 cp16 hv16 hc31 hm31 hA31 => ?_
   subst hv16
   refine l_nil (e_go hK40 ?_)
   refine c_seq fun _ hK41 => ?_
   refine c_region ?_
   refine l_val wn (r_move rfl) rfl ?_
   refine l_val wn (r_move rfl) rfl ?_
   refine l_val wn (r_nilCheck rfl) rfl ?_
   refine l_val wn (r_fe rfl fld26_6) rfl ?_
   refine l_val wn (r_cel 6 rfl rfl rfl flat24) rfl ?_
   obtain ⟨ad5, hd5⟩ := hA29 (ne_nil (i := 0) (by first | omega | (simp <;> omega)))
   refine l_val wn (r_ia (i := 0) rfl hd5 rfl (by omega) (by first | omega | (simp <;> omega)) Tryd.underlying24 inf26) rfl ?_
   obtain ⟨s7, hs7⟩ : ∃ x, e.kids.l[0]? = some x := ⟨_, List.getElem?_eq_getElem (by first | omega | (simp <;> omega))⟩
   have hnd := Lg.nodes_all hkl hs7
   have hp0 := Mn.nodes_pos s7.e
   have htl := Lg.txt_len s7.e 0 (hf9 _ (List.mem_of_getElem? hs7))
   refine l_opn (fun _ h => h.celAt 4 rfl hd5 hs7) ?_
   have hw5 := hwe.all _ (List.mem_of_getElem? hs7)
   refine l_opn (fun _ h => h.one 6 ExprX.Ok.loc rfl hs7) ?_
   refine l_give (α := Value) [.blk b [.pointer (some ⟨b, 0, none⟩), .slice A16 ((((bs ++ (([97, 108, 108, 32] : List UInt8) ++ e.word.data.toList)) ++ (([32, 98, 121, 32] : List UInt8) ++ (Go.Lib.join (e.by_.l.map (·.data.toList)) ([44] : List UInt8)))) ++ ([32, 40] : List UInt8)).length) cp16] 47, Row (.slice A16 ((((bs ++ (([97, 108, 108, 32] : List UInt8) ++ e.word.data.toList)) ++ (([32, 98, 121, 32] : List UInt8) ++ (Go.Lib.join (e.by_.l.map (·.data.toList)) ([44] : List UInt8)))) ++ ([32, 40] : List UInt8)).length) cp16) 5 1 byteE (((bs ++ (([97, 108, 108, 32] : List UInt8) ++ e.word.data.toList)) ++ (([32, 98, 121, 32] : List UInt8) ++ (Go.Lib.join (e.by_.l.map (·.data.toList)) ([44] : List UInt8)))) ++ ([32, 40] : List UInt8)), celP (Addr.add ad5 (0 * 7)) [iV s7.kind, iV s7.n, iV s7.range, .string s7.word, .slice s7.ms.A s7.ms.l.length s7.ms.c, .slice s7.by_.A s7.by_.l.length s7.by_.c, .slice s7.kids.A s7.kids.l.length s7.kids.c], okP ExprX.Ok s7, .pub Tab] [slP 3 matchE (.slice e.ms.A e.ms.l.length e.ms.c) e.ms.l, slP 1 strE (.slice e.by_.A e.by_.l.length e.by_.c) e.by_.l, slP 7 exprE (.slice e.kids.A e.kids.l.length e.kids.c) e.kids.l, allP ExprX.Ok e.kids.l, celP ead [iV e.kind, iV e.n, iV e.range, .string e.word, .slice e.ms.A e.ms.l.length e.ms.c, .slice e.by_.A e.by_.l.length e.by_.c, .slice e.kids.A e.kids.l.length e.kids.c], okP ExprX.Ok e] (fun _ => .tuple #[]) (fun z16 => True) (fun z16 => [.blk b [.pointer (some ⟨b, 0, none⟩), z16] 47, Row z16 5 1 byteE ((((bs ++ (([97, 108, 108, 32] : List UInt8) ++ e.word.data.toList)) ++ (([32, 98, 121, 32] : List UInt8) ++ (Go.Lib.join (e.by_.l.map (·.data.toList)) ([44] : List UInt8)))) ++ ([32, 40] : List UInt8)) ++ Lg.txt s7.e 0), celP (Addr.add ad5 (0 * 7)) [iV s7.kind, iV s7.n, iV s7.range, .string s7.word, .slice s7.ms.A s7.ms.l.length s7.ms.c, .slice s7.by_.A s7.by_.l.length s7.by_.c, .slice s7.kids.A s7.kids.l.length s7.kids.c], okP ExprX.Ok s7, .pub Tab]) (fun z16 => [.blk b [.pointer (some ⟨b, 0, none⟩), z16] 47, Row z16 5 1 byteE ((((bs ++ (([97, 108, 108, 32] : List UInt8) ++ e.word.data.toList)) ++ (([32, 98, 121, 32] : List UInt8) ++ (Go.Lib.join (e.by_.l.map (·.data.toList)) ([44] : List UInt8)))) ++ ([32, 40] : List UInt8)) ++ Lg.txt s7.e 0), celP (Addr.add ad5 (0 * 7)) [iV s7.kind, iV s7.n, iV s7.range, .string s7.word, .slice s7.ms.A s7.ms.l.length s7.ms.c, .slice s7.by_.A s7.by_.l.length s7.by_.c, .slice s7.kids.A s7.kids.l.length s7.kids.c], okP ExprX.Ok s7, .pub Tab, slP 3 matchE (.slice e.ms.A e.ms.l.length e.ms.c) e.ms.l, slP 1 strE (.slice e.by_.A e.by_.l.length e.by_.c) e.by_.l, slP 7 exprE (.slice e.kids.A e.kids.l.length e.kids.c) e.kids.l, allP ExprX.Ok e.kids.l, celP ead [iV e.kind, iV e.n, iV e.range, .string e.word, .slice e.ms.A e.ms.l.length e.ms.c, .slice e.by_.A e.by_.l.length e.by_.c, .slice e.kids.A e.kids.l.length e.kids.c], okP ExprX.Ok e]) (fun _ => rfl) (fun _ h => h.sel [2, 3, 1, 0, 10, 4, 5, 6, 7, 8, 9] (by decide) rfl) (fun _ => rfl) wn rfl rfl Tryd.call22 rfl (fun w1 Pb hG => ih s7 (ExprX.kid_lt (List.mem_of_getElem? hs7)) b (.pointer (some ⟨b, 0, none⟩)) (.slice A16 ((((bs ++ (([97, 108, 108, 32] : List UInt8) ++ e.word.data.toList)) ++ (([32, 98, 121, 32] : List UInt8) ++ (Go.Lib.join (e.by_.l.map (·.data.toList)) ([44] : List UInt8)))) ++ ([32, 40] : List UInt8)).length) cp16) (((bs ++ (([97, 108, 108, 32] : List UInt8) ++ e.word.data.toList)) ++ (([32, 98, 121, 32] : List UInt8) ++ (Go.Lib.join (e.by_.l.map (·.data.toList)) ([44] : List UInt8)))) ++ ([32, 40] : List UInt8)) (Addr.add ad5 (0 * 7)) 0 Pb w1 hG (.inr rfl) (hf9 _ (List.mem_of_getElem? hs7)) (by omega) (by first | omega | (simp only [List.length_append, List.length_cons, List.length_nil]; omega))) fun z16 hz16 => ?_
   refine l_open 1 (l := ((((bs ++ (([97, 108, 108, 32] : List UInt8) ++ e.word.data.toList)) ++ (([32, 98, 121, 32] : List UInt8) ++ (Go.Lib.join (e.by_.l.map (·.data.toList)) ([44] : List UInt8)))) ++ ([32, 40] : List UInt8)) ++ Lg.txt s7.e 0)) rfl fun A17 cp17 hv17 hc32 hm32 hA32 => ?_
   subst hv17
   refine l_nil (e_go hK41 ?_)
   refine c_region ?_
   refine l_val wn (r_move rfl) rfl ?_
   refine l_val wn (r_nilCheck rfl) rfl ?_
   refine l_val wn (r_fa rfl fld47_0) rfl ?_
   refine l_give (α := Value) [.blk b [.pointer (some ⟨b, 0, none⟩), .slice A17 (((((bs ++ (([97, 108, 108, 32] : List UInt8) ++ e.word.data.toList)) ++ (([32, 98, 121, 32] : List UInt8) ++ (Go.Lib.join (e.by_.l.map (·.data.toList)) ([44] : List UInt8)))) ++ ([32, 40] : List UInt8)) ++ Lg.txt s7.e 0).length) cp17] 47, Row (.slice A17 (((((bs ++ (([97, 108, 108, 32] : List UInt8) ++ e.word.data.toList)) ++ (([32, 98, 121, 32] : List UInt8) ++ (Go.Lib.join (e.by_.l.map (·.data.toList)) ([44] : List UInt8)))) ++ ([32, 40] : List UInt8)) ++ Lg.txt s7.e 0).length) cp17) 5 1 byteE ((((bs ++ (([97, 108, 108, 32] : List UInt8) ++ e.word.data.toList)) ++ (([32, 98, 121, 32] : List UInt8) ++ (Go.Lib.join (e.by_.l.map (·.data.toList)) ([44] : List UInt8)))) ++ ([32, 40] : List UInt8)) ++ Lg.txt s7.e 0)] [celP (Addr.add ad5 (0 * 7)) [iV s7.kind, iV s7.n, iV s7.range, .string s7.word, .slice s7.ms.A s7.ms.l.length s7.ms.c, .slice s7.by_.A s7.by_.l.length s7.by_.c, .slice s7.kids.A s7.kids.l.length s7.kids.c], okP ExprX.Ok s7, .pub Tab, slP 3 matchE (.slice e.ms.A e.ms.l.length e.ms.c) e.ms.l, slP 1 strE (.slice e.by_.A e.by_.l.length e.by_.c) e.by_.l, slP 7 exprE (.slice e.kids.A e.kids.l.length e.kids.c) e.kids.l, allP ExprX.Ok e.kids.l, celP ead [iV e.kind, iV e.n, iV e.range, .string e.word, .slice e.ms.A e.ms.l.length e.ms.c, .slice e.by_.A e.by_.l.length e.by_.c, .slice e.kids.A e.kids.l.length e.kids.c], okP ExprX.Ok e] (fun _ => .nilIface) (fun z17 => True) (fun z17 => [.blk b [.pointer (some ⟨b, 0, none⟩), z17] 47, Row z17 5 1 byteE (((((bs ++ (([97, 108, 108, 32] : List UInt8) ++ e.word.data.toList)) ++ (([32, 98, 121, 32] : List UInt8) ++ (Go.Lib.join (e.by_.l.map (·.data.toList)) ([44] : List UInt8)))) ++ ([32, 40] : List UInt8)) ++ Lg.txt s7.e 0) ++ ([41] : List UInt8))]) (fun z17 => [.blk b [.pointer (some ⟨b, 0, none⟩), z17] 47, Row z17 5 1 byteE (((((bs ++ (([97, 108, 108, 32] : List UInt8) ++ e.word.data.toList)) ++ (([32, 98, 121, 32] : List UInt8) ++ (Go.Lib.join (e.by_.l.map (·.data.toList)) ([44] : List UInt8)))) ++ ([32, 40] : List UInt8)) ++ Lg.txt s7.e 0) ++ ([41] : List UInt8)), celP (Addr.add ad5 (0 * 7)) [iV s7.kind, iV s7.n, iV s7.range, .string s7.word, .slice s7.ms.A s7.ms.l.length s7.ms.c, .slice s7.by_.A s7.by_.l.length s7.by_.c, .slice s7.kids.A s7.kids.l.length s7.kids.c], okP ExprX.Ok s7, .pub Tab, slP 3 matchE (.slice e.ms.A e.ms.l.length e.ms.c) e.ms.l, slP 1 strE (.slice e.by_.A e.by_.l.length e.by_.c) e.by_.l, slP 7 exprE (.slice e.kids.A e.kids.l.length e.kids.c) e.kids.l, allP ExprX.Ok e.kids.l, celP ead [iV e.kind, iV e.n, iV e.range, .string e.word, .slice e.ms.A e.ms.l.length e.ms.c, .slice e.by_.A e.by_.l.length e.by_.c, .slice e.kids.A e.kids.l.length e.kids.c], okP ExprX.Ok e]) (fun _ => rfl) (fun _ h => h.sel [0, 1, 2, 3, 4, 5, 6, 7, 8, 9, 10] (by decide) rfl) (fun _ => rfl) wn rfl rfl Tryd.call38 rfl (fun w1 Pb hG => c_wb b (.pointer (some ⟨b, 0, none⟩)) (.slice A17 (((((bs ++ (([97, 108, 108, 32] : List UInt8) ++ e.word.data.toList)) ++ (([32, 98, 121, 32] : List UInt8) ++ (Go.Lib.join (e.by_.l.map (·.data.toList)) ([44] : List UInt8)))) ++ ([32, 40] : List UInt8)) ++ Lg.txt s7.e 0).length) cp17) ((((bs ++ (([97, 108, 108, 32] : List UInt8) ++ e.word.data.toList)) ++ (([32, 98, 121, 32] : List UInt8) ++ (Go.Lib.join (e.by_.l.map (·.data.toList)) ([44] : List UInt8)))) ++ ([32, 40] : List UInt8)) ++ Lg.txt s7.e 0) 41 41 Pb w1 hG (.inr rfl) (by first | rfl | decide) (by first | omega | (simp only [List.length_append, List.length_cons, List.length_nil]; omega))) fun z17 hz17 => ?_
   refine l_open 1 (l := (((((bs ++ (([97, 108, 108, 32] : List UInt8) ++ e.word.data.toList)) ++ (([32, 98, 121, 32] : List UInt8) ++ (Go.Lib.join (e.by_.l.map (·.data.toList)) ([44] : List UInt8)))) ++ ([32, 40] : List UInt8)) ++ Lg.txt s7.e 0) ++ ([41] : List UInt8))) rfl fun A18 cp18 hv18 hc33 hm33 hA33 => ?_
   subst hv18
   refine l_nil (e_in_n (e_ret0 (.inr rfl) Tryd.results22  fun w1 hM => ?_))
   have hl9 : (((((bs ++ (([97, 108, 108, 32] : List UInt8) ++ e.word.data.toList)) ++ (([32, 98, 121, 32] : List UInt8) ++ (Go.Lib.join (e.by_.l.map (·.data.toList)) ([44] : List UInt8)))) ++ ([32, 40] : List UInt8)) ++ Lg.txt s7.e 0) ++ ([41] : List UInt8)) = (bs ++ Lg.txt e.e least) := by rw [Lg.txt_all (show e.kind = 3 by omega) hs7, ← Lg.bys_join hjne]; simp
   rw [hl9] at hM
   exact hM.retA (.slice A18 ((bs ++ Lg.txt e.e least).length) cp18) rfl trivial (fun h => h.sel [0, 1, 9, 10, 4] (by decide) rfl)
 refine c_skip (e_go hK38 ?_)
 refine c_seq fun _ hK42 => ?_
 refine c_region ?_
 refine l_val wn (r_move rfl) rfl ?_
 refine l_val wn (r_nilCheck rfl) rfl ?_
 refine l_val wn (r_fa rfl fld47_0) rfl ?_
 refine l_give (α := Value) [.blk b [.pointer (some ⟨b, 0, none⟩), .slice A14 ((bs ++ (([97, 108, 108, 32] : List UInt8) ++ e.word.data.toList)).length) cp14] 47, Row (.slice A14 ((bs ++ (([97, 108, 108, 32] : List UInt8) ++ e.word.data.toList)).length) cp14) 5 1 byteE (bs ++ (([97, 108, 108, 32] : List UInt8) ++ e.word.data.toList))] [celP ead [iV e.kind, iV e.n, iV e.range, .string e.word, .slice e.ms.A e.ms.l.length e.ms.c, .slice e.by_.A e.by_.l.length e.by_.c, .slice e.kids.A e.kids.l.length e.kids.c], okP ExprX.Ok e, .pub Tab] (fun _ => .tuple #[iV ((⟨#[32, 40]⟩ : ByteArray).size : Int), .nilIface]) (fun z18 => True) (fun z18 => [.blk b [.pointer (some ⟨b, 0, none⟩), z18] 47, Row z18 5 1 byteE ((bs ++ (([97, 108, 108, 32] : List UInt8) ++ e.word.data.toList)) ++ ([32, 40] : List UInt8))]) (fun z18 => [.blk b [.pointer (some ⟨b, 0, none⟩), z18] 47, Row z18 5 1 byteE ((bs ++ (([97, 108, 108, 32] : List UInt8) ++ e.word.data.toList)) ++ ([32, 40] : List UInt8)), celP ead [iV e.kind, iV e.n, iV e.range, .string e.word, .slice e.ms.A e.ms.l.length e.ms.c, .slice e.by_.A e.by_.l.length e.by_.c, .slice e.kids.A e.kids.l.length e.kids.c], okP ExprX.Ok e, .pub Tab]) (fun _ => rfl) (fun _ h => h.sel [0, 1, 2, 3, 4] (by decide) rfl) (fun _ => rfl) wn rfl rfl Tryd.call39 rfl (fun w1 Pb hG => c_ws b (.pointer (some ⟨b, 0, none⟩)) (.slice A14 ((bs ++ (([97, 108, 108, 32] : List UInt8) ++ e.word.data.toList)).length) cp14) (bs ++ (([97, 108, 108, 32] : List UInt8) ++ e.word.data.toList)) ⟨#[32, 40]⟩ ([32, 40] : List UInt8) Pb w1 hG (.inr rfl) (by first | rfl | (simp only [bl_app, bl_mk]; done) | (simp only [bl_app, bl_mk]; rfl)) (by first | omega | (simp only [List.length_append, List.length_cons, List.length_nil]; omega))) fun z18 hz18 => ?_
 refine l_open 1 (l := ((bs ++ (([97, 108, 108, 32] : List UInt8) ++ e.word.data.toList)) ++ ([32, 40] : List UInt8))) rfl fun A19 cp19 hv19 hc34 hm34 hA34 => ?_
 subst hv19
 refine l_nil (e_go hK42 ?_)
 refine c_seq fun _ hK43 => ?_
 refine c_region ?_
 refine l_val wn (r_move rfl) rfl ?_
 refine l_val wn (r_move rfl) rfl ?_
 refine l_val wn (r_nilCheck rfl) rfl ?_
 refine l_val wn (r_fe rfl fld26_6) rfl ?_
 refine l_val wn (r_cel 2 rfl rfl rfl flat24) rfl ?_
 refine l_opn (fun _ h => h.exprX 3 rfl) ?_
 obtain ⟨hc35, hm35, hA35⟩ := hwe.ms
 obtain ⟨hc36, hm36, hA36⟩ := hwe.by_
 obtain ⟨hc37, hm37, hA37⟩ := hwe.kids
 obtain ⟨ad6, hd6⟩ := hA37 (ne_nil (i := 0) (by first | omega | (simp <;> omega)))
 refine l_val wn (r_ia (i := 0) rfl hd6 rfl (by omega) (by first | omega | (simp <;> omega)) Tryd.underlying24 inf26) rfl ?_
 obtain ⟨s8, hs8⟩ : ∃ x, e.kids.l[0]? = some x := ⟨_, List.getElem?_eq_getElem (by first | omega | (simp <;> omega))⟩
 have hnd := Lg.nodes_all hkl hs8
 have hp0 := Mn.nodes_pos s8.e
 have htl := Lg.txt_len s8.e 0 (hf9 _ (List.mem_of_getElem? hs8))
 refine l_opn (fun _ h => h.celAt 2 rfl hd6 hs8) ?_
 have hw6 := hwe.all _ (List.mem_of_getElem? hs8)
 refine l_opn (fun _ h => h.one 4 ExprX.Ok.loc rfl hs8) ?_
 refine l_give (α := Value) [.blk b [.pointer (some ⟨b, 0, none⟩), .slice A19 (((bs ++ (([97, 108, 108, 32] : List UInt8) ++ e.word.data.toList)) ++ ([32, 40] : List UInt8)).length) cp19] 47, Row (.slice A19 (((bs ++ (([97, 108, 108, 32] : List UInt8) ++ e.word.data.toList)) ++ ([32, 40] : List UInt8)).length) cp19) 5 1 byteE ((bs ++ (([97, 108, 108, 32] : List UInt8) ++ e.word.data.toList)) ++ ([32, 40] : List UInt8)), celP (Addr.add ad6 (0 * 7)) [iV s8.kind, iV s8.n, iV s8.range, .string s8.word, .slice s8.ms.A s8.ms.l.length s8.ms.c, .slice s8.by_.A s8.by_.l.length s8.by_.c, .slice s8.kids.A s8.kids.l.length s8.kids.c], okP ExprX.Ok s8, .pub Tab] [slP 3 matchE (.slice e.ms.A e.ms.l.length e.ms.c) e.ms.l, slP 1 strE (.slice e.by_.A e.by_.l.length e.by_.c) e.by_.l, slP 7 exprE (.slice e.kids.A e.kids.l.length e.kids.c) e.kids.l, allP ExprX.Ok e.kids.l, celP ead [iV e.kind, iV e.n, iV e.range, .string e.word, .slice e.ms.A e.ms.l.length e.ms.c, .slice e.by_.A e.by_.l.length e.by_.c, .slice e.kids.A e.kids.l.length e.kids.c], okP ExprX.Ok e] (fun _ => .tuple #[]) (fun z19 => True) (fun z19 => [.blk b [.pointer (some ⟨b, 0, none⟩), z19] 47, Row z19 5 1 byteE (((bs ++ (([97, 108, 108, 32] : List UInt8) ++ e.word.data.toList)) ++ ([32, 40] : List UInt8)) ++ Lg.txt s8.e 0), celP (Addr.add ad6 (0 * 7)) [iV s8.kind, iV s8.n, iV s8.range, .string s8.word, .slice s8.ms.A s8.ms.l.length s8.ms.c, .slice s8.by_.A s8.by_.l.length s8.by_.c, .slice s8.kids.A s8.kids.l.length s8.kids.c], okP ExprX.Ok s8, .pub Tab]) (fun z19 => [.blk b [.pointer (some ⟨b, 0, none⟩), z19] 47, Row z19 5 1 byteE (((bs ++ (([97, 108, 108, 32] : List UInt8) ++ e.word.data.toList)) ++ ([32, 40] : List UInt8)) ++ Lg.txt s8.e 0), celP (Addr.add ad6 (0 * 7)) [iV s8.kind, iV s8.n, iV s8.range, .string s8.word, .slice s8.ms.A s8.ms.l.length s8.ms.c, .slice s8.by_.A s8.by_.l.length s8.by_.c, .slice s8.kids.A s8.kids.l.length s8.kids.c], okP ExprX.Ok s8, .pub Tab, slP 3 matchE (.slice e.ms.A e.ms.l.length e.ms.c) e.ms.l, slP 1 strE (.slice e.by_.A e.by_.l.length e.by_.c) e.by_.l, slP 7 exprE (.slice e.kids.A e.kids.l.length e.kids.c) e.kids.l, allP ExprX.Ok e.kids.l, celP ead [iV e.kind, iV e.n, iV e.range, .string e.word, .slice e.ms.A e.ms.l.length e.ms.c, .slice e.by_.A e.by_.l.length e.by_.c, .slice e.kids.A e.kids.l.length e.kids.c], okP ExprX.Ok e]) (fun _ => rfl) (fun _ h => h.sel [6, 7, 1, 0, 10, 2, 3, 4, 5, 8, 9] (by decide) rfl) (fun _ => rfl) wn rfl rfl Tryd.call22 rfl (fun w1 Pb hG => ih s8 (ExprX.kid_lt (List.mem_of_getElem? hs8)) b (.pointer (some ⟨b, 0, none⟩)) (.slice A19 (((bs ++ (([97, 108, 108, 32] : List UInt8) ++ e.word.data.toList)) ++ ([32, 40] : List UInt8)).length) cp19) ((bs ++ (([97, 108, 108, 32] : List UInt8) ++ e.word.data.toList)) ++ ([32, 40] : List UInt8)) (Addr.add ad6 (0 * 7)) 0 Pb w1 hG (.inr rfl) (hf9 _ (List.mem_of_getElem? hs8)) (by omega) (by first | omega | (simp only [List.length_append, List.length_cons, List.length_nil]; omega))) fun z19 hz19 => ?_
 refine l_open 1 (l := (((bs ++ (([97, 108, 108, 32] : List UInt8) ++ e.word.data.toList)) ++ ([32, 40] : List UInt8)) ++ Lg.txt s8.e 0)) rfl fun A20 cp20 hv20 hc38 hm38 hA38 => ?_
 subst hv20
 refine l_nil (e_go hK43 ?_)
 refine c_region ?_
 refine l_val wn (r_move rfl) rfl ?_
 refine l_val wn (r_nilCheck rfl) rfl ?_
 refine l_val wn (r_fa rfl fld47_0) rfl ?_
 refine l_give (α := Value) [.blk b [.pointer (some ⟨b, 0, none⟩), .slice A20 ((((bs ++ (([97, 108, 108, 32] : List UInt8) ++ e.word.data.toList)) ++ ([32, 40] : List UInt8)) ++ Lg.txt s8.e 0).length) cp20] 47, Row (.slice A20 ((((bs ++ (([97, 108, 108, 32] : List UInt8) ++ e.word.data.toList)) ++ ([32, 40] : List UInt8)) ++ Lg.txt s8.e 0).length) cp20) 5 1 byteE (((bs ++ (([97, 108, 108, 32] : List UInt8) ++ e.word.data.toList)) ++ ([32, 40] : List UInt8)) ++ Lg.txt s8.e 0)] [celP (Addr.add ad6 (0 * 7)) [iV s8.kind, iV s8.n, iV s8.range, .string s8.word, .slice s8.ms.A s8.ms.l.length s8.ms.c, .slice s8.by_.A s8.by_.l.length s8.by_.c, .slice s8.kids.A s8.kids.l.length s8.kids.c], okP ExprX.Ok s8, .pub Tab, slP 3 matchE (.slice e.ms.A e.ms.l.length e.ms.c) e.ms.l, slP 1 strE (.slice e.by_.A e.by_.l.length e.by_.c) e.by_.l, slP 7 exprE (.slice e.kids.A e.kids.l.length e.kids.c) e.kids.l, allP ExprX.Ok e.kids.l, celP ead [iV e.kind, iV e.n, iV e.range, .string e.word, .slice e.ms.A e.ms.l.length e.ms.c, .slice e.by_.A e.by_.l.length e.by_.c, .slice e.kids.A e.kids.l.length e.kids.c], okP ExprX.Ok e] (fun _ => .nilIface) (fun z20 => True) (fun z20 => [.blk b [.pointer (some ⟨b, 0, none⟩), z20] 47, Row z20 5 1 byteE ((((bs ++ (([97, 108, 108, 32] : List UInt8) ++ e.word.data.toList)) ++ ([32, 40] : List UInt8)) ++ Lg.txt s8.e 0) ++ ([41] : List UInt8))]) (fun z20 => [.blk b [.pointer (some ⟨b, 0, none⟩), z20] 47, Row z20 5 1 byteE ((((bs ++ (([97, 108, 108, 32] : List UInt8) ++ e.word.data.toList)) ++ ([32, 40] : List UInt8)) ++ Lg.txt s8.e 0) ++ ([41] : List UInt8)), celP (Addr.add ad6 (0 * 7)) [iV s8.kind, iV s8.n, iV s8.range, .string s8.word, .slice s8.ms.A s8.ms.l.length s8.ms.c, .slice s8.by_.A s8.by_.l.length s8.by_.c, .slice s8.kids.A s8.kids.l.length s8.kids.c], okP ExprX.Ok s8, .pub Tab, slP 3 matchE (.slice e.ms.A e.ms.l.length e.ms.c) e.ms.l, slP 1 strE (.slice e.by_.A e.by_.l.length e.by_.c) e.by_.l, slP 7 exprE (.slice e.kids.A e.kids.l.length e.kids.c) e.kids.l, allP ExprX.Ok e.kids.l, celP ead [iV e.kind, iV e.n, iV e.range, .string e.word, .slice e.ms.A e.ms.l.length e.ms.c, .slice e.by_.A e.by_.l.length e.by_.c, .slice e.kids.A e.kids.l.length e.kids.c], okP ExprX.Ok e]) (fun _ => rfl) (fun _ h => h.sel [0, 1, 2, 3, 4, 5, 6, 7, 8, 9, 10] (by decide) rfl) (fun _ => rfl) wn rfl rfl Tryd.call38 rfl (fun w1 Pb hG => c_wb b (.pointer (some ⟨b, 0, none⟩)) (.slice A20 ((((bs ++ (([97, 108, 108, 32] : List UInt8) ++ e.word.data.toList)) ++ ([32, 40] : List UInt8)) ++ Lg.txt s8.e 0).length) cp20) (((bs ++ (([97, 108, 108, 32] : List UInt8) ++ e.word.data.toList)) ++ ([32, 40] : List UInt8)) ++ Lg.txt s8.e 0) 41 41 Pb w1 hG (.inr rfl) (by first | rfl | decide) (by first | omega | (simp only [List.length_append, List.length_cons, List.length_nil]; omega))) fun z20 hz20 => ?_
 refine l_open 1 (l := ((((bs ++ (([97, 108, 108, 32] : List UInt8) ++ e.word.data.toList)) ++ ([32, 40] : List UInt8)) ++ Lg.txt s8.e 0) ++ ([41] : List UInt8))) rfl fun A21 cp21 hv21 hc39 hm39 hA39 => ?_
 subst hv21
 refine l_nil (e_in_n (e_ret0 (.inr rfl) Tryd.results22  fun w1 hM => ?_))
 have hl9 : ((((bs ++ (([97, 108, 108, 32] : List UInt8) ++ e.word.data.toList)) ++ ([32, 40] : List UInt8)) ++ Lg.txt s8.e 0) ++ ([41] : List UInt8)) = (bs ++ Lg.txt e.e least) := by rw [Lg.txt_all (show e.kind = 3 by omega) hs8, show e.by_.l = [] from List.eq_nil_of_length_eq_zero (by omega)]; simp [Lg.bys]
 rw [hl9] at hM
 exact hM.retA (.slice A21 ((bs ++ Lg.txt e.e least).length) cp21) rfl trivial (fun h => h.sel [0, 1, 9, 10, 4] (by decide) rfl)

set_option maxHeartbeats 2000000 in
theorem c_at_par (b : Nat) (p : Value) (v : Value) (bs : List UInt8) (ead : Addr) (e : ExprX) (least : Int) (Pb : Nat → Prop) (w : World) (hG : Mem w ⟨fpOf [.blk b [p, v] 47, Row v 5 1 byteE bs, celP ead [iV e.kind, iV e.n, iV e.range, .string e.word, .slice e.ms.A e.ms.l.length e.ms.c, .slice e.by_.A e.by_.l.length e.by_.c, .slice e.kids.A e.kids.l.length e.kids.c], okP ExprX.Ok e, .pub Tab], Pb⟩ [.blk b [p, v] 47, Row v 5 1 byteE bs, celP ead [iV e.kind, iV e.n, iV e.range, .string e.word, .slice e.ms.A e.ms.l.length e.ms.c, .slice e.by_.A e.by_.l.length e.by_.c, .slice e.kids.A e.kids.l.length e.kids.c], okP ExprX.Ok e, .pub Tab] w) (hp : p = .pointer none ∨ p = .pointer (some ⟨b, 0, none⟩)) (hfine : Mn.fineE e.e) (hl : 0 ≤ least ∧ least ≤ 2) (hbl : (bs.length : Int) + 250 * Mn.nodes e.e ≤ 1000000) (hlv : e.kind = 4 ∧ Lg.lv e.word < least) (ih : ∀ k : ExprX, SizeOf.sizeOf k < SizeOf.sizeOf e → c_at_C k) :
    Calls Tryd.prog 22 #[.pointer (some ⟨b, 0, none⟩), .pointer (some ((Addr.add ead 0).add 0)), iV least] w (RetA w [.blk b [p, v] 47, Row v 5 1 byteE bs, celP ead [iV e.kind, iV e.n, iV e.range, .string e.word, .slice e.ms.A e.ms.l.length e.ms.c, .slice e.by_.A e.by_.l.length e.by_.c, .slice e.kids.A e.kids.l.length e.kids.c], okP ExprX.Ok e, .pub Tab] Pb (fun _ : Value => .tuple #[]) (fun _ => True) (fun z => [.blk b [.pointer (some ⟨b, 0, none⟩), z] 47, Row z 5 1 byteE (bs ++ Lg.txt e.e least), celP ead [iV e.kind, iV e.n, iV e.range, .string e.word, .slice e.ms.A e.ms.l.length e.ms.c, .slice e.by_.A e.by_.l.length e.by_.c, .slice e.kids.A e.kids.l.length e.kids.c], okP ExprX.Ok e, .pub Tab])) := by
 obtain ⟨rA, rc, rfl, hrc, hrm, hrA⟩ := row_form' (hG.row (i := 1) rfl)
 have htn := Mn.nodes_pos e.e
 have hwe := (hG.pubAt (i := 3) rfl).wf
 obtain ⟨hk9, ha9, ho9, hf9⟩ := Lg.fine_x hfine
 have htl := Lg.txt_len e.e 0 hfine
 have hbl0 := hbl
 refine fstart (N := 161) (vals := [.pointer (some ⟨b, 0, none⟩), .pointer (some ((Addr.add ead 0).add 0)), iV least]) (S := Mem w ⟨fpOf [.blk b [p, .slice rA bs.length rc] 47, Row (.slice rA bs.length rc) 5 1 byteE bs, celP ead [iV e.kind, iV e.n, iV e.range, .string e.word, .slice e.ms.A e.ms.l.length e.ms.c, .slice e.by_.A e.by_.l.length e.by_.c, .slice e.kids.A e.kids.l.length e.kids.c], okP ExprX.Ok e, .pub Tab], Pb⟩ [.blk b [p, .slice rA bs.length rc] 47, Row (.slice rA bs.length rc) 5 1 byteE bs, celP ead [iV e.kind, iV e.n, iV e.range, .string e.word, .slice e.ms.A e.ms.l.length e.ms.c, .slice e.by_.A e.by_.l.length e.by_.c, .slice e.kids.A e.kids.l.length e.kids.c], okP ExprX.Ok e, .pub Tab]) Tryd.func22 rfl rfl rfl hG ?_
 refine c_seq fun _ hK1 => ?_
 refine c_region ?_
 refine l_val wn (r_assign rfl) rfl ?_
 refine l_nil (e_go hK1 ?_)
 refine c_seq fun _ hK2 => ?_
 refine c_seq fun _ hK3 => ?_
 refine c_region ?_
 refine l_val wn (r_move rfl) rfl ?_
 refine l_val wn (r_nilCheck rfl) rfl ?_
 refine l_val wn (r_fe rfl fld26_0) rfl ?_
 refine l_val wn (r_cel 2 rfl rfl rfl flat3) rfl ?_
 refine l_val wn (r_eql rfl rfl) rfl ?_
 refine l_nil (e_go hK3 ?_)
 refine c_true rfl (decide_eq_true hlv.1) ?_
 refine c_seq fun _ hK4 => ?_
 refine c_region ?_
 refine l_val wn (r_assign rfl) rfl ?_
 refine l_nil (e_go hK4 ?_)
 refine c_seq fun _ hK5 => ?_
 refine c_region ?_
 refine l_val wn (r_move rfl) rfl ?_
 refine l_val wn (r_nilCheck rfl) rfl ?_
 refine l_val wn (r_fe rfl fld26_3) rfl ?_
 refine l_val wn (r_cel 2 rfl rfl rfl flat9) rfl ?_
 refine l_val wn (r_seql rfl rfl) rfl ?_
 refine l_nil (e_go hK5 ?_)
 refine c_cond rfl (fun h1 => ?_) (fun h1 => ?_)
 · refine c_region ?_
   refine l_val wn (r_assign rfl) rfl ?_
   refine l_nil (e_go hK2 ?_)
   refine c_seq fun _ hK6 => ?_
   refine c_seq fun _ hK7 => ?_
   refine c_region ?_
   refine l_val wn (r_move rfl) rfl ?_
   refine l_val wn (r_move rfl) rfl ?_
   refine l_val wn (r_lss rfl rfl) rfl ?_
   refine l_nil (e_go hK7 ?_)
   refine c_true rfl (decide_eq_true (by have h9 := hlv.2; unfold Lg.lv at h9; rw [if_pos h1] at h9; exact h9)) ?_
   refine c_seq fun _ hK8 => ?_
   refine c_region ?_
   refine l_val wn (r_move rfl) rfl ?_
   refine l_val wn (r_nilCheck rfl) rfl ?_
   refine l_val wn (r_fa rfl fld47_0) rfl ?_
   refine l_give (α := Value) [.blk b [p, .slice rA bs.length rc] 47, Row (.slice rA bs.length rc) 5 1 byteE bs] [celP ead [iV e.kind, iV e.n, iV e.range, .string e.word, .slice e.ms.A e.ms.l.length e.ms.c, .slice e.by_.A e.by_.l.length e.by_.c, .slice e.kids.A e.kids.l.length e.kids.c], okP ExprX.Ok e, .pub Tab] (fun _ => .nilIface) (fun z1 => True) (fun z1 => [.blk b [.pointer (some ⟨b, 0, none⟩), z1] 47, Row z1 5 1 byteE (bs ++ ([40] : List UInt8))]) (fun z1 => [.blk b [.pointer (some ⟨b, 0, none⟩), z1] 47, Row z1 5 1 byteE (bs ++ ([40] : List UInt8)), celP ead [iV e.kind, iV e.n, iV e.range, .string e.word, .slice e.ms.A e.ms.l.length e.ms.c, .slice e.by_.A e.by_.l.length e.by_.c, .slice e.kids.A e.kids.l.length e.kids.c], okP ExprX.Ok e, .pub Tab]) (fun _ => rfl) (fun _ h => h.sel [0, 1, 2, 3, 4] (by decide) rfl) (fun _ => rfl) wn rfl rfl Tryd.call38 rfl (fun w1 Pb hG => c_wb b p (.slice rA bs.length rc) bs 40 40 Pb w1 hG hp (by first | rfl | decide) (by first | omega | (simp only [List.length_append, List.length_cons, List.length_nil]; omega))) fun z1 hz1 => ?_
   refine l_open 1 (l := (bs ++ ([40] : List UInt8))) rfl fun A1 cp1 hv1 hc1 hm1 hA1 => ?_
   subst hv1
   refine l_nil (e_go hK8 ?_)
   refine c_seq fun _ hK9 => ?_
   refine c_region ?_
   refine l_val wn (r_move rfl) rfl ?_
   refine l_val wn (r_move rfl) rfl ?_
   refine l_give (α := Value) [.blk b [.pointer (some ⟨b, 0, none⟩), .slice A1 ((bs ++ ([40] : List UInt8)).length) cp1] 47, Row (.slice A1 ((bs ++ ([40] : List UInt8)).length) cp1) 5 1 byteE (bs ++ ([40] : List UInt8)), celP ead [iV e.kind, iV e.n, iV e.range, .string e.word, .slice e.ms.A e.ms.l.length e.ms.c, .slice e.by_.A e.by_.l.length e.by_.c, .slice e.kids.A e.kids.l.length e.kids.c], okP ExprX.Ok e, .pub Tab] [] (fun _ => .tuple #[]) (fun z2 => True) (fun z2 => [.blk b [.pointer (some ⟨b, 0, none⟩), z2] 47, Row z2 5 1 byteE ((bs ++ ([40] : List UInt8)) ++ Lg.txt e.e 0), celP ead [iV e.kind, iV e.n, iV e.range, .string e.word, .slice e.ms.A e.ms.l.length e.ms.c, .slice e.by_.A e.by_.l.length e.by_.c, .slice e.kids.A e.kids.l.length e.kids.c], okP ExprX.Ok e, .pub Tab]) (fun z2 => [.blk b [.pointer (some ⟨b, 0, none⟩), z2] 47, Row z2 5 1 byteE ((bs ++ ([40] : List UInt8)) ++ Lg.txt e.e 0), celP ead [iV e.kind, iV e.n, iV e.range, .string e.word, .slice e.ms.A e.ms.l.length e.ms.c, .slice e.by_.A e.by_.l.length e.by_.c, .slice e.kids.A e.kids.l.length e.kids.c], okP ExprX.Ok e, .pub Tab]) (fun _ => rfl) (fun _ h => h.sel [0, 1, 2, 3, 4] (by decide) rfl) (fun _ => rfl) wn rfl rfl Tryd.call22 rfl (fun w1 Pb hG => c_at_core b (.pointer (some ⟨b, 0, none⟩)) (.slice A1 ((bs ++ ([40] : List UInt8)).length) cp1) (bs ++ ([40] : List UInt8)) ead e 0 Pb w1 hG (.inr rfl) hfine (by omega) (by first | omega | (simp only [List.length_append, List.length_cons, List.length_nil]; omega)) (fun h => absurd h.2 (Lg.lv_pos e.word)) ih) fun z2 hz2 => ?_
   refine l_open 1 (l := ((bs ++ ([40] : List UInt8)) ++ Lg.txt e.e 0)) rfl fun A2 cp2 hv2 hc2 hm2 hA2 => ?_
   subst hv2
   refine l_nil (e_go hK9 ?_)
   refine c_seq fun _ hK10 => ?_
   refine c_region ?_
   refine l_val wn (r_move rfl) rfl ?_
   refine l_val wn (r_nilCheck rfl) rfl ?_
   refine l_val wn (r_fa rfl fld47_0) rfl ?_
   refine l_give (α := Value) [.blk b [.pointer (some ⟨b, 0, none⟩), .slice A2 (((bs ++ ([40] : List UInt8)) ++ Lg.txt e.e 0).length) cp2] 47, Row (.slice A2 (((bs ++ ([40] : List UInt8)) ++ Lg.txt e.e 0).length) cp2) 5 1 byteE ((bs ++ ([40] : List UInt8)) ++ Lg.txt e.e 0)] [celP ead [iV e.kind, iV e.n, iV e.range, .string e.word, .slice e.ms.A e.ms.l.length e.ms.c, .slice e.by_.A e.by_.l.length e.by_.c, .slice e.kids.A e.kids.l.length e.kids.c], okP ExprX.Ok e, .pub Tab] (fun _ => .nilIface) (fun z3 => True) (fun z3 => [.blk b [.pointer (some ⟨b, 0, none⟩), z3] 47, Row z3 5 1 byteE (((bs ++ ([40] : List UInt8)) ++ Lg.txt e.e 0) ++ ([41] : List UInt8))]) (fun z3 => [.blk b [.pointer (some ⟨b, 0, none⟩), z3] 47, Row z3 5 1 byteE (((bs ++ ([40] : List UInt8)) ++ Lg.txt e.e 0) ++ ([41] : List UInt8)), celP ead [iV e.kind, iV e.n, iV e.range, .string e.word, .slice e.ms.A e.ms.l.length e.ms.c, .slice e.by_.A e.by_.l.length e.by_.c, .slice e.kids.A e.kids.l.length e.kids.c], okP ExprX.Ok e, .pub Tab]) (fun _ => rfl) (fun _ h => h.sel [0, 1, 2, 3, 4] (by decide) rfl) (fun _ => rfl) wn rfl rfl Tryd.call38 rfl (fun w1 Pb hG => c_wb b (.pointer (some ⟨b, 0, none⟩)) (.slice A2 (((bs ++ ([40] : List UInt8)) ++ Lg.txt e.e 0).length) cp2) ((bs ++ ([40] : List UInt8)) ++ Lg.txt e.e 0) 41 41 Pb w1 hG (.inr rfl) (by first | rfl | decide) (by first | omega | (simp only [List.length_append, List.length_cons, List.length_nil]; omega))) fun z3 hz3 => ?_
   refine l_open 1 (l := (((bs ++ ([40] : List UInt8)) ++ Lg.txt e.e 0) ++ ([41] : List UInt8))) rfl fun A3 cp3 hv3 hc3 hm3 hA3 => ?_
   subst hv3
   refine l_nil (e_go hK10 ?_)
   refine c_ret (e_then_r (e_ret0 (.inl rfl) Tryd.results22  fun w1 hM => ?_))
   have hl9 : (((bs ++ ([40] : List UInt8)) ++ Lg.txt e.e 0) ++ ([41] : List UInt8)) = (bs ++ Lg.txt e.e least) := by rw [Lg.txt_par hlv.1 hlv.2]; simp
   rw [hl9] at hM
   exact hM.retA (.slice A3 ((bs ++ Lg.txt e.e least).length) cp3) rfl trivial (fun h => h.sel [0, 1, 2, 3, 4] (by decide) rfl)
 refine c_skip (e_go hK2 ?_)
 refine c_seq fun _ hK11 => ?_
 refine c_seq fun _ hK12 => ?_
 refine c_region ?_
 refine l_val wn (r_move rfl) rfl ?_
 refine l_val wn (r_move rfl) rfl ?_
 refine l_val wn (r_lss rfl rfl) rfl ?_
 refine l_nil (e_go hK12 ?_)
 refine c_true rfl (decide_eq_true (by have h9 := hlv.2; unfold Lg.lv at h9; rw [if_neg h1] at h9; exact h9)) ?_
 refine c_seq fun _ hK13 => ?_
 refine c_region ?_
 refine l_val wn (r_move rfl) rfl ?_
 refine l_val wn (r_nilCheck rfl) rfl ?_
 refine l_val wn (r_fa rfl fld47_0) rfl ?_
 refine l_give (α := Value) [.blk b [p, .slice rA bs.length rc] 47, Row (.slice rA bs.length rc) 5 1 byteE bs] [celP ead [iV e.kind, iV e.n, iV e.range, .string e.word, .slice e.ms.A e.ms.l.length e.ms.c, .slice e.by_.A e.by_.l.length e.by_.c, .slice e.kids.A e.kids.l.length e.kids.c], okP ExprX.Ok e, .pub Tab] (fun _ => .nilIface) (fun z4 => True) (fun z4 => [.blk b [.pointer (some ⟨b, 0, none⟩), z4] 47, Row z4 5 1 byteE (bs ++ ([40] : List UInt8))]) (fun z4 => [.blk b [.pointer (some ⟨b, 0, none⟩), z4] 47, Row z4 5 1 byteE (bs ++ ([40] : List UInt8)), celP ead [iV e.kind, iV e.n, iV e.range, .string e.word, .slice e.ms.A e.ms.l.length e.ms.c, .slice e.by_.A e.by_.l.length e.by_.c, .slice e.kids.A e.kids.l.length e.kids.c], okP ExprX.Ok e, .pub Tab]) (fun _ => rfl) (fun _ h => h.sel [0, 1, 2, 3, 4] (by decide) rfl) (fun _ => rfl) wn rfl rfl Tryd.call38 rfl (fun w1 Pb hG => c_wb b p (.slice rA bs.length rc) bs 40 40 Pb w1 hG hp (by first | rfl | decide) (by first | omega | (simp only [List.length_append, List.length_cons, List.length_nil]; omega))) fun z4 hz4 => ?_
 refine l_open 1 (l := (bs ++ ([40] : List UInt8))) rfl fun A4 cp4 hv4 hc4 hm4 hA4 => ?_
 subst hv4
 refine l_nil (e_go hK13 ?_)
 refine c_seq fun _ hK14 => ?_
 refine c_region ?_
 refine l_val wn (r_move rfl) rfl ?_
 refine l_val wn (r_move rfl) rfl ?_
 refine l_give (α := Value) [.blk b [.pointer (some ⟨b, 0, none⟩), .slice A4 ((bs ++ ([40] : List UInt8)).length) cp4] 47, Row (.slice A4 ((bs ++ ([40] : List UInt8)).length) cp4) 5 1 byteE (bs ++ ([40] : List UInt8)), celP ead [iV e.kind, iV e.n, iV e.range, .string e.word, .slice e.ms.A e.ms.l.length e.ms.c, .slice e.by_.A e.by_.l.length e.by_.c, .slice e.kids.A e.kids.l.length e.kids.c], okP ExprX.Ok e, .pub Tab] [] (fun _ => .tuple #[]) (fun z5 => True) (fun z5 => [.blk b [.pointer (some ⟨b, 0, none⟩), z5] 47, Row z5 5 1 byteE ((bs ++ ([40] : List UInt8)) ++ Lg.txt e.e 0), celP ead [iV e.kind, iV e.n, iV e.range, .string e.word, .slice e.ms.A e.ms.l.length e.ms.c, .slice e.by_.A e.by_.l.length e.by_.c, .slice e.kids.A e.kids.l.length e.kids.c], okP ExprX.Ok e, .pub Tab]) (fun z5 => [.blk b [.pointer (some ⟨b, 0, none⟩), z5] 47, Row z5 5 1 byteE ((bs ++ ([40] : List UInt8)) ++ Lg.txt e.e 0), celP ead [iV e.kind, iV e.n, iV e.range, .string e.word, .slice e.ms.A e.ms.l.length e.ms.c, .slice e.by_.A e.by_.l.length e.by_.c, .slice e.kids.A e.kids.l.length e.kids.c], okP ExprX.Ok e, .pub Tab]) (fun _ => rfl) (fun _ h => h.sel [0, 1, 2, 3, 4] (by decide) rfl) (fun _ => rfl) wn rfl rfl Tryd.call22 rfl (fun w1 Pb hG => c_at_core b (.pointer (some ⟨b, 0, none⟩)) (.slice A4 ((bs ++ ([40] : List UInt8)).length) cp4) (bs ++ ([40] : List UInt8)) ead e 0 Pb w1 hG (.inr rfl) hfine (by omega) (by first | omega | (simp only [List.length_append, List.length_cons, List.length_nil]; omega)) (fun h => absurd h.2 (Lg.lv_pos e.word)) ih) fun z5 hz5 => ?_
 refine l_open 1 (l := ((bs ++ ([40] : List UInt8)) ++ Lg.txt e.e 0)) rfl fun A5 cp5 hv5 hc5 hm5 hA5 => ?_
 subst hv5
 refine l_nil (e_go hK14 ?_)
 refine c_seq fun _ hK15 => ?_
 refine c_region ?_
 refine l_val wn (r_move rfl) rfl ?_
 refine l_val wn (r_nilCheck rfl) rfl ?_
 refine l_val wn (r_fa rfl fld47_0) rfl ?_
 refine l_give (α := Value) [.blk b [.pointer (some ⟨b, 0, none⟩), .slice A5 (((bs ++ ([40] : List UInt8)) ++ Lg.txt e.e 0).length) cp5] 47, Row (.slice A5 (((bs ++ ([40] : List UInt8)) ++ Lg.txt e.e 0).length) cp5) 5 1 byteE ((bs ++ ([40] : List UInt8)) ++ Lg.txt e.e 0)] [celP ead [iV e.kind, iV e.n, iV e.range, .string e.word, .slice e.ms.A e.ms.l.length e.ms.c, .slice e.by_.A e.by_.l.length e.by_.c, .slice e.kids.A e.kids.l.length e.kids.c], okP ExprX.Ok e, .pub Tab] (fun _ => .nilIface) (fun z6 => True) (fun z6 => [.blk b [.pointer (some ⟨b, 0, none⟩), z6] 47, Row z6 5 1 byteE (((bs ++ ([40] : List UInt8)) ++ Lg.txt e.e 0) ++ ([41] : List UInt8))]) (fun z6 => [.blk b [.pointer (some ⟨b, 0, none⟩), z6] 47, Row z6 5 1 byteE (((bs ++ ([40] : List UInt8)) ++ Lg.txt e.e 0) ++ ([41] : List UInt8)), celP ead [iV e.kind, iV e.n, iV e.range, .string e.word, .slice e.ms.A e.ms.l.length e.ms.c, .slice e.by_.A e.by_.l.length e.by_.c, .slice e.kids.A e.kids.l.length e.kids.c], okP ExprX.Ok e, .pub Tab]) (fun _ => rfl) (fun _ h => h.sel [0, 1, 2, 3, 4] (by decide) rfl) (fun _ => rfl) wn rfl rfl Tryd.call38 rfl (fun w1 Pb hG => c_wb b (.pointer (some ⟨b, 0, none⟩)) (.slice A5 (((bs ++ ([40] : List UInt8)) ++ Lg.txt e.e 0).length) cp5) ((bs ++ ([40] : List UInt8)) ++ Lg.txt e.e 0) 41 41 Pb w1 hG (.inr rfl) (by first | rfl | decide) (by first | omega | (simp only [List.length_append, List.length_cons, List.length_nil]; omega))) fun z6 hz6 => ?_
 refine l_open 1 (l := (((bs ++ ([40] : List UInt8)) ++ Lg.txt e.e 0) ++ ([41] : List UInt8))) rfl fun A6 cp6 hv6 hc6 hm6 hA6 => ?_
 subst hv6
 refine l_nil (e_go hK15 ?_)
 refine c_ret (e_then_r (e_ret0 (.inl rfl) Tryd.results22  fun w1 hM => ?_))
 have hl9 : (((bs ++ ([40] : List UInt8)) ++ Lg.txt e.e 0) ++ ([41] : List UInt8)) = (bs ++ Lg.txt e.e least) := by rw [Lg.txt_par hlv.1 hlv.2]; simp
 rw [hl9] at hM
 exact hM.retA (.slice A6 ((bs ++ Lg.txt e.e least).length) cp6) rfl trivial (fun h => h.sel [0, 1, 2, 3, 4] (by decide) rfl)

theorem c_at_step (e : ExprX) (ih : ∀ k : ExprX, SizeOf.sizeOf k < SizeOf.sizeOf e → c_at_C k) : c_at_C e := by
  intro b p v bs ead least Pb w hG hp hfine hl hbl
  by_cases hlv : e.kind = 4 ∧ Lg.lv e.word < least
  · exact c_at_par b p v bs ead e least Pb w hG hp hfine hl hbl hlv ih
  · exact c_at_core b p v bs ead e least Pb w hG hp hfine hl (by omega) hlv ih
theorem c_at (e : ExprX) : c_at_C e := recX c_at_step e

set_option maxHeartbeats 1000000 in
theorem c_print (e : ExprX) (P0 : Nat → Prop) (w : World) (hP0 : ∀ b, P0 b → b < w.heap.size) (he : ExprX.Ok P0 e w) (hT : Tab P0 w)  :
    Calls Tryd.prog 7 #[.agg (exprE e).toArray] w (Ret w (.tuple #[.string ⟨(Lg.print e.e).1.toArray⟩, iV (Lg.print e.e).2])) := by
 have hwe := he.wf
 refine fstart (N := 24) (vals := [.agg (exprE e).toArray]) (S := Mem w ⟨no, P0⟩ [okP ExprX.Ok e, .pub Tab]) Tryd.func7 rfl rfl rfl (Mem.ofDatsP hP0 (dc (dp (ExprX.Ok.loc _) he) (dc (dp Tab.loc hT) dn))) ?_
 refine c_seq fun _ hK1 => ?_
 refine c_region ?_
 refine l_box wn rfl rfl fun b1 => ?_
 refine l_val wn (r_assign rfl) rfl ?_
 refine l_val wn (r_assign rfl) rfl ?_
 refine l_nil (e_go hK1 ?_)
 refine c_seq fun _ hK2 => ?_
 refine c_seq fun _ hK3 => ?_
 refine c_region ?_
 refine l_val wn (r_lbn 0 [iV e.kind, iV e.n, iV e.range, .string e.word, .slice e.ms.A e.ms.l.length e.ms.c, .slice e.by_.A e.by_.l.length e.by_.c, .slice e.kids.A e.kids.l.length e.kids.c] rfl rfl rfl rfl agg26 inf26) rfl ?_
 refine l_callF wn rfl Tryd.call9 rfl (fun w1 hM => c_langWrong e (In w1) w1 (fun _ h => h) (hM.pubAt (i := 1) rfl)) ?_
 refine l_val wn (r_assign rfl) rfl ?_
 refine l_nil (e_go hK3 ?_)
 refine c_seq fun _ hK4 => ?_
 refine c_region ?_
 refine l_val wn (r_move rfl) rfl ?_
 refine l_val wn (r_neq rfl rfl) rfl ?_
 refine l_nil (e_go hK4 ?_)
 refine c_cond rfl (fun h1 => ?_) (fun h1 => ?_)
 · refine c_seq fun _ hK5 => ?_
   refine c_region ?_
   refine l_val wn (r_move rfl) rfl ?_
   refine l_val wn (r_assign rfl) rfl ?_
   refine l_val wn (r_assign rfl) rfl ?_
   refine l_nil (e_go hK5 ?_)
   refine c_ret (e_then_r (e_ret2 (.inl rfl) Tryd.results7 (rv_tmp rfl) (rv_tmp rfl) fun w1 hM => ?_))
   exact ret_ok (by rw [Lg.print, if_pos h1]) hM
 refine c_skip (e_go hK2 ?_)
 refine c_seq fun _ hK6 => ?_
 refine c_region ?_
 refine l_val wn (r_build [.pointer none, Zs] pl47 inf47 rfl rfl) rfl ?_
 refine l_box wn rfl rfl fun b12 => ?_
 refine l_val wn (r_assign rfl) rfl ?_
 refine l_nil (e_go hK6 ?_)
 refine c_seq fun _ hK7 => ?_
 refine c_region ?_
 obtain ⟨hfine, hnodes⟩ := Lg.right_of_wrong (Classical.not_not.1 h1)
 have htl := Lg.txt_len e.e 0 hfine
 have hbs0 : (([] : List UInt8).length : Int) = 0 := rfl
 refine l_val wn (r_move rfl) rfl ?_
 refine l_nilRow byteE 5 1 ?_
 refine l_sealB 2 rfl rfl ?_
 refine l_give (α := Value) [.blk b12 [.pointer none, Zs] 47, Row (Zs) 5 1 byteE ([] : List UInt8), celP ⟨b1, 0, none⟩ [iV e.kind, iV e.n, iV e.range, .string e.word, .slice e.ms.A e.ms.l.length e.ms.c, .slice e.by_.A e.by_.l.length e.by_.c, .slice e.kids.A e.kids.l.length e.kids.c], okP ExprX.Ok e, .pub Tab] [] (fun _ => .tuple #[]) (fun z1 => True) (fun z1 => [.blk b12 [.pointer (some ⟨b12, 0, none⟩), z1] 47, Row z1 5 1 byteE (([] : List UInt8) ++ Lg.txt e.e 0), celP ⟨b1, 0, none⟩ [iV e.kind, iV e.n, iV e.range, .string e.word, .slice e.ms.A e.ms.l.length e.ms.c, .slice e.by_.A e.by_.l.length e.by_.c, .slice e.kids.A e.kids.l.length e.kids.c], okP ExprX.Ok e, .pub Tab]) (fun z1 => [.blk b12 [.pointer (some ⟨b12, 0, none⟩), z1] 47, Row z1 5 1 byteE (([] : List UInt8) ++ Lg.txt e.e 0), celP ⟨b1, 0, none⟩ [iV e.kind, iV e.n, iV e.range, .string e.word, .slice e.ms.A e.ms.l.length e.ms.c, .slice e.by_.A e.by_.l.length e.by_.c, .slice e.kids.A e.kids.l.length e.kids.c], okP ExprX.Ok e, .pub Tab]) (fun _ => rfl) (fun _ h => h.sel [1, 0, 2, 3, 4] (by decide) rfl) (fun _ => rfl) wn rfl rfl Tryd.call22 rfl (fun w1 Pb hG => c_at e b12 (.pointer none) (Zs) ([] : List UInt8) ⟨b1, 0, none⟩ 0 Pb w1 hG (.inl rfl) hfine (by omega) (by first | omega | (simp only [List.length_append, List.length_cons, List.length_nil]; omega))) fun z1 hz1 => ?_
 refine l_open 1 (l := (([] : List UInt8) ++ Lg.txt e.e 0)) rfl fun A1 cp1 hv1 hc1 hm1 hA1 => ?_
 subst hv1
 refine l_nil (e_go hK7 ?_)
 refine c_seq fun _ hK8 => ?_
 refine c_seq fun _ hK9 => ?_
 refine c_region ?_
 refine l_val wn (r_move rfl) rfl ?_
 refine l_val wn (r_nilCheck rfl) rfl ?_
 refine l_val wn (r_fa rfl fld47_0) rfl ?_
 refine l_give (α := Unit) [.blk b12 [.pointer (some ⟨b12, 0, none⟩), .slice A1 ((([] : List UInt8) ++ Lg.txt e.e 0).length) cp1] 47, Row (.slice A1 ((([] : List UInt8) ++ Lg.txt e.e 0).length) cp1) 5 1 byteE (([] : List UInt8) ++ Lg.txt e.e 0)] [celP ⟨b1, 0, none⟩ [iV e.kind, iV e.n, iV e.range, .string e.word, .slice e.ms.A e.ms.l.length e.ms.c, .slice e.by_.A e.by_.l.length e.by_.c, .slice e.kids.A e.kids.l.length e.kids.c], okP ExprX.Ok e, .pub Tab] (fun _ => iV ((([] : List UInt8) ++ Lg.txt e.e 0).length : Int)) (fun z2 => True) (fun z2 => [.blk b12 [.pointer (some ⟨b12, 0, none⟩), .slice A1 ((([] : List UInt8) ++ Lg.txt e.e 0).length) cp1] 47, Row (.slice A1 ((([] : List UInt8) ++ Lg.txt e.e 0).length) cp1) 5 1 byteE (([] : List UInt8) ++ Lg.txt e.e 0)]) (fun z2 => [.blk b12 [.pointer (some ⟨b12, 0, none⟩), .slice A1 ((([] : List UInt8) ++ Lg.txt e.e 0).length) cp1] 47, Row (.slice A1 ((([] : List UInt8) ++ Lg.txt e.e 0).length) cp1) 5 1 byteE (([] : List UInt8) ++ Lg.txt e.e 0), celP ⟨b1, 0, none⟩ [iV e.kind, iV e.n, iV e.range, .string e.word, .slice e.ms.A e.ms.l.length e.ms.c, .slice e.by_.A e.by_.l.length e.by_.c, .slice e.kids.A e.kids.l.length e.kids.c], okP ExprX.Ok e, .pub Tab]) (fun _ => rfl) (fun _ h => h.sel [0, 1, 2, 3, 4] (by decide) rfl) (fun _ => rfl) wn rfl rfl Tryd.call23 rfl (fun w1 Pb hG => c_blen b12 (.pointer (some ⟨b12, 0, none⟩)) (.slice A1 ((([] : List UInt8) ++ Lg.txt e.e 0).length) cp1) (([] : List UInt8) ++ Lg.txt e.e 0) Pb w1 hG) fun z2 hz2 => ?_
 refine l_val wn (r_gtr rfl rfl) rfl ?_
 refine l_nil (e_go hK9 ?_)
 refine c_cond rfl (fun h2 => ?_) (fun h2 => ?_)
 · refine c_seq fun _ hK10 => ?_
   refine c_region ?_
   refine l_val wn (r_assign rfl) rfl ?_
   refine l_val wn (r_assign rfl) rfl ?_
   refine l_nil (e_go hK10 ?_)
   refine c_ret (e_then_r (e_ret2 (.inl rfl) Tryd.results7 (rv_tmp rfl) (rv_tmp rfl) fun w1 hM => ?_))
   exact ret_ok (by rw [Lg.print, if_neg h1, if_pos (by have h9 := h2; simp only [List.nil_append] at h9; omega)]) hM
 refine c_skip (e_go hK8 ?_)
 refine c_seq fun _ hK11 => ?_
 refine c_region ?_
 refine l_val wn (r_move rfl) rfl ?_
 refine l_val wn (r_nilCheck rfl) rfl ?_
 refine l_val wn (r_fa rfl fld47_0) rfl ?_
 refine l_give (α := Unit) [.blk b12 [.pointer (some ⟨b12, 0, none⟩), .slice A1 ((([] : List UInt8) ++ Lg.txt e.e 0).length) cp1] 47, Row (.slice A1 ((([] : List UInt8) ++ Lg.txt e.e 0).length) cp1) 5 1 byteE (([] : List UInt8) ++ Lg.txt e.e 0)] [celP ⟨b1, 0, none⟩ [iV e.kind, iV e.n, iV e.range, .string e.word, .slice e.ms.A e.ms.l.length e.ms.c, .slice e.by_.A e.by_.l.length e.by_.c, .slice e.kids.A e.kids.l.length e.kids.c], okP ExprX.Ok e, .pub Tab] (fun _ => .string ⟨(([] : List UInt8) ++ Lg.txt e.e 0).toArray⟩) (fun z3 => True) (fun z3 => [.blk b12 [.pointer (some ⟨b12, 0, none⟩), .slice A1 ((([] : List UInt8) ++ Lg.txt e.e 0).length) cp1] 47]) (fun z3 => [.blk b12 [.pointer (some ⟨b12, 0, none⟩), .slice A1 ((([] : List UInt8) ++ Lg.txt e.e 0).length) cp1] 47, celP ⟨b1, 0, none⟩ [iV e.kind, iV e.n, iV e.range, .string e.word, .slice e.ms.A e.ms.l.length e.ms.c, .slice e.by_.A e.by_.l.length e.by_.c, .slice e.kids.A e.kids.l.length e.kids.c], okP ExprX.Ok e, .pub Tab]) (fun _ => rfl) (fun _ h => h.sel [0, 1, 2, 3, 4] (by decide) rfl) (fun _ => rfl) wn rfl rfl Tryd.call24 rfl (fun w1 Pb hG => c_bstr b12 (.pointer (some ⟨b12, 0, none⟩)) (.slice A1 ((([] : List UInt8) ++ Lg.txt e.e 0).length) cp1) (([] : List UInt8) ++ Lg.txt e.e 0) Pb w1 hG (by simpa using Lg.txt_ne e.e 0 hfine)) fun z3 hz3 => ?_
 refine l_val wn (r_assign rfl) rfl ?_
 refine l_val wn (r_assign rfl) rfl ?_
 refine l_nil (e_go hK11 ?_)
 refine c_ret (e_ret2 (.inl rfl) Tryd.results7 (rv_tmp rfl) (rv_tmp rfl) fun w1 hM => ?_)
 exact ret_ok (by rw [Lg.print, if_neg h1, if_neg (by have h9 := h2; simp only [List.nil_append] at h9; omega)]; rfl) hM

end Go.Proofs.YtffpglgboaigfaaDoor
