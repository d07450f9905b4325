/-
  Walks: what each function hands back.
-/
import Derived.Test.YtffpglgboaigfaaDoorWnames
import Derived.Test.YtffpglgboaigfaaDoorWagg
import Derived.Test.YtffpglgboaigfaaDoorPLang
namespace Go.Proofs.YtffpglgboaigfaaDoor
open Ex
set_option linter.unusedVariables false
set_option linter.unusedSimpArgs false
theorem c_idxX (lv : Value) (l : List ExprX) (f : Nat) (fcap : Array Value) (fp : ExprX → Bool) (P0 : Nat → Prop) (w : World) (hP0 : ∀ b, P0 b → b < w.heap.size) (hl : FlatSl P0 7 exprE lv l w) (hla : ∀ x ∈ l, ExprX.Ok P0 x w) (fc : ∀ vs w, (callFunc f vs).run Tryd.prog w = .ok (.enter f vs) w) (fh : ∀ x : ExprX, x ∈ l → ∀ w1 : World, Fr no w w1 → Calls Tryd.prog f (#[.agg (exprE x).toArray] ++ fcap) w1 (Ret w1 (.bool (fp x))))  :
    Calls Tryd.prog 48 #[lv, .func (.func f) #[] fcap] w (Ret w (.int .i64 (Sh.idx fp l))) := by
 have hwl : ∀ x ∈ l, ExprX.Wf x := fun x hx => (hla x hx).wf
 obtain ⟨lA, lc, rfl, hlc, hlm, hlA⟩ := hl.form
 refine fstart (N := 19) (vals := [.slice lA l.length lc, .func (.func f) #[] fcap]) (S := Mem w ⟨no, P0⟩ [slP 7 exprE (.slice lA l.length lc) l, allP ExprX.Ok l]) Tryd.func48 rfl rfl rfl (Mem.ofDatsP hP0 (dc (dlp hl) (dc (dp (all_loc ExprX.Ok.loc _) hla) dn))) ?_
 refine c_seq fun _ hK1 => ?_
 refine c_region ?_
 refine l_val wn (r_assign rfl) rfl ?_
 refine l_nil (e_go hK1 ?_)
 refine c_seq fun _ hK2 => ?_
 refine c_seq fun _ hK3 => ?_
 refine c_region ?_
 refine l_val wn (r_move rfl) rfl ?_
 refine l_val wn (r_len rfl Tryd.underlying24) rfl ?_
 refine l_val wn (r_move rfl) rfl ?_
 refine l_nil (e_go hK3 ?_)
 refine c_block ?_
 refine c_loop1 (fun (k : Nat) => [(0, .slice lA l.length lc), (1, .func (.func f) #[] fcap), (7, .int .i64 (l.length : Int)), (8, .int .i64 (k : Int))]) (fun (k : Nat) => [slP 7 exprE (.slice lA l.length lc) l, allP ExprX.Ok l]) (fun (k : Nat) => k ≤ l.length ∧ ∀ y ∈ l.take k, fp y = false) (fun (k : Nat) => l.length - k) 0 (sc rfl (sc rfl (sc rfl (sc (ji (by omega)) sn)))) (fun _ h => h) ?_ (fun k hI1 => ?_)
 · simp
 refine c_seq fun _ hK4 => ?_
 refine c_region ?_
 refine l_val wn (r_lss rfl rfl) rfl ?_
 refine l_nil (e_go hK4 ?_)
 refine c_seq fun _ hK5 => ?_
 refine c_cond rfl (fun h1 => ?_) (fun h1 => ?_)
 · refine c_skip (e_go hK5 ?_)
   refine c_seq fun _ hK6 => ?_
   refine c_block ?_
   refine c_seq fun _ hK7 => ?_
   refine c_region ?_
   refine l_val wn (r_move rfl) rfl ?_
   refine l_val wn (r_assign rfl) rfl ?_
   refine l_nil (e_go hK7 ?_)
   refine c_seq fun _ hK8 => ?_
   refine c_region ?_
   refine l_val wn (r_move rfl) rfl ?_
   refine l_val wn (r_move rfl) rfl ?_
   refine l_val wn (r_move rfl) rfl ?_
   obtain ⟨ad1, hd1⟩ := hlA (ne_nil (i := k) (by first | omega | (simp <;> omega)))
   refine l_val wn (r_ia (i := k) rfl hd1 rfl (by omega) (by first | omega | (simp <;> omega)) Tryd.underlying24 inf26) rfl ?_
   obtain ⟨s1, hs1⟩ : ∃ x, l[k]? = some x := ⟨_, List.getElem?_eq_getElem (by first | omega | (simp <;> omega))⟩
   refine l_val wn (r_pln 0 [.int .i64 s1.kind, .int .i64 s1.n, .int .i64 s1.range, .string s1.word, .slice s1.ms.A s1.ms.l.length s1.ms.c, .slice s1.by_.A s1.by_.l.length s1.by_.c, .slice s1.kids.A s1.kids.l.length s1.kids.c] rfl rfl hd1 hs1 rfl rfl agg26 inf26) rfl ?_
   refine l_callR wn rfl rfl fc rfl (fun w1 hM => fh s1 (List.mem_of_getElem? hs1) w1 hM.fr) ?_
   refine l_nil (e_go hK8 ?_)
   refine c_condb rfl (fun h2 => ?_) (fun h2 => ?_)
   · refine c_seq fun _ hK9 => ?_
     refine c_region ?_
     refine l_val wn (r_move rfl) rfl ?_
     refine l_val wn (r_assign rfl) rfl ?_
     refine l_nil (e_go hK9 ?_)
     refine c_ret (e_in_r (e_then_r (e_loop1_r (e_in_r (e_then_r (e_ret1 (.inl rfl) Tryd.results48 (rv_tmp rfl) fun w1 hM => ?_))))))
     exact ret_ok (by rw [Sh.idx_at hI1.2 hs1 h2]) hM
   refine c_skip (e_in_n (e_go hK6 ?_))
   refine c_region ?_
   refine l_val wn (r_addn rfl rfl (by omega)) rfl ?_
   refine l_val wn (r_move rfl) rfl ?_
   refine l_nil (e_round1 (k + 1) (sc rfl (sc rfl (sc rfl (sc (ji (by omega)) sn)))) (fun _ h => h) ?_ ?_)
   · exact ⟨by omega, Sh.none_step hI1.2 hs1 h2⟩
   omega
 refine c_exit (e_then_x (e_loop1_x (e_in_hit (e_go hK2 ?_))))
 refine c_seq fun _ hK10 => ?_
 refine c_region ?_
 refine l_val wn (r_assign rfl) rfl ?_
 refine l_nil (e_go hK10 ?_)
 refine c_ret (e_ret1 (.inl rfl) Tryd.results48 (rv_tmp rfl) fun w1 hM => ?_)
 exact ret_ok (by rw [Sh.idx_none hI1.2 (by omega)]) hM

theorem c_contX (lv : Value) (l : List ExprX) (f : Nat) (fcap : Array Value) (fp : ExprX → Bool) (P0 : Nat → Prop) (w : World) (hP0 : ∀ b, P0 b → b < w.heap.size) (hl : FlatSl P0 7 exprE lv l w) (hla : ∀ x ∈ l, ExprX.Ok P0 x w) (fc : ∀ vs w, (callFunc f vs).run Tryd.prog w = .ok (.enter f vs) w) (fh : ∀ x : ExprX, x ∈ l → ∀ w1 : World, Fr no w w1 → Calls Tryd.prog f (#[.agg (exprE x).toArray] ++ fcap) w1 (Ret w1 (.bool (fp x))))  :
    Calls Tryd.prog 28 #[lv, .func (.func f) #[] fcap] w (Ret w (.bool (l.any fp))) := by
 have hwl : ∀ x ∈ l, ExprX.Wf x := fun x hx => (hla x hx).wf
 obtain ⟨lA, lc, rfl, hlc, hlm, hlA⟩ := hl.form
 refine fstart (N := 9) (vals := [.slice lA l.length lc, .func (.func f) #[] fcap]) (S := Mem w ⟨no, P0⟩ [slP 7 exprE (.slice lA l.length lc) l, allP ExprX.Ok l]) Tryd.func28 rfl rfl rfl (Mem.ofDatsP hP0 (dc (dlp hl) (dc (dp (all_loc ExprX.Ok.loc _) hla) dn))) ?_
 refine c_seq fun _ hK1 => ?_
 refine c_region ?_
 refine l_val wn (r_assign rfl) rfl ?_
 refine l_nil (e_go hK1 ?_)
 refine c_seq fun _ hK2 => ?_
 refine c_region ?_
 refine l_val wn (r_move rfl) rfl ?_
 refine l_val wn (r_move rfl) rfl ?_
 refine l_callF wn rfl Tryd.call48 rfl (fun w1 hM => c_idxX _ l f fcap fp (In w1) w1 (fun _ h => h) (hM.slp 0 rfl) (hM.pubAt (i := 1) rfl) fc (fun x hx w2 hf => fh x hx w2 (hM.fr.trans hf (fun _ _ h => h)))) ?_
 refine l_val wn (r_geq rfl rfl) rfl ?_
 refine l_val wn (r_assign rfl) rfl ?_
 refine l_nil (e_go hK2 ?_)
 refine c_ret (e_ret1 (.inl rfl) Tryd.results28 (rv_tmp rfl) fun w1 hM => ?_)
 exact ret_ok (congrArg Value.bool (by rw [Bool.eq_iff_iff, decide_eq_true_iff]; exact Sh.idx_any)) hM

def c_vector_C (e : ExprX) : Prop := ∀ (P0 : Nat → Prop) (w : World) (hP0 : ∀ b, P0 b → b < w.heap.size) (he : ExprX.Ok P0 e w) ,
    Calls Tryd.prog 11 #[.agg (exprE e).toArray] w (Ret w (.bool (Lg.vector e.e)))
theorem c_vector_step (e : ExprX) (ih : ∀ k : ExprX, SizeOf.sizeOf k < SizeOf.sizeOf e → c_vector_C k) : c_vector_C e := by
  intro P0 w hP0 he
  have hwe := he.wf
  refine fstart (N := 11) (vals := [.agg (exprE e).toArray]) (S := Mem w ⟨no, P0⟩ [okP ExprX.Ok e]) Tryd.func11 rfl rfl rfl (Mem.ofDatsP hP0 (dc (dp (ExprX.Ok.loc _) he) dn)) ?_
  refine c_seq fun K1 hK1 => ?_
  refine c_region ?_
  refine l_box wn rfl rfl fun b1 => ?_
  refine l_val wn (r_assign rfl) rfl ?_
  refine l_nil (e_go hK1 ?_)
  refine c_seq fun K2 hK2 => ?_
  refine c_seq fun K3 hK3 => ?_
  refine c_region ?_
  refine l_val wn (r_fa rfl fld26_0) rfl ?_
  refine l_val wn (r_lb 0 rfl rfl rfl flat3) rfl ?_
  refine l_nil (e_go hK3 ?_)
  refine c_block ?_
  refine c_cut [(1, .pointer (some ⟨b1, 0, none⟩)), (5, .bool (decide (((e.kind = 2) ∧ (e.kind = 2)) ∨ (¬ (e.kind = 2) ∧ (e.kind = 3)))))] (Mem w ⟨no, P0⟩ [.blk b1 [.int .i64 e.kind, .int .i64 e.n, .int .i64 e.range, .string e.word, .slice e.ms.A e.ms.l.length e.ms.c, .slice e.by_.A e.by_.l.length e.by_.c, .slice e.kids.A e.kids.l.length e.kids.c] 26, okP ExprX.Ok e]) (fun K4 hK4 => ?_) ?_
  ·
    refine c_seq fun K5 hK5 => ?_
    refine c_region ?_
    refine l_val wn (r_eql rfl rfl) rfl ?_
    refine l_val wn (r_assign rfl) rfl ?_
    refine l_nil (e_go hK5 ?_)
    refine c_cond rfl (fun h1 => ?_) (fun h1 => ?_)
    ·
      refine c_skip (e_cut hK4 (sc rfl (sc (jp (iff_ite_l h1 Iff.rfl)) sn)) (fun _ h => h))
    ·
      refine c_region ?_
      refine l_val wn (r_eql rfl rfl) rfl ?_
      refine l_val wn (r_assign rfl) rfl ?_
      refine l_nil (e_cut hK4 (sc rfl (sc (jp (iff_ite_r h1 Iff.rfl)) sn)) (fun _ h => h))
  ·
    refine c_cond rfl (fun h2 => ?_) (fun h2 => ?_)
    ·
      refine c_seq fun K6 hK6 => ?_
      refine c_region ?_
      refine l_val wn (r_assign rfl) rfl ?_
      refine l_nil (e_go hK6 ?_)
      refine c_ret (e_in_r (e_then_r (e_ret1 (.inl rfl) Tryd.results11 (rv_tmp rfl) fun w1 hM => ?_)))
      exact ret_ok (congrArg Value.bool (Lg.vector_yes (by have := h2; omega)).symm) hM
    ·
      refine c_skip (e_in_n (e_go hK2 ?_))
      refine c_seq fun K7 hK7 => ?_
      refine c_region ?_
      refine l_val wn (r_fa rfl fld26_6) rfl ?_
      refine l_val wn (r_lb 0 rfl rfl rfl flat24) rfl ?_
      refine l_opn (fun _ h => h.exprX 1 rfl) ?_
      obtain ⟨hc1, hm1, hA1⟩ := hwe.ms
      obtain ⟨hc2, hm2, hA2⟩ := hwe.by_
      obtain ⟨hc3, hm3, hA3⟩ := hwe.kids
      refine l_callF wn rfl Tryd.call28 rfl (fun w1 hM => c_contX _ e.kids.l 11 #[] (fun k => Lg.vector k.e) (In w1) w1 (fun _ h => h) (hM.slp 2 rfl) (hM.pubAt (i := 3) rfl) Tryd.call11 (fun k hk w2 hf => by simpa using ih k (ExprX.kid_lt hk) (In w2) w2 (fun _ h => h) (ExprX.Ok.loc k (In w1) (In w2) w1 w2 (fun b hb => Nat.lt_of_lt_of_le hb hf.size) (fun b hb => hf.block b hb id) (hM.pubAt (i := 3) rfl k hk)))) ?_
      refine l_val wn (r_assign rfl) rfl ?_
      refine l_nil (e_go hK7 ?_)
      refine c_ret (e_ret1 (.inl rfl) Tryd.results11 (rv_tmp rfl) fun w1 hM => ?_)
      exact ret_ok (congrArg Value.bool (Lg.vector_no (by have := h2; omega)).symm) hM
theorem c_vector (e : ExprX) : c_vector_C e := recX c_vector_step e

def c_refVector_C (e : ExprX) : Prop := ∀ (P0 : Nat → Prop) (w : World) (hP0 : ∀ b, P0 b → b < w.heap.size) (he : ExprX.Ok P0 e w) ,
    Calls Tryd.prog 12 #[.agg (exprE e).toArray] w (Ret w (.bool (Lg.vector e.e)))
theorem c_refVector_step (e : ExprX) (ih : ∀ k : ExprX, SizeOf.sizeOf k < SizeOf.sizeOf e → c_refVector_C k) : c_refVector_C e := by
  intro P0 w hP0 he
  have hwe := he.wf
  refine fstart (N := 23) (vals := [.agg (exprE e).toArray]) (S := Mem w ⟨no, P0⟩ [okP ExprX.Ok e]) Tryd.func12 rfl rfl rfl (Mem.ofDatsP hP0 (dc (dp (ExprX.Ok.loc _) he) dn)) ?_
  refine c_seq fun K1 hK1 => ?_
  refine c_region ?_
  refine l_box wn rfl rfl fun b1 => ?_
  refine l_val wn (r_assign rfl) rfl ?_
  refine l_nil (e_go hK1 ?_)
  refine c_seq fun K2 hK2 => ?_
  refine c_cut [(1, .pointer (some ⟨b1, 0, none⟩)), (12, .bool (decide ((e.kind = 2) ∨ (e.kind = 3))))] (Mem w ⟨no, P0⟩ [.blk b1 [.int .i64 e.kind, .int .i64 e.n, .int .i64 e.range, .string e.word, .slice e.ms.A e.ms.l.length e.ms.c, .slice e.by_.A e.by_.l.length e.by_.c, .slice e.kids.A e.kids.l.length e.kids.c] 26, okP ExprX.Ok e]) (fun K3 hK3 => ?_) ?_
  ·
    refine c_region ?_
    refine l_val wn (r_fa rfl fld26_0) rfl ?_
    refine l_val wn (r_lb 0 rfl rfl rfl flat3) rfl ?_
    refine l_val wn (r_eql rfl rfl) rfl ?_
    refine l_val wn (r_move rfl) rfl ?_
    refine l_case (t := 8) rfl (fun h1 => ?_) (fun h1 => ?_)
    ·
      refine l_skip (wg rfl rfl rfl) rfl ?_
      refine l_skip (wg rfl rfl rfl) rfl ?_
      refine l_skip (wg rfl rfl rfl) rfl ?_
      refine l_val wn (r_pick rfl rfl) rfl ?_
      refine l_nil (e_cut hK3 (sc rfl (sc (jt (Or.inl h1)) sn)) (fun _ h => h))
    ·
      refine l_val (wg rfl rfl rfl) (r_fa rfl fld26_0) rfl ?_
      refine l_val (wg rfl rfl rfl) (r_lb 0 rfl rfl rfl flat3) rfl ?_
      refine l_val (wg rfl rfl rfl) (r_eql rfl rfl) rfl ?_
      refine l_val wn (r_pick rfl rfl) rfl ?_
      refine l_nil (e_cut hK3 (sc rfl (sc (jp (iff_or_right h1 Iff.rfl)) sn)) (fun _ h => h))
  ·
    refine c_cond rfl (fun h2 => ?_) (fun h2 => ?_)
    ·
      refine c_seq fun K4 hK4 => ?_
      refine c_region ?_
      refine l_val wn (r_assign rfl) rfl ?_
      refine l_nil (e_go hK4 ?_)
      refine c_ret (e_then_r (e_ret1 (.inl rfl) Tryd.results12 (rv_tmp rfl) fun w1 hM => ?_))
      exact ret_ok (congrArg Value.bool (Lg.vector_yes (by have := h2; omega)).symm) hM
    ·
      refine c_skip (e_go hK2 ?_)
      refine c_seq fun K5 hK5 => ?_
      refine c_seq fun K6 hK6 => ?_
      refine c_region ?_
      refine l_val wn (r_fa rfl fld26_6) rfl ?_
      refine l_val wn (r_lb 0 rfl rfl rfl flat24) rfl ?_
      refine l_val wn (r_len rfl Tryd.underlying24) rfl ?_
      refine l_val wn (r_move rfl) rfl ?_
      refine l_nil (e_go hK6 ?_)
      refine c_block ?_
      refine c_loop1 (fun (k : Nat) => [(14, .slice e.kids.A e.kids.l.length e.kids.c), (15, .int .i64 (e.kids.l.length : Int)), (16, .int .i64 (k : Int))]) (fun (k : Nat) => [.blk b1 [.int .i64 e.kind, .int .i64 e.n, .int .i64 e.range, .string e.word, .slice e.ms.A e.ms.l.length e.ms.c, .slice e.by_.A e.by_.l.length e.by_.c, .slice e.kids.A e.kids.l.length e.kids.c] 26, okP ExprX.Ok e]) (fun (k : Nat) => k ≤ e.kids.l.length ∧ ∀ y ∈ e.kids.l.take k, Lg.vector y.e = false) (fun (k : Nat) => e.kids.l.length - k) 0 (sc rfl (sc rfl (sc (ji (by omega)) sn))) (fun _ h => h) ?_ (fun k hI1 => ?_)
      · simp
      ·
        refine c_seq fun K7 hK7 => ?_
        refine c_region ?_
        refine l_val wn (r_lss rfl rfl) rfl ?_
        refine l_nil (e_go hK7 ?_)
        refine c_seq fun K8 hK8 => ?_
        refine c_cond rfl (fun h3 => ?_) (fun h3 => ?_)
        ·
          refine c_skip (e_go hK8 ?_)
          refine c_seq fun K9 hK9 => ?_
          refine c_block ?_
          refine c_seq fun K10 hK10 => ?_
          refine c_region ?_
          refine l_opn (fun _ h => h.exprX 1 rfl) ?_
          obtain ⟨hc1, hm1, hA1⟩ := hwe.ms
          obtain ⟨hc2, hm2, hA2⟩ := hwe.by_
          obtain ⟨hc3, hm3, hA3⟩ := hwe.kids
          obtain ⟨ad1, hd1⟩ := hA3 (ne_nil (i := k) (by first | omega | (simp <;> omega)))
          refine l_val wn (r_ia (i := k) rfl hd1 rfl (by omega) (by first | omega | (simp <;> omega)) Tryd.underlying24 inf26) rfl ?_
          obtain ⟨s1, hs1⟩ : ∃ x, e.kids.l[k]? = some x := ⟨_, List.getElem?_eq_getElem (by first | omega | (simp <;> omega))⟩
          refine l_val wn (r_pln 2 [.int .i64 s1.kind, .int .i64 s1.n, .int .i64 s1.range, .string s1.word, .slice s1.ms.A s1.ms.l.length s1.ms.c, .slice s1.by_.A s1.by_.l.length s1.by_.c, .slice s1.kids.A s1.kids.l.length s1.kids.c] rfl rfl hd1 hs1 rfl rfl agg26 inf26) rfl ?_
          refine l_alloc wn inf26 rfl fun b4 => ?_
          refine l_stn 0 wn rfl rfl rfl inf26 rfl rfl rfl ?_
          refine l_nil (e_go hK10 ?_)
          refine c_seq fun K11 hK11 => ?_
          refine c_region ?_
          refine l_val wn (r_lbn 0 [.int .i64 s1.kind, .int .i64 s1.n, .int .i64 s1.range, .string s1.word, .slice s1.ms.A s1.ms.l.length s1.ms.c, .slice s1.by_.A s1.by_.l.length s1.by_.c, .slice s1.kids.A s1.kids.l.length s1.kids.c] rfl rfl rfl rfl agg26 inf26) rfl ?_
          have hw1 := hwe.all _ (List.mem_of_getElem? hs1)
          refine l_opn (fun _ h => h.one 4 ExprX.Ok.loc rfl hs1) ?_
          refine l_callF wn rfl Tryd.call12 rfl (fun w1 hM => ih s1 (ExprX.kid_lt (List.mem_of_getElem? hs1)) (In w1) w1 (fun _ h => h) (hM.pubAt (i := 0) rfl)) ?_
          refine l_nil (e_go hK11 ?_)
          refine c_condb rfl (fun h4 => ?_) (fun h4 => ?_)
          ·
            refine c_seq fun K12 hK12 => ?_
            refine c_region ?_
            refine l_val wn (r_assign rfl) rfl ?_
            refine l_nil (e_go hK12 ?_)
            refine c_ret (e_in_r (e_then_r (e_loop1_r (e_in_r (e_then_r (e_ret1 (.inl rfl) Tryd.results12 (rv_tmp rfl) fun w1 hM => ?_))))))
            exact ret_ok (congrArg Value.bool ((Lg.vector_no (by have := h2; omega)).trans (List.any_eq_true.2 ⟨_, List.mem_of_getElem? hs1, h4⟩)).symm) hM
          ·
            refine c_skip (e_in_n (e_go hK9 ?_))
            refine c_region ?_
            refine l_val wn (r_addn rfl rfl (by omega)) rfl ?_
            refine l_val wn (r_move rfl) rfl ?_
            refine l_nil (e_round1 (k + 1) (sc rfl (sc rfl (sc (ji (by omega)) sn))) (fun _ h => (h.sel [6, 7] (by decide) rfl)) ?_ ?_)
            · exact ⟨by omega, Sh.none_step hI1.2 hs1 h4⟩
            · omega
        ·
          refine c_exit (e_then_x (e_loop1_x (e_in_hit (e_go hK5 ?_))))
          refine c_seq fun K13 hK13 => ?_
          refine c_region ?_
          refine l_val wn (r_assign rfl) rfl ?_
          refine l_nil (e_go hK13 ?_)
          refine c_ret (e_ret1 (.inl rfl) Tryd.results12 (rv_tmp rfl) fun w1 hM => ?_)
          exact ret_ok (congrArg Value.bool ((Lg.vector_no (by have := h2; omega)).trans (Lg.any_none hI1.2 (by omega))).symm) hM
theorem c_refVector (e : ExprX) : c_refVector_C e := recX c_refVector_step e

def c_typed_C (e : ExprX) : Prop := ∀ (P0 : Nat → Prop) (w : World) (hP0 : ∀ b, P0 b → b < w.heap.size) (he : ExprX.Ok P0 e w) ,
    Calls Tryd.prog 13 #[.agg (exprE e).toArray] w (Ret w (.int .i64 (Lg.typed e.e)))
theorem c_typed_step (e : ExprX) (ih : ∀ k : ExprX, SizeOf.sizeOf k < SizeOf.sizeOf e → c_typed_C k) : c_typed_C e := by
  intro P0 w hP0 he
  have hwe := he.wf
  refine fstart (N := 36) (vals := [.agg (exprE e).toArray]) (S := Mem w ⟨no, P0⟩ [okP ExprX.Ok e]) Tryd.func13 rfl rfl rfl (Mem.ofDatsP hP0 (dc (dp (ExprX.Ok.loc _) he) dn)) ?_
  refine c_seq fun K1 hK1 => ?_
  refine c_region ?_
  refine l_box wn rfl rfl fun b1 => ?_
  refine l_val wn (r_assign rfl) rfl ?_
  refine l_nil (e_go hK1 ?_)
  refine c_seq fun K2 hK2 => ?_
  refine c_cut [(1, .pointer (some ⟨b1, 0, none⟩)), (22, .bool (decide ((e.kind = 3) ∧ (((e.kids.l.length : Int) = 1) ∧ ((!(e.kids.l.any fun k => Lg.vector k.e)) = true)))))] (Mem w ⟨no, P0⟩ [.blk b1 [.int .i64 e.kind, .int .i64 e.n, .int .i64 e.range, .string e.word, .slice e.ms.A e.ms.l.length e.ms.c, .slice e.by_.A e.by_.l.length e.by_.c, .slice e.kids.A e.kids.l.length e.kids.c] 26, okP ExprX.Ok e]) (fun K3 hK3 => ?_) ?_
  ·
    refine c_region ?_
    refine l_val wn (r_fa rfl fld26_0) rfl ?_
    refine l_val wn (r_lb 0 rfl rfl rfl flat3) rfl ?_
    refine l_val wn (r_eql rfl rfl) rfl ?_
    refine l_val wn (r_move rfl) rfl ?_
    refine l_case (t := 9) rfl (fun h1 => ?_) (fun h1 => ?_)
    ·
      refine l_val (wg rfl rfl rfl) (r_fa rfl fld26_6) rfl ?_
      refine l_val (wg rfl rfl rfl) (r_lb 0 rfl rfl rfl flat24) rfl ?_
      refine l_val (wg rfl rfl rfl) (r_len rfl Tryd.underlying24) rfl ?_
      refine l_val (wg rfl rfl rfl) (r_eql rfl rfl) rfl ?_
      refine l_val wn (r_pick rfl rfl) rfl ?_
      refine l_val wn (r_move rfl) rfl ?_
      refine l_case (t := 15) rfl (fun h2 => ?_) (fun h2 => ?_)
      ·
        refine l_val (wg rfl rfl rfl) (r_fa rfl fld26_6) rfl ?_
        refine l_val (wg rfl rfl rfl) (r_lb 0 rfl rfl rfl flat24) rfl ?_
        refine l_opn (fun _ h => h.exprX 1 rfl) ?_
        obtain ⟨hc1, hm1, hA1⟩ := hwe.ms
        obtain ⟨hc2, hm2, hA2⟩ := hwe.by_
        obtain ⟨hc3, hm3, hA3⟩ := hwe.kids
        obtain ⟨ad1, hd1⟩ := hA3 (ne_nil (i := 0) (by first | omega | (simp <;> omega)))
        refine l_val (wg rfl rfl rfl) (r_ia (i := 0) rfl hd1 rfl (by omega) (by first | omega | (simp <;> omega)) Tryd.underlying24 inf26) rfl ?_
        obtain ⟨s1, hs1⟩ : ∃ x, e.kids.l[0]? = some x := ⟨_, List.getElem?_eq_getElem (by first | omega | (simp <;> omega))⟩
        refine l_val (wg rfl rfl rfl) (r_pln 2 [.int .i64 s1.kind, .int .i64 s1.n, .int .i64 s1.range, .string s1.word, .slice s1.ms.A s1.ms.l.length s1.ms.c, .slice s1.by_.A s1.by_.l.length s1.by_.c, .slice s1.kids.A s1.kids.l.length s1.kids.c] rfl rfl hd1 hs1 rfl rfl agg26 inf26) rfl ?_
        have hw1 := hwe.all _ (List.mem_of_getElem? hs1)
        refine l_opn (fun _ h => h.one 3 ExprX.Ok.loc rfl hs1) ?_
        refine l_callF (wg rfl rfl rfl) rfl Tryd.call11 rfl (fun w1 hM => c_vector s1 (In w1) w1 (fun _ h => h) (hM.pubAt (i := 0) rfl)) ?_
        refine l_val (wg rfl rfl rfl) (rv_b (show _ = (!(e.kids.l.any fun k => Lg.vector k.e)) from congrArg Bool.not (Lg.any_one (by omega) hs1).symm) (r_notb rfl)) rfl ?_
        refine l_val wn (r_pick rfl rfl) rfl ?_
        refine l_nil (e_cut hK3 (sc rfl (sc (jpb (iff_and_right h1 (iff_and_right h2 Iff.rfl))) sn)) (fun _ h => (h.sel [5, 6] (by decide) rfl)))
      ·
        refine l_skip (wg rfl rfl rfl) rfl ?_
        refine l_skip (wg rfl rfl rfl) rfl ?_
        refine l_skip (wg rfl rfl rfl) rfl ?_
        refine l_skip (wg rfl rfl rfl) rfl ?_
        refine l_skip (wg rfl rfl rfl) rfl ?_
        refine l_skip (wg rfl rfl rfl) rfl ?_
        refine l_val wn (r_pick rfl rfl) rfl ?_
        refine l_nil (e_cut hK3 (sc rfl (sc (jf (fun g => (fun g => h2 g.1) g.2)) sn)) (fun _ h => h))
    ·
      refine l_skip (wg rfl rfl rfl) rfl ?_
      refine l_skip (wg rfl rfl rfl) rfl ?_
      refine l_skip (wg rfl rfl rfl) rfl ?_
      refine l_skip (wg rfl rfl rfl) rfl ?_
      refine l_val wn (r_pick rfl rfl) rfl ?_
      refine l_val wn (r_move rfl) rfl ?_
      refine l_skip (wg rfl rfl rfl) rfl ?_
      refine l_skip (wg rfl rfl rfl) rfl ?_
      refine l_skip (wg rfl rfl rfl) rfl ?_
      refine l_skip (wg rfl rfl rfl) rfl ?_
      refine l_skip (wg rfl rfl rfl) rfl ?_
      refine l_skip (wg rfl rfl rfl) rfl ?_
      refine l_val wn (r_pick rfl rfl) rfl ?_
      refine l_nil (e_cut hK3 (sc rfl (sc (jf (fun g => h1 g.1)) sn)) (fun _ h => h))
  ·
    refine c_cond rfl (fun h3 => ?_) (fun h3 => ?_)
    ·
      refine c_seq fun K4 hK4 => ?_
      refine c_region ?_
      refine l_val wn (r_assign rfl) rfl ?_
      refine l_nil (e_go hK4 ?_)
      refine c_ret (e_then_r (e_ret1 (.inl rfl) Tryd.results13 (rv_tmp rfl) fun w1 hM => ?_))
      exact ret_ok (congrArg (Value.int .i64) (Lg.typed_8 h3).symm) hM
    ·
      refine c_skip (e_go hK2 ?_)
      refine c_seq fun K5 hK5 => ?_
      refine c_seq fun K6 hK6 => ?_
      refine c_region ?_
      refine l_val wn (r_fa rfl fld26_6) rfl ?_
      refine l_val wn (r_lb 0 rfl rfl rfl flat24) rfl ?_
      refine l_val wn (r_len rfl Tryd.underlying24) rfl ?_
      refine l_val wn (r_move rfl) rfl ?_
      refine l_nil (e_go hK6 ?_)
      refine c_block ?_
      refine c_loop1 (fun (k : Nat) => [(24, .slice e.kids.A e.kids.l.length e.kids.c), (25, .int .i64 (e.kids.l.length : Int)), (26, .int .i64 (k : Int))]) (fun (k : Nat) => [.blk b1 [.int .i64 e.kind, .int .i64 e.n, .int .i64 e.range, .string e.word, .slice e.ms.A e.ms.l.length e.ms.c, .slice e.by_.A e.by_.l.length e.by_.c, .slice e.kids.A e.kids.l.length e.kids.c] 26, okP ExprX.Ok e]) (fun (k : Nat) => k ≤ e.kids.l.length ∧ Lg.typeds ((e.kids.l.take k).map ExprX.e) = 0) (fun (k : Nat) => e.kids.l.length - k) 0 (sc rfl (sc rfl (sc (ji (by omega)) sn))) (fun _ h => h) ?_ (fun k hI1 => ?_)
      · exact ⟨by omega, rfl⟩
      ·
        refine c_seq fun K7 hK7 => ?_
        refine c_region ?_
        refine l_val wn (r_lss rfl rfl) rfl ?_
        refine l_nil (e_go hK7 ?_)
        refine c_seq fun K8 hK8 => ?_
        refine c_cond rfl (fun h4 => ?_) (fun h4 => ?_)
        ·
          refine c_skip (e_go hK8 ?_)
          refine c_seq fun K9 hK9 => ?_
          refine c_block ?_
          refine c_seq fun K10 hK10 => ?_
          refine c_region ?_
          refine l_opn (fun _ h => h.exprX 1 rfl) ?_
          obtain ⟨hc4, hm4, hA4⟩ := hwe.ms
          obtain ⟨hc5, hm5, hA5⟩ := hwe.by_
          obtain ⟨hc6, hm6, hA6⟩ := hwe.kids
          obtain ⟨ad2, hd2⟩ := hA6 (ne_nil (i := k) (by first | omega | (simp <;> omega)))
          refine l_val wn (r_ia (i := k) rfl hd2 rfl (by omega) (by first | omega | (simp <;> omega)) Tryd.underlying24 inf26) rfl ?_
          obtain ⟨s2, hs2⟩ : ∃ x, e.kids.l[k]? = some x := ⟨_, List.getElem?_eq_getElem (by first | omega | (simp <;> omega))⟩
          refine l_val wn (r_pln 2 [.int .i64 s2.kind, .int .i64 s2.n, .int .i64 s2.range, .string s2.word, .slice s2.ms.A s2.ms.l.length s2.ms.c, .slice s2.by_.A s2.by_.l.length s2.by_.c, .slice s2.kids.A s2.kids.l.length s2.kids.c] rfl rfl hd2 hs2 rfl rfl agg26 inf26) rfl ?_
          refine l_alloc wn inf26 rfl fun b4 => ?_
          refine l_stn 0 wn rfl rfl rfl inf26 rfl rfl rfl ?_
          refine l_nil (e_go hK10 ?_)
          refine c_seq fun K11 hK11 => ?_
          refine c_region ?_
          refine l_val wn (r_lbn 0 [.int .i64 s2.kind, .int .i64 s2.n, .int .i64 s2.range, .string s2.word, .slice s2.ms.A s2.ms.l.length s2.ms.c, .slice s2.by_.A s2.by_.l.length s2.by_.c, .slice s2.kids.A s2.kids.l.length s2.kids.c] rfl rfl rfl rfl agg26 inf26) rfl ?_
          have hw2 := hwe.all _ (List.mem_of_getElem? hs2)
          refine l_opn (fun _ h => h.one 4 ExprX.Ok.loc rfl hs2) ?_
          refine l_callF wn rfl Tryd.call13 rfl (fun w1 hM => ih s2 (ExprX.kid_lt (List.mem_of_getElem? hs2)) (In w1) w1 (fun _ h => h) (hM.pubAt (i := 0) rfl)) ?_
          refine l_val wn (r_assign rfl) rfl ?_
          refine l_nil (e_go hK11 ?_)
          refine c_seq fun K12 hK12 => ?_
          refine c_region ?_
          refine l_val wn (r_move rfl) rfl ?_
          refine l_val wn (r_neq rfl rfl) rfl ?_
          refine l_nil (e_go hK12 ?_)
          refine c_cond rfl (fun h5 => ?_) (fun h5 => ?_)
          ·
            refine c_seq fun K13 hK13 => ?_
            refine c_region ?_
            refine l_val wn (r_move rfl) rfl ?_
            refine l_val wn (r_assign rfl) rfl ?_
            refine l_nil (e_go hK13 ?_)
            refine c_ret (e_in_r (e_then_r (e_loop1_r (e_in_r (e_then_r (e_ret1 (.inl rfl) Tryd.results13 (rv_tmp rfl) fun w1 hM => ?_))))))
            exact ret_ok (congrArg (Value.int .i64) (((Lg.typed_rest h3).trans ((Lg.typeds_next hI1.2 hs2).2 h5)).symm)) hM
          ·
            refine c_skip (e_in_n (e_go hK9 ?_))
            refine c_region ?_
            refine l_val wn (r_addn rfl rfl (by omega)) rfl ?_
            refine l_val wn (r_move rfl) rfl ?_
            refine l_nil (e_round1 (k + 1) (sc rfl (sc rfl (sc (ji (by omega)) sn))) (fun _ h => (h.sel [6, 7] (by decide) rfl)) ?_ ?_)
            · exact ⟨by omega, (Lg.typeds_next hI1.2 hs2).1.trans (Classical.not_not.1 h5)⟩
            · omega
        ·
          refine c_exit (e_then_x (e_loop1_x (e_in_hit (e_go hK5 ?_))))
          refine c_seq fun K14 hK14 => ?_
          refine c_region ?_
          refine l_val wn (r_assign rfl) rfl ?_
          refine l_nil (e_go hK14 ?_)
          refine c_ret (e_ret1 (.inl rfl) Tryd.results13 (rv_tmp rfl) fun w1 hM => ?_)
          exact ret_ok (congrArg (Value.int .i64) (((Lg.typed_rest h3).trans (by rw [← hI1.2, List.take_of_length_le (by omega)])).symm)) hM
theorem c_typed (e : ExprX) : c_typed_C e := recX c_typed_step e

def c_refTyped_C (e : ExprX) : Prop := ∀ (P0 : Nat → Prop) (w : World) (hP0 : ∀ b, P0 b → b < w.heap.size) (he : ExprX.Ok P0 e w) ,
    Calls Tryd.prog 14 #[.agg (exprE e).toArray] w (Ret w (.int .i64 (Lg.typed e.e)))
theorem c_refTyped_step (e : ExprX) (ih : ∀ k : ExprX, SizeOf.sizeOf k < SizeOf.sizeOf e → c_refTyped_C k) : c_refTyped_C e := by
  intro P0 w hP0 he
  have hwe := he.wf
  refine fstart (N := 36) (vals := [.agg (exprE e).toArray]) (S := Mem w ⟨no, P0⟩ [okP ExprX.Ok e]) Tryd.func14 rfl rfl rfl (Mem.ofDatsP hP0 (dc (dp (ExprX.Ok.loc _) he) dn)) ?_
  refine c_seq fun K1 hK1 => ?_
  refine c_region ?_
  refine l_box wn rfl rfl fun b1 => ?_
  refine l_val wn (r_assign rfl) rfl ?_
  refine l_nil (e_go hK1 ?_)
  refine c_seq fun K2 hK2 => ?_
  refine c_cut [(1, .pointer (some ⟨b1, 0, none⟩)), (22, .bool (decide ((e.kind = 3) ∧ (((e.kids.l.length : Int) = 1) ∧ ((!(e.kids.l.any fun k => Lg.vector k.e)) = true)))))] (Mem w ⟨no, P0⟩ [.blk b1 [.int .i64 e.kind, .int .i64 e.n, .int .i64 e.range, .string e.word, .slice e.ms.A e.ms.l.length e.ms.c, .slice e.by_.A e.by_.l.length e.by_.c, .slice e.kids.A e.kids.l.length e.kids.c] 26, okP ExprX.Ok e]) (fun K3 hK3 => ?_) ?_
  ·
    refine c_region ?_
    refine l_val wn (r_fa rfl fld26_0) rfl ?_
    refine l_val wn (r_lb 0 rfl rfl rfl flat3) rfl ?_
    refine l_val wn (r_eql rfl rfl) rfl ?_
    refine l_val wn (r_move rfl) rfl ?_
    refine l_case (t := 9) rfl (fun h1 => ?_) (fun h1 => ?_)
    ·
      refine l_val (wg rfl rfl rfl) (r_fa rfl fld26_6) rfl ?_
      refine l_val (wg rfl rfl rfl) (r_lb 0 rfl rfl rfl flat24) rfl ?_
      refine l_val (wg rfl rfl rfl) (r_len rfl Tryd.underlying24) rfl ?_
      refine l_val (wg rfl rfl rfl) (r_eql rfl rfl) rfl ?_
      refine l_val wn (r_pick rfl rfl) rfl ?_
      refine l_val wn (r_move rfl) rfl ?_
      refine l_case (t := 15) rfl (fun h2 => ?_) (fun h2 => ?_)
      ·
        refine l_val (wg rfl rfl rfl) (r_fa rfl fld26_6) rfl ?_
        refine l_val (wg rfl rfl rfl) (r_lb 0 rfl rfl rfl flat24) rfl ?_
        refine l_opn (fun _ h => h.exprX 1 rfl) ?_
        obtain ⟨hc1, hm1, hA1⟩ := hwe.ms
        obtain ⟨hc2, hm2, hA2⟩ := hwe.by_
        obtain ⟨hc3, hm3, hA3⟩ := hwe.kids
        obtain ⟨ad1, hd1⟩ := hA3 (ne_nil (i := 0) (by first | omega | (simp <;> omega)))
        refine l_val (wg rfl rfl rfl) (r_ia (i := 0) rfl hd1 rfl (by omega) (by first | omega | (simp <;> omega)) Tryd.underlying24 inf26) rfl ?_
        obtain ⟨s1, hs1⟩ : ∃ x, e.kids.l[0]? = some x := ⟨_, List.getElem?_eq_getElem (by first | omega | (simp <;> omega))⟩
        refine l_val (wg rfl rfl rfl) (r_pln 2 [.int .i64 s1.kind, .int .i64 s1.n, .int .i64 s1.range, .string s1.word, .slice s1.ms.A s1.ms.l.length s1.ms.c, .slice s1.by_.A s1.by_.l.length s1.by_.c, .slice s1.kids.A s1.kids.l.length s1.kids.c] rfl rfl hd1 hs1 rfl rfl agg26 inf26) rfl ?_
        have hw1 := hwe.all _ (List.mem_of_getElem? hs1)
        refine l_opn (fun _ h => h.one 3 ExprX.Ok.loc rfl hs1) ?_
        refine l_callF (wg rfl rfl rfl) rfl Tryd.call12 rfl (fun w1 hM => c_refVector s1 (In w1) w1 (fun _ h => h) (hM.pubAt (i := 0) rfl)) ?_
        refine l_val (wg rfl rfl rfl) (rv_b (show _ = (!(e.kids.l.any fun k => Lg.vector k.e)) from congrArg Bool.not (Lg.any_one (by omega) hs1).symm) (r_notb rfl)) rfl ?_
        refine l_val wn (r_pick rfl rfl) rfl ?_
        refine l_nil (e_cut hK3 (sc rfl (sc (jpb (iff_and_right h1 (iff_and_right h2 Iff.rfl))) sn)) (fun _ h => (h.sel [5, 6] (by decide) rfl)))
      ·
        refine l_skip (wg rfl rfl rfl) rfl ?_
        refine l_skip (wg rfl rfl rfl) rfl ?_
        refine l_skip (wg rfl rfl rfl) rfl ?_
        refine l_skip (wg rfl rfl rfl) rfl ?_
        refine l_skip (wg rfl rfl rfl) rfl ?_
        refine l_skip (wg rfl rfl rfl) rfl ?_
        refine l_val wn (r_pick rfl rfl) rfl ?_
        refine l_nil (e_cut hK3 (sc rfl (sc (jf (fun g => (fun g => h2 g.1) g.2)) sn)) (fun _ h => h))
    ·
      refine l_skip (wg rfl rfl rfl) rfl ?_
      refine l_skip (wg rfl rfl rfl) rfl ?_
      refine l_skip (wg rfl rfl rfl) rfl ?_
      refine l_skip (wg rfl rfl rfl) rfl ?_
      refine l_val wn (r_pick rfl rfl) rfl ?_
      refine l_val wn (r_move rfl) rfl ?_
      refine l_skip (wg rfl rfl rfl) rfl ?_
      refine l_skip (wg rfl rfl rfl) rfl ?_
      refine l_skip (wg rfl rfl rfl) rfl ?_
      refine l_skip (wg rfl rfl rfl) rfl ?_
      refine l_skip (wg rfl rfl rfl) rfl ?_
      refine l_skip (wg rfl rfl rfl) rfl ?_
      refine l_val wn (r_pick rfl rfl) rfl ?_
      refine l_nil (e_cut hK3 (sc rfl (sc (jf (fun g => h1 g.1)) sn)) (fun _ h => h))
  ·
    refine c_cond rfl (fun h3 => ?_) (fun h3 => ?_)
    ·
      refine c_seq fun K4 hK4 => ?_
      refine c_region ?_
      refine l_val wn (r_assign rfl) rfl ?_
      refine l_nil (e_go hK4 ?_)
      refine c_ret (e_then_r (e_ret1 (.inl rfl) Tryd.results14 (rv_tmp rfl) fun w1 hM => ?_))
      exact ret_ok (congrArg (Value.int .i64) (Lg.typed_8 h3).symm) hM
    ·
      refine c_skip (e_go hK2 ?_)
      refine c_seq fun K5 hK5 => ?_
      refine c_seq fun K6 hK6 => ?_
      refine c_region ?_
      refine l_val wn (r_fa rfl fld26_6) rfl ?_
      refine l_val wn (r_lb 0 rfl rfl rfl flat24) rfl ?_
      refine l_val wn (r_len rfl Tryd.underlying24) rfl ?_
      refine l_val wn (r_move rfl) rfl ?_
      refine l_nil (e_go hK6 ?_)
      refine c_block ?_
      refine c_loop1 (fun (k : Nat) => [(24, .slice e.kids.A e.kids.l.length e.kids.c), (25, .int .i64 (e.kids.l.length : Int)), (26, .int .i64 (k : Int))]) (fun (k : Nat) => [.blk b1 [.int .i64 e.kind, .int .i64 e.n, .int .i64 e.range, .string e.word, .slice e.ms.A e.ms.l.length e.ms.c, .slice e.by_.A e.by_.l.length e.by_.c, .slice e.kids.A e.kids.l.length e.kids.c] 26, okP ExprX.Ok e]) (fun (k : Nat) => k ≤ e.kids.l.length ∧ Lg.typeds ((e.kids.l.take k).map ExprX.e) = 0) (fun (k : Nat) => e.kids.l.length - k) 0 (sc rfl (sc rfl (sc (ji (by omega)) sn))) (fun _ h => h) ?_ (fun k hI1 => ?_)
      · exact ⟨by omega, rfl⟩
      ·
        refine c_seq fun K7 hK7 => ?_
        refine c_region ?_
        refine l_val wn (r_lss rfl rfl) rfl ?_
        refine l_nil (e_go hK7 ?_)
        refine c_seq fun K8 hK8 => ?_
        refine c_cond rfl (fun h4 => ?_) (fun h4 => ?_)
        ·
          refine c_skip (e_go hK8 ?_)
          refine c_seq fun K9 hK9 => ?_
          refine c_block ?_
          refine c_seq fun K10 hK10 => ?_
          refine c_region ?_
          refine l_opn (fun _ h => h.exprX 1 rfl) ?_
          obtain ⟨hc4, hm4, hA4⟩ := hwe.ms
          obtain ⟨hc5, hm5, hA5⟩ := hwe.by_
          obtain ⟨hc6, hm6, hA6⟩ := hwe.kids
          obtain ⟨ad2, hd2⟩ := hA6 (ne_nil (i := k) (by first | omega | (simp <;> omega)))
          refine l_val wn (r_ia (i := k) rfl hd2 rfl (by omega) (by first | omega | (simp <;> omega)) Tryd.underlying24 inf26) rfl ?_
          obtain ⟨s2, hs2⟩ : ∃ x, e.kids.l[k]? = some x := ⟨_, List.getElem?_eq_getElem (by first | omega | (simp <;> omega))⟩
          refine l_val wn (r_pln 2 [.int .i64 s2.kind, .int .i64 s2.n, .int .i64 s2.range, .string s2.word, .slice s2.ms.A s2.ms.l.length s2.ms.c, .slice s2.by_.A s2.by_.l.length s2.by_.c, .slice s2.kids.A s2.kids.l.length s2.kids.c] rfl rfl hd2 hs2 rfl rfl agg26 inf26) rfl ?_
          refine l_alloc wn inf26 rfl fun b4 => ?_
          refine l_stn 0 wn rfl rfl rfl inf26 rfl rfl rfl ?_
          refine l_nil (e_go hK10 ?_)
          refine c_seq fun K11 hK11 => ?_
          refine c_region ?_
          refine l_val wn (r_lbn 0 [.int .i64 s2.kind, .int .i64 s2.n, .int .i64 s2.range, .string s2.word, .slice s2.ms.A s2.ms.l.length s2.ms.c, .slice s2.by_.A s2.by_.l.length s2.by_.c, .slice s2.kids.A s2.kids.l.length s2.kids.c] rfl rfl rfl rfl agg26 inf26) rfl ?_
          have hw2 := hwe.all _ (List.mem_of_getElem? hs2)
          refine l_opn (fun _ h => h.one 4 ExprX.Ok.loc rfl hs2) ?_
          refine l_callF wn rfl Tryd.call14 rfl (fun w1 hM => ih s2 (ExprX.kid_lt (List.mem_of_getElem? hs2)) (In w1) w1 (fun _ h => h) (hM.pubAt (i := 0) rfl)) ?_
          refine l_val wn (r_assign rfl) rfl ?_
          refine l_nil (e_go hK11 ?_)
          refine c_seq fun K12 hK12 => ?_
          refine c_region ?_
          refine l_val wn (r_move rfl) rfl ?_
          refine l_val wn (r_neq rfl rfl) rfl ?_
          refine l_nil (e_go hK12 ?_)
          refine c_cond rfl (fun h5 => ?_) (fun h5 => ?_)
          ·
            refine c_seq fun K13 hK13 => ?_
            refine c_region ?_
            refine l_val wn (r_move rfl) rfl ?_
            refine l_val wn (r_assign rfl) rfl ?_
            refine l_nil (e_go hK13 ?_)
            refine c_ret (e_in_r (e_then_r (e_loop1_r (e_in_r (e_then_r (e_ret1 (.inl rfl) Tryd.results14 (rv_tmp rfl) fun w1 hM => ?_))))))
            exact ret_ok (congrArg (Value.int .i64) (((Lg.typed_rest h3).trans ((Lg.typeds_next hI1.2 hs2).2 h5)).symm)) hM
          ·
            refine c_skip (e_in_n (e_go hK9 ?_))
            refine c_region ?_
            refine l_val wn (r_addn rfl rfl (by omega)) rfl ?_
            refine l_val wn (r_move rfl) rfl ?_
            refine l_nil (e_round1 (k + 1) (sc rfl (sc rfl (sc (ji (by omega)) sn))) (fun _ h => (h.sel [6, 7] (by decide) rfl)) ?_ ?_)
            · exact ⟨by omega, (Lg.typeds_next hI1.2 hs2).1.trans (Classical.not_not.1 h5)⟩
            · omega
        ·
          refine c_exit (e_then_x (e_loop1_x (e_in_hit (e_go hK5 ?_))))
          refine c_seq fun K14 hK14 => ?_
          refine c_region ?_
          refine l_val wn (r_assign rfl) rfl ?_
          refine l_nil (e_go hK14 ?_)
          refine c_ret (e_ret1 (.inl rfl) Tryd.results14 (rv_tmp rfl) fun w1 hM => ?_)
          exact ret_ok (congrArg (Value.int .i64) (((Lg.typed_rest h3).trans (by rw [← hI1.2, List.take_of_length_le (by omega)])).symm)) hM
theorem c_refTyped (e : ExprX) : c_refTyped_C e := recX c_refTyped_step e

theorem c_idxStr (lv : Value) (l : List ByteArray) (f : Nat) (fcap : Array Value) (fp : ByteArray → Bool) (w : World) (hl : FlatSl (In w) 1 strE lv l w) (fc : ∀ vs w, (callFunc f vs).run Tryd.prog w = .ok (.enter f vs) w) (fh : ∀ (x : ByteArray) (w1 : World), Fr no w w1 → Calls Tryd.prog f (#[.string x] ++ fcap) w1 (Ret w1 (.bool (fp x))))  :
    Calls Tryd.prog 75 #[lv, .func (.func f) #[] fcap] w (Ret w (.int .i64 (Sh.idx fp l))) := by
 obtain ⟨lA, lc, rfl, hlc, hlm, hlA⟩ := hl.form
 refine fstart (N := 19) (vals := [.slice lA l.length lc, .func (.func f) #[] fcap]) (S := Mem w no [slO (In w) 1 strE (.slice lA l.length lc) l]) Tryd.func75 rfl rfl rfl (Mem.ofDats (dc (dl hl) dn)) ?_
 refine c_seq fun _ hK1 => ?_
 refine c_region ?_
 refine l_val wn (r_assign rfl) rfl ?_
 refine l_nil (e_go hK1 ?_)
 refine c_seq fun _ hK2 => ?_
 refine c_seq fun _ hK3 => ?_
 refine c_region ?_
 refine l_val wn (r_move rfl) rfl ?_
 refine l_val wn (r_len rfl Tryd.underlying23) rfl ?_
 refine l_val wn (r_move rfl) rfl ?_
 refine l_nil (e_go hK3 ?_)
 refine c_block ?_
 refine c_loop1 (fun (k : Nat) => [(0, .slice lA l.length lc), (1, .func (.func f) #[] fcap), (7, .int .i64 (l.length : Int)), (8, .int .i64 (k : Int))]) (fun (k : Nat) => [slO (In w) 1 strE (.slice lA l.length lc) l]) (fun (k : Nat) => k ≤ l.length ∧ ∀ y ∈ l.take k, fp y = false) (fun (k : Nat) => l.length - k) 0 (sc rfl (sc rfl (sc rfl (sc (ji (by omega)) sn)))) (fun _ h => h) ?_ (fun k hI1 => ?_)
 · simp
 refine c_seq fun _ hK4 => ?_
 refine c_region ?_
 refine l_val wn (r_lss rfl rfl) rfl ?_
 refine l_nil (e_go hK4 ?_)
 refine c_seq fun _ hK5 => ?_
 refine c_cond rfl (fun h1 => ?_) (fun h1 => ?_)
 · refine c_skip (e_go hK5 ?_)
   refine c_seq fun _ hK6 => ?_
   refine c_block ?_
   refine c_seq fun _ hK7 => ?_
   refine c_region ?_
   refine l_val wn (r_move rfl) rfl ?_
   refine l_val wn (r_assign rfl) rfl ?_
   refine l_nil (e_go hK7 ?_)
   refine c_seq fun _ hK8 => ?_
   refine c_region ?_
   refine l_val wn (r_move rfl) rfl ?_
   refine l_val wn (r_move rfl) rfl ?_
   refine l_val wn (r_move rfl) rfl ?_
   obtain ⟨ad1, hd1⟩ := hlA (ne_nil (i := k) (by first | omega | (simp <;> omega)))
   refine l_val wn (r_ia (i := k) rfl hd1 rfl (by omega) (by first | omega | (simp <;> omega)) Tryd.underlying23 inf9) rfl ?_
   obtain ⟨s1, hs1⟩ : ∃ x, l[k]? = some x := ⟨_, List.getElem?_eq_getElem (by first | omega | (simp <;> omega))⟩
   refine l_val wn (r_el 0 rfl rfl hd1 hs1 rfl flat9) rfl ?_
   refine l_callR wn rfl rfl fc rfl (fun w1 hM => fh s1 w1 hM.fr) ?_
   refine l_nil (e_go hK8 ?_)
   refine c_condb rfl (fun h2 => ?_) (fun h2 => ?_)
   · refine c_seq fun _ hK9 => ?_
     refine c_region ?_
     refine l_val wn (r_move rfl) rfl ?_
     refine l_val wn (r_assign rfl) rfl ?_
     refine l_nil (e_go hK9 ?_)
     refine c_ret (e_in_r (e_then_r (e_loop1_r (e_in_r (e_then_r (e_ret1 (.inl rfl) Tryd.results75 (rv_tmp rfl) fun w1 hM => ?_))))))
     exact ret_ok (by rw [Sh.idx_at hI1.2 hs1 h2]) hM
   refine c_skip (e_in_n (e_go hK6 ?_))
   refine c_region ?_
   refine l_val wn (r_addn rfl rfl (by omega)) rfl ?_
   refine l_val wn (r_move rfl) rfl ?_
   refine l_nil (e_round1 (k + 1) (sc rfl (sc rfl (sc rfl (sc (ji (by omega)) sn)))) (fun _ h => h) ?_ ?_)
   · exact ⟨by omega, Sh.none_step hI1.2 hs1 h2⟩
   omega
 refine c_exit (e_then_x (e_loop1_x (e_in_hit (e_go hK2 ?_))))
 refine c_seq fun _ hK10 => ?_
 refine c_region ?_
 refine l_val wn (r_assign rfl) rfl ?_
 refine l_nil (e_go hK10 ?_)
 refine c_ret (e_ret1 (.inl rfl) Tryd.results75 (rv_tmp rfl) fun w1 hM => ?_)
 exact ret_ok (by rw [Sh.idx_none hI1.2 (by omega)]) hM

theorem c_contStr (lv : Value) (l : List ByteArray) (f : Nat) (fcap : Array Value) (fp : ByteArray → Bool) (w : World) (hl : FlatSl (In w) 1 strE lv l w) (fc : ∀ vs w, (callFunc f vs).run Tryd.prog w = .ok (.enter f vs) w) (fh : ∀ (x : ByteArray) (w1 : World), Fr no w w1 → Calls Tryd.prog f (#[.string x] ++ fcap) w1 (Ret w1 (.bool (fp x))))  :
    Calls Tryd.prog 60 #[lv, .func (.func f) #[] fcap] w (Ret w (.bool (l.any fp))) := by
 obtain ⟨lA, lc, rfl, hlc, hlm, hlA⟩ := hl.form
 refine fstart (N := 9) (vals := [.slice lA l.length lc, .func (.func f) #[] fcap]) (S := Mem w no [slO (In w) 1 strE (.slice lA l.length lc) l]) Tryd.func60 rfl rfl rfl (Mem.ofDats (dc (dl hl) dn)) ?_
 refine c_seq fun _ hK1 => ?_
 refine c_region ?_
 refine l_val wn (r_assign rfl) rfl ?_
 refine l_nil (e_go hK1 ?_)
 refine c_seq fun _ hK2 => ?_
 refine c_region ?_
 refine l_val wn (r_move rfl) rfl ?_
 refine l_val wn (r_move rfl) rfl ?_
 refine l_callF wn rfl Tryd.call75 rfl (fun w1 hM => c_idxStr _ l f fcap fp w1 (hM.sl 0 rfl) fc (fun x w2 h2 => fh x w2 (hM.fr.trans h2 (fun _ _ h => h)))) ?_
 refine l_val wn (r_geq rfl rfl) rfl ?_
 refine l_val wn (r_assign rfl) rfl ?_
 refine l_nil (e_go hK2 ?_)
 refine c_ret (e_ret1 (.inl rfl) Tryd.results60 (rv_tmp rfl) fun w1 hM => ?_)
 exact ret_ok (congrArg Value.bool (by rw [Bool.eq_iff_iff, decide_eq_true_iff]; exact Sh.idx_any)) hM

theorem c_own1 (k : ByteArray) (w : World)   :
    Calls Tryd.prog 61 #[.string k] w (Ret w (.bool (!Names.named k))) := by
 refine fstart (N := 6) (vals := [.string k]) (S := Mem w no []) Tryd.func61 rfl rfl rfl (Mem.ofDats dn) ?_
 refine c_seq fun _ hK1 => ?_
 refine c_region ?_
 refine l_val wn (r_assign rfl) rfl ?_
 refine l_nil (e_go hK1 ?_)
 refine c_seq fun _ hK2 => ?_
 refine c_region ?_
 refine l_val wn (r_move rfl) rfl ?_
 refine l_callF wn rfl Tryd.call62 rfl (fun w1 hM => c_named k w1) ?_
 refine l_val wn (r_notb rfl) rfl ?_
 refine l_val wn (r_assign rfl) rfl ?_
 refine l_nil (e_go hK2 ?_)
 refine c_ret (e_ret1 (.inl rfl) Tryd.results61 (rv_tmp rfl) fun w1 hM => ?_)
 exact ret_ok rfl hM

theorem c_Totals  (w : World)   :
    Calls Tryd.prog 18 #[] w (RetL w 9 1 strE Lg.totals) := by
 refine fstart (N := 2) (vals := []) (S := Mem w no []) Tryd.func18 rfl rfl rfl (Mem.ofDats dn) ?_
 refine c_seq fun _ hK1 => ?_
 refine c_region ?_
 refine l_val wn (r_assign rfl) rfl ?_
 refine l_nil (e_go hK1 ?_)
 refine c_seq fun _ hK2 => ?_
 refine c_region ?_
 refine l_bsL strE ([⟨#[99, 111, 117, 110, 116]⟩, ⟨#[109, 97, 120]⟩, ⟨#[109, 105, 110]⟩, ⟨#[115, 117, 109]⟩] : List ByteArray) wn Tryd.underlying23 inf9 rfl rfl rfl rfl (by decide) (by decide) rfl fun b1 => ?_
 refine l_val wn (r_assign rfl) rfl ?_
 refine l_nil (e_go hK2 ?_)
 refine c_ret (e_ret1 (.inl rfl) Tryd.results18 (rv_tmp rfl) fun w1 hM => ?_)
 exact hM.retL' 0 rfl rfl

theorem c_refTotals  (w : World)   :
    Calls Tryd.prog 19 #[] w (RetL w 9 1 strE Lg.totals) := by
 refine fstart (N := 2) (vals := []) (S := Mem w no []) Tryd.func19 rfl rfl rfl (Mem.ofDats dn) ?_
 refine c_seq fun _ hK1 => ?_
 refine c_region ?_
 refine l_val wn (r_assign rfl) rfl ?_
 refine l_nil (e_go hK1 ?_)
 refine c_seq fun _ hK2 => ?_
 refine c_region ?_
 refine l_bsL strE ([⟨#[99, 111, 117, 110, 116]⟩, ⟨#[109, 97, 120]⟩, ⟨#[109, 105, 110]⟩, ⟨#[115, 117, 109]⟩] : List ByteArray) wn Tryd.underlying23 inf9 rfl rfl rfl rfl (by decide) (by decide) rfl fun b1 => ?_
 refine l_val wn (r_assign rfl) rfl ?_
 refine l_nil (e_go hK2 ?_)
 refine c_ret (e_ret1 (.inl rfl) Tryd.results19 (rv_tmp rfl) fun w1 hM => ?_)
 exact hM.retL' 0 rfl rfl

theorem c_refWords  (w : World)   :
    Calls Tryd.prog 46 #[] w (RetL w 9 1 strE Agg.words) := by
 refine fstart (N := 2) (vals := []) (S := Mem w no []) Tryd.func46 rfl rfl rfl (Mem.ofDats dn) ?_
 refine c_seq fun _ hK1 => ?_
 refine c_region ?_
 refine l_val wn (r_assign rfl) rfl ?_
 refine l_nil (e_go hK1 ?_)
 refine c_seq fun _ hK2 => ?_
 refine c_region ?_
 refine l_bsL strE ([⟨#[97, 118, 103]⟩, ⟨#[99, 111, 117, 110, 116]⟩, ⟨#[102, 105, 114, 115, 116]⟩, ⟨#[108, 97, 115, 116]⟩, ⟨#[109, 97, 120]⟩, ⟨#[109, 105, 110]⟩, ⟨#[114, 105, 115, 101]⟩, ⟨#[115, 117, 109]⟩] : List ByteArray) wn Tryd.underlying23 inf9 rfl rfl rfl rfl (by decide) (by decide) rfl fun b1 => ?_
 refine l_val wn (r_assign rfl) rfl ?_
 refine l_nil (e_go hK2 ?_)
 refine c_ret (e_ret1 (.inl rfl) Tryd.results46 (rv_tmp rfl) fun w1 hM => ?_)
 exact hM.retL' 0 rfl rfl

theorem c_refIn (v : ByteArray) (lv : Value) (l : List ByteArray) (w : World) (hl : FlatSl (In w) 1 strE lv l w)  :
    Calls Tryd.prog 45 #[.string v, lv] w (Ret w (.bool (decide (0 ≤ Names.indexOf l v 0)))) := by
 obtain ⟨lA, lc, rfl, hlc, hlm, hlA⟩ := hl.form
 refine fstart (N := 17) (vals := [.string v, .slice lA l.length lc]) (S := Mem w no [slO (In w) 1 strE (.slice lA l.length lc) l]) Tryd.func45 rfl rfl rfl (Mem.ofDats (dc (dl hl) dn)) ?_
 refine c_seq fun _ hK1 => ?_
 refine c_region ?_
 refine l_val wn (r_assign rfl) rfl ?_
 refine l_nil (e_go hK1 ?_)
 refine c_seq fun _ hK2 => ?_
 refine c_seq fun _ hK3 => ?_
 refine c_region ?_
 refine l_val wn (r_move rfl) rfl ?_
 refine l_val wn (r_len rfl Tryd.underlying23) rfl ?_
 refine l_val wn (r_move rfl) rfl ?_
 refine l_nil (e_go hK3 ?_)
 refine c_block ?_
 refine c_loop1 (fun (k : Nat) => [(0, .string v), (7, .slice lA l.length lc), (8, .int .i64 (l.length : Int)), (9, .int .i64 (k : Int))]) (fun (k : Nat) => [slO (In w) 1 strE (.slice lA l.length lc) l]) (fun (k : Nat) => k ≤ l.length ∧ Names.indexOf l v 0 = Names.indexOf (l.drop k) v k) (fun (k : Nat) => l.length - k) 0 (sc rfl (sc rfl (sc rfl (sc (ji (by omega)) sn)))) (fun _ h => h) ?_ (fun k hI1 => ?_)
 · simp
 refine c_seq fun _ hK4 => ?_
 refine c_region ?_
 refine l_val wn (r_lss rfl rfl) rfl ?_
 refine l_nil (e_go hK4 ?_)
 refine c_seq fun _ hK5 => ?_
 refine c_cond rfl (fun h1 => ?_) (fun h1 => ?_)
 · refine c_skip (e_go hK5 ?_)
   refine c_seq fun _ hK6 => ?_
   refine c_block ?_
   refine c_seq fun _ hK7 => ?_
   refine c_region ?_
   obtain ⟨ad1, hd1⟩ := hlA (ne_nil (i := k) (by first | omega | (simp <;> omega)))
   refine l_val wn (r_ia (i := k) rfl hd1 rfl (by omega) (by first | omega | (simp <;> omega)) Tryd.underlying23 inf9) rfl ?_
   obtain ⟨s1, hs1⟩ : ∃ x, l[k]? = some x := ⟨_, List.getElem?_eq_getElem (by first | omega | (simp <;> omega))⟩
   refine l_val wn (r_el 0 rfl rfl hd1 hs1 rfl flat9) rfl ?_
   refine l_val wn (r_assign rfl) rfl ?_
   refine l_nil (e_go hK7 ?_)
   refine c_seq fun _ hK8 => ?_
   refine c_region ?_
   refine l_val wn (r_move rfl) rfl ?_
   refine l_val wn (r_move rfl) rfl ?_
   refine l_val wn (r_seql rfl rfl) rfl ?_
   refine l_nil (e_go hK8 ?_)
   refine c_cond rfl (fun h2 => ?_) (fun h2 => ?_)
   · refine c_seq fun _ hK9 => ?_
     refine c_region ?_
     refine l_val wn (r_assign rfl) rfl ?_
     refine l_nil (e_go hK9 ?_)
     refine c_ret (e_in_r (e_then_r (e_loop1_r (e_in_r (e_then_r (e_ret1 (.inl rfl) Tryd.results45 (rv_tmp rfl) fun w1 hM => ?_))))))
     exact ret_ok (by rw [hI1.2, Names.index_step hs1, if_pos (Eq.symm h2), decide_eq_true (by omega)]) hM
   refine c_skip (e_in_n (e_go hK6 ?_))
   refine c_region ?_
   refine l_val wn (r_addn rfl rfl (by omega)) rfl ?_
   refine l_val wn (r_move rfl) rfl ?_
   refine l_nil (e_round1 (k + 1) (sc rfl (sc rfl (sc rfl (sc (ji (by omega)) sn)))) (fun _ h => h) ?_ ?_)
   · exact ⟨by omega, by rw [hI1.2, Names.index_step hs1, if_neg (fun e => h2 e.symm)]⟩
   omega
 refine c_exit (e_then_x (e_loop1_x (e_in_hit (e_go hK2 ?_))))
 refine c_seq fun _ hK10 => ?_
 refine c_region ?_
 refine l_val wn (r_assign rfl) rfl ?_
 refine l_nil (e_go hK10 ?_)
 refine c_ret (e_ret1 (.inl rfl) Tryd.results45 (rv_tmp rfl) fun w1 hM => ?_)
 exact ret_ok (by rw [hI1.2, Names.index_end (by omega)]; rfl) hM

theorem c_kids (kind : Int) (w : World)  (h1_ : 1 ≤ kind) (h2_ : kind ≤ 4) :
    Calls Tryd.prog 43 #[.int .i64 kind] w (Ret w (.int .i64 (Lg.arity kind))) := by
 refine fstart (N := 7) (vals := [.int .i64 kind]) (S := Mem w no []) Tryd.func43 rfl rfl rfl (Mem.ofDats dn) ?_
 refine c_seq fun _ hK1 => ?_
 refine c_region ?_
 refine l_val wn (r_assign rfl) rfl ?_
 refine l_nil (e_go hK1 ?_)
 refine c_seq fun _ hK2 => ?_
 refine c_region ?_
 refine l_bsL intE ([0, 0, 0, 1, 2] : List Int) wn Tryd.underlying93 inf3 rfl rfl rfl rfl (by decide) (by decide) rfl fun b3 => ?_
 refine l_val wn (r_move rfl) rfl ?_
 refine l_val wn (r_ia (i := kind.toNat) rfl rfl rfl (by omega) (by first | omega | (simp <;> omega)) Tryd.underlying93 inf3) rfl ?_
 obtain ⟨s1, hs1⟩ : ∃ x, ([0, 0, 0, 1, 2] : List Int)[kind.toNat]? = some x := ⟨_, List.getElem?_eq_getElem (by first | omega | (simp <;> omega))⟩
 refine l_val wn (r_rl 0 encInt rfl rfl rfl hs1 rfl flat3) rfl ?_
 refine l_val wn (r_assign rfl) rfl ?_
 refine l_nil (e_go hK2 ?_)
 refine c_ret (e_ret1 (.inl rfl) Tryd.results43 (rv_tmp rfl) fun w1 hM => ?_)
 exact ret_ok (congrArg (Value.int .i64) (Lg.arity_at h1_ h2_ hs1)) hM

set_option maxHeartbeats 1000000 in
theorem c_shWindow (h : Value) (ead : Addr) (e : ExprX) (P0 : Nat → Prop) (w : World) (hP0 : ∀ b, P0 b → b < w.heap.size) (hec : CelAt P0 ead (exprE e) w) (he : ExprX.Ok P0 e w)  :
    Calls Tryd.prog 58 #[h, .pointer (some ead)] w (Ret w (.int .i64 (Lg.windowW e.word e.ms.l e.range))) := by
 have hwe := he.wf
 refine fstart (N := 70) (vals := [h, .pointer (some ((Addr.add ead 0).add 0))]) (S := Mem w ⟨no, P0⟩ [celP ead [.int .i64 e.kind, .int .i64 e.n, .int .i64 e.range, .string e.word, .slice e.ms.A e.ms.l.length e.ms.c, .slice e.by_.A e.by_.l.length e.by_.c, .slice e.kids.A e.kids.l.length e.kids.c], okP ExprX.Ok e]) Tryd.func58 rfl rfl rfl (Mem.ofDatsP hP0 (dc (dp (CelAt.loc _ _) hec) (dc (dp (ExprX.Ok.loc _) he) dn))) ?_
 refine c_seq fun _ hK1 => ?_
 refine c_region ?_
 refine l_val wn (r_assign rfl) rfl ?_
 refine l_nil (e_go hK1 ?_)
 refine c_seq fun _ hK2 => ?_
 refine c_seq fun _ hK3 => ?_
 refine c_nodes (Mem w ⟨no, P0⟩ [celP ead [.int .i64 e.kind, .int .i64 e.n, .int .i64 e.range, .string e.word, .slice e.ms.A e.ms.l.length e.ms.c, .slice e.by_.A e.by_.l.length e.by_.c, .slice e.kids.A e.kids.l.length e.kids.c], okP ExprX.Ok e]) mix (fun _ h => h.drew) rfl ?_
 refine n_run (f := 3) [1, 2, 3, 4] rfl rfl (by kernel_rfl) (by kernel_rfl) (fun _ h => h) fun KS hKS => ?_
 refine s_val wn (r_move rfl) rfl ?_
 refine s_val wn (r_nilCheck rfl) rfl ?_
 refine s_val wn (r_fe rfl fld26_3) rfl ?_
 refine s_val wn (r_cel 0 rfl rfl rfl flat9) rfl ?_
 refine s_end hKS ?_
 refine n_step1 (f := 2) (i := 0) rfl (by kernel_rfl) ?_
 refine n_one (i := 0) rfl fun KN hKN => ?_
 refine l_callL Agg.words wn rfl Tryd.call73 rfl (fun w1 hM => c_Words  w1) fun A1 cp1 hc1 hm1 hA1 => ?_
 refine l_nil (hKN _ _ (fun _ h => (h.sel [1, 2] (by decide) rfl)) ?_)
 refine n_step1 (f := 1) (i := 5) rfl (by kernel_rfl) ?_
 refine n_one (i := 5) rfl fun KN hKN => ?_
 refine l_callF wn rfl Tryd.call59 rfl (fun w1 hM => c_contains _ Agg.words e.word w1 (RowSl encString hM 0 rfl)) ?_
 refine l_nil (hKN _ _ (fun _ h => (h.sel [1, 2] (by decide) rfl)) ?_)
 refine n_run (f := 0) [6] rfl rfl (by kernel_rfl) (by kernel_rfl) (fun _ h => (h.sel [1, 2] (by decide) rfl)) fun KS hKS => ?_
 refine s_val wn (r_not rfl) rfl ?_
 refine s_end hKS ?_
 refine n_done (by kernel_rfl) (e_go hK3 ?_)
 refine c_cond rfl (fun h1 => ?_) (fun h1 => ?_)
 · refine c_seq fun _ hK4 => ?_
   refine c_region ?_
   refine l_val wn (r_assign rfl) rfl ?_
   refine l_nil (e_go hK4 ?_)
   refine c_ret (e_then_r (e_ret1 (.inl rfl) Tryd.results58 (rv_tmp rfl) fun w1 hM => ?_))
   exact ret_ok (congrArg (Value.int .i64) (by unfold Lg.windowW; grind)) hM
 refine c_skip (e_go hK2 ?_)
 refine c_seq fun _ hK5 => ?_
 refine c_seq fun _ hK6 => ?_
 refine c_region ?_
 refine l_val wn (r_move rfl) rfl ?_
 refine l_val wn (r_nilCheck rfl) rfl ?_
 refine l_val wn (r_fe rfl fld26_4) rfl ?_
 refine l_val wn (r_cel 1 rfl rfl rfl flat22) rfl ?_
 refine l_val wn (r_len rfl Tryd.underlying22) rfl ?_
 refine l_val wn (r_gtr rfl rfl) rfl ?_
 refine l_nil (e_go hK6 ?_)
 refine c_cond rfl (fun h2 => ?_) (fun h2 => ?_)
 · refine c_seq fun _ hK7 => ?_
   refine c_region ?_
   refine l_val wn (r_assign rfl) rfl ?_
   refine l_nil (e_go hK7 ?_)
   refine c_ret (e_then_r (e_ret1 (.inl rfl) Tryd.results58 (rv_tmp rfl) fun w1 hM => ?_))
   exact ret_ok (congrArg (Value.int .i64) (by unfold Lg.windowW; grind)) hM
 refine c_skip (e_go hK5 ?_)
 refine c_seq fun _ hK8 => ?_
 refine c_seq fun _ hK9 => ?_
 refine c_region ?_
 refine l_val wn (r_move rfl) rfl ?_
 refine l_val wn (r_nilCheck rfl) rfl ?_
 refine l_val wn (r_fe rfl fld26_4) rfl ?_
 refine l_val wn (r_cel 1 rfl rfl rfl flat22) rfl ?_
 refine l_val wn (r_len rfl Tryd.underlying22) rfl ?_
 refine l_val wn (r_move rfl) rfl ?_
 refine l_nil (e_go hK9 ?_)
 refine c_block ?_
 refine c_loop1 (fun (k : Nat) => [(1, .pointer (some ((Addr.add ead 0).add 0))), (23, .slice e.ms.A e.ms.l.length e.ms.c), (24, .int .i64 (e.ms.l.length : Int)), (25, .int .i64 (k : Int))]) (fun (k : Nat) => [Row (.slice A1 Agg.words.length cp1) 9 1 strE Agg.words, celP ead [.int .i64 e.kind, .int .i64 e.n, .int .i64 e.range, .string e.word, .slice e.ms.A e.ms.l.length e.ms.c, .slice e.by_.A e.by_.l.length e.by_.c, .slice e.kids.A e.kids.l.length e.kids.c], okP ExprX.Ok e]) (fun (k : Nat) => k ≤ e.ms.l.length ∧ Lg.matchesW e.ms.l = Lg.matchesW (e.ms.l.drop k)) (fun (k : Nat) => e.ms.l.length - k) 0 (sc rfl (sc rfl (sc rfl (sc (ji (by omega)) sn)))) (fun _ h => h) ?_ (fun k hI1 => ?_)
 · simp
 refine c_seq fun _ hK10 => ?_
 refine c_region ?_
 refine l_val wn (r_lss rfl rfl) rfl ?_
 refine l_nil (e_go hK10 ?_)
 refine c_seq fun _ hK11 => ?_
 refine c_cond rfl (fun h3 => ?_) (fun h3 => ?_)
 · refine c_skip (e_go hK11 ?_)
   refine c_seq fun _ hK12 => ?_
   refine c_block ?_
   refine c_seq fun _ hK13 => ?_
   refine c_region ?_
   refine l_opn (fun _ h => h.exprX 2 rfl) ?_
   obtain ⟨hc2, hm2, hA2⟩ := hwe.ms
   obtain ⟨hc3, hm3, hA3⟩ := hwe.by_
   obtain ⟨hc4, hm4, hA4⟩ := hwe.kids
   obtain ⟨ad1, hd1⟩ := hA2 (ne_nil (i := k) (by first | omega | (simp <;> omega)))
   refine l_val wn (r_ia (i := k) rfl hd1 rfl (by omega) (by first | omega | (simp <;> omega)) Tryd.underlying22 inf74) rfl ?_
   obtain ⟨s1, hs1⟩ : ∃ x, e.ms.l[k]? = some x := ⟨_, List.getElem?_eq_getElem (by first | omega | (simp <;> omega))⟩
   refine l_val wn (r_pln 0 [.int .i64 s1.kind, .string s1.key, .string s1.val] rfl rfl hd1 hs1 rfl rfl agg74 inf74) rfl ?_
   refine l_alloc wn inf74 rfl fun b6 => ?_
   refine l_stn 0 wn rfl rfl rfl inf74 rfl rfl rfl ?_
   refine l_nil (e_go hK13 ?_)
   refine c_seq fun _ hK14 => ?_
   refine c_cut [(1, .pointer (some ((Addr.add ead 0).add 0))), (6, .pointer (some ⟨b6, 0, none⟩)), (23, .slice e.ms.A e.ms.l.length e.ms.c), (24, .int .i64 (e.ms.l.length : Int)), (25, .int .i64 (k : Int)), (36, .bool (decide ((s1.kind < 1) ∨ (4 < s1.kind))))] (Mem w ⟨no, P0⟩ [.blk b6 [.int .i64 s1.kind, .string s1.key, .string s1.val] 74, slP 3 matchE (.slice e.ms.A e.ms.l.length e.ms.c) e.ms.l, slP 1 strE (.slice e.by_.A e.by_.l.length e.by_.c) e.by_.l, slP 7 exprE (.slice e.kids.A e.kids.l.length e.kids.c) e.kids.l, allP ExprX.Ok e.kids.l, Row (.slice A1 Agg.words.length cp1) 9 1 strE Agg.words, celP ead [.int .i64 e.kind, .int .i64 e.n, .int .i64 e.range, .string e.word, .slice e.ms.A e.ms.l.length e.ms.c, .slice e.by_.A e.by_.l.length e.by_.c, .slice e.kids.A e.kids.l.length e.kids.c], okP ExprX.Ok e]) (fun _ hK15 => ?_) ?_
   · refine c_region ?_
     refine l_val wn (r_fa rfl fld74_0) rfl ?_
     refine l_val wn (r_lb 0 rfl rfl rfl flat3) rfl ?_
     refine l_val wn (r_lss rfl rfl) rfl ?_
     refine l_val wn (r_move rfl) rfl ?_
     refine l_case (t := 32) rfl (fun h4 => ?_) (fun h4 => ?_)
     · refine l_skip (wg rfl rfl rfl) rfl ?_
       refine l_skip (wg rfl rfl rfl) rfl ?_
       refine l_skip (wg rfl rfl rfl) rfl ?_
       refine l_val wn (r_pick rfl rfl) rfl ?_
       refine l_nil (e_cut hK15 (sc rfl (sc rfl (sc rfl (sc rfl (sc rfl (sc (jt (Or.inl h4)) sn)))))) (fun _ h => h))
     refine l_val (wg rfl rfl rfl) (r_fa rfl fld74_0) rfl ?_
     refine l_val (wg rfl rfl rfl) (r_lb 0 rfl rfl rfl flat3) rfl ?_
     refine l_val (wg rfl rfl rfl) (r_gtr rfl rfl) rfl ?_
     refine l_val wn (r_pick rfl rfl) rfl ?_
     refine l_nil (e_cut hK15 (sc rfl (sc rfl (sc rfl (sc rfl (sc rfl (sc (jp (iff_or_right h4 Iff.rfl)) sn)))))) (fun _ h => h))
   refine c_cond rfl (fun h5 => ?_) (fun h5 => ?_)
   · refine c_seq fun _ hK16 => ?_
     refine c_region ?_
     refine l_val wn (r_assign rfl) rfl ?_
     refine l_nil (e_go hK16 ?_)
     refine c_ret (e_then_r (e_in_r (e_then_r (e_loop1_r (e_in_r (e_then_r (e_ret1 (.inl rfl) Tryd.results58 (rv_tmp rfl) fun w1 hM => ?_)))))))
     exact ret_ok (congrArg (Value.int .i64) (by have hx := Lg.matchesW_step hs1; unfold Lg.matchW at hx; unfold Lg.windowW; grind)) hM
   refine c_skip (e_go hK14 ?_)
   refine c_cut [(1, .pointer (some ((Addr.add ead 0).add 0))), (23, .slice e.ms.A e.ms.l.length e.ms.c), (24, .int .i64 (e.ms.l.length : Int)), (25, .int .i64 (k : Int)), (56, .bool (decide (((!(Names.named s1.key)) = true) ∨ (((s1.kind = 1) ∧ ((!(Names.named s1.val)) = true)) ∨ (¬ (s1.kind = 1) ∧ ((s1.kind = 2) ∧ ((!(Names.named s1.val)) = true)))))))] (Mem w ⟨no, P0⟩ [.blk b6 [.int .i64 s1.kind, .string s1.key, .string s1.val] 74, slP 3 matchE (.slice e.ms.A e.ms.l.length e.ms.c) e.ms.l, slP 1 strE (.slice e.by_.A e.by_.l.length e.by_.c) e.by_.l, slP 7 exprE (.slice e.kids.A e.kids.l.length e.kids.c) e.kids.l, allP ExprX.Ok e.kids.l, Row (.slice A1 Agg.words.length cp1) 9 1 strE Agg.words, celP ead [.int .i64 e.kind, .int .i64 e.n, .int .i64 e.range, .string e.word, .slice e.ms.A e.ms.l.length e.ms.c, .slice e.by_.A e.by_.l.length e.by_.c, .slice e.kids.A e.kids.l.length e.kids.c], okP ExprX.Ok e]) (fun _ hK17 => ?_) ?_
   · refine c_region ?_
     refine l_val wn (r_fa rfl fld74_1) rfl ?_
     refine l_val wn (r_lb 0 rfl rfl rfl flat9) rfl ?_
     refine l_callF wn rfl Tryd.call62 rfl (fun w1 hM => c_named s1.key w1) ?_
     refine l_val wn (r_notb rfl) rfl ?_
     refine l_val wn (r_move rfl) rfl ?_
     refine l_caseb (t := 41) rfl (fun h6 => ?_) (fun h6 => ?_)
     · refine l_skip (wg rfl rfl rfl) rfl ?_
       refine l_skip (wg rfl rfl rfl) rfl ?_
       refine l_skip (wg rfl rfl rfl) rfl ?_
       refine l_skip (wg rfl rfl rfl) rfl ?_
       refine l_skip (wu rfl rfl) rfl ?_
       refine l_skip (wu rfl rfl) rfl ?_
       refine l_skip (wu rfl rfl) rfl ?_
       refine l_skip (wg rfl rfl rfl) rfl ?_
       refine l_skip (wg rfl rfl rfl) rfl ?_
       refine l_skip (wu rfl rfl) rfl ?_
       refine l_skip (wu rfl rfl) rfl ?_
       refine l_skip (wu rfl rfl) rfl ?_
       refine l_skip (wu rfl rfl) rfl ?_
       refine l_skip (wg rfl rfl rfl) rfl ?_
       refine l_val wn (r_pick rfl rfl) rfl ?_
       refine l_nil (e_cut hK17 (sc rfl (sc rfl (sc rfl (sc rfl (sc (jt (Or.inl h6)) sn))))) (fun _ h => h))
     refine l_val (wg rfl rfl rfl) (r_fa rfl fld74_0) rfl ?_
     refine l_val (wg rfl rfl rfl) (r_lb 0 rfl rfl rfl flat3) rfl ?_
     refine l_val (wg rfl rfl rfl) (r_eql rfl rfl) rfl ?_
     refine l_val (wg rfl rfl rfl) (r_move rfl) rfl ?_
     refine l_case (t := 45) rfl (fun h7 => ?_) (fun h7 => ?_)
     · refine l_skip (wg rfl rfl rfl) rfl ?_
       refine l_skip (wg rfl rfl rfl) rfl ?_
       refine l_skip (wg rfl rfl rfl) rfl ?_
       refine l_val (wg rfl rfl rfl) (r_pick rfl rfl) rfl ?_
       refine l_val (wg rfl rfl rfl) (r_move rfl) rfl ?_
       refine l_val (wg rfl rfl rfl) (r_fa rfl fld74_2) rfl ?_
       refine l_val (wg rfl rfl rfl) (r_lb 0 rfl rfl rfl flat9) rfl ?_
       refine l_callF (wg rfl rfl rfl) rfl Tryd.call62 rfl (fun w1 hM => c_named s1.val w1) ?_
       refine l_val (wg rfl rfl rfl) (r_notb rfl) rfl ?_
       refine l_val (wg rfl rfl rfl) (r_pick rfl rfl) rfl ?_
       refine l_val wn (r_pick rfl rfl) rfl ?_
       refine l_nil (e_cut hK17 (sc rfl (sc rfl (sc rfl (sc rfl (sc (jpb (iff_or_right h6 (iff_ite_l h7 Iff.rfl))) sn))))) (fun _ h => h))
     refine l_val (wg rfl rfl rfl) (r_fa rfl fld74_0) rfl ?_
     refine l_val (wg rfl rfl rfl) (r_lb 0 rfl rfl rfl flat3) rfl ?_
     refine l_val (wg rfl rfl rfl) (r_eql rfl rfl) rfl ?_
     refine l_val (wg rfl rfl rfl) (r_pick rfl rfl) rfl ?_
     refine l_val (wg rfl rfl rfl) (r_move rfl) rfl ?_
     refine l_case (t := 50) rfl (fun h8 => ?_) (fun h8 => ?_)
     · refine l_val (wg rfl rfl rfl) (r_fa rfl fld74_2) rfl ?_
       refine l_val (wg rfl rfl rfl) (r_lb 0 rfl rfl rfl flat9) rfl ?_
       refine l_callF (wg rfl rfl rfl) rfl Tryd.call62 rfl (fun w1 hM => c_named s1.val w1) ?_
       refine l_val (wg rfl rfl rfl) (r_notb rfl) rfl ?_
       refine l_val (wg rfl rfl rfl) (r_pick rfl rfl) rfl ?_
       refine l_val wn (r_pick rfl rfl) rfl ?_
       refine l_nil (e_cut hK17 (sc rfl (sc rfl (sc rfl (sc rfl (sc (jpb (iff_or_right h6 (iff_ite_r h7 (iff_and_right h8 Iff.rfl)))) sn))))) (fun _ h => h))
     refine l_skip (wg rfl rfl rfl) rfl ?_
     refine l_skip (wg rfl rfl rfl) rfl ?_
     refine l_skip (wg rfl rfl rfl) rfl ?_
     refine l_skip (wg rfl rfl rfl) rfl ?_
     refine l_val (wg rfl rfl rfl) (r_pick rfl rfl) rfl ?_
     refine l_val wn (r_pick rfl rfl) rfl ?_
     refine l_nil (e_cut hK17 (sc rfl (sc rfl (sc rfl (sc rfl (sc (jf (fun g => g.elim h6 (fun g => g.elim (fun k => h7 k.1) (fun k => (fun g => h8 g.1) k.2)))) sn))))) (fun _ h => h))
   refine c_cond rfl (fun h9 => ?_) (fun h9 => ?_)
   · refine c_seq fun _ hK18 => ?_
     refine c_region ?_
     refine l_val wn (r_assign rfl) rfl ?_
     refine l_nil (e_go hK18 ?_)
     refine c_ret (e_in_r (e_then_r (e_loop1_r (e_in_r (e_then_r (e_ret1 (.inl rfl) Tryd.results58 (rv_tmp rfl) fun w1 hM => ?_))))))
     exact ret_ok (congrArg (Value.int .i64) (by have hx := Lg.matchesW_step hs1; unfold Lg.matchW at hx; unfold Lg.windowW; grind)) hM
   refine c_skip (e_in_n (e_go hK12 ?_))
   refine c_region ?_
   refine l_val wn (r_addn rfl rfl (by omega)) rfl ?_
   refine l_val wn (r_move rfl) rfl ?_
   refine l_nil (e_round1 (k + 1) (sc rfl (sc rfl (sc rfl (sc (ji (by omega)) sn)))) (fun _ h => (h.sel [5, 6, 7] (by decide) rfl)) ?_ ?_)
   · exact ⟨by omega, by rw [hI1.2, Lg.matchesW_step hs1]; unfold Lg.matchW; grind⟩
   omega
 refine c_exit (e_then_x (e_loop1_x (e_in_hit (e_go hK8 ?_))))
 refine c_seq fun _ hK19 => ?_
 refine c_cut [(69, .bool (decide ((e.range < 1) ∨ (100000 < e.range))))] (Mem w ⟨no, P0⟩ [Row (.slice A1 Agg.words.length cp1) 9 1 strE Agg.words, celP ead [.int .i64 e.kind, .int .i64 e.n, .int .i64 e.range, .string e.word, .slice e.ms.A e.ms.l.length e.ms.c, .slice e.by_.A e.by_.l.length e.by_.c, .slice e.kids.A e.kids.l.length e.kids.c], okP ExprX.Ok e]) (fun _ hK20 => ?_) ?_
 · refine c_region ?_
   refine l_val wn (r_move rfl) rfl ?_
   refine l_val wn (r_nilCheck rfl) rfl ?_
   refine l_val wn (r_fe rfl fld26_2) rfl ?_
   refine l_val wn (r_cel 1 rfl rfl rfl flat3) rfl ?_
   refine l_val wn (r_lss rfl rfl) rfl ?_
   refine l_val wn (r_move rfl) rfl ?_
   refine l_case (t := 63) rfl (fun h10 => ?_) (fun h10 => ?_)
   · refine l_skip (wg rfl rfl rfl) rfl ?_
     refine l_skip (wg rfl rfl rfl) rfl ?_
     refine l_skip (wg rfl rfl rfl) rfl ?_
     refine l_skip (wg rfl rfl rfl) rfl ?_
     refine l_skip (wg rfl rfl rfl) rfl ?_
     refine l_val wn (r_pick rfl rfl) rfl ?_
     refine l_nil (e_cut hK20 (sc (jt (Or.inl h10)) sn) (fun _ h => h))
   refine l_val (wg rfl rfl rfl) (r_move rfl) rfl ?_
   refine l_val (wg rfl rfl rfl) (r_nilCheck rfl) rfl ?_
   refine l_val (wg rfl rfl rfl) (r_fe rfl fld26_2) rfl ?_
   refine l_val (wg rfl rfl rfl) (r_cel 1 rfl rfl rfl flat3) rfl ?_
   refine l_val (wg rfl rfl rfl) (r_gtr rfl rfl) rfl ?_
   refine l_val wn (r_pick rfl rfl) rfl ?_
   refine l_nil (e_cut hK20 (sc (jp (iff_or_right h10 Iff.rfl)) sn) (fun _ h => h))
 refine c_cond rfl (fun h11 => ?_) (fun h11 => ?_)
 · refine c_seq fun _ hK21 => ?_
   refine c_region ?_
   refine l_val wn (r_assign rfl) rfl ?_
   refine l_nil (e_go hK21 ?_)
   refine c_ret (e_then_r (e_ret1 (.inl rfl) Tryd.results58 (rv_tmp rfl) fun w1 hM => ?_))
   exact ret_ok (congrArg (Value.int .i64) (by have hx := Lg.matchesW_end (l := e.ms.l) (k := k) (by omega); unfold Lg.windowW; grind)) hM
 refine c_skip (e_go hK19 ?_)
 refine c_seq fun _ hK22 => ?_
 refine c_region ?_
 refine l_val wn (r_assign rfl) rfl ?_
 refine l_nil (e_go hK22 ?_)
 refine c_ret (e_ret1 (.inl rfl) Tryd.results58 (rv_tmp rfl) fun w1 hM => ?_)
 exact ret_ok (congrArg (Value.int .i64) (by have hx := Lg.matchesW_end (l := e.ms.l) (k := k) (by omega); unfold Lg.windowW; grind)) hM

set_option maxHeartbeats 1000000 in
theorem c_shOwn (h : Value) (ead : Addr) (e : ExprX) (P0 : Nat → Prop) (w : World) (hP0 : ∀ b, P0 b → b < w.heap.size) (hec : CelAt P0 ead (exprE e) w) (he : ExprX.Ok P0 e w)  :
    Calls Tryd.prog 44 #[h, .pointer (some ead)] w (Ret w (.int .i64 (Lg.ownW e.kind e.n e.range e.word e.ms.l e.by_.l))) := by
 have hwe := he.wf
 refine fstart (N := 67) (vals := [h, .pointer (some ((Addr.add ead 0).add 0))]) (S := Mem w ⟨no, P0⟩ [celP ead [.int .i64 e.kind, .int .i64 e.n, .int .i64 e.range, .string e.word, .slice e.ms.A e.ms.l.length e.ms.c, .slice e.by_.A e.by_.l.length e.by_.c, .slice e.kids.A e.kids.l.length e.kids.c], okP ExprX.Ok e]) Tryd.func44 rfl rfl rfl (Mem.ofDatsP hP0 (dc (dp (CelAt.loc _ _) hec) (dc (dp (ExprX.Ok.loc _) he) dn))) ?_
 refine c_seq fun _ hK1 => ?_
 refine c_region ?_
 refine l_val wn (r_assign rfl) rfl ?_
 refine l_nil (e_go hK1 ?_)
 refine c_seq fun _ hK2 => ?_
 refine c_seq fun _ hK3 => ?_
 refine c_region ?_
 refine l_val wn (r_move rfl) rfl ?_
 refine l_val wn (r_nilCheck rfl) rfl ?_
 refine l_val wn (r_fe rfl fld26_0) rfl ?_
 refine l_val wn (r_cel 0 rfl rfl rfl flat3) rfl ?_
 refine l_nil (e_go hK3 ?_)
 refine c_block ?_
 refine c_seq fun _ hK4 => ?_
 refine c_region ?_
 refine l_val wn (r_eql rfl rfl) rfl ?_
 refine l_val wn (r_assign rfl) rfl ?_
 refine l_nil (e_go hK4 ?_)
 refine c_cond rfl (fun h1 => ?_) (fun h1 => ?_)
 · refine c_cut [(41, .bool (decide ((e.n < 0) ∨ (1000000 < e.n))))] (Mem w ⟨no, P0⟩ [celP ead [.int .i64 e.kind, .int .i64 e.n, .int .i64 e.range, .string e.word, .slice e.ms.A e.ms.l.length e.ms.c, .slice e.by_.A e.by_.l.length e.by_.c, .slice e.kids.A e.kids.l.length e.kids.c], okP ExprX.Ok e]) (fun _ hK5 => ?_) ?_
   · refine c_region ?_
     refine l_val wn (r_move rfl) rfl ?_
     refine l_val wn (r_nilCheck rfl) rfl ?_
     refine l_val wn (r_fe rfl fld26_1) rfl ?_
     refine l_val wn (r_cel 0 rfl rfl rfl flat3) rfl ?_
     refine l_val wn (r_lss rfl rfl) rfl ?_
     refine l_val wn (r_move rfl) rfl ?_
     refine l_case (t := 35) rfl (fun h2 => ?_) (fun h2 => ?_)
     · refine l_skip (wg rfl rfl rfl) rfl ?_
       refine l_skip (wg rfl rfl rfl) rfl ?_
       refine l_skip (wg rfl rfl rfl) rfl ?_
       refine l_skip (wg rfl rfl rfl) rfl ?_
       refine l_skip (wg rfl rfl rfl) rfl ?_
       refine l_val wn (r_pick rfl rfl) rfl ?_
       refine l_nil (e_cut hK5 (sc (jt (Or.inl h2)) sn) (fun _ h => h))
     refine l_val (wg rfl rfl rfl) (r_move rfl) rfl ?_
     refine l_val (wg rfl rfl rfl) (r_nilCheck rfl) rfl ?_
     refine l_val (wg rfl rfl rfl) (r_fe rfl fld26_1) rfl ?_
     refine l_val (wg rfl rfl rfl) (r_cel 0 rfl rfl rfl flat3) rfl ?_
     refine l_val (wg rfl rfl rfl) (r_gtr rfl rfl) rfl ?_
     refine l_val wn (r_pick rfl rfl) rfl ?_
     refine l_nil (e_cut hK5 (sc (jp (iff_or_right h2 Iff.rfl)) sn) (fun _ h => h))
   refine c_cond rfl (fun h3 => ?_) (fun h3 => ?_)
   · refine c_seq fun _ hK6 => ?_
     refine c_region ?_
     refine l_val wn (r_assign rfl) rfl ?_
     refine l_nil (e_go hK6 ?_)
     refine c_ret (e_in_r (e_then_r (e_ret1 (.inl rfl) Tryd.results44 (rv_tmp rfl) fun w1 hM => ?_)))
     exact ret_ok (congrArg (Value.int .i64) (by have hx := Lg.signs_iff e.word; unfold Lg.ownW; grind)) hM
   refine c_skip (e_in_n (e_go hK2 ?_))
   refine c_seq fun _ hK7 => ?_
   refine c_region ?_
   refine l_val wn (r_assign rfl) rfl ?_
   refine l_nil (e_go hK7 ?_)
   refine c_ret (e_ret1 (.inl rfl) Tryd.results44 (rv_tmp rfl) fun w1 hM => ?_)
   exact ret_ok (congrArg (Value.int .i64) (by have hx := Lg.signs_iff e.word; unfold Lg.ownW; grind)) hM
 refine c_seq fun _ hK8 => ?_
 refine c_region ?_
 refine l_val wn (r_eql rfl rfl) rfl ?_
 refine l_val wn (r_assign rfl) rfl ?_
 refine l_nil (e_go hK8 ?_)
 refine c_cond rfl (fun h4 => ?_) (fun h4 => ?_)
 · refine c_seq fun _ hK9 => ?_
   refine c_region ?_
   refine l_val wn (r_move rfl) rfl ?_
   refine l_val wn (r_move rfl) rfl ?_
   refine l_callF wn rfl Tryd.call58 rfl (fun w1 hM => c_shWindow h ead e (In w1) w1 (fun _ h => h) (hM.pubAt (i := 0) rfl) (hM.pubAt (i := 1) rfl)) ?_
   refine l_val wn (r_assign rfl) rfl ?_
   refine l_nil (e_go hK9 ?_)
   refine c_ret (e_in_r (e_then_r (e_ret1 (.inl rfl) Tryd.results44 (rv_tmp rfl) fun w1 hM => ?_)))
   exact ret_ok (congrArg (Value.int .i64) (by have hx := Lg.signs_iff e.word; unfold Lg.ownW; grind)) hM
 refine c_seq fun _ hK10 => ?_
 refine c_region ?_
 refine l_val wn (r_eql rfl rfl) rfl ?_
 refine l_val wn (r_assign rfl) rfl ?_
 refine l_nil (e_go hK10 ?_)
 refine c_cond rfl (fun h5 => ?_) (fun h5 => ?_)
 · refine c_seq fun _ hK11 => ?_
   refine c_seq fun _ hK12 => ?_
   refine c_nodes (Mem w ⟨no, P0⟩ [celP ead [.int .i64 e.kind, .int .i64 e.n, .int .i64 e.range, .string e.word, .slice e.ms.A e.ms.l.length e.ms.c, .slice e.by_.A e.by_.l.length e.by_.c, .slice e.kids.A e.kids.l.length e.kids.c], okP ExprX.Ok e]) mix (fun _ h => h.drew) rfl ?_
   refine n_run (f := 3) [1, 2, 3, 4] rfl rfl (by kernel_rfl) (by kernel_rfl) (fun _ h => h) fun KS hKS => ?_
   refine s_val wn (r_move rfl) rfl ?_
   refine s_val wn (r_nilCheck rfl) rfl ?_
   refine s_val wn (r_fe rfl fld26_3) rfl ?_
   refine s_val wn (r_cel 0 rfl rfl rfl flat9) rfl ?_
   refine s_end hKS ?_
   refine n_step1 (f := 2) (i := 0) rfl (by kernel_rfl) ?_
   refine n_one (i := 0) rfl fun KN hKN => ?_
   refine l_callL Lg.totals wn rfl Tryd.call18 rfl (fun w1 hM => c_Totals  w1) fun A1 cp1 hc1 hm1 hA1 => ?_
   refine l_nil (hKN _ _ (fun _ h => (h.sel [1, 2] (by decide) rfl)) ?_)
   refine n_step1 (f := 1) (i := 5) rfl (by kernel_rfl) ?_
   refine n_one (i := 5) rfl fun KN hKN => ?_
   refine l_callF wn rfl Tryd.call59 rfl (fun w1 hM => c_contains _ Lg.totals e.word w1 (RowSl encString hM 0 rfl)) ?_
   refine l_nil (hKN _ _ (fun _ h => (h.sel [1, 2] (by decide) rfl)) ?_)
   refine n_run (f := 0) [6] rfl rfl (by kernel_rfl) (by kernel_rfl) (fun _ h => (h.sel [1, 2] (by decide) rfl)) fun KS hKS => ?_
   refine s_val wn (r_not rfl) rfl ?_
   refine s_end hKS ?_
   refine n_done (by kernel_rfl) (e_go hK12 ?_)
   refine c_cond rfl (fun h6 => ?_) (fun h6 => ?_)
   · refine c_seq fun _ hK13 => ?_
     refine c_region ?_
     refine l_val wn (r_assign rfl) rfl ?_
     refine l_nil (e_go hK13 ?_)
     refine c_ret (e_then_r (e_in_r (e_then_r (e_ret1 (.inl rfl) Tryd.results44 (rv_tmp rfl) fun w1 hM => ?_))))
     exact ret_ok (congrArg (Value.int .i64) (by have hx := Lg.signs_iff e.word; unfold Lg.ownW; grind)) hM
   refine c_skip (e_go hK11 ?_)
   refine c_seq fun _ hK14 => ?_
   refine c_seq fun _ hK15 => ?_
   refine c_region ?_
   refine l_val wn (r_move rfl) rfl ?_
   refine l_val wn (r_nilCheck rfl) rfl ?_
   refine l_val wn (r_fe rfl fld26_5) rfl ?_
   refine l_val wn (r_cel 1 rfl rfl rfl flat23) rfl ?_
   refine l_val wn (r_len rfl Tryd.underlying23) rfl ?_
   refine l_val wn (r_gtr rfl rfl) rfl ?_
   refine l_nil (e_go hK15 ?_)
   refine c_cond rfl (fun h7 => ?_) (fun h7 => ?_)
   · refine c_seq fun _ hK16 => ?_
     refine c_region ?_
     refine l_val wn (r_assign rfl) rfl ?_
     refine l_nil (e_go hK16 ?_)
     refine c_ret (e_then_r (e_in_r (e_then_r (e_ret1 (.inl rfl) Tryd.results44 (rv_tmp rfl) fun w1 hM => ?_))))
     exact ret_ok (congrArg (Value.int .i64) (by have hx := Lg.signs_iff e.word; unfold Lg.ownW; grind)) hM
   refine c_skip (e_go hK14 ?_)
   refine c_seq fun _ hK17 => ?_
   refine c_region ?_
   refine l_val wn (r_move rfl) rfl ?_
   refine l_val wn (r_nilCheck rfl) rfl ?_
   refine l_val wn (r_fe rfl fld26_5) rfl ?_
   refine l_val wn (r_cel 1 rfl rfl rfl flat23) rfl ?_
   refine l_opn (fun _ h => h.exprX 2 rfl) ?_
   obtain ⟨hc2, hm2, hA2⟩ := hwe.ms
   obtain ⟨hc3, hm3, hA3⟩ := hwe.by_
   obtain ⟨hc4, hm4, hA4⟩ := hwe.kids
   refine l_callF wn rfl Tryd.call60 rfl (fun w1 hM => c_contStr _ e.by_.l 61 #[] (fun k => !Names.named k) w1 (hM.slp 1 rfl) Tryd.call61 (fun x w2 h2 => by simpa using c_own1 x w2)) ?_
   refine l_nil (e_go hK17 ?_)
   refine c_condb rfl (fun h8 => ?_) (fun h8 => ?_)
   · refine c_seq fun _ hK18 => ?_
     refine c_region ?_
     refine l_val wn (r_assign rfl) rfl ?_
     refine l_nil (e_go hK18 ?_)
     refine c_ret (e_in_r (e_then_r (e_ret1 (.inl rfl) Tryd.results44 (rv_tmp rfl) fun w1 hM => ?_)))
     exact ret_ok (congrArg (Value.int .i64) (by have hx := Lg.signs_iff e.word; unfold Lg.ownW; grind)) hM
   refine c_skip (e_in_n (e_go hK2 ?_))
   refine c_seq fun _ hK19 => ?_
   refine c_region ?_
   refine l_val wn (r_assign rfl) rfl ?_
   refine l_nil (e_go hK19 ?_)
   refine c_ret (e_ret1 (.inl rfl) Tryd.results44 (rv_tmp rfl) fun w1 hM => ?_)
   exact ret_ok (congrArg (Value.int .i64) (by have hx := Lg.signs_iff e.word; unfold Lg.ownW; grind)) hM
 refine c_cut [(27, .bool (decide ((e.word ≠ ⟨#[43]⟩) ∧ ((e.word ≠ ⟨#[45]⟩) ∧ (e.word ≠ ⟨#[42]⟩)))))] (Mem w ⟨no, P0⟩ [celP ead [.int .i64 e.kind, .int .i64 e.n, .int .i64 e.range, .string e.word, .slice e.ms.A e.ms.l.length e.ms.c, .slice e.by_.A e.by_.l.length e.by_.c, .slice e.kids.A e.kids.l.length e.kids.c], okP ExprX.Ok e]) (fun _ hK20 => ?_) ?_
 · refine c_region ?_
   refine l_val wn (r_move rfl) rfl ?_
   refine l_val wn (r_nilCheck rfl) rfl ?_
   refine l_val wn (r_fe rfl fld26_3) rfl ?_
   refine l_val wn (r_cel 0 rfl rfl rfl flat9) rfl ?_
   refine l_val wn (r_sneq rfl rfl) rfl ?_
   refine l_val wn (r_move rfl) rfl ?_
   refine l_case (t := 14) rfl (fun h9 => ?_) (fun h9 => ?_)
   · refine l_val (wg rfl rfl rfl) (r_move rfl) rfl ?_
     refine l_val (wg rfl rfl rfl) (r_nilCheck rfl) rfl ?_
     refine l_val (wg rfl rfl rfl) (r_fe rfl fld26_3) rfl ?_
     refine l_val (wg rfl rfl rfl) (r_cel 0 rfl rfl rfl flat9) rfl ?_
     refine l_val (wg rfl rfl rfl) (r_sneq rfl rfl) rfl ?_
     refine l_val wn (r_pick rfl rfl) rfl ?_
     refine l_val wn (r_move rfl) rfl ?_
     refine l_case (t := 21) rfl (fun h10 => ?_) (fun h10 => ?_)
     · refine l_val (wg rfl rfl rfl) (r_move rfl) rfl ?_
       refine l_val (wg rfl rfl rfl) (r_nilCheck rfl) rfl ?_
       refine l_val (wg rfl rfl rfl) (r_fe rfl fld26_3) rfl ?_
       refine l_val (wg rfl rfl rfl) (r_cel 0 rfl rfl rfl flat9) rfl ?_
       refine l_val (wg rfl rfl rfl) (r_sneq rfl rfl) rfl ?_
       refine l_val wn (r_pick rfl rfl) rfl ?_
       refine l_nil (e_cut hK20 (sc (jp (iff_and_right h9 (iff_and_right h10 Iff.rfl))) sn) (fun _ h => h))
     refine l_skip (wg rfl rfl rfl) rfl ?_
     refine l_skip (wg rfl rfl rfl) rfl ?_
     refine l_skip (wg rfl rfl rfl) rfl ?_
     refine l_skip (wg rfl rfl rfl) rfl ?_
     refine l_skip (wg rfl rfl rfl) rfl ?_
     refine l_val wn (r_pick rfl rfl) rfl ?_
     refine l_nil (e_cut hK20 (sc (jf (fun g => (fun g => h10 g.1) g.2)) sn) (fun _ h => h))
   refine l_skip (wg rfl rfl rfl) rfl ?_
   refine l_skip (wg rfl rfl rfl) rfl ?_
   refine l_skip (wg rfl rfl rfl) rfl ?_
   refine l_skip (wg rfl rfl rfl) rfl ?_
   refine l_skip (wg rfl rfl rfl) rfl ?_
   refine l_val wn (r_pick rfl rfl) rfl ?_
   refine l_val wn (r_move rfl) rfl ?_
   refine l_skip (wg rfl rfl rfl) rfl ?_
   refine l_skip (wg rfl rfl rfl) rfl ?_
   refine l_skip (wg rfl rfl rfl) rfl ?_
   refine l_skip (wg rfl rfl rfl) rfl ?_
   refine l_skip (wg rfl rfl rfl) rfl ?_
   refine l_val wn (r_pick rfl rfl) rfl ?_
   refine l_nil (e_cut hK20 (sc (jf (fun g => h9 g.1)) sn) (fun _ h => h))
 refine c_cond rfl (fun h11 => ?_) (fun h11 => ?_)
 · refine c_seq fun _ hK21 => ?_
   refine c_region ?_
   refine l_val wn (r_assign rfl) rfl ?_
   refine l_nil (e_go hK21 ?_)
   refine c_ret (e_in_r (e_then_r (e_ret1 (.inl rfl) Tryd.results44 (rv_tmp rfl) fun w1 hM => ?_)))
   exact ret_ok (congrArg (Value.int .i64) (by have hx := Lg.signs_iff e.word; unfold Lg.ownW; grind)) hM
 refine c_skip (e_in_n (e_go hK2 ?_))
 refine c_seq fun _ hK22 => ?_
 refine c_region ?_
 refine l_val wn (r_assign rfl) rfl ?_
 refine l_nil (e_go hK22 ?_)
 refine c_ret (e_ret1 (.inl rfl) Tryd.results44 (rv_tmp rfl) fun w1 hM => ?_)
 exact ret_ok (congrArg (Value.int .i64) (by have hx := Lg.signs_iff e.word; unfold Lg.ownW; grind)) hM

def c_shape_C (e : ExprX) : Prop := ∀ (hp : Nat) (cn : Int) (ead : Addr) (deep : Int) (P0 : Nat → Prop) (w : World) (hhp : w.heap[hp]? = some (.cells [.int .i64 cn].toArray 55 (0, 0))) (hP0 : ∀ b, P0 b → b < w.heap.size ∧ b ≠ hp) (hec : CelAt P0 ead (exprE e) w) (he : ExprX.Ok P0 e w) (hc0 : 0 ≤ cn) (hc1 : cn ≤ 100) (hd0 : 0 ≤ deep),
    Calls Tryd.prog 26 #[.pointer (some ⟨hp, 0, none⟩), .pointer (some ead), .int .i64 deep] w (RetM w hp 55 (.int .i64 (Lg.shape e.e deep cn).1) [.int .i64 (Lg.shape e.e deep cn).2])
set_option maxHeartbeats 2000000 in
theorem c_shape_step (e : ExprX) (ih : ∀ k : ExprX, SizeOf.sizeOf k < SizeOf.sizeOf e → c_shape_C k) : c_shape_C e := by
  intro hp cn ead deep P0 w hhp hP0 hec he hc0 hc1 hd0
  have hwe := he.wf
  refine fstart (N := 77) (vals := [.pointer (some ⟨hp, 0, none⟩), .pointer (some ((Addr.add ead 0).add 0)), .int .i64 deep]) (S := Mem w ⟨(· = hp), P0⟩ [.blk hp [.int .i64 cn] 55, celP ead [.int .i64 e.kind, .int .i64 e.n, .int .i64 e.range, .string e.word, .slice e.ms.A e.ms.l.length e.ms.c, .slice e.by_.A e.by_.l.length e.by_.c, .slice e.kids.A e.kids.l.length e.kids.c], okP ExprX.Ok e]) Tryd.func26 rfl rfl rfl (Mem.ptrDats hhp hP0 (dc (dp (CelAt.loc _ _) hec) (dc (dp (ExprX.Ok.loc _) he) dn))) ?_
  refine c_seq fun K1 hK1 => ?_
  refine c_region ?_
  refine l_val wn (r_assign rfl) rfl ?_
  refine l_nil (e_go hK1 ?_)
  refine c_seq fun K2 hK2 => ?_
  refine c_seq fun K3 hK3 => ?_
  refine c_region ?_
  refine l_val wn (r_move rfl) rfl ?_
  refine l_val wn (r_nilCheck rfl) rfl ?_
  refine l_val wn (r_fa rfl fld55_0) rfl ?_
  refine l_val wn (r_lb 0 rfl rfl rfl flat3) rfl ?_
  refine l_val wn (r_addn rfl rfl (by omega)) rfl ?_
  refine l_val wn (r_nilCheck rfl) rfl ?_
  refine l_val wn (r_fa rfl fld55_0) rfl ?_
  refine l_st1 0 wn rfl rfl rfl rfl inf3 rfl rfl ?_
  refine l_nil (e_go hK3 ?_)
  refine c_cut [(0, .pointer (some ⟨hp, 0, none⟩)), (1, .pointer (some ((Addr.add ead 0).add 0))), (2, .int .i64 deep), (25, .bool (decide ((100 < (cn + 1)) ∨ (20 < deep))))] (Mem w ⟨(· = hp), P0⟩ [.blk hp [.int .i64 (cn + 1)] 55, celP ead [.int .i64 e.kind, .int .i64 e.n, .int .i64 e.range, .string e.word, .slice e.ms.A e.ms.l.length e.ms.c, .slice e.by_.A e.by_.l.length e.by_.c, .slice e.kids.A e.kids.l.length e.kids.c], okP ExprX.Ok e]) (fun K4 hK4 => ?_) ?_
  ·
    refine c_region ?_
    refine l_val wn (r_move rfl) rfl ?_
    refine l_val wn (r_nilCheck rfl) rfl ?_
    refine l_val wn (r_fa rfl fld55_0) rfl ?_
    refine l_val wn (r_lb 0 rfl rfl rfl flat3) rfl ?_
    refine l_val wn (r_gtr rfl rfl) rfl ?_
    refine l_val wn (r_move rfl) rfl ?_
    refine l_case (t := 22) rfl (fun h1 => ?_) (fun h1 => ?_)
    ·
      refine l_skip (wg rfl rfl rfl) rfl ?_
      refine l_skip (wg rfl rfl rfl) rfl ?_
      refine l_val wn (r_pick rfl rfl) rfl ?_
      refine l_nil (e_cut hK4 (sc rfl (sc rfl (sc rfl (sc (jt (Or.inl h1)) sn)))) (fun _ h => h))
    ·
      refine l_val (wg rfl rfl rfl) (r_move rfl) rfl ?_
      refine l_val (wg rfl rfl rfl) (r_gtr rfl rfl) rfl ?_
      refine l_val wn (r_pick rfl rfl) rfl ?_
      refine l_nil (e_cut hK4 (sc rfl (sc rfl (sc rfl (sc (jp (iff_or_right h1 Iff.rfl)) sn)))) (fun _ h => h))
  ·
    refine c_cond rfl (fun h2 => ?_) (fun h2 => ?_)
    ·
      refine c_seq fun K5 hK5 => ?_
      refine c_region ?_
      refine l_val wn (r_assign rfl) rfl ?_
      refine l_nil (e_go hK5 ?_)
      refine c_ret (e_then_r (e_ret1 (.inl rfl) Tryd.results26 (rv_tmp rfl) fun w1 hM => ?_))
      have hq : Lg.shape e.e deep cn = (4, (cn + 1)) := by rw [Lg.shape_e]; grind
      exact hM.retM 0 rfl (by rw [hq] <;> rfl) (by rw [hq] <;> rfl)
    ·
      refine c_skip (e_go hK2 ?_)
      refine c_seq fun K6 hK6 => ?_
      refine c_cut [(0, .pointer (some ⟨hp, 0, none⟩)), (1, .pointer (some ((Addr.add ead 0).add 0))), (2, .int .i64 deep), (37, .bool (decide ((e.kind < 1) ∨ (4 < e.kind))))] (Mem w ⟨(· = hp), P0⟩ [.blk hp [.int .i64 (cn + 1)] 55, celP ead [.int .i64 e.kind, .int .i64 e.n, .int .i64 e.range, .string e.word, .slice e.ms.A e.ms.l.length e.ms.c, .slice e.by_.A e.by_.l.length e.by_.c, .slice e.kids.A e.kids.l.length e.kids.c], okP ExprX.Ok e]) (fun K7 hK7 => ?_) ?_
      ·
        refine c_region ?_
        refine l_val wn (r_move rfl) rfl ?_
        refine l_val wn (r_nilCheck rfl) rfl ?_
        refine l_val wn (r_fe rfl fld26_0) rfl ?_
        refine l_val wn (r_cel 1 rfl rfl rfl flat3) rfl ?_
        refine l_val wn (r_lss rfl rfl) rfl ?_
        refine l_val wn (r_move rfl) rfl ?_
        refine l_case (t := 31) rfl (fun h3 => ?_) (fun h3 => ?_)
        ·
          refine l_skip (wg rfl rfl rfl) rfl ?_
          refine l_skip (wg rfl rfl rfl) rfl ?_
          refine l_skip (wg rfl rfl rfl) rfl ?_
          refine l_skip (wg rfl rfl rfl) rfl ?_
          refine l_skip (wg rfl rfl rfl) rfl ?_
          refine l_val wn (r_pick rfl rfl) rfl ?_
          refine l_nil (e_cut hK7 (sc rfl (sc rfl (sc rfl (sc (jt (Or.inl h3)) sn)))) (fun _ h => h))
        ·
          refine l_val (wg rfl rfl rfl) (r_move rfl) rfl ?_
          refine l_val (wg rfl rfl rfl) (r_nilCheck rfl) rfl ?_
          refine l_val (wg rfl rfl rfl) (r_fe rfl fld26_0) rfl ?_
          refine l_val (wg rfl rfl rfl) (r_cel 1 rfl rfl rfl flat3) rfl ?_
          refine l_val (wg rfl rfl rfl) (r_gtr rfl rfl) rfl ?_
          refine l_val wn (r_pick rfl rfl) rfl ?_
          refine l_nil (e_cut hK7 (sc rfl (sc rfl (sc rfl (sc (jp (iff_or_right h3 Iff.rfl)) sn)))) (fun _ h => h))
      ·
        refine c_cond rfl (fun h4 => ?_) (fun h4 => ?_)
        ·
          refine c_seq fun K8 hK8 => ?_
          refine c_region ?_
          refine l_val wn (r_assign rfl) rfl ?_
          refine l_nil (e_go hK8 ?_)
          refine c_ret (e_then_r (e_ret1 (.inl rfl) Tryd.results26 (rv_tmp rfl) fun w1 hM => ?_))
          have hq : Lg.shape e.e deep cn = (1, (cn + 1)) := by rw [Lg.shape_e]; grind
          exact hM.retM 0 rfl (by rw [hq] <;> rfl) (by rw [hq] <;> rfl)
        ·
          refine c_skip (e_go hK6 ?_)
          refine c_seq fun K9 hK9 => ?_
          refine c_seq fun K10 hK10 => ?_
          refine c_quiet mix (by kernel_rfl) (fun _ h => h.drew) ?_
          refine q_val wn (r_move rfl) rfl ?_
          refine q_val wn (r_nilCheck rfl) rfl ?_
          refine q_val wn (r_fe rfl fld26_6) rfl ?_
          refine q_val wn (r_cel 1 rfl rfl rfl flat24) rfl ?_
          refine q_val wn (r_len rfl Tryd.underlying24) rfl ?_
          refine q_val wn (r_move rfl) rfl ?_
          refine q_val wn (r_nilCheck rfl) rfl ?_
          refine q_val wn (r_fe rfl fld26_0) rfl ?_
          refine q_val wn (r_cel 1 rfl rfl rfl flat3) rfl ?_
          refine q_callF wn rfl Tryd.call43 rfl (fun w1 hM => c_kids e.kind w1 (by omega) (by omega)) ?_
          refine q_val wn (r_neq rfl rfl) rfl ?_
          refine q_end (e_go hK10 ?_)
          refine c_cond rfl (fun h5 => ?_) (fun h5 => ?_)
          ·
            refine c_seq fun K11 hK11 => ?_
            refine c_region ?_
            refine l_val wn (r_assign rfl) rfl ?_
            refine l_nil (e_go hK11 ?_)
            refine c_ret (e_then_r (e_ret1 (.inl rfl) Tryd.results26 (rv_tmp rfl) fun w1 hM => ?_))
            have hq : Lg.shape e.e deep cn = (5, (cn + 1)) := by rw [Lg.shape_e]; grind
            exact hM.retM 0 rfl (by rw [hq] <;> rfl) (by rw [hq] <;> rfl)
          ·
            refine c_skip (e_go hK9 ?_)
            refine c_seq fun K12 hK12 => ?_
            refine c_seq fun K13 hK13 => ?_
            refine c_region ?_
            refine l_val wn (r_move rfl) rfl ?_
            refine l_val wn (r_move rfl) rfl ?_
            refine l_callF wn rfl Tryd.call44 rfl (fun w1 hM => c_shOwn (.pointer (some ⟨hp, 0, none⟩)) ead e (In w1) w1 (fun _ h => h) (hM.pubAt (i := 1) rfl) (hM.pubAt (i := 2) rfl)) ?_
            refine l_val wn (r_assign rfl) rfl ?_
            refine l_nil (e_go hK13 ?_)
            refine c_seq fun K14 hK14 => ?_
            refine c_region ?_
            refine l_val wn (r_move rfl) rfl ?_
            refine l_val wn (r_neq rfl rfl) rfl ?_
            refine l_nil (e_go hK14 ?_)
            refine c_cond rfl (fun h6 => ?_) (fun h6 => ?_)
            ·
              refine c_seq fun K15 hK15 => ?_
              refine c_region ?_
              refine l_val wn (r_move rfl) rfl ?_
              refine l_val wn (r_assign rfl) rfl ?_
              refine l_nil (e_go hK15 ?_)
              refine c_ret (e_then_r (e_ret1 (.inl rfl) Tryd.results26 (rv_tmp rfl) fun w1 hM => ?_))
              have hq : Lg.shape e.e deep cn = ((Lg.ownW e.kind e.n e.range e.word e.ms.l e.by_.l), (cn + 1)) := by rw [Lg.shape_e]; grind
              exact hM.retM 0 rfl (by rw [hq] <;> rfl) (by rw [hq] <;> rfl)
            ·
              refine c_skip (e_go hK12 ?_)
              refine c_seq fun K16 hK16 => ?_
              refine c_seq fun K17 hK17 => ?_
              refine c_region ?_
              refine l_val wn (r_move rfl) rfl ?_
              refine l_val wn (r_nilCheck rfl) rfl ?_
              refine l_val wn (r_fe rfl fld26_6) rfl ?_
              refine l_val wn (r_cel 1 rfl rfl rfl flat24) rfl ?_
              refine l_val wn (r_len rfl Tryd.underlying24) rfl ?_
              refine l_val wn (r_move rfl) rfl ?_
              refine l_nil (e_go hK17 ?_)
              refine c_block ?_
              refine c_loop2 (fun (k : Nat) (m : Int) => [(0, .pointer (some ⟨hp, 0, none⟩)), (1, .pointer (some ((Addr.add ead 0).add 0))), (2, .int .i64 deep), (59, .int .i64 (e.kids.l.length : Int)), (60, .int .i64 (k : Int))]) (fun (k : Nat) (m : Int) => [.blk hp [.int .i64 m] 55, celP ead [.int .i64 e.kind, .int .i64 e.n, .int .i64 e.range, .string e.word, .slice e.ms.A e.ms.l.length e.ms.c, .slice e.by_.A e.by_.l.length e.by_.c, .slice e.kids.A e.kids.l.length e.kids.c], okP ExprX.Ok e]) (fun (k : Nat) (m : Int) => k ≤ e.kids.l.length ∧ (0 ≤ m ∧ m ≤ 100) ∧ Lg.shapes ((e.kids.l.take k).map ExprX.e) (deep + 1) (cn + 1) = (0, m)) (fun (k : Nat) (m : Int) => e.kids.l.length - k) 0 (cn + 1) (sc rfl (sc rfl (sc rfl (sc rfl (sc (ji (by omega)) sn))))) (fun _ h => h) ?_ (fun k m hI1 => ?_)
              · exact ⟨by omega, ⟨by omega, by omega⟩, rfl⟩
              ·
                have hq0 := hI1.2.1.1
                have hq1 := hI1.2.1.2
                refine c_seq fun K18 hK18 => ?_
                refine c_region ?_
                refine l_val wn (r_lss rfl rfl) rfl ?_
                refine l_nil (e_go hK18 ?_)
                refine c_seq fun K19 hK19 => ?_
                refine c_cond rfl (fun h7 => ?_) (fun h7 => ?_)
                ·
                  refine c_skip (e_go hK19 ?_)
                  refine c_seq fun K20 hK20 => ?_
                  refine c_block ?_
                  refine c_seq fun K21 hK21 => ?_
                  refine c_region ?_
                  refine l_val wn (r_move rfl) rfl ?_
                  refine l_val wn (r_assign rfl) rfl ?_
                  refine l_nil (e_go hK21 ?_)
                  refine c_seq fun K22 hK22 => ?_
                  refine c_region ?_
                  refine l_val wn (r_move rfl) rfl ?_
                  refine l_val wn (r_move rfl) rfl ?_
                  refine l_val wn (r_nilCheck rfl) rfl ?_
                  refine l_val wn (r_fe rfl fld26_6) rfl ?_
                  refine l_val wn (r_cel 1 rfl rfl rfl flat24) rfl ?_
                  refine l_val wn (r_move rfl) rfl ?_
                  refine l_opn (fun _ h => h.exprX 2 rfl) ?_
                  obtain ⟨hc1, hm1, hA1⟩ := hwe.ms
                  obtain ⟨hc2, hm2, hA2⟩ := hwe.by_
                  obtain ⟨hc3, hm3, hA3⟩ := hwe.kids
                  obtain ⟨ad1, hd1⟩ := hA3 (ne_nil (i := k) (by first | omega | (simp <;> omega)))
                  refine l_val wn (r_ia (i := k) rfl hd1 rfl (by omega) (by first | omega | (simp <;> omega)) Tryd.underlying24 inf26) rfl ?_
                  refine l_val wn (r_move rfl) rfl ?_
                  refine l_val wn (r_addn rfl rfl (by omega)) rfl ?_
                  obtain ⟨s1, hs1⟩ : ∃ x, e.kids.l[k]? = some x := ⟨_, List.getElem?_eq_getElem (by first | omega | (simp <;> omega))⟩
                  have hw1 := hwe.all _ (List.mem_of_getElem? hs1)
                  refine l_opn (fun _ h => h.one 3 ExprX.Ok.loc rfl hs1) ?_
                  refine l_callM 5 (v := .int .i64 ((Lg.shape s1.e (deep + 1) m).1)) (cs' := [.int .i64 ((Lg.shape s1.e (deep + 1) m).2)]) wn rfl rfl Tryd.call26 rfl (fun w1 Pb hM pp => ih s1 (ExprX.kid_lt (List.mem_of_getElem? hs1)) hp m (Addr.add ad1 (k * 7)) (deep + 1) Pb w1 (hM.blk (i := 5) rfl) (pp.sub' (i := 5) rfl) (cel_of (pp.sl 3 rfl) hd1 hs1) (pp.at_ 0 _ rfl) (by omega) (by omega) (by omega)) ?_
                  refine l_val wn (r_assign rfl) rfl ?_
                  refine l_nil (e_go hK22 ?_)
                  refine c_seq fun K23 hK23 => ?_
                  refine c_region ?_
                  refine l_val wn (r_move rfl) rfl ?_
                  refine l_val wn (r_neq rfl rfl) rfl ?_
                  refine l_nil (e_go hK23 ?_)
                  refine c_cond rfl (fun h8 => ?_) (fun h8 => ?_)
                  ·
                    refine c_seq fun K24 hK24 => ?_
                    refine c_region ?_
                    refine l_val wn (r_move rfl) rfl ?_
                    refine l_val wn (r_assign rfl) rfl ?_
                    refine l_nil (e_go hK24 ?_)
                    refine c_ret (e_in_r (e_then_r (e_loop2_r (e_in_r (e_then_r (e_ret1 (.inl rfl) Tryd.results26 (rv_tmp rfl) fun w1 hM => ?_))))))
                    have hq : Lg.shape e.e deep cn = ((Lg.shape s1.e (deep + 1) m).1, (Lg.shape s1.e (deep + 1) m).2) := (show _ = Lg.shapes (e.kids.l.map ExprX.e) (deep + 1) (cn + 1) from by rw [Lg.shape_e]; grind).trans (((Lg.shapes_next hI1.2.2 hs1).2 h8).trans rfl)
                    exact hM.retM 5 rfl (by rw [hq] <;> rfl) (by rw [hq] <;> rfl)
                  ·
                    refine c_skip (e_in_n (e_go hK20 ?_))
                    refine c_region ?_
                    refine l_val wn (r_addn rfl rfl (by omega)) rfl ?_
                    refine l_val wn (r_move rfl) rfl ?_
                    refine l_nil (e_round2 (k + 1) ((Lg.shape s1.e (deep + 1) m).2) (sc rfl (sc rfl (sc rfl (sc rfl (sc (ji (by omega)) sn))))) (fun _ h => (h.sel [5, 6, 7] (by decide) rfl)) ?_ ?_)
                    · exact ⟨by omega, Lg.shape_le _ _ _ hq0 hq1 (Classical.not_not.1 h8), (Lg.shapes_next hI1.2.2 hs1).1 (Classical.not_not.1 h8)⟩
                    · omega
                ·
                  refine c_exit (e_then_x (e_loop2_x (e_in_hit (e_go hK16 ?_))))
                  refine c_seq fun K25 hK25 => ?_
                  refine c_region ?_
                  refine l_val wn (r_assign rfl) rfl ?_
                  refine l_nil (e_go hK25 ?_)
                  refine c_ret (e_ret1 (.inl rfl) Tryd.results26 (rv_tmp rfl) fun w1 hM => ?_)
                  have hq : Lg.shape e.e deep cn = (0, m) := (show _ = Lg.shapes (e.kids.l.map ExprX.e) (deep + 1) (cn + 1) from by rw [Lg.shape_e]; grind).trans (by rw [← hI1.2.2, List.take_of_length_le (by omega)])
                  exact hM.retM 0 rfl (by rw [hq] <;> rfl) (by rw [hq] <;> rfl)
theorem c_shape (e : ExprX) : c_shape_C e := recX c_shape_step e

theorem c_langWrong (e : ExprX) (P0 : Nat → Prop) (w : World) (hP0 : ∀ b, P0 b → b < w.heap.size) (he : ExprX.Ok P0 e w)  :
    Calls Tryd.prog 9 #[.agg (exprE e).toArray] w (Ret w (.int .i64 (Lg.wrong e.e))) := by
 have hwe := he.wf
 refine fstart (N := 6) (vals := [.agg (exprE e).toArray]) (S := Mem w ⟨no, P0⟩ [okP ExprX.Ok e]) Tryd.func9 rfl rfl rfl (Mem.ofDatsP hP0 (dc (dp (ExprX.Ok.loc _) he) dn)) ?_
 refine c_seq fun _ hK1 => ?_
 refine c_region ?_
 refine l_box wn rfl rfl fun b1 => ?_
 refine l_val wn (r_assign rfl) rfl ?_
 refine l_nil (e_go hK1 ?_)
 refine c_seq fun _ hK2 => ?_
 refine c_region ?_
 refine l_val wn (r_build [.int .i64 0] pl55 inf55 rfl rfl) rfl ?_
 refine l_box wn rfl rfl fun b4 => ?_
 refine l_sealB 1 rfl rfl ?_
 refine l_callM 0 (v := .int .i64 ((Lg.shape e.e 1 0).1)) (cs' := [.int .i64 ((Lg.shape e.e 1 0).2)]) wn rfl rfl Tryd.call26 rfl (fun w1 Pb hM pp => c_shape e b4 0 ⟨b1, 0, none⟩ 1 Pb w1 (hM.blk (i := 0) rfl) (pp.sub' (i := 0) rfl) (pp.at_ 1 _ rfl) (pp.at_ 2 _ rfl) (by omega) (by omega) (by omega)) ?_
 refine l_val wn (r_assign rfl) rfl ?_
 refine l_nil (e_go hK2 ?_)
 refine c_ret (e_ret1 (.inl rfl) Tryd.results9 (rv_tmp rfl) fun w1 hM => ?_)
 exact ret_ok rfl hM

def c_refShape_C (e : ExprX) : Prop := ∀ (deep : Int) (npp : Nat) (cn : Int) (P0 : Nat → Prop) (w : World) (he : ExprX.Ok P0 e w) (hnpp : w.heap[npp]? = some (.cells [.int .i64 cn].toArray 3 (0, 0))) (hP0 : ∀ b, P0 b → b < w.heap.size ∧ b ≠ npp) (hc0 : 0 ≤ cn) (hc1 : cn ≤ 100) (hd0 : 0 ≤ deep),
    Calls Tryd.prog 27 #[.agg (exprE e).toArray, .int .i64 deep, .pointer (some ⟨npp, 0, none⟩)] w (RetM w npp 3 (.int .i64 (Lg.shape e.e deep cn).1) [.int .i64 (Lg.shape e.e deep cn).2])
set_option maxHeartbeats 2000000 in
theorem c_refShape_step (e : ExprX) (ih : ∀ k : ExprX, SizeOf.sizeOf k < SizeOf.sizeOf e → c_refShape_C k) : c_refShape_C e := by
  intro deep npp cn P0 w he hnpp hP0 hc0 hc1 hd0
  have hwe := he.wf
  refine fstart (N := 150) (vals := [.agg (exprE e).toArray, .int .i64 deep, .pointer (some ⟨npp, 0, none⟩)]) (S := Mem w ⟨(· = npp), P0⟩ [.blk npp [.int .i64 cn] 3, okP ExprX.Ok e]) Tryd.func27 rfl rfl rfl (Mem.ptrDats hnpp hP0 (dc (dp (ExprX.Ok.loc _) he) dn)) ?_
  refine c_seq fun K1 hK1 => ?_
  refine c_region ?_
  refine l_box wn rfl rfl fun b3 => ?_
  refine l_val wn (r_assign rfl) rfl ?_
  refine l_nil (e_go hK1 ?_)
  refine c_seq fun K2 hK2 => ?_
  refine c_region ?_
  refine l_val wn (r_move rfl) rfl ?_
  refine l_val wn (r_move rfl) rfl ?_
  refine l_val wn (r_nilCheck rfl) rfl ?_
  refine l_val wn (r_lb 1 rfl rfl rfl flat3) rfl ?_
  refine l_val wn (r_addn rfl rfl (by omega)) rfl ?_
  refine l_val wn (r_nilCheck rfl) rfl ?_
  refine l_st1 1 wn rfl rfl rfl rfl inf3 rfl rfl ?_
  refine l_nil (e_go hK2 ?_)
  refine c_seq fun K3 hK3 => ?_
  refine c_cut [(1, .int .i64 deep), (2, .pointer (some ⟨npp, 0, none⟩)), (3, .pointer (some ⟨b3, 0, none⟩)), (29, .bool (decide ((100 < (cn + 1)) ∨ (20 < deep))))] (Mem w ⟨(· = npp), P0⟩ [.blk b3 [.int .i64 e.kind, .int .i64 e.n, .int .i64 e.range, .string e.word, .slice e.ms.A e.ms.l.length e.ms.c, .slice e.by_.A e.by_.l.length e.by_.c, .slice e.kids.A e.kids.l.length e.kids.c] 26, .blk npp [.int .i64 (cn + 1)] 3, okP ExprX.Ok e]) (fun K4 hK4 => ?_) ?_
  ·
    refine c_region ?_
    refine l_val wn (r_move rfl) rfl ?_
    refine l_val wn (r_nilCheck rfl) rfl ?_
    refine l_val wn (r_lb 1 rfl rfl rfl flat3) rfl ?_
    refine l_val wn (r_gtr rfl rfl) rfl ?_
    refine l_val wn (r_move rfl) rfl ?_
    refine l_case (t := 26) rfl (fun h1 => ?_) (fun h1 => ?_)
    ·
      refine l_skip (wg rfl rfl rfl) rfl ?_
      refine l_skip (wg rfl rfl rfl) rfl ?_
      refine l_val wn (r_pick rfl rfl) rfl ?_
      refine l_nil (e_cut hK4 (sc rfl (sc rfl (sc rfl (sc (jt (Or.inl h1)) sn)))) (fun _ h => h))
    ·
      refine l_val (wg rfl rfl rfl) (r_move rfl) rfl ?_
      refine l_val (wg rfl rfl rfl) (r_gtr rfl rfl) rfl ?_
      refine l_val wn (r_pick rfl rfl) rfl ?_
      refine l_nil (e_cut hK4 (sc rfl (sc rfl (sc rfl (sc (jp (iff_or_right h1 Iff.rfl)) sn)))) (fun _ h => h))
  ·
    refine c_cond rfl (fun h2 => ?_) (fun h2 => ?_)
    ·
      refine c_seq fun K5 hK5 => ?_
      refine c_region ?_
      refine l_val wn (r_assign rfl) rfl ?_
      refine l_nil (e_go hK5 ?_)
      refine c_ret (e_then_r (e_ret1 (.inl rfl) Tryd.results27 (rv_tmp rfl) fun w1 hM => ?_))
      have hq : Lg.shape e.e deep cn = (4, (cn + 1)) := by rw [Lg.shape_e]; grind
      exact hM.retM 1 rfl (by rw [hq] <;> rfl) (by rw [hq] <;> rfl)
    ·
      refine c_skip (e_go hK3 ?_)
      refine c_seq fun K6 hK6 => ?_
      refine c_region ?_
      refine l_makeMap wn rfl fun b31 => ?_
      refine l_insert 0 (KeyT.int Tryd.underlying3) ([] : List (Nat × Int × Int)) 0 1 0 wn rfl rfl rfl rfl Tryd.underlying88 (by simp) ?_
      refine l_insert 0 (KeyT.int Tryd.underlying3) ([(0, 1, 0)] : List (Nat × Int × Int)) 1 2 0 wn rfl rfl rfl rfl Tryd.underlying88 (by simp) ?_
      refine l_insert 0 (KeyT.int Tryd.underlying3) ([(0, 1, 0), (1, 2, 0)] : List (Nat × Int × Int)) 2 3 1 wn rfl rfl rfl rfl Tryd.underlying88 (by simp) ?_
      refine l_insert 0 (KeyT.int Tryd.underlying3) ([(0, 1, 0), (1, 2, 0), (2, 3, 1)] : List (Nat × Int × Int)) 3 4 2 wn rfl rfl rfl rfl Tryd.underlying88 (by simp) ?_
      refine l_val wn (r_move rfl) rfl ?_
      refine l_val wn (r_fa rfl fld26_0) rfl ?_
      refine l_val wn (r_lb 1 rfl rfl rfl flat3) rfl ?_
      refine l_val wn (rv_v (Lg.arity_assoc e.kind) (r_lookup2 0 (KeyT.int Tryd.underlying3) (fun _ => Iff.rfl) (nd ([1, 2, 3, 4] : List Int) rfl (by decide)) rfl rfl rfl Tryd.underlying88 inf3)) rfl ?_
      refine l_val wn (r_move rfl) rfl ?_
      refine l_val wn (r_extract rfl rfl) rfl ?_
      refine l_val wn (r_extract rfl rfl) rfl ?_
      refine l_val wn (r_assign rfl) rfl ?_
      refine l_val wn (r_assign rfl) rfl ?_
      refine l_nil (e_go hK6 ?_)
      refine c_seq fun K7 hK7 => ?_
      refine c_seq fun K8 hK8 => ?_
      refine c_region ?_
      refine l_val wn (r_move rfl) rfl ?_
      refine l_val wn (r_notb rfl) rfl ?_
      refine l_nil (e_go hK8 ?_)
      refine c_condb rfl (fun h3 => ?_) (fun h3 => ?_)
      ·
        refine c_seq fun K9 hK9 => ?_
        refine c_region ?_
        refine l_val wn (r_assign rfl) rfl ?_
        refine l_nil (e_go hK9 ?_)
        refine c_ret (e_then_r (e_ret1 (.inl rfl) Tryd.results27 (rv_tmp rfl) fun w1 hM => ?_))
        have hq : Lg.shape e.e deep cn = (1, (cn + 1)) := by rw [Lg.shape_e]; grind
        exact hM.retM 2 rfl (by rw [hq] <;> rfl) (by rw [hq] <;> rfl)
      ·
        refine c_skip (e_go hK7 ?_)
        refine c_seq fun K10 hK10 => ?_
        refine c_seq fun K11 hK11 => ?_
        refine c_region ?_
        refine l_val wn (r_fa rfl fld26_6) rfl ?_
        refine l_val wn (r_lb 1 rfl rfl rfl flat24) rfl ?_
        refine l_val wn (r_len rfl Tryd.underlying24) rfl ?_
        refine l_val wn (r_move rfl) rfl ?_
        refine l_val wn (r_neq rfl rfl) rfl ?_
        refine l_nil (e_go hK11 ?_)
        refine c_cond rfl (fun h4 => ?_) (fun h4 => ?_)
        ·
          refine c_seq fun K12 hK12 => ?_
          refine c_region ?_
          refine l_val wn (r_assign rfl) rfl ?_
          refine l_nil (e_go hK12 ?_)
          refine c_ret (e_then_r (e_ret1 (.inl rfl) Tryd.results27 (rv_tmp rfl) fun w1 hM => ?_))
          have hq : Lg.shape e.e deep cn = (5, (cn + 1)) := by rw [Lg.shape_e]; grind
          exact hM.retM 2 rfl (by rw [hq] <;> rfl) (by rw [hq] <;> rfl)
        ·
          refine c_skip (e_go hK10 ?_)
          refine c_cut [(1, .int .i64 deep), (2, .pointer (some ⟨npp, 0, none⟩)), (3, .pointer (some ⟨b3, 0, none⟩))] (Mem w ⟨(· = npp), P0⟩ [.pub (fun _ _ => Lg.ownW e.kind e.n e.range e.word e.ms.l e.by_.l = 0), .map b31 (ents (Value.int .i64) 0 ([(0, 1, 0), (1, 2, 0), (2, 3, 1), (3, 4, 2)] : List (Nat × Int × Int))) ([(0, 1, 0), (1, 2, 0), (2, 3, 1), (3, 4, 2)] : List (Nat × Int × Int)).length, .blk b3 [.int .i64 e.kind, .int .i64 e.n, .int .i64 e.range, .string e.word, .slice e.ms.A e.ms.l.length e.ms.c, .slice e.by_.A e.by_.l.length e.by_.c, .slice e.kids.A e.kids.l.length e.kids.c] 26, .blk npp [.int .i64 (cn + 1)] 3, okP ExprX.Ok e]) (fun K13 hK13 => ?_) ?_
          ·
            refine c_seq fun K14 hK14 => ?_
            refine c_region ?_
            refine l_val wn (r_fa rfl fld26_0) rfl ?_
            refine l_val wn (r_lb 1 rfl rfl rfl flat3) rfl ?_
            refine l_nil (e_go hK14 ?_)
            refine c_block ?_
            refine c_seq fun K15 hK15 => ?_
            refine c_region ?_
            refine l_val wn (r_eql rfl rfl) rfl ?_
            refine l_val wn (r_assign rfl) rfl ?_
            refine l_nil (e_go hK15 ?_)
            refine c_cond rfl (fun h5 => ?_) (fun h5 => ?_)
            ·
              refine c_cut [(1, .int .i64 deep), (2, .pointer (some ⟨npp, 0, none⟩)), (3, .pointer (some ⟨b3, 0, none⟩)), (61, .bool (decide ((e.n < 0) ∨ (1000000 < e.n))))] (Mem w ⟨(· = npp), P0⟩ [.map b31 (ents (Value.int .i64) 0 ([(0, 1, 0), (1, 2, 0), (2, 3, 1), (3, 4, 2)] : List (Nat × Int × Int))) ([(0, 1, 0), (1, 2, 0), (2, 3, 1), (3, 4, 2)] : List (Nat × Int × Int)).length, .blk b3 [.int .i64 e.kind, .int .i64 e.n, .int .i64 e.range, .string e.word, .slice e.ms.A e.ms.l.length e.ms.c, .slice e.by_.A e.by_.l.length e.by_.c, .slice e.kids.A e.kids.l.length e.kids.c] 26, .blk npp [.int .i64 (cn + 1)] 3, okP ExprX.Ok e]) (fun K16 hK16 => ?_) ?_
              ·
                refine c_region ?_
                refine l_val wn (r_fa rfl fld26_1) rfl ?_
                refine l_val wn (r_lb 1 rfl rfl rfl flat3) rfl ?_
                refine l_val wn (r_lss rfl rfl) rfl ?_
                refine l_val wn (r_move rfl) rfl ?_
                refine l_case (t := 57) rfl (fun h6 => ?_) (fun h6 => ?_)
                ·
                  refine l_skip (wg rfl rfl rfl) rfl ?_
                  refine l_skip (wg rfl rfl rfl) rfl ?_
                  refine l_skip (wg rfl rfl rfl) rfl ?_
                  refine l_val wn (r_pick rfl rfl) rfl ?_
                  refine l_nil (e_cut hK16 (sc rfl (sc rfl (sc rfl (sc (jt (Or.inl h6)) sn)))) (fun _ h => h))
                ·
                  refine l_val (wg rfl rfl rfl) (r_fa rfl fld26_1) rfl ?_
                  refine l_val (wg rfl rfl rfl) (r_lb 1 rfl rfl rfl flat3) rfl ?_
                  refine l_val (wg rfl rfl rfl) (r_gtr rfl rfl) rfl ?_
                  refine l_val wn (r_pick rfl rfl) rfl ?_
                  refine l_nil (e_cut hK16 (sc rfl (sc rfl (sc rfl (sc (jp (iff_or_right h6 Iff.rfl)) sn)))) (fun _ h => h))
              ·
                refine c_cond rfl (fun h7 => ?_) (fun h7 => ?_)
                ·
                  refine c_seq fun K17 hK17 => ?_
                  refine c_region ?_
                  refine l_val wn (r_assign rfl) rfl ?_
                  refine l_nil (e_go hK17 ?_)
                  refine c_ret (e_in_r (e_then_r (e_ret1 (.inl rfl) Tryd.results27 (rv_tmp rfl) fun w1 hM => ?_)))
                  have hq : Lg.shape e.e deep cn = (3, (cn + 1)) := by rw [Lg.shape_e]; unfold Lg.ownW Lg.windowW; grind
                  exact hM.retM 2 rfl (by rw [hq] <;> rfl) (by rw [hq] <;> rfl)
                ·
                  have hx0 : Lg.ownW e.kind e.n e.range e.word e.ms.l e.by_.l = 0 := by unfold Lg.ownW Lg.windowW; grind
                  refine c_skip (e_in_n (e_cut hK13 (sc rfl (sc rfl (sc rfl sn))) (fun _ h => have h := Mem.fact (hx0) h; h)))
            ·
              refine c_seq fun K18 hK18 => ?_
              refine c_region ?_
              refine l_val wn (r_eql rfl rfl) rfl ?_
              refine l_val wn (r_assign rfl) rfl ?_
              refine l_nil (e_go hK18 ?_)
              refine c_cond rfl (fun h8 => ?_) (fun h8 => ?_)
              ·
                refine c_seq fun K19 hK19 => ?_
                refine c_seq fun K20 hK20 => ?_
                refine c_nodes (Mem w ⟨(· = npp), P0⟩ [.map b31 (ents (Value.int .i64) 0 ([(0, 1, 0), (1, 2, 0), (2, 3, 1), (3, 4, 2)] : List (Nat × Int × Int))) ([(0, 1, 0), (1, 2, 0), (2, 3, 1), (3, 4, 2)] : List (Nat × Int × Int)).length, .blk b3 [.int .i64 e.kind, .int .i64 e.n, .int .i64 e.range, .string e.word, .slice e.ms.A e.ms.l.length e.ms.c, .slice e.by_.A e.by_.l.length e.by_.c, .slice e.kids.A e.kids.l.length e.kids.c] 26, .blk npp [.int .i64 (cn + 1)] 3, okP ExprX.Ok e]) mix (fun _ h => h.drew) rfl ?_
                refine n_run (f := 3) [0, 1] rfl rfl (by kernel_rfl) (by kernel_rfl) (fun _ h => h) fun KS hKS => ?_
                refine s_val wn (r_fa rfl fld26_3) rfl ?_
                refine s_val wn (r_lb 1 rfl rfl rfl flat9) rfl ?_
                refine s_end hKS ?_
                refine n_step1 (f := 2) (i := 2) rfl (by kernel_rfl) ?_
                refine n_one (i := 2) rfl fun KN hKN => ?_
                refine l_callL Agg.words wn rfl Tryd.call46 rfl (fun w1 hM => c_refWords  w1) fun A1 cp1 hc1 hm1 hA1 => ?_
                refine l_nil (hKN _ _ (fun _ h => (h.sel [1, 2, 3, 4] (by decide) rfl)) ?_)
                refine n_step1 (f := 1) (i := 3) rfl (by kernel_rfl) ?_
                refine n_one (i := 3) rfl fun KN hKN => ?_
                refine l_callF wn rfl Tryd.call45 rfl (fun w1 hM => c_refIn e.word _ Agg.words w1 (RowSl encString hM 0 rfl)) ?_
                refine l_nil (hKN _ _ (fun _ h => (h.sel [1, 2, 3, 4] (by decide) rfl)) ?_)
                refine n_run (f := 0) [4] rfl rfl (by kernel_rfl) (by kernel_rfl) (fun _ h => (h.sel [1, 2, 3, 4] (by decide) rfl)) fun KS hKS => ?_
                refine s_val wn (r_not rfl) rfl ?_
                refine s_end hKS ?_
                refine n_done (by kernel_rfl) (e_go hK20 ?_)
                refine c_cond rfl (fun h9 => ?_) (fun h9 => ?_)
                ·
                  refine c_seq fun K21 hK21 => ?_
                  refine c_region ?_
                  refine l_val wn (r_assign rfl) rfl ?_
                  refine l_nil (e_go hK21 ?_)
                  refine c_ret (e_then_r (e_in_r (e_then_r (e_ret1 (.inl rfl) Tryd.results27 (rv_tmp rfl) fun w1 hM => ?_))))
                  have hq : Lg.shape e.e deep cn = (7, (cn + 1)) := by rw [Lg.shape_e]; unfold Lg.ownW Lg.windowW; grind
                  exact hM.retM 3 rfl (by rw [hq] <;> rfl) (by rw [hq] <;> rfl)
                ·
                  refine c_skip (e_go hK19 ?_)
                  refine c_seq fun K22 hK22 => ?_
                  refine c_seq fun K23 hK23 => ?_
                  refine c_region ?_
                  refine l_val wn (r_fa rfl fld26_4) rfl ?_
                  refine l_val wn (r_lb 2 rfl rfl rfl flat22) rfl ?_
                  refine l_val wn (r_len rfl Tryd.underlying22) rfl ?_
                  refine l_val wn (r_gtr rfl rfl) rfl ?_
                  refine l_nil (e_go hK23 ?_)
                  refine c_cond rfl (fun h10 => ?_) (fun h10 => ?_)
                  ·
                    refine c_seq fun K24 hK24 => ?_
                    refine c_region ?_
                    refine l_val wn (r_assign rfl) rfl ?_
                    refine l_nil (e_go hK24 ?_)
                    refine c_ret (e_then_r (e_in_r (e_then_r (e_ret1 (.inl rfl) Tryd.results27 (rv_tmp rfl) fun w1 hM => ?_))))
                    have hq : Lg.shape e.e deep cn = (5, (cn + 1)) := by rw [Lg.shape_e]; unfold Lg.ownW Lg.windowW; grind
                    exact hM.retM 3 rfl (by rw [hq] <;> rfl) (by rw [hq] <;> rfl)
                  ·
                    refine c_skip (e_go hK22 ?_)
                    refine c_seq fun K25 hK25 => ?_
                    refine c_seq fun K26 hK26 => ?_
                    refine c_region ?_
                    refine l_val wn (r_fa rfl fld26_4) rfl ?_
                    refine l_val wn (r_lb 2 rfl rfl rfl flat22) rfl ?_
                    refine l_val wn (r_len rfl Tryd.underlying22) rfl ?_
                    refine l_val wn (r_move rfl) rfl ?_
                    refine l_nil (e_go hK26 ?_)
                    refine c_block ?_
                    refine c_loop1 (fun (k : Nat) => [(1, .int .i64 deep), (2, .pointer (some ⟨npp, 0, none⟩)), (3, .pointer (some ⟨b3, 0, none⟩)), (74, .slice e.ms.A e.ms.l.length e.ms.c), (75, .int .i64 (e.ms.l.length : Int)), (76, .int .i64 (k : Int))]) (fun (k : Nat) => [Row (.slice A1 Agg.words.length cp1) 9 1 strE Agg.words, .map b31 (ents (Value.int .i64) 0 ([(0, 1, 0), (1, 2, 0), (2, 3, 1), (3, 4, 2)] : List (Nat × Int × Int))) ([(0, 1, 0), (1, 2, 0), (2, 3, 1), (3, 4, 2)] : List (Nat × Int × Int)).length, .blk b3 [.int .i64 e.kind, .int .i64 e.n, .int .i64 e.range, .string e.word, .slice e.ms.A e.ms.l.length e.ms.c, .slice e.by_.A e.by_.l.length e.by_.c, .slice e.kids.A e.kids.l.length e.kids.c] 26, .blk npp [.int .i64 (cn + 1)] 3, okP ExprX.Ok e]) (fun (k : Nat) => k ≤ e.ms.l.length ∧ Lg.matchesW e.ms.l = Lg.matchesW (e.ms.l.drop k)) (fun (k : Nat) => e.ms.l.length - k) 0 (sc rfl (sc rfl (sc rfl (sc rfl (sc rfl (sc (ji (by omega)) sn)))))) (fun _ h => h) ?_ (fun k hI1 => ?_)
                    · simp
                    ·
                      refine c_seq fun K27 hK27 => ?_
                      refine c_region ?_
                      refine l_val wn (r_lss rfl rfl) rfl ?_
                      refine l_nil (e_go hK27 ?_)
                      refine c_seq fun K28 hK28 => ?_
                      refine c_cond rfl (fun h11 => ?_) (fun h11 => ?_)
                      ·
                        refine c_skip (e_go hK28 ?_)
                        refine c_seq fun K29 hK29 => ?_
                        refine c_block ?_
                        refine c_seq fun K30 hK30 => ?_
                        refine c_region ?_
                        refine l_opn (fun _ h => h.exprX 4 rfl) ?_
                        obtain ⟨hc2, hm2, hA2⟩ := hwe.ms
                        obtain ⟨hc3, hm3, hA3⟩ := hwe.by_
                        obtain ⟨hc4, hm4, hA4⟩ := hwe.kids
                        obtain ⟨ad1, hd1⟩ := hA2 (ne_nil (i := k) (by first | omega | (simp <;> omega)))
                        refine l_val wn (r_ia (i := k) rfl hd1 rfl (by omega) (by first | omega | (simp <;> omega)) Tryd.underlying22 inf74) rfl ?_
                        obtain ⟨s1, hs1⟩ : ∃ x, e.ms.l[k]? = some x := ⟨_, List.getElem?_eq_getElem (by first | omega | (simp <;> omega))⟩
                        refine l_val wn (r_pln 0 [.int .i64 s1.kind, .string s1.key, .string s1.val] rfl rfl hd1 hs1 rfl rfl agg74 inf74) rfl ?_
                        refine l_alloc wn inf74 rfl fun b10 => ?_
                        refine l_stn 0 wn rfl rfl rfl inf74 rfl rfl rfl ?_
                        refine l_nil (e_go hK30 ?_)
                        refine c_seq fun K31 hK31 => ?_
                        refine c_cut [(1, .int .i64 deep), (2, .pointer (some ⟨npp, 0, none⟩)), (3, .pointer (some ⟨b3, 0, none⟩)), (10, .pointer (some ⟨b10, 0, none⟩)), (74, .slice e.ms.A e.ms.l.length e.ms.c), (75, .int .i64 (e.ms.l.length : Int)), (76, .int .i64 (k : Int)), (87, .bool (decide ((s1.kind < 1) ∨ (4 < s1.kind))))] (Mem w ⟨(· = npp), P0⟩ [.blk b10 [.int .i64 s1.kind, .string s1.key, .string s1.val] 74, slP 3 matchE (.slice e.ms.A e.ms.l.length e.ms.c) e.ms.l, slP 1 strE (.slice e.by_.A e.by_.l.length e.by_.c) e.by_.l, slP 7 exprE (.slice e.kids.A e.kids.l.length e.kids.c) e.kids.l, allP ExprX.Ok e.kids.l, Row (.slice A1 Agg.words.length cp1) 9 1 strE Agg.words, .map b31 (ents (Value.int .i64) 0 ([(0, 1, 0), (1, 2, 0), (2, 3, 1), (3, 4, 2)] : List (Nat × Int × Int))) ([(0, 1, 0), (1, 2, 0), (2, 3, 1), (3, 4, 2)] : List (Nat × Int × Int)).length, .blk b3 [.int .i64 e.kind, .int .i64 e.n, .int .i64 e.range, .string e.word, .slice e.ms.A e.ms.l.length e.ms.c, .slice e.by_.A e.by_.l.length e.by_.c, .slice e.kids.A e.kids.l.length e.kids.c] 26, .blk npp [.int .i64 (cn + 1)] 3, okP ExprX.Ok e]) (fun K32 hK32 => ?_) ?_
                        ·
                          refine c_region ?_
                          refine l_val wn (r_fa rfl fld74_0) rfl ?_
                          refine l_val wn (r_lb 0 rfl rfl rfl flat3) rfl ?_
                          refine l_val wn (r_lss rfl rfl) rfl ?_
                          refine l_val wn (r_move rfl) rfl ?_
                          refine l_case (t := 83) rfl (fun h12 => ?_) (fun h12 => ?_)
                          ·
                            refine l_skip (wg rfl rfl rfl) rfl ?_
                            refine l_skip (wg rfl rfl rfl) rfl ?_
                            refine l_skip (wg rfl rfl rfl) rfl ?_
                            refine l_val wn (r_pick rfl rfl) rfl ?_
                            refine l_nil (e_cut hK32 (sc rfl (sc rfl (sc rfl (sc rfl (sc rfl (sc rfl (sc rfl (sc (jt (Or.inl h12)) sn)))))))) (fun _ h => h))
                          ·
                            refine l_val (wg rfl rfl rfl) (r_fa rfl fld74_0) rfl ?_
                            refine l_val (wg rfl rfl rfl) (r_lb 0 rfl rfl rfl flat3) rfl ?_
                            refine l_val (wg rfl rfl rfl) (r_gtr rfl rfl) rfl ?_
                            refine l_val wn (r_pick rfl rfl) rfl ?_
                            refine l_nil (e_cut hK32 (sc rfl (sc rfl (sc rfl (sc rfl (sc rfl (sc rfl (sc rfl (sc (jp (iff_or_right h12 Iff.rfl)) sn)))))))) (fun _ h => h))
                        ·
                          refine c_cond rfl (fun h13 => ?_) (fun h13 => ?_)
                          ·
                            refine c_seq fun K33 hK33 => ?_
                            refine c_region ?_
                            refine l_val wn (r_assign rfl) rfl ?_
                            refine l_nil (e_go hK33 ?_)
                            refine c_ret (e_then_r (e_in_r (e_then_r (e_loop1_r (e_in_r (e_then_r (e_in_r (e_then_r (e_ret1 (.inl rfl) Tryd.results27 (rv_tmp rfl) fun w1 hM => ?_)))))))))
                            have hx1 := Lg.matchesW_step hs1
                            unfold Lg.matchW at hx1
                            have hx2 := hI1.2
                            have hq : Lg.shape e.e deep cn = (1, (cn + 1)) := by rw [Lg.shape_e]; unfold Lg.ownW Lg.windowW; grind
                            exact hM.retM 8 rfl (by rw [hq] <;> rfl) (by rw [hq] <;> rfl)
                          ·
                            refine c_skip (e_go hK31 ?_)
                            refine c_cut [(1, .int .i64 deep), (2, .pointer (some ⟨npp, 0, none⟩)), (3, .pointer (some ⟨b3, 0, none⟩)), (74, .slice e.ms.A e.ms.l.length e.ms.c), (75, .int .i64 (e.ms.l.length : Int)), (76, .int .i64 (k : Int)), (102, .bool (decide (((!(Names.named s1.key)) = true) ∨ ((s1.kind ≤ 2) ∧ ((!(Names.named s1.val)) = true)))))] (Mem w ⟨(· = npp), P0⟩ [.blk b10 [.int .i64 s1.kind, .string s1.key, .string s1.val] 74, slP 3 matchE (.slice e.ms.A e.ms.l.length e.ms.c) e.ms.l, slP 1 strE (.slice e.by_.A e.by_.l.length e.by_.c) e.by_.l, slP 7 exprE (.slice e.kids.A e.kids.l.length e.kids.c) e.kids.l, allP ExprX.Ok e.kids.l, Row (.slice A1 Agg.words.length cp1) 9 1 strE Agg.words, .map b31 (ents (Value.int .i64) 0 ([(0, 1, 0), (1, 2, 0), (2, 3, 1), (3, 4, 2)] : List (Nat × Int × Int))) ([(0, 1, 0), (1, 2, 0), (2, 3, 1), (3, 4, 2)] : List (Nat × Int × Int)).length, .blk b3 [.int .i64 e.kind, .int .i64 e.n, .int .i64 e.range, .string e.word, .slice e.ms.A e.ms.l.length e.ms.c, .slice e.by_.A e.by_.l.length e.by_.c, .slice e.kids.A e.kids.l.length e.kids.c] 26, .blk npp [.int .i64 (cn + 1)] 3, okP ExprX.Ok e]) (fun K34 hK34 => ?_) ?_
                            ·
                              refine c_region ?_
                              refine l_val wn (r_fa rfl fld74_1) rfl ?_
                              refine l_val wn (r_lb 0 rfl rfl rfl flat9) rfl ?_
                              refine l_callF wn rfl Tryd.call47 rfl (fun w1 hM => c_refNamed s1.key w1 (by first | exact (hwe.str.ms _ (List.mem_of_getElem? (by assumption))).1 | exact (hwe.str.ms _ (List.mem_of_getElem? (by assumption))).2 | exact hwe.str.by_ _ (List.mem_of_getElem? (by assumption)))) ?_
                              refine l_val wn (r_notb rfl) rfl ?_
                              refine l_val wn (r_move rfl) rfl ?_
                              refine l_caseb (t := 92) rfl (fun h14 => ?_) (fun h14 => ?_)
                              ·
                                refine l_skip (wg rfl rfl rfl) rfl ?_
                                refine l_skip (wg rfl rfl rfl) rfl ?_
                                refine l_skip (wg rfl rfl rfl) rfl ?_
                                refine l_skip (wg rfl rfl rfl) rfl ?_
                                refine l_skip (wu rfl rfl) rfl ?_
                                refine l_skip (wu rfl rfl) rfl ?_
                                refine l_skip (wu rfl rfl) rfl ?_
                                refine l_skip (wu rfl rfl) rfl ?_
                                refine l_skip (wg rfl rfl rfl) rfl ?_
                                refine l_val wn (r_pick rfl rfl) rfl ?_
                                refine l_nil (e_cut hK34 (sc rfl (sc rfl (sc rfl (sc rfl (sc rfl (sc rfl (sc (jt (Or.inl h14)) sn))))))) (fun _ h => h))
                              ·
                                refine l_val (wg rfl rfl rfl) (r_fa rfl fld74_0) rfl ?_
                                refine l_val (wg rfl rfl rfl) (r_lb 0 rfl rfl rfl flat3) rfl ?_
                                refine l_val (wg rfl rfl rfl) (r_leq rfl rfl) rfl ?_
                                refine l_val (wg rfl rfl rfl) (r_move rfl) rfl ?_
                                refine l_case (t := 96) rfl (fun h15 => ?_) (fun h15 => ?_)
                                ·
                                  refine l_val (wg rfl rfl rfl) (r_fa rfl fld74_2) rfl ?_
                                  refine l_val (wg rfl rfl rfl) (r_lb 0 rfl rfl rfl flat9) rfl ?_
                                  refine l_callF (wg rfl rfl rfl) rfl Tryd.call47 rfl (fun w1 hM => c_refNamed s1.val w1 (by first | exact (hwe.str.ms _ (List.mem_of_getElem? (by assumption))).1 | exact (hwe.str.ms _ (List.mem_of_getElem? (by assumption))).2 | exact hwe.str.by_ _ (List.mem_of_getElem? (by assumption)))) ?_
                                  refine l_val (wg rfl rfl rfl) (r_notb rfl) rfl ?_
                                  refine l_val (wg rfl rfl rfl) (r_pick rfl rfl) rfl ?_
                                  refine l_val wn (r_pick rfl rfl) rfl ?_
                                  refine l_nil (e_cut hK34 (sc rfl (sc rfl (sc rfl (sc rfl (sc rfl (sc rfl (sc (jpb (iff_or_right h14 (iff_and_right h15 Iff.rfl))) sn))))))) (fun _ h => h))
                                ·
                                  refine l_skip (wg rfl rfl rfl) rfl ?_
                                  refine l_skip (wg rfl rfl rfl) rfl ?_
                                  refine l_skip (wg rfl rfl rfl) rfl ?_
                                  refine l_skip (wg rfl rfl rfl) rfl ?_
                                  refine l_val (wg rfl rfl rfl) (r_pick rfl rfl) rfl ?_
                                  refine l_val wn (r_pick rfl rfl) rfl ?_
                                  refine l_nil (e_cut hK34 (sc rfl (sc rfl (sc rfl (sc rfl (sc rfl (sc rfl (sc (jf (fun g => g.elim h14 (fun g => h15 g.1))) sn))))))) (fun _ h => h))
                            ·
                              refine c_cond rfl (fun h16 => ?_) (fun h16 => ?_)
                              ·
                                refine c_seq fun K35 hK35 => ?_
                                refine c_region ?_
                                refine l_val wn (r_assign rfl) rfl ?_
                                refine l_nil (e_go hK35 ?_)
                                refine c_ret (e_in_r (e_then_r (e_loop1_r (e_in_r (e_then_r (e_in_r (e_then_r (e_ret1 (.inl rfl) Tryd.results27 (rv_tmp rfl) fun w1 hM => ?_))))))))
                                have hx1 := Lg.matchesW_step hs1
                                unfold Lg.matchW at hx1
                                have hx2 := hI1.2
                                have hq : Lg.shape e.e deep cn = (7, (cn + 1)) := by rw [Lg.shape_e]; unfold Lg.ownW Lg.windowW; grind
                                exact hM.retM 8 rfl (by rw [hq] <;> rfl) (by rw [hq] <;> rfl)
                              ·
                                refine c_skip (e_in_n (e_go hK29 ?_))
                                refine c_region ?_
                                refine l_val wn (r_addn rfl rfl (by omega)) rfl ?_
                                refine l_val wn (r_move rfl) rfl ?_
                                refine l_nil (e_round1 (k + 1) (sc rfl (sc rfl (sc rfl (sc rfl (sc rfl (sc (ji (by omega)) sn)))))) (fun _ h => (h.sel [5, 6, 7, 8, 9] (by decide) rfl)) ?_ ?_)
                                · exact ⟨by omega, by rw [hI1.2, Lg.matchesW_step hs1]; unfold Lg.matchW; grind⟩
                                · omega
                      ·
                        refine c_exit (e_then_x (e_loop1_x (e_in_hit (e_go hK25 ?_))))
                        refine c_cut [(1, .int .i64 deep), (2, .pointer (some ⟨npp, 0, none⟩)), (3, .pointer (some ⟨b3, 0, none⟩)), (111, .bool (decide ((e.range < 1) ∨ (100000 < e.range))))] (Mem w ⟨(· = npp), P0⟩ [Row (.slice A1 Agg.words.length cp1) 9 1 strE Agg.words, .map b31 (ents (Value.int .i64) 0 ([(0, 1, 0), (1, 2, 0), (2, 3, 1), (3, 4, 2)] : List (Nat × Int × Int))) ([(0, 1, 0), (1, 2, 0), (2, 3, 1), (3, 4, 2)] : List (Nat × Int × Int)).length, .blk b3 [.int .i64 e.kind, .int .i64 e.n, .int .i64 e.range, .string e.word, .slice e.ms.A e.ms.l.length e.ms.c, .slice e.by_.A e.by_.l.length e.by_.c, .slice e.kids.A e.kids.l.length e.kids.c] 26, .blk npp [.int .i64 (cn + 1)] 3, okP ExprX.Ok e]) (fun K36 hK36 => ?_) ?_
                        ·
                          refine c_region ?_
                          refine l_val wn (r_fa rfl fld26_2) rfl ?_
                          refine l_val wn (r_lb 2 rfl rfl rfl flat3) rfl ?_
                          refine l_val wn (r_lss rfl rfl) rfl ?_
                          refine l_val wn (r_move rfl) rfl ?_
                          refine l_case (t := 107) rfl (fun h17 => ?_) (fun h17 => ?_)
                          ·
                            refine l_skip (wg rfl rfl rfl) rfl ?_
                            refine l_skip (wg rfl rfl rfl) rfl ?_
                            refine l_skip (wg rfl rfl rfl) rfl ?_
                            refine l_val wn (r_pick rfl rfl) rfl ?_
                            refine l_nil (e_cut hK36 (sc rfl (sc rfl (sc rfl (sc (jt (Or.inl h17)) sn)))) (fun _ h => h))
                          ·
                            refine l_val (wg rfl rfl rfl) (r_fa rfl fld26_2) rfl ?_
                            refine l_val (wg rfl rfl rfl) (r_lb 2 rfl rfl rfl flat3) rfl ?_
                            refine l_val (wg rfl rfl rfl) (r_gtr rfl rfl) rfl ?_
                            refine l_val wn (r_pick rfl rfl) rfl ?_
                            refine l_nil (e_cut hK36 (sc rfl (sc rfl (sc rfl (sc (jp (iff_or_right h17 Iff.rfl)) sn)))) (fun _ h => h))
                        ·
                          refine c_cond rfl (fun h18 => ?_) (fun h18 => ?_)
                          ·
                            refine c_seq fun K37 hK37 => ?_
                            refine c_region ?_
                            refine l_val wn (r_assign rfl) rfl ?_
                            refine l_nil (e_go hK37 ?_)
                            refine c_ret (e_in_r (e_then_r (e_ret1 (.inl rfl) Tryd.results27 (rv_tmp rfl) fun w1 hM => ?_)))
                            have hx1 := Lg.matchesW_end (l := e.ms.l) (k := k) (by omega)
                            have hx2 := hI1.2
                            have hq : Lg.shape e.e deep cn = (3, (cn + 1)) := by rw [Lg.shape_e]; unfold Lg.ownW Lg.windowW; grind
                            exact hM.retM 3 rfl (by rw [hq] <;> rfl) (by rw [hq] <;> rfl)
                          ·
                            have hx1 := Lg.matchesW_end (l := e.ms.l) (k := k) (by omega)
                            have hx2 := hI1.2
                            have hx0 : Lg.ownW e.kind e.n e.range e.word e.ms.l e.by_.l = 0 := by unfold Lg.ownW Lg.windowW; grind
                            refine c_skip (e_in_n (e_cut hK13 (sc rfl (sc rfl (sc rfl sn))) (fun _ h => have h := Mem.fact (hx0) h; (h.sel [0, 2, 3, 4, 5] (by decide) rfl))))
              ·
                refine c_seq fun K38 hK38 => ?_
                refine c_region ?_
                refine l_val wn (r_eql rfl rfl) rfl ?_
                refine l_val wn (r_assign rfl) rfl ?_
                refine l_nil (e_go hK38 ?_)
                refine c_cond rfl (fun h19 => ?_) (fun h19 => ?_)
                ·
                  refine c_seq fun K39 hK39 => ?_
                  refine c_seq fun K40 hK40 => ?_
                  refine c_nodes (Mem w ⟨(· = npp), P0⟩ [.map b31 (ents (Value.int .i64) 0 ([(0, 1, 0), (1, 2, 0), (2, 3, 1), (3, 4, 2)] : List (Nat × Int × Int))) ([(0, 1, 0), (1, 2, 0), (2, 3, 1), (3, 4, 2)] : List (Nat × Int × Int)).length, .blk b3 [.int .i64 e.kind, .int .i64 e.n, .int .i64 e.range, .string e.word, .slice e.ms.A e.ms.l.length e.ms.c, .slice e.by_.A e.by_.l.length e.by_.c, .slice e.kids.A e.kids.l.length e.kids.c] 26, .blk npp [.int .i64 (cn + 1)] 3, okP ExprX.Ok e]) mix (fun _ h => h.drew) rfl ?_
                  refine n_run (f := 3) [0, 1] rfl rfl (by kernel_rfl) (by kernel_rfl) (fun _ h => h) fun KS hKS => ?_
                  refine s_val wn (r_fa rfl fld26_3) rfl ?_
                  refine s_val wn (r_lb 1 rfl rfl rfl flat9) rfl ?_
                  refine s_end hKS ?_
                  refine n_step1 (f := 2) (i := 2) rfl (by kernel_rfl) ?_
                  refine n_one (i := 2) rfl fun KN hKN => ?_
                  refine l_callL Lg.totals wn rfl Tryd.call19 rfl (fun w1 hM => c_refTotals  w1) fun A2 cp2 hc5 hm5 hA5 => ?_
                  refine l_nil (hKN _ _ (fun _ h => (h.sel [1, 2, 3, 4] (by decide) rfl)) ?_)
                  refine n_step1 (f := 1) (i := 3) rfl (by kernel_rfl) ?_
                  refine n_one (i := 3) rfl fun KN hKN => ?_
                  refine l_callF wn rfl Tryd.call45 rfl (fun w1 hM => c_refIn e.word _ Lg.totals w1 (RowSl encString hM 0 rfl)) ?_
                  refine l_nil (hKN _ _ (fun _ h => (h.sel [1, 2, 3, 4] (by decide) rfl)) ?_)
                  refine n_run (f := 0) [4] rfl rfl (by kernel_rfl) (by kernel_rfl) (fun _ h => (h.sel [1, 2, 3, 4] (by decide) rfl)) fun KS hKS => ?_
                  refine s_val wn (r_not rfl) rfl ?_
                  refine s_end hKS ?_
                  refine n_done (by kernel_rfl) (e_go hK40 ?_)
                  refine c_cond rfl (fun h20 => ?_) (fun h20 => ?_)
                  ·
                    refine c_seq fun K41 hK41 => ?_
                    refine c_region ?_
                    refine l_val wn (r_assign rfl) rfl ?_
                    refine l_nil (e_go hK41 ?_)
                    refine c_ret (e_then_r (e_in_r (e_then_r (e_ret1 (.inl rfl) Tryd.results27 (rv_tmp rfl) fun w1 hM => ?_))))
                    have hq : Lg.shape e.e deep cn = (7, (cn + 1)) := by rw [Lg.shape_e]; unfold Lg.ownW Lg.windowW; grind
                    exact hM.retM 3 rfl (by rw [hq] <;> rfl) (by rw [hq] <;> rfl)
                  ·
                    refine c_skip (e_go hK39 ?_)
                    refine c_seq fun K42 hK42 => ?_
                    refine c_seq fun K43 hK43 => ?_
                    refine c_region ?_
                    refine l_val wn (r_fa rfl fld26_5) rfl ?_
                    refine l_val wn (r_lb 2 rfl rfl rfl flat23) rfl ?_
                    refine l_val wn (r_len rfl Tryd.underlying23) rfl ?_
                    refine l_val wn (r_gtr rfl rfl) rfl ?_
                    refine l_nil (e_go hK43 ?_)
                    refine c_cond rfl (fun h21 => ?_) (fun h21 => ?_)
                    ·
                      refine c_seq fun K44 hK44 => ?_
                      refine c_region ?_
                      refine l_val wn (r_assign rfl) rfl ?_
                      refine l_nil (e_go hK44 ?_)
                      refine c_ret (e_then_r (e_in_r (e_then_r (e_ret1 (.inl rfl) Tryd.results27 (rv_tmp rfl) fun w1 hM => ?_))))
                      have hq : Lg.shape e.e deep cn = (5, (cn + 1)) := by rw [Lg.shape_e]; unfold Lg.ownW Lg.windowW; grind
                      exact hM.retM 3 rfl (by rw [hq] <;> rfl) (by rw [hq] <;> rfl)
                    ·
                      refine c_skip (e_go hK42 ?_)
                      refine c_seq fun K45 hK45 => ?_
                      refine c_region ?_
                      refine l_val wn (r_fa rfl fld26_5) rfl ?_
                      refine l_val wn (r_lb 2 rfl rfl rfl flat23) rfl ?_
                      refine l_val wn (r_len rfl Tryd.underlying23) rfl ?_
                      refine l_val wn (r_move rfl) rfl ?_
                      refine l_nil (e_go hK45 ?_)
                      refine c_block ?_
                      refine c_loop1 (fun (k : Nat) => [(1, .int .i64 deep), (2, .pointer (some ⟨npp, 0, none⟩)), (3, .pointer (some ⟨b3, 0, none⟩)), (124, .slice e.by_.A e.by_.l.length e.by_.c), (125, .int .i64 (e.by_.l.length : Int)), (126, .int .i64 (k : Int))]) (fun (k : Nat) => [Row (.slice A2 Lg.totals.length cp2) 9 1 strE Lg.totals, .map b31 (ents (Value.int .i64) 0 ([(0, 1, 0), (1, 2, 0), (2, 3, 1), (3, 4, 2)] : List (Nat × Int × Int))) ([(0, 1, 0), (1, 2, 0), (2, 3, 1), (3, 4, 2)] : List (Nat × Int × Int)).length, .blk b3 [.int .i64 e.kind, .int .i64 e.n, .int .i64 e.range, .string e.word, .slice e.ms.A e.ms.l.length e.ms.c, .slice e.by_.A e.by_.l.length e.by_.c, .slice e.kids.A e.kids.l.length e.kids.c] 26, .blk npp [.int .i64 (cn + 1)] 3, okP ExprX.Ok e]) (fun (k : Nat) => k ≤ e.by_.l.length ∧ ∀ y ∈ e.by_.l.take k, (!Names.named y) = false) (fun (k : Nat) => e.by_.l.length - k) 0 (sc rfl (sc rfl (sc rfl (sc rfl (sc rfl (sc (ji (by omega)) sn)))))) (fun _ h => h) ?_ (fun k hI2 => ?_)
                      · simp
                      ·
                        refine c_seq fun K46 hK46 => ?_
                        refine c_region ?_
                        refine l_val wn (r_lss rfl rfl) rfl ?_
                        refine l_nil (e_go hK46 ?_)
                        refine c_seq fun K47 hK47 => ?_
                        refine c_cond rfl (fun h22 => ?_) (fun h22 => ?_)
                        ·
                          refine c_skip (e_go hK47 ?_)
                          refine c_seq fun K48 hK48 => ?_
                          refine c_block ?_
                          refine c_seq fun K49 hK49 => ?_
                          refine c_region ?_
                          refine l_opn (fun _ h => h.exprX 4 rfl) ?_
                          obtain ⟨hc6, hm6, hA6⟩ := hwe.ms
                          obtain ⟨hc7, hm7, hA7⟩ := hwe.by_
                          obtain ⟨hc8, hm8, hA8⟩ := hwe.kids
                          obtain ⟨ad2, hd2⟩ := hA7 (ne_nil (i := k) (by first | omega | (simp <;> omega)))
                          refine l_val wn (r_ia (i := k) rfl hd2 rfl (by omega) (by first | omega | (simp <;> omega)) Tryd.underlying23 inf9) rfl ?_
                          obtain ⟨s2, hs2⟩ : ∃ x, e.by_.l[k]? = some x := ⟨_, List.getElem?_eq_getElem (by first | omega | (simp <;> omega))⟩
                          refine l_val wn (r_pl 1 rfl rfl hd2 hs2 rfl flat9) rfl ?_
                          refine l_val wn (r_assign rfl) rfl ?_
                          refine l_nil (e_go hK49 ?_)
                          refine c_seq fun K50 hK50 => ?_
                          refine c_region ?_
                          refine l_val wn (r_move rfl) rfl ?_
                          refine l_callF wn rfl Tryd.call47 rfl (fun w1 hM => c_refNamed s2 w1 (by first | exact (hwe.str.ms _ (List.mem_of_getElem? (by assumption))).1 | exact (hwe.str.ms _ (List.mem_of_getElem? (by assumption))).2 | exact hwe.str.by_ _ (List.mem_of_getElem? (by assumption)))) ?_
                          refine l_val wn (r_notb rfl) rfl ?_
                          refine l_nil (e_go hK50 ?_)
                          refine c_condb rfl (fun h23 => ?_) (fun h23 => ?_)
                          ·
                            refine c_seq fun K51 hK51 => ?_
                            refine c_region ?_
                            refine l_val wn (r_assign rfl) rfl ?_
                            refine l_nil (e_go hK51 ?_)
                            refine c_ret (e_in_r (e_then_r (e_loop1_r (e_in_r (e_in_r (e_then_r (e_ret1 (.inl rfl) Tryd.results27 (rv_tmp rfl) fun w1 hM => ?_)))))))
                            have hx3 : (e.by_.l.any fun k => !Names.named k) = true := List.any_eq_true.2 ⟨_, List.mem_of_getElem? hs2, by grind⟩
                            have hq : Lg.shape e.e deep cn = (7, (cn + 1)) := by rw [Lg.shape_e]; unfold Lg.ownW Lg.windowW; grind
                            exact hM.retM 7 rfl (by rw [hq] <;> rfl) (by rw [hq] <;> rfl)
                          ·
                            refine c_skip (e_in_n (e_go hK48 ?_))
                            refine c_region ?_
                            refine l_val wn (r_addn rfl rfl (by omega)) rfl ?_
                            refine l_val wn (r_move rfl) rfl ?_
                            refine l_nil (e_round1 (k + 1) (sc rfl (sc rfl (sc rfl (sc rfl (sc rfl (sc (ji (by omega)) sn)))))) (fun _ h => (h.sel [4, 5, 6, 7, 8] (by decide) rfl)) ?_ ?_)
                            · exact ⟨by omega, Sh.none_step hI2.2 hs2 (by grind)⟩
                            · omega
                        ·
                          have hx3 := Lg.any_none hI2.2 (by omega)
                          have hx0 : Lg.ownW e.kind e.n e.range e.word e.ms.l e.by_.l = 0 := by unfold Lg.ownW Lg.windowW; grind
                          refine c_exit (e_then_x (e_loop1_x (e_in_hit (e_in_n (e_cut hK13 (sc rfl (sc rfl (sc rfl sn))) (fun _ h => have h := Mem.fact (hx0) h; (h.sel [0, 2, 3, 4, 5] (by decide) rfl)))))))
                ·
                  refine c_seq fun K52 hK52 => ?_
                  refine c_region ?_
                  refine l_val wn (r_fa rfl fld26_3) rfl ?_
                  refine l_val wn (r_lb 1 rfl rfl rfl flat9) rfl ?_
                  refine l_bsL strE ([⟨#[43]⟩, ⟨#[45]⟩, ⟨#[42]⟩] : List ByteArray) wn Tryd.underlying23 inf9 rfl rfl rfl rfl (by decide) (by decide) rfl fun b49 => ?_
                  refine l_callF wn rfl Tryd.call45 rfl (fun w1 hM => c_refIn e.word _ ([⟨#[43]⟩, ⟨#[45]⟩, ⟨#[42]⟩] : List ByteArray) w1 (RowSl encString hM 0 rfl)) ?_
                  refine l_val wn (r_not rfl) rfl ?_
                  refine l_nil (e_go hK52 ?_)
                  refine c_cond rfl (fun h24 => ?_) (fun h24 => ?_)
                  ·
                    refine c_seq fun K53 hK53 => ?_
                    refine c_region ?_
                    refine l_val wn (r_assign rfl) rfl ?_
                    refine l_nil (e_go hK53 ?_)
                    refine c_ret (e_in_r (e_then_r (e_ret1 (.inl rfl) Tryd.results27 (rv_tmp rfl) fun w1 hM => ?_)))
                    have hs9 : Lg.signs = [⟨#[43]⟩, ⟨#[45]⟩, ⟨#[42]⟩] := rfl
                    have hq : Lg.shape e.e deep cn = (7, (cn + 1)) := by rw [Lg.shape_e]; unfold Lg.ownW Lg.windowW; grind
                    exact hM.retM 3 rfl (by rw [hq] <;> rfl) (by rw [hq] <;> rfl)
                  ·
                    have hs9 : Lg.signs = [⟨#[43]⟩, ⟨#[45]⟩, ⟨#[42]⟩] := rfl
                    have hx0 : Lg.ownW e.kind e.n e.range e.word e.ms.l e.by_.l = 0 := by unfold Lg.ownW Lg.windowW; grind
                    refine c_skip (e_in_n (e_cut hK13 (sc rfl (sc rfl (sc rfl sn))) (fun _ h => have h := Mem.fact (hx0) h; (h.sel [0, 2, 3, 4, 5] (by decide) rfl))))
          ·
            refine c_fact fun hfact => ?_
            refine c_seq fun K54 hK54 => ?_
            refine c_seq fun K55 hK55 => ?_
            refine c_region ?_
            refine l_val wn (r_fa rfl fld26_6) rfl ?_
            refine l_val wn (r_lb 1 rfl rfl rfl flat24) rfl ?_
            refine l_val wn (r_len rfl Tryd.underlying24) rfl ?_
            refine l_val wn (r_move rfl) rfl ?_
            refine l_nil (e_go hK55 ?_)
            refine c_block ?_
            refine c_loop2 (fun (k : Nat) (m : Int) => [(1, .int .i64 deep), (2, .pointer (some ⟨npp, 0, none⟩)), (135, .slice e.kids.A e.kids.l.length e.kids.c), (136, .int .i64 (e.kids.l.length : Int)), (137, .int .i64 (k : Int))]) (fun (k : Nat) (m : Int) => [.map b31 (ents (Value.int .i64) 0 ([(0, 1, 0), (1, 2, 0), (2, 3, 1), (3, 4, 2)] : List (Nat × Int × Int))) ([(0, 1, 0), (1, 2, 0), (2, 3, 1), (3, 4, 2)] : List (Nat × Int × Int)).length, .blk b3 [.int .i64 e.kind, .int .i64 e.n, .int .i64 e.range, .string e.word, .slice e.ms.A e.ms.l.length e.ms.c, .slice e.by_.A e.by_.l.length e.by_.c, .slice e.kids.A e.kids.l.length e.kids.c] 26, .blk npp [.int .i64 m] 3, okP ExprX.Ok e]) (fun (k : Nat) (m : Int) => k ≤ e.kids.l.length ∧ (0 ≤ m ∧ m ≤ 100) ∧ Lg.shapes ((e.kids.l.take k).map ExprX.e) (deep + 1) (cn + 1) = (0, m)) (fun (k : Nat) (m : Int) => e.kids.l.length - k) 0 (cn + 1) (sc rfl (sc rfl (sc rfl (sc rfl (sc (ji (by omega)) sn))))) (fun _ h => h) ?_ (fun k m hI3 => ?_)
            · exact ⟨by omega, ⟨by omega, by omega⟩, rfl⟩
            ·
              have hq0 := hI3.2.1.1
              have hq1 := hI3.2.1.2
              refine c_seq fun K56 hK56 => ?_
              refine c_region ?_
              refine l_val wn (r_lss rfl rfl) rfl ?_
              refine l_nil (e_go hK56 ?_)
              refine c_seq fun K57 hK57 => ?_
              refine c_cond rfl (fun h25 => ?_) (fun h25 => ?_)
              ·
                refine c_skip (e_go hK57 ?_)
                refine c_seq fun K58 hK58 => ?_
                refine c_block ?_
                refine c_seq fun K59 hK59 => ?_
                refine c_region ?_
                refine l_opn (fun _ h => h.exprX 3 rfl) ?_
                obtain ⟨hc9, hm9, hA9⟩ := hwe.ms
                obtain ⟨hc10, hm10, hA10⟩ := hwe.by_
                obtain ⟨hc11, hm11, hA11⟩ := hwe.kids
                obtain ⟨ad3, hd3⟩ := hA11 (ne_nil (i := k) (by first | omega | (simp <;> omega)))
                refine l_val wn (r_ia (i := k) rfl hd3 rfl (by omega) (by first | omega | (simp <;> omega)) Tryd.underlying24 inf26) rfl ?_
                obtain ⟨s3, hs3⟩ : ∃ x, e.kids.l[k]? = some x := ⟨_, List.getElem?_eq_getElem (by first | omega | (simp <;> omega))⟩
                refine l_val wn (r_pln 2 [.int .i64 s3.kind, .int .i64 s3.n, .int .i64 s3.range, .string s3.word, .slice s3.ms.A s3.ms.l.length s3.ms.c, .slice s3.by_.A s3.by_.l.length s3.by_.c, .slice s3.kids.A s3.kids.l.length s3.kids.c] rfl rfl hd3 hs3 rfl rfl agg26 inf26) rfl ?_
                refine l_alloc wn inf26 rfl fun b14 => ?_
                refine l_stn 0 wn rfl rfl rfl inf26 rfl rfl rfl ?_
                refine l_nil (e_go hK59 ?_)
                refine c_seq fun K60 hK60 => ?_
                refine c_region ?_
                refine l_val wn (r_lbn 0 [.int .i64 s3.kind, .int .i64 s3.n, .int .i64 s3.range, .string s3.word, .slice s3.ms.A s3.ms.l.length s3.ms.c, .slice s3.by_.A s3.by_.l.length s3.by_.c, .slice s3.kids.A s3.kids.l.length s3.kids.c] rfl rfl rfl rfl agg26 inf26) rfl ?_
                refine l_val wn (r_move rfl) rfl ?_
                refine l_val wn (r_addn rfl rfl (by omega)) rfl ?_
                refine l_val wn (r_move rfl) rfl ?_
                have hw1 := hwe.all _ (List.mem_of_getElem? hs3)
                refine l_opn (fun _ h => h.one 4 ExprX.Ok.loc rfl hs3) ?_
                refine l_callM 8 (v := .int .i64 ((Lg.shape s3.e (deep + 1) m).1)) (cs' := [.int .i64 ((Lg.shape s3.e (deep + 1) m).2)]) wn rfl rfl Tryd.call27 rfl (fun w1 Pb hM pp => ih s3 (ExprX.kid_lt (List.mem_of_getElem? hs3)) (deep + 1) npp m Pb w1 (pp.at_ 0 _ rfl) (hM.blk (i := 8) rfl) (pp.sub' (i := 8) rfl) (by omega) (by omega) (by omega)) ?_
                refine l_val wn (r_assign rfl) rfl ?_
                refine l_nil (e_go hK60 ?_)
                refine c_seq fun K61 hK61 => ?_
                refine c_region ?_
                refine l_val wn (r_move rfl) rfl ?_
                refine l_val wn (r_neq rfl rfl) rfl ?_
                refine l_nil (e_go hK61 ?_)
                refine c_cond rfl (fun h26 => ?_) (fun h26 => ?_)
                ·
                  refine c_seq fun K62 hK62 => ?_
                  refine c_region ?_
                  refine l_val wn (r_move rfl) rfl ?_
                  refine l_val wn (r_assign rfl) rfl ?_
                  refine l_nil (e_go hK62 ?_)
                  refine c_ret (e_in_r (e_then_r (e_loop2_r (e_in_r (e_then_r (e_ret1 (.inl rfl) Tryd.results27 (rv_tmp rfl) fun w1 hM => ?_))))))
                  have hq : Lg.shape e.e deep cn = ((Lg.shape s3.e (deep + 1) m).1, (Lg.shape s3.e (deep + 1) m).2) := (show _ = Lg.shapes (e.kids.l.map ExprX.e) (deep + 1) (cn + 1) from by rw [Lg.shape_e]; grind).trans (((Lg.shapes_next hI3.2.2 hs3).2 h26).trans rfl)
                  exact hM.retM 8 rfl (by rw [hq] <;> rfl) (by rw [hq] <;> rfl)
                ·
                  refine c_skip (e_in_n (e_go hK58 ?_))
                  refine c_region ?_
                  refine l_val wn (r_addn rfl rfl (by omega)) rfl ?_
                  refine l_val wn (r_move rfl) rfl ?_
                  refine l_nil (e_round2 (k + 1) ((Lg.shape s3.e (deep + 1) m).2) (sc rfl (sc rfl (sc rfl (sc rfl (sc (ji (by omega)) sn))))) (fun _ h => (h.sel [6, 7, 8, 9] (by decide) rfl)) ?_ ?_)
                  · exact ⟨by omega, Lg.shape_le _ _ _ hq0 hq1 (Classical.not_not.1 h26), (Lg.shapes_next hI3.2.2 hs3).1 (Classical.not_not.1 h26)⟩
                  · omega
              ·
                refine c_exit (e_then_x (e_loop2_x (e_in_hit (e_go hK54 ?_))))
                refine c_seq fun K63 hK63 => ?_
                refine c_region ?_
                refine l_val wn (r_assign rfl) rfl ?_
                refine l_nil (e_go hK63 ?_)
                refine c_ret (e_ret1 (.inl rfl) Tryd.results27 (rv_tmp rfl) fun w1 hM => ?_)
                have hq : Lg.shape e.e deep cn = (0, m) := (show _ = Lg.shapes (e.kids.l.map ExprX.e) (deep + 1) (cn + 1) from by rw [Lg.shape_e]; grind).trans (by rw [← hI3.2.2, List.take_of_length_le (by omega)])
                exact hM.retM 2 rfl (by rw [hq] <;> rfl) (by rw [hq] <;> rfl)
theorem c_refShape (e : ExprX) : c_refShape_C e := recX c_refShape_step e

theorem c_refWrongE (e : ExprX) (P0 : Nat → Prop) (w : World) (hP0 : ∀ b, P0 b → b < w.heap.size) (he : ExprX.Ok P0 e w)  :
    Calls Tryd.prog 10 #[.agg (exprE e).toArray] w (Ret w (.int .i64 (Lg.wrong e.e))) := by
 have hwe := he.wf
 refine fstart (N := 6) (vals := [.agg (exprE e).toArray]) (S := Mem w ⟨no, P0⟩ [okP ExprX.Ok e]) Tryd.func10 rfl rfl rfl (Mem.ofDatsP hP0 (dc (dp (ExprX.Ok.loc _) he) dn)) ?_
 refine c_seq fun _ hK1 => ?_
 refine c_region ?_
 refine l_box wn rfl rfl fun b1 => ?_
 refine l_val wn (r_assign rfl) rfl ?_
 refine l_nil (e_go hK1 ?_)
 refine c_seq fun _ hK2 => ?_
 refine c_region ?_
 refine l_alloc1 wn inf3 rfl rfl fun b3 => ?_
 refine l_st1 0 wn rfl rfl rfl rfl inf3 rfl rfl ?_
 refine l_nil (e_go hK2 ?_)
 refine c_seq fun _ hK3 => ?_
 refine c_region ?_
 refine l_val wn (r_lbn 1 [.int .i64 e.kind, .int .i64 e.n, .int .i64 e.range, .string e.word, .slice e.ms.A e.ms.l.length e.ms.c, .slice e.by_.A e.by_.l.length e.by_.c, .slice e.kids.A e.kids.l.length e.kids.c] rfl rfl rfl rfl agg26 inf26) rfl ?_
 refine l_callM 0 (v := .int .i64 ((Lg.shape e.e 1 0).1)) (cs' := [.int .i64 ((Lg.shape e.e 1 0).2)]) wn rfl rfl Tryd.call27 rfl (fun w1 Pb hM pp => c_refShape e 1 b3 0 Pb w1 (pp.at_ 2 _ rfl) (hM.blk (i := 0) rfl) (pp.sub' (i := 0) rfl) (by omega) (by omega) (by omega)) ?_
 refine l_val wn (r_assign rfl) rfl ?_
 refine l_nil (e_go hK3 ?_)
 refine c_ret (e_ret1 (.inl rfl) Tryd.results10 (rv_tmp rfl) fun w1 hM => ?_)
 exact ret_ok rfl hM

end Go.Proofs.YtffpglgboaigfaaDoor
