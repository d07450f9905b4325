/-
  Walks: what each function hands back.
-/
import Derived.Test.YtffpglgboaigfaaDoorWnames
import Derived.Test.YtffpglgboaigfaaDoorWagg
import Derived.Test.YtffpglgboaigfaaDoorPLang
import Derived.Test.YtffpglgboaigfaaDoorAbb
namespace Go.Proofs.YtffpglgboaigfaaDoor
open Ex
set_option linter.unusedVariables false
set_option linter.unusedSimpArgs false
theorem c_idxStr (lv : Value) (l : List ByteArray) (f : Nat) (fcap : Array Value) (fp : ByteArray → Bool) (w : World) (hl : FlatSl (In w) 1 strE lv l w) (fc : ∀ vs w, (callFunc f vs).run Tryd.prog w = .ok (.enter f vs) w) (fh : ∀ (x : ByteArray) (w1 : World), Fr no w w1 → Calls Tryd.prog f (#[.string x] ++ fcap) w1 (Ret w1 (.bool (fp x))))  :
    Calls Tryd.prog 75 #[lv, .func (.func f) #[] fcap] w (Ret w (iV (Sh.idx fp l))) := by
 obtain ⟨lA, lc, rfl, hlc, hlm, hlA⟩ := hl.form
 refine fstart (N := 19) (vals := [.slice lA l.length lc, .func (.func f) #[] fcap]) (S := Mem w no [slO (In w) 1 strE (.slice lA l.length lc) l]) Tryd.func75 rfl rfl rfl (Mem.ofDats (dc (dl hl) dn)) ?_
 refine c_seq fun _ hK1 => ?_
 refine c_region ?_
 refine l_val wn (r_assign rfl) rfl ?_
 refine l_nil (e_go hK1 ?_)
 refine c_seq fun _ hK2 => ?_
 refine c_seq fun _ hK3 => ?_
 refine c_region ?_
 refine l_val wn (r_move rfl) rfl ?_
 refine l_val wn (r_len rfl Tryd.underlying23) rfl ?_
 refine l_val wn (r_move rfl) rfl ?_
 refine l_nil (e_go hK3 ?_)
 refine c_block ?_
 refine c_loop1 (fun (k : Nat) => [(0, .slice lA l.length lc), (1, .func (.func f) #[] fcap), (7, iV l.length), (8, iV k)]) (fun (k : Nat) => [slO (In w) 1 strE (.slice lA l.length lc) l]) (fun (k : Nat) => k ≤ l.length ∧ ∀ y ∈ l.take k, fp y = false) (fun (k : Nat) => l.length - k) 0 (sc rfl (sc rfl (sc rfl (sc (ji (by omega)) sn)))) (fun _ h => h) ?_ (fun k hI1 => ?_)
 · simp
 refine c_seq fun _ hK4 => ?_
 refine c_region ?_
 refine l_val wn (r_lss rfl rfl) rfl ?_
 refine l_nil (e_go hK4 ?_)
 refine c_seq fun _ hK5 => ?_
 refine c_cond rfl (fun h1 => ?_) (fun h1 => ?_)
 · refine c_skip (e_go hK5 ?_)
   refine c_seq fun _ hK6 => ?_
   refine c_block ?_
   refine c_seq fun _ hK7 => ?_
   refine c_region ?_
   refine l_val wn (r_move rfl) rfl ?_
   refine l_val wn (r_assign rfl) rfl ?_
   refine l_nil (e_go hK7 ?_)
   refine c_seq fun _ hK8 => ?_
   refine c_region ?_
   refine l_val wn (r_move rfl) rfl ?_
   refine l_val wn (r_move rfl) rfl ?_
   refine l_val wn (r_move rfl) rfl ?_
   obtain ⟨ad1, hd1⟩ := hlA (ne_nil (i := k) (by first | omega | (simp <;> omega)))
   refine l_val wn (r_ia (i := k) rfl hd1 rfl (by omega) (by first | omega | (simp <;> omega)) Tryd.underlying23 inf9) rfl ?_
   obtain ⟨s1, hs1⟩ : ∃ x, l[k]? = some x := ⟨_, List.getElem?_eq_getElem (by first | omega | (simp <;> omega))⟩
   refine l_val wn (r_el 0 rfl rfl hd1 hs1 rfl flat9) rfl ?_
   refine l_callR wn rfl rfl fc rfl (fun w1 hM => fh s1 w1 hM.fr) ?_
   refine l_nil (e_go hK8 ?_)
   refine c_condb rfl (fun h2 => ?_) (fun h2 => ?_)
   · refine c_seq fun _ hK9 => ?_
     refine c_region ?_
     refine l_val wn (r_move rfl) rfl ?_
     refine l_val wn (r_assign rfl) rfl ?_
     refine l_nil (e_go hK9 ?_)
     refine c_ret (e_in_r (e_then_r (e_loop1_r (e_in_r (e_then_r (e_ret1 (.inl rfl) Tryd.results75 (rv_tmp rfl) fun w1 hM => ?_))))))
     exact ret_ok (by rw [Sh.idx_at hI1.2 hs1 h2]) hM
   refine c_skip (e_in_n (e_go hK6 ?_))
   refine c_region ?_
   refine l_val wn (r_addn rfl rfl (by omega)) rfl ?_
   refine l_val wn (r_move rfl) rfl ?_
   refine l_nil (e_round1 (k + 1) (sc rfl (sc rfl (sc rfl (sc (ji (by omega)) sn)))) (fun _ h => h) ?_ ?_)
   · exact ⟨by omega, Sh.none_step hI1.2 hs1 h2⟩
   omega
 refine c_exit (e_then_x (e_loop1_x (e_in_hit (e_go hK2 ?_))))
 refine c_seq fun _ hK10 => ?_
 refine c_region ?_
 refine l_val wn (r_assign rfl) rfl ?_
 refine l_nil (e_go hK10 ?_)
 refine c_ret (e_ret1 (.inl rfl) Tryd.results75 (rv_tmp rfl) fun w1 hM => ?_)
 exact ret_ok (by rw [Sh.idx_none hI1.2 (by omega)]) hM

theorem c_contStr (lv : Value) (l : List ByteArray) (f : Nat) (fcap : Array Value) (fp : ByteArray → Bool) (w : World) (hl : FlatSl (In w) 1 strE lv l w) (fc : ∀ vs w, (callFunc f vs).run Tryd.prog w = .ok (.enter f vs) w) (fh : ∀ (x : ByteArray) (w1 : World), Fr no w w1 → Calls Tryd.prog f (#[.string x] ++ fcap) w1 (Ret w1 (.bool (fp x))))  :
    Calls Tryd.prog 60 #[lv, .func (.func f) #[] fcap] w (Ret w (.bool (l.any fp))) := by
 obtain ⟨lA, lc, rfl, hlc, hlm, hlA⟩ := hl.form
 refine fstart (N := 9) (vals := [.slice lA l.length lc, .func (.func f) #[] fcap]) (S := Mem w no [slO (In w) 1 strE (.slice lA l.length lc) l]) Tryd.func60 rfl rfl rfl (Mem.ofDats (dc (dl hl) dn)) ?_
 refine c_seq fun _ hK1 => ?_
 refine c_region ?_
 refine l_val wn (r_assign rfl) rfl ?_
 refine l_nil (e_go hK1 ?_)
 refine c_seq fun _ hK2 => ?_
 refine c_region ?_
 refine l_val wn (r_move rfl) rfl ?_
 refine l_val wn (r_move rfl) rfl ?_
 refine l_callF wn rfl Tryd.call75 rfl (fun w1 hM => c_idxStr _ l f fcap fp w1 (hM.sl 0 rfl) fc (fun x w2 h2 => fh x w2 (hM.fr.trans h2 (fun _ _ h => h)))) ?_
 refine l_val wn (r_geq rfl rfl) rfl ?_
 refine l_val wn (r_assign rfl) rfl ?_
 refine l_nil (e_go hK2 ?_)
 refine c_ret (e_ret1 (.inl rfl) Tryd.results60 (rv_tmp rfl) fun w1 hM => ?_)
 exact ret_ok (congrArg Value.bool (by rw [Bool.eq_iff_iff, decide_eq_true_iff]; exact Sh.idx_any)) hM

theorem c_own1 (k : ByteArray) (w : World)   :
    Calls Tryd.prog 61 #[.string k] w (Ret w (.bool (!Names.named k))) := by
 refine fstart (N := 6) (vals := [.string k]) (S := Mem w no []) Tryd.func61 rfl rfl rfl (Mem.ofDats dn) ?_
 refine c_seq fun _ hK1 => ?_
 refine c_region ?_
 refine l_val wn (r_assign rfl) rfl ?_
 refine l_nil (e_go hK1 ?_)
 refine c_seq fun _ hK2 => ?_
 refine c_region ?_
 refine l_val wn (r_move rfl) rfl ?_
 refine l_callF wn rfl Tryd.call62 rfl (fun w1 hM => c_named k w1) ?_
 refine l_val wn (r_notb rfl) rfl ?_
 refine l_val wn (r_assign rfl) rfl ?_
 refine l_nil (e_go hK2 ?_)
 refine c_ret (e_ret1 (.inl rfl) Tryd.results61 (rv_tmp rfl) fun w1 hM => ?_)
 exact ret_ok rfl hM

theorem c_Totals  (w : World)   :
    Calls Tryd.prog 18 #[] w (RetL w 9 1 strE Lg.totals) := by
 refine fstart (N := 2) (vals := []) (S := Mem w no []) Tryd.func18 rfl rfl rfl (Mem.ofDats dn) ?_
 refine c_seq fun _ hK1 => ?_
 refine c_region ?_
 refine l_val wn (r_assign rfl) rfl ?_
 refine l_nil (e_go hK1 ?_)
 refine c_seq fun _ hK2 => ?_
 refine c_region ?_
 refine l_bsL strE ([⟨#[99, 111, 117, 110, 116]⟩, ⟨#[109, 97, 120]⟩, ⟨#[109, 105, 110]⟩, ⟨#[115, 117, 109]⟩] : List ByteArray) wn Tryd.underlying23 inf9 rfl rfl rfl rfl (by decide) (by decide) rfl fun b1 => ?_
 refine l_val wn (r_assign rfl) rfl ?_
 refine l_nil (e_go hK2 ?_)
 refine c_ret (e_ret1 (.inl rfl) Tryd.results18 (rv_tmp rfl) fun w1 hM => ?_)
 exact hM.retL' 0 rfl rfl

theorem c_refTotals  (w : World)   :
    Calls Tryd.prog 19 #[] w (RetL w 9 1 strE Lg.totals) := by
 refine fstart (N := 2) (vals := []) (S := Mem w no []) Tryd.func19 rfl rfl rfl (Mem.ofDats dn) ?_
 refine c_seq fun _ hK1 => ?_
 refine c_region ?_
 refine l_val wn (r_assign rfl) rfl ?_
 refine l_nil (e_go hK1 ?_)
 refine c_seq fun _ hK2 => ?_
 refine c_region ?_
 refine l_bsL strE ([⟨#[99, 111, 117, 110, 116]⟩, ⟨#[109, 97, 120]⟩, ⟨#[109, 105, 110]⟩, ⟨#[115, 117, 109]⟩] : List ByteArray) wn Tryd.underlying23 inf9 rfl rfl rfl rfl (by decide) (by decide) rfl fun b1 => ?_
 refine l_val wn (r_assign rfl) rfl ?_
 refine l_nil (e_go hK2 ?_)
 refine c_ret (e_ret1 (.inl rfl) Tryd.results19 (rv_tmp rfl) fun w1 hM => ?_)
 exact hM.retL' 0 rfl rfl

theorem c_refWords  (w : World)   :
    Calls Tryd.prog 46 #[] w (RetL w 9 1 strE Agg.words) := by
 refine fstart (N := 2) (vals := []) (S := Mem w no []) Tryd.func46 rfl rfl rfl (Mem.ofDats dn) ?_
 refine c_seq fun _ hK1 => ?_
 refine c_region ?_
 refine l_val wn (r_assign rfl) rfl ?_
 refine l_nil (e_go hK1 ?_)
 refine c_seq fun _ hK2 => ?_
 refine c_region ?_
 refine l_bsL strE ([⟨#[97, 118, 103]⟩, ⟨#[99, 111, 117, 110, 116]⟩, ⟨#[102, 105, 114, 115, 116]⟩, ⟨#[108, 97, 115, 116]⟩, ⟨#[109, 97, 120]⟩, ⟨#[109, 105, 110]⟩, ⟨#[114, 105, 115, 101]⟩, ⟨#[115, 117, 109]⟩] : List ByteArray) wn Tryd.underlying23 inf9 rfl rfl rfl rfl (by decide) (by decide) rfl fun b1 => ?_
 refine l_val wn (r_assign rfl) rfl ?_
 refine l_nil (e_go hK2 ?_)
 refine c_ret (e_ret1 (.inl rfl) Tryd.results46 (rv_tmp rfl) fun w1 hM => ?_)
 exact hM.retL' 0 rfl rfl

theorem c_refIn (v : ByteArray) (lv : Value) (l : List ByteArray) (w : World) (hl : FlatSl (In w) 1 strE lv l w)  :
    Calls Tryd.prog 45 #[.string v, lv] w (Ret w (.bool (decide (0 ≤ Names.indexOf l v 0)))) := by
 obtain ⟨lA, lc, rfl, hlc, hlm, hlA⟩ := hl.form
 refine fstart (N := 17) (vals := [.string v, .slice lA l.length lc]) (S := Mem w no [slO (In w) 1 strE (.slice lA l.length lc) l]) Tryd.func45 rfl rfl rfl (Mem.ofDats (dc (dl hl) dn)) ?_
 refine c_seq fun _ hK1 => ?_
 refine c_region ?_
 refine l_val wn (r_assign rfl) rfl ?_
 refine l_nil (e_go hK1 ?_)
 refine c_seq fun _ hK2 => ?_
 refine c_seq fun _ hK3 => ?_
 refine c_region ?_
 refine l_val wn (r_move rfl) rfl ?_
 refine l_val wn (r_len rfl Tryd.underlying23) rfl ?_
 refine l_val wn (r_move rfl) rfl ?_
 refine l_nil (e_go hK3 ?_)
 refine c_block ?_
 refine c_loop1 (fun (k : Nat) => [(0, .string v), (7, .slice lA l.length lc), (8, iV l.length), (9, iV k)]) (fun (k : Nat) => [slO (In w) 1 strE (.slice lA l.length lc) l]) (fun (k : Nat) => k ≤ l.length ∧ Names.indexOf l v 0 = Names.indexOf (l.drop k) v k) (fun (k : Nat) => l.length - k) 0 (sc rfl (sc rfl (sc rfl (sc (ji (by omega)) sn)))) (fun _ h => h) ?_ (fun k hI1 => ?_)
 · simp
 refine c_seq fun _ hK4 => ?_
 refine c_region ?_
 refine l_val wn (r_lss rfl rfl) rfl ?_
 refine l_nil (e_go hK4 ?_)
 refine c_seq fun _ hK5 => ?_
 refine c_cond rfl (fun h1 => ?_) (fun h1 => ?_)
 · refine c_skip (e_go hK5 ?_)
   refine c_seq fun _ hK6 => ?_
   refine c_block ?_
   refine c_seq fun _ hK7 => ?_
   refine c_region ?_
   obtain ⟨ad1, hd1⟩ := hlA (ne_nil (i := k) (by first | omega | (simp <;> omega)))
   refine l_val wn (r_ia (i := k) rfl hd1 rfl (by omega) (by first | omega | (simp <;> omega)) Tryd.underlying23 inf9) rfl ?_
   obtain ⟨s1, hs1⟩ : ∃ x, l[k]? = some x := ⟨_, List.getElem?_eq_getElem (by first | omega | (simp <;> omega))⟩
   refine l_val wn (r_el 0 rfl rfl hd1 hs1 rfl flat9) rfl ?_
   refine l_val wn (r_assign rfl) rfl ?_
   refine l_nil (e_go hK7 ?_)
   refine c_seq fun _ hK8 => ?_
   refine c_region ?_
   refine l_val wn (r_move rfl) rfl ?_
   refine l_val wn (r_move rfl) rfl ?_
   refine l_val wn (r_seql rfl rfl) rfl ?_
   refine l_nil (e_go hK8 ?_)
   refine c_cond rfl (fun h2 => ?_) (fun h2 => ?_)
   · refine c_seq fun _ hK9 => ?_
     refine c_region ?_
     refine l_val wn (r_assign rfl) rfl ?_
     refine l_nil (e_go hK9 ?_)
     refine c_ret (e_in_r (e_then_r (e_loop1_r (e_in_r (e_then_r (e_ret1 (.inl rfl) Tryd.results45 (rv_tmp rfl) fun w1 hM => ?_))))))
     exact ret_ok (by rw [hI1.2, Names.index_step hs1, if_pos (Eq.symm h2), decide_eq_true (by omega)]) hM
   refine c_skip (e_in_n (e_go hK6 ?_))
   refine c_region ?_
   refine l_val wn (r_addn rfl rfl (by omega)) rfl ?_
   refine l_val wn (r_move rfl) rfl ?_
   refine l_nil (e_round1 (k + 1) (sc rfl (sc rfl (sc rfl (sc (ji (by omega)) sn)))) (fun _ h => h) ?_ ?_)
   · exact ⟨by omega, by rw [hI1.2, Names.index_step hs1, if_neg (fun e => h2 e.symm)]⟩
   omega
 refine c_exit (e_then_x (e_loop1_x (e_in_hit (e_go hK2 ?_))))
 refine c_seq fun _ hK10 => ?_
 refine c_region ?_
 refine l_val wn (r_assign rfl) rfl ?_
 refine l_nil (e_go hK10 ?_)
 refine c_ret (e_ret1 (.inl rfl) Tryd.results45 (rv_tmp rfl) fun w1 hM => ?_)
 exact ret_ok (by rw [hI1.2, Names.index_end (by omega)]; rfl) hM

theorem c_kids (kind : Int) (w : World)  (h1_ : 1 ≤ kind) (h2_ : kind ≤ 4) :
    Calls Tryd.prog 43 #[iV kind] w (Ret w (iV (Lg.arity kind))) := by
 refine fstart (N := 7) (vals := [iV kind]) (S := Mem w no []) Tryd.func43 rfl rfl rfl (Mem.ofDats dn) ?_
 refine c_seq fun _ hK1 => ?_
 refine c_region ?_
 refine l_val wn (r_assign rfl) rfl ?_
 refine l_nil (e_go hK1 ?_)
 refine c_seq fun _ hK2 => ?_
 refine c_region ?_
 refine l_bsL intE ([0, 0, 0, 1, 2] : List Int) wn Tryd.underlying93 inf3 rfl rfl rfl rfl (by decide) (by decide) rfl fun b3 => ?_
 refine l_val wn (r_move rfl) rfl ?_
 refine l_val wn (r_ia (i := kind.toNat) rfl rfl rfl (by omega) (by first | omega | (simp <;> omega)) Tryd.underlying93 inf3) rfl ?_
 obtain ⟨s1, hs1⟩ : ∃ x, ([0, 0, 0, 1, 2] : List Int)[kind.toNat]? = some x := ⟨_, List.getElem?_eq_getElem (by first | omega | (simp <;> omega))⟩
 refine l_val wn (r_rl 0 encInt rfl rfl rfl hs1 rfl flat3) rfl ?_
 refine l_val wn (r_assign rfl) rfl ?_
 refine l_nil (e_go hK2 ?_)
 refine c_ret (e_ret1 (.inl rfl) Tryd.results43 (rv_tmp rfl) fun w1 hM => ?_)
 exact ret_ok (congrArg (Value.int .i64) (Lg.arity_at h1_ h2_ hs1)) hM

set_option maxHeartbeats 1000000 in
theorem c_shWindow (h : Value) (ead : Addr) (e : ExprX) (P0 : Nat → Prop) (w : World) (hP0 : ∀ b, P0 b → b < w.heap.size) (hec : CelAt P0 ead (exprE e) w) (he : ExprX.Ok P0 e w)  :
    Calls Tryd.prog 58 #[h, .pointer (some ead)] w (Ret w (iV (Lg.windowW e.word e.ms.l e.range))) := by
 have hwe := he.wf
 refine fstart (N := 70) (vals := [h, .pointer (some ((Addr.add ead 0).add 0))]) (S := Mem w ⟨no, P0⟩ [celP ead [iV e.kind, iV e.n, iV e.range, .string e.word, .slice e.ms.A e.ms.l.length e.ms.c, .slice e.by_.A e.by_.l.length e.by_.c, .slice e.kids.A e.kids.l.length e.kids.c], okP ExprX.Ok e]) Tryd.func58 rfl rfl rfl (Mem.ofDatsP hP0 (dc (dp (CelAt.loc _ _) hec) (dc (dp (ExprX.Ok.loc _) he) dn))) ?_
 refine c_seq fun _ hK1 => ?_
 refine c_region ?_
 refine l_val wn (r_assign rfl) rfl ?_
 refine l_nil (e_go hK1 ?_)
 refine c_seq fun _ hK2 => ?_
 refine c_seq fun _ hK3 => ?_
 refine c_nodes (Mem w ⟨no, P0⟩ [celP ead [iV e.kind, iV e.n, iV e.range, .string e.word, .slice e.ms.A e.ms.l.length e.ms.c, .slice e.by_.A e.by_.l.length e.by_.c, .slice e.kids.A e.kids.l.length e.kids.c], okP ExprX.Ok e]) mix (fun _ h => h.drew) rfl ?_
 refine n_run (f := 3) [1, 2, 3, 4] rfl rfl (by kernel_rfl) (by kernel_rfl) (fun _ h => h) fun KS hKS => ?_
 refine s_val wn (r_move rfl) rfl ?_
 refine s_val wn (r_nilCheck rfl) rfl ?_
 refine s_val wn (r_fe rfl fld26_3) rfl ?_
 refine s_val wn (r_cel 0 rfl rfl rfl flat9) rfl ?_
 refine s_end hKS ?_
 refine n_step1 (f := 2) (i := 0) rfl (by kernel_rfl) ?_
 refine n_one (i := 0) rfl fun KN hKN => ?_
 refine l_callL Agg.words wn rfl Tryd.call73 rfl (fun w1 hM => c_Words  w1) fun A1 cp1 hc1 hm1 hA1 => ?_
 refine l_nil (hKN _ _ (fun _ h => (h.sel [1, 2] (by decide) rfl)) ?_)
 refine n_step1 (f := 1) (i := 5) rfl (by kernel_rfl) ?_
 refine n_one (i := 5) rfl fun KN hKN => ?_
 refine l_callF wn rfl Tryd.call59 rfl (fun w1 hM => c_contains _ Agg.words e.word w1 (RowSl encString hM 0 rfl)) ?_
 refine l_nil (hKN _ _ (fun _ h => (h.sel [1, 2] (by decide) rfl)) ?_)
 refine n_run (f := 0) [6] rfl rfl (by kernel_rfl) (by kernel_rfl) (fun _ h => (h.sel [1, 2] (by decide) rfl)) fun KS hKS => ?_
 refine s_val wn (r_not rfl) rfl ?_
 refine s_end hKS ?_
 refine n_done (by kernel_rfl) (e_go hK3 ?_)
 refine c_cond rfl (fun h1 => ?_) (fun h1 => ?_)
 · refine c_seq fun _ hK4 => ?_
   refine c_region ?_
   refine l_val wn (r_assign rfl) rfl ?_
   refine l_nil (e_go hK4 ?_)
   refine c_ret (e_then_r (e_ret1 (.inl rfl) Tryd.results58 (rv_tmp rfl) fun w1 hM => ?_))
   exact ret_ok (congrArg (Value.int .i64) (by unfold Lg.windowW; grind)) hM
 refine c_skip (e_go hK2 ?_)
 refine c_seq fun _ hK5 => ?_
 refine c_seq fun _ hK6 => ?_
 refine c_region ?_
 refine l_val wn (r_move rfl) rfl ?_
 refine l_val wn (r_nilCheck rfl) rfl ?_
 refine l_val wn (r_fe rfl fld26_4) rfl ?_
 refine l_val wn (r_cel 1 rfl rfl rfl flat22) rfl ?_
 refine l_val wn (r_len rfl Tryd.underlying22) rfl ?_
 refine l_val wn (r_gtr rfl rfl) rfl ?_
 refine l_nil (e_go hK6 ?_)
 refine c_cond rfl (fun h2 => ?_) (fun h2 => ?_)
 · refine c_seq fun _ hK7 => ?_
   refine c_region ?_
   refine l_val wn (r_assign rfl) rfl ?_
   refine l_nil (e_go hK7 ?_)
   refine c_ret (e_then_r (e_ret1 (.inl rfl) Tryd.results58 (rv_tmp rfl) fun w1 hM => ?_))
   exact ret_ok (congrArg (Value.int .i64) (by unfold Lg.windowW; grind)) hM
 refine c_skip (e_go hK5 ?_)
 refine c_seq fun _ hK8 => ?_
 refine c_seq fun _ hK9 => ?_
 refine c_region ?_
 refine l_val wn (r_move rfl) rfl ?_
 refine l_val wn (r_nilCheck rfl) rfl ?_
 refine l_val wn (r_fe rfl fld26_4) rfl ?_
 refine l_val wn (r_cel 1 rfl rfl rfl flat22) rfl ?_
 refine l_val wn (r_len rfl Tryd.underlying22) rfl ?_
 refine l_val wn (r_move rfl) rfl ?_
 refine l_nil (e_go hK9 ?_)
 refine c_block ?_
 refine c_loop1 (fun (k : Nat) => [(1, .pointer (some ((Addr.add ead 0).add 0))), (23, .slice e.ms.A e.ms.l.length e.ms.c), (24, iV e.ms.l.length), (25, iV k)]) (fun (k : Nat) => [Row (.slice A1 Agg.words.length cp1) 9 1 strE Agg.words, celP ead [iV e.kind, iV e.n, iV e.range, .string e.word, .slice e.ms.A e.ms.l.length e.ms.c, .slice e.by_.A e.by_.l.length e.by_.c, .slice e.kids.A e.kids.l.length e.kids.c], okP ExprX.Ok e]) (fun (k : Nat) => k ≤ e.ms.l.length ∧ Lg.matchesW e.ms.l = Lg.matchesW (e.ms.l.drop k)) (fun (k : Nat) => e.ms.l.length - k) 0 (sc rfl (sc rfl (sc rfl (sc (ji (by omega)) sn)))) (fun _ h => h) ?_ (fun k hI1 => ?_)
 · simp
 refine c_seq fun _ hK10 => ?_
 refine c_region ?_
 refine l_val wn (r_lss rfl rfl) rfl ?_
 refine l_nil (e_go hK10 ?_)
 refine c_seq fun _ hK11 => ?_
 refine c_cond rfl (fun h3 => ?_) (fun h3 => ?_)
 · refine c_skip (e_go hK11 ?_)
   refine c_seq fun _ hK12 => ?_
   refine c_block ?_
   refine c_seq fun _ hK13 => ?_
   refine c_region ?_
   refine l_opn (fun _ h => h.exprX 2 rfl) ?_
   obtain ⟨hc2, hm2, hA2⟩ := hwe.ms
   obtain ⟨hc3, hm3, hA3⟩ := hwe.by_
   obtain ⟨hc4, hm4, hA4⟩ := hwe.kids
   obtain ⟨ad1, hd1⟩ := hA2 (ne_nil (i := k) (by first | omega | (simp <;> omega)))
   refine l_val wn (r_ia (i := k) rfl hd1 rfl (by omega) (by first | omega | (simp <;> omega)) Tryd.underlying22 inf74) rfl ?_
   obtain ⟨s1, hs1⟩ : ∃ x, e.ms.l[k]? = some x := ⟨_, List.getElem?_eq_getElem (by first | omega | (simp <;> omega))⟩
   refine l_val wn (r_pln 0 [iV s1.kind, .string s1.key, .string s1.val] rfl rfl hd1 hs1 rfl rfl agg74 inf74) rfl ?_
   refine l_alloc wn inf74 rfl fun b6 => ?_
   refine l_stn 0 wn rfl rfl rfl inf74 rfl rfl rfl ?_
   refine l_nil (e_go hK13 ?_)
   refine c_seq fun _ hK14 => ?_
   refine c_cut [(1, .pointer (some ((Addr.add ead 0).add 0))), (6, .pointer (some ⟨b6, 0, none⟩)), (23, .slice e.ms.A e.ms.l.length e.ms.c), (24, iV e.ms.l.length), (25, iV k), (36, .bool (decide ((s1.kind < 1) ∨ (4 < s1.kind))))] (Mem w ⟨no, P0⟩ [.blk b6 [iV s1.kind, .string s1.key, .string s1.val] 74, slP 3 matchE (.slice e.ms.A e.ms.l.length e.ms.c) e.ms.l, slP 1 strE (.slice e.by_.A e.by_.l.length e.by_.c) e.by_.l, slP 7 exprE (.slice e.kids.A e.kids.l.length e.kids.c) e.kids.l, allP ExprX.Ok e.kids.l, Row (.slice A1 Agg.words.length cp1) 9 1 strE Agg.words, celP ead [iV e.kind, iV e.n, iV e.range, .string e.word, .slice e.ms.A e.ms.l.length e.ms.c, .slice e.by_.A e.by_.l.length e.by_.c, .slice e.kids.A e.kids.l.length e.kids.c], okP ExprX.Ok e]) (fun _ hK15 => ?_) ?_
   · refine c_region ?_
     refine l_val wn (r_fa rfl fld74_0) rfl ?_
     refine l_val wn (r_lb 0 rfl rfl rfl flat3) rfl ?_
     refine l_val wn (r_lss rfl rfl) rfl ?_
     refine l_val wn (r_move rfl) rfl ?_
     refine l_case (t := 32) rfl (fun h4 => ?_) (fun h4 => ?_)
     · refine l_skip (wg rfl rfl rfl) rfl ?_
       refine l_skip (wg rfl rfl rfl) rfl ?_
       refine l_skip (wg rfl rfl rfl) rfl ?_
       refine l_val wn (r_pick rfl rfl) rfl ?_
       refine l_nil (e_cut hK15 (sc rfl (sc rfl (sc rfl (sc rfl (sc rfl (sc (jt (Or.inl h4)) sn)))))) (fun _ h => h))
     refine l_val (wg rfl rfl rfl) (r_fa rfl fld74_0) rfl ?_
     refine l_val (wg rfl rfl rfl) (r_lb 0 rfl rfl rfl flat3) rfl ?_
     refine l_val (wg rfl rfl rfl) (r_gtr rfl rfl) rfl ?_
     refine l_val wn (r_pick rfl rfl) rfl ?_
     refine l_nil (e_cut hK15 (sc rfl (sc rfl (sc rfl (sc rfl (sc rfl (sc (jp (iff_or_right h4 Iff.rfl)) sn)))))) (fun _ h => h))
   refine c_cond rfl (fun h5 => ?_) (fun h5 => ?_)
   · refine c_seq fun _ hK16 => ?_
     refine c_region ?_
     refine l_val wn (r_assign rfl) rfl ?_
     refine l_nil (e_go hK16 ?_)
     refine c_ret (e_then_r (e_in_r (e_then_r (e_loop1_r (e_in_r (e_then_r (e_ret1 (.inl rfl) Tryd.results58 (rv_tmp rfl) fun w1 hM => ?_)))))))
     exact ret_ok (congrArg (Value.int .i64) (by have hx := Lg.matchesW_step hs1; unfold Lg.matchW at hx; unfold Lg.windowW; grind)) hM
   refine c_skip (e_go hK14 ?_)
   refine c_cut [(1, .pointer (some ((Addr.add ead 0).add 0))), (23, .slice e.ms.A e.ms.l.length e.ms.c), (24, iV e.ms.l.length), (25, iV k), (56, .bool (decide (((!(Names.named s1.key)) = true) ∨ (((s1.kind = 1) ∧ ((!(Names.named s1.val)) = true)) ∨ (¬ (s1.kind = 1) ∧ ((s1.kind = 2) ∧ ((!(Names.named s1.val)) = true)))))))] (Mem w ⟨no, P0⟩ [.blk b6 [iV s1.kind, .string s1.key, .string s1.val] 74, slP 3 matchE (.slice e.ms.A e.ms.l.length e.ms.c) e.ms.l, slP 1 strE (.slice e.by_.A e.by_.l.length e.by_.c) e.by_.l, slP 7 exprE (.slice e.kids.A e.kids.l.length e.kids.c) e.kids.l, allP ExprX.Ok e.kids.l, Row (.slice A1 Agg.words.length cp1) 9 1 strE Agg.words, celP ead [iV e.kind, iV e.n, iV e.range, .string e.word, .slice e.ms.A e.ms.l.length e.ms.c, .slice e.by_.A e.by_.l.length e.by_.c, .slice e.kids.A e.kids.l.length e.kids.c], okP ExprX.Ok e]) (fun _ hK17 => ?_) ?_
   · refine c_region ?_
     refine l_val wn (r_fa rfl fld74_1) rfl ?_
     refine l_val wn (r_lb 0 rfl rfl rfl flat9) rfl ?_
     refine l_callF wn rfl Tryd.call62 rfl (fun w1 hM => c_named s1.key w1) ?_
     refine l_val wn (r_notb rfl) rfl ?_
     refine l_val wn (r_move rfl) rfl ?_
     refine l_caseb (t := 41) rfl (fun h6 => ?_) (fun h6 => ?_)
     · refine l_skip (wg rfl rfl rfl) rfl ?_
       refine l_skip (wg rfl rfl rfl) rfl ?_
       refine l_skip (wg rfl rfl rfl) rfl ?_
       refine l_skip (wg rfl rfl rfl) rfl ?_
       refine l_skip (wu rfl rfl) rfl ?_
       refine l_skip (wu rfl rfl) rfl ?_
       refine l_skip (wu rfl rfl) rfl ?_
       refine l_skip (wg rfl rfl rfl) rfl ?_
       refine l_skip (wg rfl rfl rfl) rfl ?_
       refine l_skip (wu rfl rfl) rfl ?_
       refine l_skip (wu rfl rfl) rfl ?_
       refine l_skip (wu rfl rfl) rfl ?_
       refine l_skip (wu rfl rfl) rfl ?_
       refine l_skip (wg rfl rfl rfl) rfl ?_
       refine l_val wn (r_pick rfl rfl) rfl ?_
       refine l_nil (e_cut hK17 (sc rfl (sc rfl (sc rfl (sc rfl (sc (jt (Or.inl h6)) sn))))) (fun _ h => h))
     refine l_val (wg rfl rfl rfl) (r_fa rfl fld74_0) rfl ?_
     refine l_val (wg rfl rfl rfl) (r_lb 0 rfl rfl rfl flat3) rfl ?_
     refine l_val (wg rfl rfl rfl) (r_eql rfl rfl) rfl ?_
     refine l_val (wg rfl rfl rfl) (r_move rfl) rfl ?_
     refine l_case (t := 45) rfl (fun h7 => ?_) (fun h7 => ?_)
     · refine l_skip (wg rfl rfl rfl) rfl ?_
       refine l_skip (wg rfl rfl rfl) rfl ?_
       refine l_skip (wg rfl rfl rfl) rfl ?_
       refine l_val (wg rfl rfl rfl) (r_pick rfl rfl) rfl ?_
       refine l_val (wg rfl rfl rfl) (r_move rfl) rfl ?_
       refine l_val (wg rfl rfl rfl) (r_fa rfl fld74_2) rfl ?_
       refine l_val (wg rfl rfl rfl) (r_lb 0 rfl rfl rfl flat9) rfl ?_
       refine l_callF (wg rfl rfl rfl) rfl Tryd.call62 rfl (fun w1 hM => c_named s1.val w1) ?_
       refine l_val (wg rfl rfl rfl) (r_notb rfl) rfl ?_
       refine l_val (wg rfl rfl rfl) (r_pick rfl rfl) rfl ?_
       refine l_val wn (r_pick rfl rfl) rfl ?_
       refine l_nil (e_cut hK17 (sc rfl (sc rfl (sc rfl (sc rfl (sc (jpb (iff_or_right h6 (iff_ite_l h7 Iff.rfl))) sn))))) (fun _ h => h))
     refine l_val (wg rfl rfl rfl) (r_fa rfl fld74_0) rfl ?_
     refine l_val (wg rfl rfl rfl) (r_lb 0 rfl rfl rfl flat3) rfl ?_
     refine l_val (wg rfl rfl rfl) (r_eql rfl rfl) rfl ?_
     refine l_val (wg rfl rfl rfl) (r_pick rfl rfl) rfl ?_
     refine l_val (wg rfl rfl rfl) (r_move rfl) rfl ?_
     refine l_case (t := 50) rfl (fun h8 => ?_) (fun h8 => ?_)
     · refine l_val (wg rfl rfl rfl) (r_fa rfl fld74_2) rfl ?_
       refine l_val (wg rfl rfl rfl) (r_lb 0 rfl rfl rfl flat9) rfl ?_
       refine l_callF (wg rfl rfl rfl) rfl Tryd.call62 rfl (fun w1 hM => c_named s1.val w1) ?_
       refine l_val (wg rfl rfl rfl) (r_notb rfl) rfl ?_
       refine l_val (wg rfl rfl rfl) (r_pick rfl rfl) rfl ?_
       refine l_val wn (r_pick rfl rfl) rfl ?_
       refine l_nil (e_cut hK17 (sc rfl (sc rfl (sc rfl (sc rfl (sc (jpb (iff_or_right h6 (iff_ite_r h7 (iff_and_right h8 Iff.rfl)))) sn))))) (fun _ h => h))
     refine l_skip (wg rfl rfl rfl) rfl ?_
     refine l_skip (wg rfl rfl rfl) rfl ?_
     refine l_skip (wg rfl rfl rfl) rfl ?_
     refine l_skip (wg rfl rfl rfl) rfl ?_
     refine l_val (wg rfl rfl rfl) (r_pick rfl rfl) rfl ?_
     refine l_val wn (r_pick rfl rfl) rfl ?_
     refine l_nil (e_cut hK17 (sc rfl (sc rfl (sc rfl (sc rfl (sc (jf (fun g => g.elim h6 (fun g => g.elim (fun k => h7 k.1) (fun k => (fun g => h8 g.1) k.2)))) sn))))) (fun _ h => h))
   refine c_cond rfl (fun h9 => ?_) (fun h9 => ?_)
   · refine c_seq fun _ hK18 => ?_
     refine c_region ?_
     refine l_val wn (r_assign rfl) rfl ?_
     refine l_nil (e_go hK18 ?_)
     refine c_ret (e_in_r (e_then_r (e_loop1_r (e_in_r (e_then_r (e_ret1 (.inl rfl) Tryd.results58 (rv_tmp rfl) fun w1 hM => ?_))))))
     exact ret_ok (congrArg (Value.int .i64) (by have hx := Lg.matchesW_step hs1; unfold Lg.matchW at hx; unfold Lg.windowW; grind)) hM
   refine c_skip (e_in_n (e_go hK12 ?_))
   refine c_region ?_
   refine l_val wn (r_addn rfl rfl (by omega)) rfl ?_
   refine l_val wn (r_move rfl) rfl ?_
   refine l_nil (e_round1 (k + 1) (sc rfl (sc rfl (sc rfl (sc (ji (by omega)) sn)))) (fun _ h => (h.sel [5, 6, 7] (by decide) rfl)) ?_ ?_)
   · exact ⟨by omega, by rw [hI1.2, Lg.matchesW_step hs1]; unfold Lg.matchW; grind⟩
   omega
 refine c_exit (e_then_x (e_loop1_x (e_in_hit (e_go hK8 ?_))))
 refine c_seq fun _ hK19 => ?_
 refine c_cut [(69, .bool (decide ((e.range < 1) ∨ (100000 < e.range))))] (Mem w ⟨no, P0⟩ [Row (.slice A1 Agg.words.length cp1) 9 1 strE Agg.words, celP ead [iV e.kind, iV e.n, iV e.range, .string e.word, .slice e.ms.A e.ms.l.length e.ms.c, .slice e.by_.A e.by_.l.length e.by_.c, .slice e.kids.A e.kids.l.length e.kids.c], okP ExprX.Ok e]) (fun _ hK20 => ?_) ?_
 · refine c_region ?_
   refine l_val wn (r_move rfl) rfl ?_
   refine l_val wn (r_nilCheck rfl) rfl ?_
   refine l_val wn (r_fe rfl fld26_2) rfl ?_
   refine l_val wn (r_cel 1 rfl rfl rfl flat3) rfl ?_
   refine l_val wn (r_lss rfl rfl) rfl ?_
   refine l_val wn (r_move rfl) rfl ?_
   refine l_case (t := 63) rfl (fun h10 => ?_) (fun h10 => ?_)
   · refine l_skip (wg rfl rfl rfl) rfl ?_
     refine l_skip (wg rfl rfl rfl) rfl ?_
     refine l_skip (wg rfl rfl rfl) rfl ?_
     refine l_skip (wg rfl rfl rfl) rfl ?_
     refine l_skip (wg rfl rfl rfl) rfl ?_
     refine l_val wn (r_pick rfl rfl) rfl ?_
     refine l_nil (e_cut hK20 (sc (jt (Or.inl h10)) sn) (fun _ h => h))
   refine l_val (wg rfl rfl rfl) (r_move rfl) rfl ?_
   refine l_val (wg rfl rfl rfl) (r_nilCheck rfl) rfl ?_
   refine l_val (wg rfl rfl rfl) (r_fe rfl fld26_2) rfl ?_
   refine l_val (wg rfl rfl rfl) (r_cel 1 rfl rfl rfl flat3) rfl ?_
   refine l_val (wg rfl rfl rfl) (r_gtr rfl rfl) rfl ?_
   refine l_val wn (r_pick rfl rfl) rfl ?_
   refine l_nil (e_cut hK20 (sc (jp (iff_or_right h10 Iff.rfl)) sn) (fun _ h => h))
 refine c_cond rfl (fun h11 => ?_) (fun h11 => ?_)
 · refine c_seq fun _ hK21 => ?_
   refine c_region ?_
   refine l_val wn (r_assign rfl) rfl ?_
   refine l_nil (e_go hK21 ?_)
   refine c_ret (e_then_r (e_ret1 (.inl rfl) Tryd.results58 (rv_tmp rfl) fun w1 hM => ?_))
   exact ret_ok (congrArg (Value.int .i64) (by have hx := Lg.matchesW_end (l := e.ms.l) (k := k) (by omega); unfold Lg.windowW; grind)) hM
 refine c_skip (e_go hK19 ?_)
 refine c_seq fun _ hK22 => ?_
 refine c_region ?_
 refine l_val wn (r_assign rfl) rfl ?_
 refine l_nil (e_go hK22 ?_)
 refine c_ret (e_ret1 (.inl rfl) Tryd.results58 (rv_tmp rfl) fun w1 hM => ?_)
 exact ret_ok (congrArg (Value.int .i64) (by have hx := Lg.matchesW_end (l := e.ms.l) (k := k) (by omega); unfold Lg.windowW; grind)) hM

set_option maxHeartbeats 1000000 in
theorem c_shOwn (h : Value) (ead : Addr) (e : ExprX) (P0 : Nat → Prop) (w : World) (hP0 : ∀ b, P0 b → b < w.heap.size) (hec : CelAt P0 ead (exprE e) w) (he : ExprX.Ok P0 e w)  :
    Calls Tryd.prog 44 #[h, .pointer (some ead)] w (Ret w (iV (Lg.ownW e.kind e.n e.range e.word e.ms.l e.by_.l))) := by
 have hwe := he.wf
 refine fstart (N := 67) (vals := [h, .pointer (some ((Addr.add ead 0).add 0))]) (S := Mem w ⟨no, P0⟩ [celP ead [iV e.kind, iV e.n, iV e.range, .string e.word, .slice e.ms.A e.ms.l.length e.ms.c, .slice e.by_.A e.by_.l.length e.by_.c, .slice e.kids.A e.kids.l.length e.kids.c], okP ExprX.Ok e]) Tryd.func44 rfl rfl rfl (Mem.ofDatsP hP0 (dc (dp (CelAt.loc _ _) hec) (dc (dp (ExprX.Ok.loc _) he) dn))) ?_
 refine c_seq fun _ hK1 => ?_
 refine c_region ?_
 refine l_val wn (r_assign rfl) rfl ?_
 refine l_nil (e_go hK1 ?_)
 refine c_seq fun _ hK2 => ?_
 refine c_seq fun _ hK3 => ?_
 refine c_region ?_
 refine l_val wn (r_move rfl) rfl ?_
 refine l_val wn (r_nilCheck rfl) rfl ?_
 refine l_val wn (r_fe rfl fld26_0) rfl ?_
 refine l_val wn (r_cel 0 rfl rfl rfl flat3) rfl ?_
 refine l_nil (e_go hK3 ?_)
 refine c_block ?_
 refine c_seq fun _ hK4 => ?_
 refine c_region ?_
 refine l_val wn (r_eql rfl rfl) rfl ?_
 refine l_val wn (r_assign rfl) rfl ?_
 refine l_nil (e_go hK4 ?_)
 refine c_cond rfl (fun h1 => ?_) (fun h1 => ?_)
 · refine c_cut [(41, .bool (decide ((e.n < 0) ∨ (1000000 < e.n))))] (Mem w ⟨no, P0⟩ [celP ead [iV e.kind, iV e.n, iV e.range, .string e.word, .slice e.ms.A e.ms.l.length e.ms.c, .slice e.by_.A e.by_.l.length e.by_.c, .slice e.kids.A e.kids.l.length e.kids.c], okP ExprX.Ok e]) (fun _ hK5 => ?_) ?_
   · refine c_region ?_
     refine l_val wn (r_move rfl) rfl ?_
     refine l_val wn (r_nilCheck rfl) rfl ?_
     refine l_val wn (r_fe rfl fld26_1) rfl ?_
     refine l_val wn (r_cel 0 rfl rfl rfl flat3) rfl ?_
     refine l_val wn (r_lss rfl rfl) rfl ?_
     refine l_val wn (r_move rfl) rfl ?_
     refine l_case (t := 35) rfl (fun h2 => ?_) (fun h2 => ?_)
     · refine l_skip (wg rfl rfl rfl) rfl ?_
       refine l_skip (wg rfl rfl rfl) rfl ?_
       refine l_skip (wg rfl rfl rfl) rfl ?_
       refine l_skip (wg rfl rfl rfl) rfl ?_
       refine l_skip (wg rfl rfl rfl) rfl ?_
       refine l_val wn (r_pick rfl rfl) rfl ?_
       refine l_nil (e_cut hK5 (sc (jt (Or.inl h2)) sn) (fun _ h => h))
     refine l_val (wg rfl rfl rfl) (r_move rfl) rfl ?_
     refine l_val (wg rfl rfl rfl) (r_nilCheck rfl) rfl ?_
     refine l_val (wg rfl rfl rfl) (r_fe rfl fld26_1) rfl ?_
     refine l_val (wg rfl rfl rfl) (r_cel 0 rfl rfl rfl flat3) rfl ?_
     refine l_val (wg rfl rfl rfl) (r_gtr rfl rfl) rfl ?_
     refine l_val wn (r_pick rfl rfl) rfl ?_
     refine l_nil (e_cut hK5 (sc (jp (iff_or_right h2 Iff.rfl)) sn) (fun _ h => h))
   refine c_cond rfl (fun h3 => ?_) (fun h3 => ?_)
   · refine c_seq fun _ hK6 => ?_
     refine c_region ?_
     refine l_val wn (r_assign rfl) rfl ?_
     refine l_nil (e_go hK6 ?_)
     refine c_ret (e_in_r (e_then_r (e_ret1 (.inl rfl) Tryd.results44 (rv_tmp rfl) fun w1 hM => ?_)))
     exact ret_ok (congrArg (Value.int .i64) (by have hx := Lg.signs_iff e.word; unfold Lg.ownW; grind)) hM
   refine c_skip (e_in_n (e_go hK2 ?_))
   refine c_seq fun _ hK7 => ?_
   refine c_region ?_
   refine l_val wn (r_assign rfl) rfl ?_
   refine l_nil (e_go hK7 ?_)
   refine c_ret (e_ret1 (.inl rfl) Tryd.results44 (rv_tmp rfl) fun w1 hM => ?_)
   exact ret_ok (congrArg (Value.int .i64) (by have hx := Lg.signs_iff e.word; unfold Lg.ownW; grind)) hM
 refine c_seq fun _ hK8 => ?_
 refine c_region ?_
 refine l_val wn (r_eql rfl rfl) rfl ?_
 refine l_val wn (r_assign rfl) rfl ?_
 refine l_nil (e_go hK8 ?_)
 refine c_cond rfl (fun h4 => ?_) (fun h4 => ?_)
 · refine c_seq fun _ hK9 => ?_
   refine c_region ?_
   refine l_val wn (r_move rfl) rfl ?_
   refine l_val wn (r_move rfl) rfl ?_
   refine l_callF wn rfl Tryd.call58 rfl (fun w1 hM => c_shWindow h ead e (In w1) w1 (fun _ h => h) (hM.pubAt (i := 0) rfl) (hM.pubAt (i := 1) rfl)) ?_
   refine l_val wn (r_assign rfl) rfl ?_
   refine l_nil (e_go hK9 ?_)
   refine c_ret (e_in_r (e_then_r (e_ret1 (.inl rfl) Tryd.results44 (rv_tmp rfl) fun w1 hM => ?_)))
   exact ret_ok (congrArg (Value.int .i64) (by have hx := Lg.signs_iff e.word; unfold Lg.ownW; grind)) hM
 refine c_seq fun _ hK10 => ?_
 refine c_region ?_
 refine l_val wn (r_eql rfl rfl) rfl ?_
 refine l_val wn (r_assign rfl) rfl ?_
 refine l_nil (e_go hK10 ?_)
 refine c_cond rfl (fun h5 => ?_) (fun h5 => ?_)
 · refine c_seq fun _ hK11 => ?_
   refine c_seq fun _ hK12 => ?_
   refine c_nodes (Mem w ⟨no, P0⟩ [celP ead [iV e.kind, iV e.n, iV e.range, .string e.word, .slice e.ms.A e.ms.l.length e.ms.c, .slice e.by_.A e.by_.l.length e.by_.c, .slice e.kids.A e.kids.l.length e.kids.c], okP ExprX.Ok e]) mix (fun _ h => h.drew) rfl ?_
   refine n_run (f := 3) [1, 2, 3, 4] rfl rfl (by kernel_rfl) (by kernel_rfl) (fun _ h => h) fun KS hKS => ?_
   refine s_val wn (r_move rfl) rfl ?_
   refine s_val wn (r_nilCheck rfl) rfl ?_
   refine s_val wn (r_fe rfl fld26_3) rfl ?_
   refine s_val wn (r_cel 0 rfl rfl rfl flat9) rfl ?_
   refine s_end hKS ?_
   refine n_step1 (f := 2) (i := 0) rfl (by kernel_rfl) ?_
   refine n_one (i := 0) rfl fun KN hKN => ?_
   refine l_callL Lg.totals wn rfl Tryd.call18 rfl (fun w1 hM => c_Totals  w1) fun A1 cp1 hc1 hm1 hA1 => ?_
   refine l_nil (hKN _ _ (fun _ h => (h.sel [1, 2] (by decide) rfl)) ?_)
   refine n_step1 (f := 1) (i := 5) rfl (by kernel_rfl) ?_
   refine n_one (i := 5) rfl fun KN hKN => ?_
   refine l_callF wn rfl Tryd.call59 rfl (fun w1 hM => c_contains _ Lg.totals e.word w1 (RowSl encString hM 0 rfl)) ?_
   refine l_nil (hKN _ _ (fun _ h => (h.sel [1, 2] (by decide) rfl)) ?_)
   refine n_run (f := 0) [6] rfl rfl (by kernel_rfl) (by kernel_rfl) (fun _ h => (h.sel [1, 2] (by decide) rfl)) fun KS hKS => ?_
   refine s_val wn (r_not rfl) rfl ?_
   refine s_end hKS ?_
   refine n_done (by kernel_rfl) (e_go hK12 ?_)
   refine c_cond rfl (fun h6 => ?_) (fun h6 => ?_)
   · refine c_seq fun _ hK13 => ?_
     refine c_region ?_
     refine l_val wn (r_assign rfl) rfl ?_
     refine l_nil (e_go hK13 ?_)
     refine c_ret (e_then_r (e_in_r (e_then_r (e_ret1 (.inl rfl) Tryd.results44 (rv_tmp rfl) fun w1 hM => ?_))))
     exact ret_ok (congrArg (Value.int .i64) (by have hx := Lg.signs_iff e.word; unfold Lg.ownW; grind)) hM
   refine c_skip (e_go hK11 ?_)
   refine c_seq fun _ hK14 => ?_
   refine c_seq fun _ hK15 => ?_
   refine c_region ?_
   refine l_val wn (r_move rfl) rfl ?_
   refine l_val wn (r_nilCheck rfl) rfl ?_
   refine l_val wn (r_fe rfl fld26_5) rfl ?_
   refine l_val wn (r_cel 1 rfl rfl rfl flat23) rfl ?_
   refine l_val wn (r_len rfl Tryd.underlying23) rfl ?_
   refine l_val wn (r_gtr rfl rfl) rfl ?_
   refine l_nil (e_go hK15 ?_)
   refine c_cond rfl (fun h7 => ?_) (fun h7 => ?_)
   · refine c_seq fun _ hK16 => ?_
     refine c_region ?_
     refine l_val wn (r_assign rfl) rfl ?_
     refine l_nil (e_go hK16 ?_)
     refine c_ret (e_then_r (e_in_r (e_then_r (e_ret1 (.inl rfl) Tryd.results44 (rv_tmp rfl) fun w1 hM => ?_))))
     exact ret_ok (congrArg (Value.int .i64) (by have hx := Lg.signs_iff e.word; unfold Lg.ownW; grind)) hM
   refine c_skip (e_go hK14 ?_)
   refine c_seq fun _ hK17 => ?_
   refine c_region ?_
   refine l_val wn (r_move rfl) rfl ?_
   refine l_val wn (r_nilCheck rfl) rfl ?_
   refine l_val wn (r_fe rfl fld26_5) rfl ?_
   refine l_val wn (r_cel 1 rfl rfl rfl flat23) rfl ?_
   refine l_opn (fun _ h => h.exprX 2 rfl) ?_
   obtain ⟨hc2, hm2, hA2⟩ := hwe.ms
   obtain ⟨hc3, hm3, hA3⟩ := hwe.by_
   obtain ⟨hc4, hm4, hA4⟩ := hwe.kids
   refine l_callF wn rfl Tryd.call60 rfl (fun w1 hM => c_contStr _ e.by_.l 61 #[] (fun k => !Names.named k) w1 (hM.slp 1 rfl) Tryd.call61 (fun x w2 h2 => by simpa using c_own1 x w2)) ?_
   refine l_nil (e_go hK17 ?_)
   refine c_condb rfl (fun h8 => ?_) (fun h8 => ?_)
   · refine c_seq fun _ hK18 => ?_
     refine c_region ?_
     refine l_val wn (r_assign rfl) rfl ?_
     refine l_nil (e_go hK18 ?_)
     refine c_ret (e_in_r (e_then_r (e_ret1 (.inl rfl) Tryd.results44 (rv_tmp rfl) fun w1 hM => ?_)))
     exact ret_ok (congrArg (Value.int .i64) (by have hx := Lg.signs_iff e.word; unfold Lg.ownW; grind)) hM
   refine c_skip (e_in_n (e_go hK2 ?_))
   refine c_seq fun _ hK19 => ?_
   refine c_region ?_
   refine l_val wn (r_assign rfl) rfl ?_
   refine l_nil (e_go hK19 ?_)
   refine c_ret (e_ret1 (.inl rfl) Tryd.results44 (rv_tmp rfl) fun w1 hM => ?_)
   exact ret_ok (congrArg (Value.int .i64) (by have hx := Lg.signs_iff e.word; unfold Lg.ownW; grind)) hM
 refine c_cut [(27, .bool (decide ((e.word ≠ ⟨#[43]⟩) ∧ ((e.word ≠ ⟨#[45]⟩) ∧ (e.word ≠ ⟨#[42]⟩)))))] (Mem w ⟨no, P0⟩ [celP ead [iV e.kind, iV e.n, iV e.range, .string e.word, .slice e.ms.A e.ms.l.length e.ms.c, .slice e.by_.A e.by_.l.length e.by_.c, .slice e.kids.A e.kids.l.length e.kids.c], okP ExprX.Ok e]) (fun _ hK20 => ?_) ?_
 · refine c_region ?_
   refine l_val wn (r_move rfl) rfl ?_
   refine l_val wn (r_nilCheck rfl) rfl ?_
   refine l_val wn (r_fe rfl fld26_3) rfl ?_
   refine l_val wn (r_cel 0 rfl rfl rfl flat9) rfl ?_
   refine l_val wn (r_sneq rfl rfl) rfl ?_
   refine l_val wn (r_move rfl) rfl ?_
   refine l_case (t := 14) rfl (fun h9 => ?_) (fun h9 => ?_)
   · refine l_val (wg rfl rfl rfl) (r_move rfl) rfl ?_
     refine l_val (wg rfl rfl rfl) (r_nilCheck rfl) rfl ?_
     refine l_val (wg rfl rfl rfl) (r_fe rfl fld26_3) rfl ?_
     refine l_val (wg rfl rfl rfl) (r_cel 0 rfl rfl rfl flat9) rfl ?_
     refine l_val (wg rfl rfl rfl) (r_sneq rfl rfl) rfl ?_
     refine l_val wn (r_pick rfl rfl) rfl ?_
     refine l_val wn (r_move rfl) rfl ?_
     refine l_case (t := 21) rfl (fun h10 => ?_) (fun h10 => ?_)
     · refine l_val (wg rfl rfl rfl) (r_move rfl) rfl ?_
       refine l_val (wg rfl rfl rfl) (r_nilCheck rfl) rfl ?_
       refine l_val (wg rfl rfl rfl) (r_fe rfl fld26_3) rfl ?_
       refine l_val (wg rfl rfl rfl) (r_cel 0 rfl rfl rfl flat9) rfl ?_
       refine l_val (wg rfl rfl rfl) (r_sneq rfl rfl) rfl ?_
       refine l_val wn (r_pick rfl rfl) rfl ?_
       refine l_nil (e_cut hK20 (sc (jp (iff_and_right h9 (iff_and_right h10 Iff.rfl))) sn) (fun _ h => h))
     refine l_skip (wg rfl rfl rfl) rfl ?_
     refine l_skip (wg rfl rfl rfl) rfl ?_
     refine l_skip (wg rfl rfl rfl) rfl ?_
     refine l_skip (wg rfl rfl rfl) rfl ?_
     refine l_skip (wg rfl rfl rfl) rfl ?_
     refine l_val wn (r_pick rfl rfl) rfl ?_
     refine l_nil (e_cut hK20 (sc (jf (fun g => (fun g => h10 g.1) g.2)) sn) (fun _ h => h))
   refine l_skip (wg rfl rfl rfl) rfl ?_
   refine l_skip (wg rfl rfl rfl) rfl ?_
   refine l_skip (wg rfl rfl rfl) rfl ?_
   refine l_skip (wg rfl rfl rfl) rfl ?_
   refine l_skip (wg rfl rfl rfl) rfl ?_
   refine l_val wn (r_pick rfl rfl) rfl ?_
   refine l_val wn (r_move rfl) rfl ?_
   refine l_skip (wg rfl rfl rfl) rfl ?_
   refine l_skip (wg rfl rfl rfl) rfl ?_
   refine l_skip (wg rfl rfl rfl) rfl ?_
   refine l_skip (wg rfl rfl rfl) rfl ?_
   refine l_skip (wg rfl rfl rfl) rfl ?_
   refine l_val wn (r_pick rfl rfl) rfl ?_
   refine l_nil (e_cut hK20 (sc (jf (fun g => h9 g.1)) sn) (fun _ h => h))
 refine c_cond rfl (fun h11 => ?_) (fun h11 => ?_)
 · refine c_seq fun _ hK21 => ?_
   refine c_region ?_
   refine l_val wn (r_assign rfl) rfl ?_
   refine l_nil (e_go hK21 ?_)
   refine c_ret (e_in_r (e_then_r (e_ret1 (.inl rfl) Tryd.results44 (rv_tmp rfl) fun w1 hM => ?_)))
   exact ret_ok (congrArg (Value.int .i64) (by have hx := Lg.signs_iff e.word; unfold Lg.ownW; grind)) hM
 refine c_skip (e_in_n (e_go hK2 ?_))
 refine c_seq fun _ hK22 => ?_
 refine c_region ?_
 refine l_val wn (r_assign rfl) rfl ?_
 refine l_nil (e_go hK22 ?_)
 refine c_ret (e_ret1 (.inl rfl) Tryd.results44 (rv_tmp rfl) fun w1 hM => ?_)
 exact ret_ok (congrArg (Value.int .i64) (by have hx := Lg.signs_iff e.word; unfold Lg.ownW; grind)) hM

def c_shape_C (e : ExprX) : Prop := ∀ (hp : Nat) (cn : Int) (ead : Addr) (deep : Int) (P0 : Nat → Prop) (w : World) (hhp : w.heap[hp]? = some (.cells [iV cn].toArray 55 (0, 0))) (hP0 : ∀ b, P0 b → b < w.heap.size ∧ b ≠ hp) (hec : CelAt P0 ead (exprE e) w) (he : ExprX.Ok P0 e w) (hc0 : 0 ≤ cn) (hc1 : cn ≤ 100) (hd0 : 0 ≤ deep),
    Calls Tryd.prog 26 #[.pointer (some ⟨hp, 0, none⟩), .pointer (some ead), iV deep] w (RetM w hp 55 (iV (Lg.shape e.e deep cn).1) [iV (Lg.shape e.e deep cn).2])
set_option maxHeartbeats 2000000 in
theorem c_shape_step (e : ExprX) (ih : ∀ k : ExprX, SizeOf.sizeOf k < SizeOf.sizeOf e → c_shape_C k) : c_shape_C e := by
  intro hp cn ead deep P0 w hhp hP0 hec he hc0 hc1 hd0
  have hwe := he.wf
  refine fstart (N := 77) (vals := [.pointer (some ⟨hp, 0, none⟩), .pointer (some ((Addr.add ead 0).add 0)), iV deep]) (S := Mem w ⟨(· = hp), P0⟩ [.blk hp [iV cn] 55, celP ead [iV e.kind, iV e.n, iV e.range, .string e.word, .slice e.ms.A e.ms.l.length e.ms.c, .slice e.by_.A e.by_.l.length e.by_.c, .slice e.kids.A e.kids.l.length e.kids.c], okP ExprX.Ok e]) Tryd.func26 rfl rfl rfl (Mem.ptrDats hhp hP0 (dc (dp (CelAt.loc _ _) hec) (dc (dp (ExprX.Ok.loc _) he) dn))) ?_
  refine c_seq fun K1 hK1 => ?_
  refine c_region ?_
  refine l_val wn (r_assign rfl) rfl ?_
  refine l_nil (e_go hK1 ?_)
  refine c_seq fun K2 hK2 => ?_
  refine c_seq fun K3 hK3 => ?_
  refine c_region ?_
  refine l_val wn (r_move rfl) rfl ?_
  refine l_val wn (r_nilCheck rfl) rfl ?_
  refine l_val wn (r_fa rfl fld55_0) rfl ?_
  refine l_val wn (r_lb 0 rfl rfl rfl flat3) rfl ?_
  refine l_val wn (r_addn rfl rfl (by omega)) rfl ?_
  refine l_val wn (r_nilCheck rfl) rfl ?_
  refine l_val wn (r_fa rfl fld55_0) rfl ?_
  refine l_st1 0 wn rfl rfl rfl rfl inf3 rfl rfl ?_
  refine l_nil (e_go hK3 ?_)
  refine c_cut [(0, .pointer (some ⟨hp, 0, none⟩)), (1, .pointer (some ((Addr.add ead 0).add 0))), (2, iV deep), (25, .bool (decide ((100 < (cn + 1)) ∨ (20 < deep))))] (Mem w ⟨(· = hp), P0⟩ [.blk hp [iV (cn + 1)] 55, celP ead [iV e.kind, iV e.n, iV e.range, .string e.word, .slice e.ms.A e.ms.l.length e.ms.c, .slice e.by_.A e.by_.l.length e.by_.c, .slice e.kids.A e.kids.l.length e.kids.c], okP ExprX.Ok e]) (fun K4 hK4 => ?_) ?_
  ·
    refine c_region ?_
    refine l_val wn (r_move rfl) rfl ?_
    refine l_val wn (r_nilCheck rfl) rfl ?_
    refine l_val wn (r_fa rfl fld55_0) rfl ?_
    refine l_val wn (r_lb 0 rfl rfl rfl flat3) rfl ?_
    refine l_val wn (r_gtr rfl rfl) rfl ?_
    refine l_val wn (r_move rfl) rfl ?_
    refine l_case (t := 22) rfl (fun h1 => ?_) (fun h1 => ?_)
    ·
      refine l_skip (wg rfl rfl rfl) rfl ?_
      refine l_skip (wg rfl rfl rfl) rfl ?_
      refine l_val wn (r_pick rfl rfl) rfl ?_
      refine l_nil (e_cut hK4 (sc rfl (sc rfl (sc rfl (sc (jt (Or.inl h1)) sn)))) (fun _ h => h))
    ·
      refine l_val (wg rfl rfl rfl) (r_move rfl) rfl ?_
      refine l_val (wg rfl rfl rfl) (r_gtr rfl rfl) rfl ?_
      refine l_val wn (r_pick rfl rfl) rfl ?_
      refine l_nil (e_cut hK4 (sc rfl (sc rfl (sc rfl (sc (jp (iff_or_right h1 Iff.rfl)) sn)))) (fun _ h => h))
  ·
    refine c_cond rfl (fun h2 => ?_) (fun h2 => ?_)
    ·
      refine c_seq fun K5 hK5 => ?_
      refine c_region ?_
      refine l_val wn (r_assign rfl) rfl ?_
      refine l_nil (e_go hK5 ?_)
      refine c_ret (e_then_r (e_ret1 (.inl rfl) Tryd.results26 (rv_tmp rfl) fun w1 hM => ?_))
      have hq : Lg.shape e.e deep cn = (4, (cn + 1)) := by rw [Lg.shape_e]; grind
      exact hM.retM 0 rfl (by rw [hq] <;> rfl) (by rw [hq] <;> rfl)
    ·
      refine c_skip (e_go hK2 ?_)
      refine c_seq fun K6 hK6 => ?_
      refine c_cut [(0, .pointer (some ⟨hp, 0, none⟩)), (1, .pointer (some ((Addr.add ead 0).add 0))), (2, iV deep), (37, .bool (decide ((e.kind < 1) ∨ (4 < e.kind))))] (Mem w ⟨(· = hp), P0⟩ [.blk hp [iV (cn + 1)] 55, celP ead [iV e.kind, iV e.n, iV e.range, .string e.word, .slice e.ms.A e.ms.l.length e.ms.c, .slice e.by_.A e.by_.l.length e.by_.c, .slice e.kids.A e.kids.l.length e.kids.c], okP ExprX.Ok e]) (fun K7 hK7 => ?_) ?_
      ·
        refine c_region ?_
        refine l_val wn (r_move rfl) rfl ?_
        refine l_val wn (r_nilCheck rfl) rfl ?_
        refine l_val wn (r_fe rfl fld26_0) rfl ?_
        refine l_val wn (r_cel 1 rfl rfl rfl flat3) rfl ?_
        refine l_val wn (r_lss rfl rfl) rfl ?_
        refine l_val wn (r_move rfl) rfl ?_
        refine l_case (t := 31) rfl (fun h3 => ?_) (fun h3 => ?_)
        ·
          refine l_skip (wg rfl rfl rfl) rfl ?_
          refine l_skip (wg rfl rfl rfl) rfl ?_
          refine l_skip (wg rfl rfl rfl) rfl ?_
          refine l_skip (wg rfl rfl rfl) rfl ?_
          refine l_skip (wg rfl rfl rfl) rfl ?_
          refine l_val wn (r_pick rfl rfl) rfl ?_
          refine l_nil (e_cut hK7 (sc rfl (sc rfl (sc rfl (sc (jt (Or.inl h3)) sn)))) (fun _ h => h))
        ·
          refine l_val (wg rfl rfl rfl) (r_move rfl) rfl ?_
          refine l_val (wg rfl rfl rfl) (r_nilCheck rfl) rfl ?_
          refine l_val (wg rfl rfl rfl) (r_fe rfl fld26_0) rfl ?_
          refine l_val (wg rfl rfl rfl) (r_cel 1 rfl rfl rfl flat3) rfl ?_
          refine l_val (wg rfl rfl rfl) (r_gtr rfl rfl) rfl ?_
          refine l_val wn (r_pick rfl rfl) rfl ?_
          refine l_nil (e_cut hK7 (sc rfl (sc rfl (sc rfl (sc (jp (iff_or_right h3 Iff.rfl)) sn)))) (fun _ h => h))
      ·
        refine c_cond rfl (fun h4 => ?_) (fun h4 => ?_)
        ·
          refine c_seq fun K8 hK8 => ?_
          refine c_region ?_
          refine l_val wn (r_assign rfl) rfl ?_
          refine l_nil (e_go hK8 ?_)
          refine c_ret (e_then_r (e_ret1 (.inl rfl) Tryd.results26 (rv_tmp rfl) fun w1 hM => ?_))
          have hq : Lg.shape e.e deep cn = (1, (cn + 1)) := by rw [Lg.shape_e]; grind
          exact hM.retM 0 rfl (by rw [hq] <;> rfl) (by rw [hq] <;> rfl)
        ·
          refine c_skip (e_go hK6 ?_)
          refine c_seq fun K9 hK9 => ?_
          refine c_seq fun K10 hK10 => ?_
          refine c_quiet mix (by kernel_rfl) (fun _ h => h.drew) ?_
          refine q_val wn (r_move rfl) rfl ?_
          refine q_val wn (r_nilCheck rfl) rfl ?_
          refine q_val wn (r_fe rfl fld26_6) rfl ?_
          refine q_val wn (r_cel 1 rfl rfl rfl flat24) rfl ?_
          refine q_val wn (r_len rfl Tryd.underlying24) rfl ?_
          refine q_val wn (r_move rfl) rfl ?_
          refine q_val wn (r_nilCheck rfl) rfl ?_
          refine q_val wn (r_fe rfl fld26_0) rfl ?_
          refine q_val wn (r_cel 1 rfl rfl rfl flat3) rfl ?_
          refine q_callF wn rfl Tryd.call43 rfl (fun w1 hM => c_kids e.kind w1 (by omega) (by omega)) ?_
          refine q_val wn (r_neq rfl rfl) rfl ?_
          refine q_end (e_go hK10 ?_)
          refine c_cond rfl (fun h5 => ?_) (fun h5 => ?_)
          ·
            refine c_seq fun K11 hK11 => ?_
            refine c_region ?_
            refine l_val wn (r_assign rfl) rfl ?_
            refine l_nil (e_go hK11 ?_)
            refine c_ret (e_then_r (e_ret1 (.inl rfl) Tryd.results26 (rv_tmp rfl) fun w1 hM => ?_))
            have hq : Lg.shape e.e deep cn = (5, (cn + 1)) := by rw [Lg.shape_e]; grind
            exact hM.retM 0 rfl (by rw [hq] <;> rfl) (by rw [hq] <;> rfl)
          ·
            refine c_skip (e_go hK9 ?_)
            refine c_seq fun K12 hK12 => ?_
            refine c_seq fun K13 hK13 => ?_
            refine c_region ?_
            refine l_val wn (r_move rfl) rfl ?_
            refine l_val wn (r_move rfl) rfl ?_
            refine l_callF wn rfl Tryd.call44 rfl (fun w1 hM => c_shOwn (.pointer (some ⟨hp, 0, none⟩)) ead e (In w1) w1 (fun _ h => h) (hM.pubAt (i := 1) rfl) (hM.pubAt (i := 2) rfl)) ?_
            refine l_val wn (r_assign rfl) rfl ?_
            refine l_nil (e_go hK13 ?_)
            refine c_seq fun K14 hK14 => ?_
            refine c_region ?_
            refine l_val wn (r_move rfl) rfl ?_
            refine l_val wn (r_neq rfl rfl) rfl ?_
            refine l_nil (e_go hK14 ?_)
            refine c_cond rfl (fun h6 => ?_) (fun h6 => ?_)
            ·
              refine c_seq fun K15 hK15 => ?_
              refine c_region ?_
              refine l_val wn (r_move rfl) rfl ?_
              refine l_val wn (r_assign rfl) rfl ?_
              refine l_nil (e_go hK15 ?_)
              refine c_ret (e_then_r (e_ret1 (.inl rfl) Tryd.results26 (rv_tmp rfl) fun w1 hM => ?_))
              have hq : Lg.shape e.e deep cn = ((Lg.ownW e.kind e.n e.range e.word e.ms.l e.by_.l), (cn + 1)) := by rw [Lg.shape_e]; grind
              exact hM.retM 0 rfl (by rw [hq] <;> rfl) (by rw [hq] <;> rfl)
            ·
              refine c_skip (e_go hK12 ?_)
              refine c_seq fun K16 hK16 => ?_
              refine c_seq fun K17 hK17 => ?_
              refine c_region ?_
              refine l_val wn (r_move rfl) rfl ?_
              refine l_val wn (r_nilCheck rfl) rfl ?_
              refine l_val wn (r_fe rfl fld26_6) rfl ?_
              refine l_val wn (r_cel 1 rfl rfl rfl flat24) rfl ?_
              refine l_val wn (r_len rfl Tryd.underlying24) rfl ?_
              refine l_val wn (r_move rfl) rfl ?_
              refine l_nil (e_go hK17 ?_)
              refine c_block ?_
              refine c_loop2 (fun (k : Nat) (m : Int) => [(0, .pointer (some ⟨hp, 0, none⟩)), (1, .pointer (some ((Addr.add ead 0).add 0))), (2, iV deep), (59, iV e.kids.l.length), (60, iV k)]) (fun (k : Nat) (m : Int) => [.blk hp [iV m] 55, celP ead [iV e.kind, iV e.n, iV e.range, .string e.word, .slice e.ms.A e.ms.l.length e.ms.c, .slice e.by_.A e.by_.l.length e.by_.c, .slice e.kids.A e.kids.l.length e.kids.c], okP ExprX.Ok e]) (fun (k : Nat) (m : Int) => k ≤ e.kids.l.length ∧ (0 ≤ m ∧ m ≤ 100) ∧ Lg.shapes ((e.kids.l.take k).map ExprX.e) (deep + 1) (cn + 1) = (0, m)) (fun (k : Nat) (m : Int) => e.kids.l.length - k) 0 (cn + 1) (sc rfl (sc rfl (sc rfl (sc rfl (sc (ji (by omega)) sn))))) (fun _ h => h) ?_ (fun k m hI1 => ?_)
              · exact ⟨by omega, ⟨by omega, by omega⟩, rfl⟩
              ·
                have hq0 := hI1.2.1.1
                have hq1 := hI1.2.1.2
                refine c_seq fun K18 hK18 => ?_
                refine c_region ?_
                refine l_val wn (r_lss rfl rfl) rfl ?_
                refine l_nil (e_go hK18 ?_)
                refine c_seq fun K19 hK19 => ?_
                refine c_cond rfl (fun h7 => ?_) (fun h7 => ?_)
                ·
                  refine c_skip (e_go hK19 ?_)
                  refine c_seq fun K20 hK20 => ?_
                  refine c_block ?_
                  refine c_seq fun K21 hK21 => ?_
                  refine c_region ?_
                  refine l_val wn (r_move rfl) rfl ?_
                  refine l_val wn (r_assign rfl) rfl ?_
                  refine l_nil (e_go hK21 ?_)
                  refine c_seq fun K22 hK22 => ?_
                  refine c_region ?_
                  refine l_val wn (r_move rfl) rfl ?_
                  refine l_val wn (r_move rfl) rfl ?_
                  refine l_val wn (r_nilCheck rfl) rfl ?_
                  refine l_val wn (r_fe rfl fld26_6) rfl ?_
                  refine l_val wn (r_cel 1 rfl rfl rfl flat24) rfl ?_
                  refine l_val wn (r_move rfl) rfl ?_
                  refine l_opn (fun _ h => h.exprX 2 rfl) ?_
                  obtain ⟨hc1, hm1, hA1⟩ := hwe.ms
                  obtain ⟨hc2, hm2, hA2⟩ := hwe.by_
                  obtain ⟨hc3, hm3, hA3⟩ := hwe.kids
                  obtain ⟨ad1, hd1⟩ := hA3 (ne_nil (i := k) (by first | omega | (simp <;> omega)))
                  refine l_val wn (r_ia (i := k) rfl hd1 rfl (by omega) (by first | omega | (simp <;> omega)) Tryd.underlying24 inf26) rfl ?_
                  refine l_val wn (r_move rfl) rfl ?_
                  refine l_val wn (r_addn rfl rfl (by omega)) rfl ?_
                  obtain ⟨s1, hs1⟩ : ∃ x, e.kids.l[k]? = some x := ⟨_, List.getElem?_eq_getElem (by first | omega | (simp <;> omega))⟩
                  have hw1 := hwe.all _ (List.mem_of_getElem? hs1)
                  refine l_opn (fun _ h => h.one 3 ExprX.Ok.loc rfl hs1) ?_
                  refine l_callM 5 (v := iV ((Lg.shape s1.e (deep + 1) m).1)) (cs' := [iV ((Lg.shape s1.e (deep + 1) m).2)]) wn rfl rfl Tryd.call26 rfl (fun w1 Pb hM pp => ih s1 (ExprX.kid_lt (List.mem_of_getElem? hs1)) hp m (Addr.add ad1 (k * 7)) (deep + 1) Pb w1 (hM.blk (i := 5) rfl) (pp.sub' (i := 5) rfl) (cel_of (pp.sl 3 rfl) hd1 hs1) (pp.at_ 0 _ rfl) (by omega) (by omega) (by omega)) ?_
                  refine l_val wn (r_assign rfl) rfl ?_
                  refine l_nil (e_go hK22 ?_)
                  refine c_seq fun K23 hK23 => ?_
                  refine c_region ?_
                  refine l_val wn (r_move rfl) rfl ?_
                  refine l_val wn (r_neq rfl rfl) rfl ?_
                  refine l_nil (e_go hK23 ?_)
                  refine c_cond rfl (fun h8 => ?_) (fun h8 => ?_)
                  ·
                    refine c_seq fun K24 hK24 => ?_
                    refine c_region ?_
                    refine l_val wn (r_move rfl) rfl ?_
                    refine l_val wn (r_assign rfl) rfl ?_
                    refine l_nil (e_go hK24 ?_)
                    refine c_ret (e_in_r (e_then_r (e_loop2_r (e_in_r (e_then_r (e_ret1 (.inl rfl) Tryd.results26 (rv_tmp rfl) fun w1 hM => ?_))))))
                    have hq : Lg.shape e.e deep cn = ((Lg.shape s1.e (deep + 1) m).1, (Lg.shape s1.e (deep + 1) m).2) := (show _ = Lg.shapes (e.kids.l.map ExprX.e) (deep + 1) (cn + 1) from by rw [Lg.shape_e]; grind).trans (((Lg.shapes_next hI1.2.2 hs1).2 h8).trans rfl)
                    exact hM.retM 5 rfl (by rw [hq] <;> rfl) (by rw [hq] <;> rfl)
                  ·
                    refine c_skip (e_in_n (e_go hK20 ?_))
                    refine c_region ?_
                    refine l_val wn (r_addn rfl rfl (by omega)) rfl ?_
                    refine l_val wn (r_move rfl) rfl ?_
                    refine l_nil (e_round2 (k + 1) ((Lg.shape s1.e (deep + 1) m).2) (sc rfl (sc rfl (sc rfl (sc rfl (sc (ji (by omega)) sn))))) (fun _ h => (h.sel [5, 6, 7] (by decide) rfl)) ?_ ?_)
                    · exact ⟨by omega, Lg.shape_le _ _ _ hq0 hq1 (Classical.not_not.1 h8), (Lg.shapes_next hI1.2.2 hs1).1 (Classical.not_not.1 h8)⟩
                    · omega
                ·
                  refine c_exit (e_then_x (e_loop2_x (e_in_hit (e_go hK16 ?_))))
                  refine c_seq fun K25 hK25 => ?_
                  refine c_region ?_
                  refine l_val wn (r_assign rfl) rfl ?_
                  refine l_nil (e_go hK25 ?_)
                  refine c_ret (e_ret1 (.inl rfl) Tryd.results26 (rv_tmp rfl) fun w1 hM => ?_)
                  have hq : Lg.shape e.e deep cn = (0, m) := (show _ = Lg.shapes (e.kids.l.map ExprX.e) (deep + 1) (cn + 1) from by rw [Lg.shape_e]; grind).trans (by rw [← hI1.2.2, List.take_of_length_le (by omega)])
                  exact hM.retM 0 rfl (by rw [hq] <;> rfl) (by rw [hq] <;> rfl)
theorem c_shape (e : ExprX) : c_shape_C e := recX c_shape_step e

end Go.Proofs.YtffpglgboaigfaaDoor
