/-
  Walks: what each function hands back.
-/
import Derived.Test.YtldecdningjkoaaWmean
import Derived.Test.YtldecdningjkoaaWref1
import Derived.Test.YtldecdningjkoaaPRef5
namespace Go.Proofs.Ytldecdningjkoaa
open Ex
set_option linter.unusedVariables false
set_option linter.unusedSimpArgs false
set_option maxHeartbeats 4000000 in
theorem c_refAll (e : ExprX) (lv : Value) (l : List CellX) (P0 : Nat → Prop) (w : World) (hP0 : ∀ b, P0 b → b < w.heap.size) (he : ExprX.Ok P0 e w) (hl : FlatSl P0 2 cellE lv l w) (hla : ∀ x ∈ l, CellX.Ok P0 x w) (hbl : ∀ c ∈ l, -1125899906842624 ≤ c.value ∧ c.value ≤ 1125899906842624) (hsm : ∀ c ∈ l, c.sr.l.length ≤ 1048576) (hll : l.length ≤ 1048576) (hw : e.word = ⟨#[99, 111, 117, 110, 116]⟩ ∨ e.word = ⟨#[109, 97, 120]⟩ ∨ e.word = ⟨#[109, 105, 110]⟩ ∨ e.word = ⟨#[115, 117, 109]⟩) :
    Calls Try.prog 47 #[.agg (exprE e).toArray, lv] w (RetE w P0 (rV (Mn.rout (Mn.all e.word e.by_.l (l.map CellX.e)))) (fun z => z.l.map CellX.e = (Mn.rout (Mn.all e.word e.by_.l (l.map CellX.e))).1) (fun z S => CelsX.Ok S z)) := by
 have hwe := he.wf
 have hwl : ∀ x ∈ l, CellX.Wf x := fun x hx => (hla x hx).wf
 obtain ⟨lA, lc, rfl, hlc, hlm, hlA⟩ := hl.form
 refine fstart (N := 133) (vals := [.agg (exprE e).toArray, .slice lA l.length lc]) (S := Mem w ⟨no, P0⟩ [okP ExprX.Ok e, slP 2 cellE (.slice lA l.length lc) l, allP CellX.Ok l]) Try.func47 rfl rfl rfl (Mem.ofDatsP hP0 (dc (dp (ExprX.Ok.loc _) he) (dc (dlp hl) (dc (dp (all_loc CellX.Ok.loc _) hla) dn)))) ?_
 refine c_seq fun _ hK1 => ?_
 refine c_region ?_
 refine l_box wn rfl rfl fun b2 => ?_
 refine l_val wn (r_assign rfl) rfl ?_
 refine l_val wn (r_assign rfl) rfl ?_
 refine l_val wn (r_assign rfl) rfl ?_
 refine l_nil (e_go hK1 ?_)
 refine c_seq fun _ hK2 => ?_
 refine c_region ?_
 refine l_nilRow (cellE : CellX → List Value) 44 2 ?_
 refine l_opn (fun _ h => h.all0 CellX.Ok.loc) ?_
 refine l_val wn (r_assign rfl) rfl ?_
 refine l_nil (e_go hK2 ?_)
 refine c_seq fun _ hK3 => ?_
 refine c_seq fun _ hK4 => ?_
 refine c_region ?_
 refine l_val wn (r_move rfl) rfl ?_
 refine l_val wn (r_len rfl Try.underlying28) rfl ?_
 refine l_val wn (r_move rfl) rfl ?_
 refine l_nil (e_go hK4 ?_)
 refine c_block ?_
 refine c_loop3 (fun (k : Nat) (cs : List CellX) (ov : Value) => [(2, .pointer (some ⟨b2, 0, none⟩)), (7, ov), (16, .slice lA l.length lc), (17, .int .i64 (l.length : Int)), (18, .int .i64 (k : Int))]) (fun (k : Nat) (cs : List CellX) (ov : Value) => [allP CellX.Ok cs, Row ov 44 2 cellE cs, .blk b2 [.int .i64 e.kind, .int .i64 e.n, .int .i64 e.range, .string e.word, .slice e.ms.A e.ms.l.length e.ms.c, .slice e.by_.A e.by_.l.length e.by_.c, .slice e.kids.A e.kids.l.length e.kids.c] 27, okP ExprX.Ok e, slP 2 cellE (.slice lA l.length lc) l, allP CellX.Ok l]) (fun (k : Nat) (cs : List CellX) (ov : Value) => k ≤ l.length ∧ (∀ x ∈ cs, CellX.Wf x) ∧ Mn.allFrom e.word e.by_.l [] (l.map CellX.e) = Mn.allFrom e.word e.by_.l (cs.map CellX.e) ((l.drop k).map CellX.e) ∧ Mn.Asc (cs.map CellX.e) ∧ Mn.Fit (cs.map CellX.e) ∧ cs.length ≤ k) (fun (k : Nat) (cs : List CellX) (ov : Value) => l.length - k) 0 [] (.slice none 0 0) (sc rfl (sc rfl (sc rfl (sc rfl (sc (ji (by omega)) sn))))) (fun _ h => h) ?_ (fun k cs ov hI1 => ?_)
 · exact ⟨Nat.zero_le _, fun x hx => (by cases hx), by rw [List.drop_zero]; rfl, List.Pairwise.nil, fun x hx => (by cases hx), Nat.le_refl _⟩
 have hwf := hI1.2.1
 have hasc := hI1.2.2.2.1
 have hfit := hI1.2.2.2.2.1
 have hlen := hI1.2.2.2.2.2
 refine c_open 1 (l := cs) rfl fun A1 cp1 hv1 hc1 hm1 hA1 => ?_
 subst hv1
 refine c_seq fun _ hK5 => ?_
 refine c_region ?_
 refine l_val wn (r_lss rfl rfl) rfl ?_
 refine l_nil (e_go hK5 ?_)
 refine c_seq fun _ hK6 => ?_
 refine c_cond rfl (fun h1 => ?_) (fun h1 => ?_)
 · refine c_skip (e_go hK6 ?_)
   refine c_seq fun _ hK7 => ?_
   refine c_block ?_
   refine c_seq fun _ hK8 => ?_
   refine c_region ?_
   obtain ⟨ad1, hd1⟩ := hlA (ne_nil (i := k) (by first | omega | (simp <;> omega)))
   refine l_val wn (r_ia (i := k) rfl hd1 rfl (by omega) (by first | omega | (simp <;> omega)) Try.underlying28 inf44) rfl ?_
   obtain ⟨s1, hs1⟩ : ∃ x, l[k]? = some x := ⟨_, List.getElem?_eq_getElem (by first | omega | (simp <;> omega))⟩
   have hb_s1 := hbl _ (List.mem_of_getElem? hs1)
   have hs_s1 := hsm _ (List.mem_of_getElem? hs1)
   refine l_val wn (r_pln 4 [.slice s1.sr.A s1.sr.l.length s1.sr.c, .int .i64 s1.value] rfl rfl hd1 hs1 rfl rfl agg44 inf44) rfl ?_
   refine l_alloc wn inf44 rfl fun b9 => ?_
   refine l_stn 0 wn rfl rfl rfl inf44 rfl rfl rfl ?_
   refine l_nil (e_go hK8 ?_)
   refine c_seq fun _ hK9 => ?_
   refine c_region ?_
   refine l_val wn (r_fa rfl fld44_0) rfl ?_
   refine l_val wn (r_lb 0 rfl rfl rfl flat42) rfl ?_
   refine l_val wn (r_fa rfl fld27_5) rfl ?_
   refine l_val wn (r_lb 3 rfl rfl rfl flat24) rfl ?_
   have hw1 := hwl _ (List.mem_of_getElem? hs1)
   refine l_opn (fun _ h => h.one 6 CellX.Ok.loc rfl hs1) ?_
   refine l_opn (fun _ h => h.cellX 0 rfl) ?_
   obtain ⟨hc2, hm2, hA2⟩ := hw1.sr
   refine l_opn (fun _ h => h.exprX 6 rfl) ?_
   obtain ⟨hc3, hm3, hA3⟩ := hwe.ms
   obtain ⟨hc4, hm4, hA4⟩ := hwe.by_
   obtain ⟨hc5, hm5, hA5⟩ := hwe.kids
   refine l_callL (Names.only s1.sr.l e.by_.l) wn rfl Try.call64 rfl (fun w1 hM => c_refOnly _ s1.sr.l _ e.by_.l w1 (hM.slp 4 rfl) (hM.slp 1 rfl) (by first | assumption | omega)) fun A2 cp2 hc6 hm6 hA6 => ?_
   refine l_val wn (r_assign rfl) rfl ?_
   refine l_nil (e_go hK9 ?_)
   refine c_seq fun _ hK10 => ?_
   refine c_region ?_
   refine l_val wn (r_assign rfl) rfl ?_
   refine l_nil (e_go hK10 ?_)
   refine c_seq fun _ hK11 => ?_
   refine c_seq fun _ hK12 => ?_
   refine c_region ?_
   refine l_val wn (r_move rfl) rfl ?_
   refine l_val wn (r_len rfl Try.underlying28) rfl ?_
   refine l_val wn (r_move rfl) rfl ?_
   refine l_nil (e_go hK12 ?_)
   refine c_block ?_
   refine c_loop2 (fun (i : Nat) (at_ : Int) => [(2, .pointer (some ⟨b2, 0, none⟩)), (7, .slice A1 cs.length cp1), (9, .pointer (some ⟨b9, 0, none⟩)), (10, .slice A2 ((Names.only s1.sr.l e.by_.l).length) cp2), (11, .int .i64 at_), (16, .slice lA l.length lc), (17, .int .i64 (l.length : Int)), (18, .int .i64 (k : Int)), (28, .int .i64 (cs.length : Int)), (29, .int .i64 (i : Int))]) (fun (i : Nat) (at_ : Int) => [Row (.slice A2 ((Names.only s1.sr.l e.by_.l).length) cp2) 51 2 labelE (Names.only s1.sr.l e.by_.l), slP 3 matchE (.slice e.ms.A e.ms.l.length e.ms.c) e.ms.l, slP 1 strE (.slice e.by_.A e.by_.l.length e.by_.c) e.by_.l, slP 7 exprE (.slice e.kids.A e.kids.l.length e.kids.c) e.kids.l, allP ExprX.Ok e.kids.l, slP 2 labelE (.slice s1.sr.A s1.sr.l.length s1.sr.c) s1.sr.l, okP CellX.Ok s1, .blk b9 [.slice s1.sr.A s1.sr.l.length s1.sr.c, .int .i64 s1.value] 44, allP CellX.Ok cs, Row (.slice A1 cs.length cp1) 44 2 cellE cs, .blk b2 [.int .i64 e.kind, .int .i64 e.n, .int .i64 e.range, .string e.word, .slice e.ms.A e.ms.l.length e.ms.c, .slice e.by_.A e.by_.l.length e.by_.c, .slice e.kids.A e.kids.l.length e.kids.c] 27, okP ExprX.Ok e, slP 2 cellE (.slice lA l.length lc) l, allP CellX.Ok l]) (fun (i : Nat) (at_ : Int) => i ≤ cs.length ∧ ((at_ = -1 ∧ ∀ y ∈ cs.take i, ¬ y.sr.l = (Names.only s1.sr.l e.by_.l)) ∨ ∃ (q : Nat) (y : CellX), at_ = (q : Int) ∧ cs[q]? = some y ∧ y.sr.l = (Names.only s1.sr.l e.by_.l))) (fun (i : Nat) (at_ : Int) => cs.length - i) 0 (-1) (sc rfl (sc rfl (sc rfl (sc rfl (sc rfl (sc rfl (sc rfl (sc rfl (sc rfl (sc (ji (by omega)) sn)))))))))) (fun _ h => h) ?_ (fun i at_ hI2 => ?_)
   · exact ⟨Nat.zero_le _, .inl ⟨rfl, fun y hy => (by cases hy)⟩⟩
   refine c_seq fun _ hK13 => ?_
   refine c_region ?_
   refine l_val wn (r_lss rfl rfl) rfl ?_
   refine l_nil (e_go hK13 ?_)
   refine c_seq fun _ hK14 => ?_
   refine c_cond rfl (fun h2 => ?_) (fun h2 => ?_)
   · refine c_skip (e_go hK14 ?_)
     refine c_seq fun _ hK15 => ?_
     refine c_block ?_
     refine c_seq fun _ hK16 => ?_
     refine c_region ?_
     refine l_val wn (r_move rfl) rfl ?_
     refine l_val wn (r_assign rfl) rfl ?_
     refine l_nil (e_go hK16 ?_)
     refine c_seq fun _ hK17 => ?_
     refine c_region ?_
     refine l_val wn (r_move rfl) rfl ?_
     refine l_val wn (r_move rfl) rfl ?_
     obtain ⟨ad2, hd2⟩ := hA1 (ne_nil (i := i) (by first | omega | (simp <;> omega)))
     refine l_val wn (r_ia (i := i) rfl hd2 rfl (by omega) (by first | omega | (simp <;> omega)) Try.underlying28 inf44) rfl ?_
     refine l_val wn (r_fe rfl fld44_0) rfl ?_
     obtain ⟨s2, hs2⟩ : ∃ x, cs[i]? = some x := ⟨_, List.getElem?_eq_getElem (by first | omega | (simp <;> omega))⟩
     refine l_val wn (r_rl 9 encCellX rfl rfl hd2 hs2 rfl flat42) rfl ?_
     refine l_val wn (r_move rfl) rfl ?_
     have hw2 := hwf _ (List.mem_of_getElem? hs2)
     refine l_opn (fun _ h => h.one 8 CellX.Ok.loc rfl hs2) ?_
     refine l_opn (fun _ h => h.cellX 0 rfl) ?_
     obtain ⟨hc7, hm7, hA7⟩ := hw2.sr
     refine l_callF wn rfl Try.call18 rfl (fun w1 hM => c_SameSeries _ s2.sr.l _ (Names.only s1.sr.l e.by_.l) w1 (hM.slp 0 rfl) (RowSl encLabel hM 2 rfl)) ?_
     refine l_nil (e_go hK17 ?_)
     refine c_cond rfl (fun h3 => ?_) (fun h3 => ?_)
     · refine c_region ?_
       refine l_val wn (r_move rfl) rfl ?_
       refine l_val wn (r_assign rfl) rfl ?_
       refine l_nil (e_in_n (e_go hK15 ?_))
       refine c_region ?_
       refine l_val wn (r_addn rfl rfl (by omega)) rfl ?_
       refine l_val wn (r_move rfl) rfl ?_
       refine l_nil (e_round2 (i + 1) (i : Int) (sc rfl (sc rfl (sc rfl (sc rfl (sc rfl (sc rfl (sc rfl (sc rfl (sc rfl (sc (ji (by omega)) sn)))))))))) (fun _ h => (h.sel [2, 3, 4, 5, 6, 7, 8, 9, 10, 11, 12, 13, 14, 15] (by decide) rfl)) ?_ ?_)
       · exact ⟨by omega, .inr ⟨i, s2, rfl, hs2, h3⟩⟩
       omega
     refine c_skip (e_in_n (e_go hK15 ?_))
     refine c_region ?_
     refine l_val wn (r_addn rfl rfl (by omega)) rfl ?_
     refine l_val wn (r_move rfl) rfl ?_
     refine l_nil (e_round2 (i + 1) at_ (sc rfl (sc rfl (sc rfl (sc rfl (sc rfl (sc rfl (sc rfl (sc rfl (sc rfl (sc (ji (by omega)) sn)))))))))) (fun _ h => (h.sel [2, 3, 4, 5, 6, 7, 8, 9, 10, 11, 12, 13, 14, 15] (by decide) rfl)) ?_ ?_)
     · exact ⟨by omega, hI2.2.elim (fun h => .inl ⟨h.1, all_take hs2 h.2 h3⟩) .inr⟩
     omega
   refine c_exit (e_then_x (e_loop2_x (e_in_hit (e_go hK11 ?_))))
   refine c_seq fun _ hK18 => ?_
   refine c_region ?_
   refine l_val wn (r_fa rfl fld44_1) rfl ?_
   refine l_val wn (r_lb 7 rfl rfl rfl flat3) rfl ?_
   refine l_val wn (r_assign rfl) rfl ?_
   refine l_nil (e_go hK18 ?_)
   refine c_cut [(2, .pointer (some ⟨b2, 0, none⟩)), (7, .slice A1 cs.length cp1), (10, .slice A2 ((Names.only s1.sr.l e.by_.l).length) cp2), (11, .int .i64 at_), (13, .int .i64 (if e.word = ⟨#[99, 111, 117, 110, 116]⟩ then 1 else s1.value)), (16, .slice lA l.length lc), (17, .int .i64 (l.length : Int)), (18, .int .i64 (k : Int))] (Mem w ⟨no, P0⟩ [Row (.slice A2 ((Names.only s1.sr.l e.by_.l).length) cp2) 51 2 labelE (Names.only s1.sr.l e.by_.l), slP 3 matchE (.slice e.ms.A e.ms.l.length e.ms.c) e.ms.l, slP 1 strE (.slice e.by_.A e.by_.l.length e.by_.c) e.by_.l, slP 7 exprE (.slice e.kids.A e.kids.l.length e.kids.c) e.kids.l, allP ExprX.Ok e.kids.l, slP 2 labelE (.slice s1.sr.A s1.sr.l.length s1.sr.c) s1.sr.l, okP CellX.Ok s1, .blk b9 [.slice s1.sr.A s1.sr.l.length s1.sr.c, .int .i64 s1.value] 44, allP CellX.Ok cs, Row (.slice A1 cs.length cp1) 44 2 cellE cs, .blk b2 [.int .i64 e.kind, .int .i64 e.n, .int .i64 e.range, .string e.word, .slice e.ms.A e.ms.l.length e.ms.c, .slice e.by_.A e.by_.l.length e.by_.c, .slice e.kids.A e.kids.l.length e.kids.c] 27, okP ExprX.Ok e, slP 2 cellE (.slice lA l.length lc) l, allP CellX.Ok l]) (fun _ hK19 => ?_) ?_
   · refine c_seq fun _ hK20 => ?_
     refine c_region ?_
     refine l_val wn (r_fa rfl fld27_3) rfl ?_
     refine l_val wn (r_lb 10 rfl rfl rfl flat9) rfl ?_
     refine l_val wn (r_seql rfl rfl) rfl ?_
     refine l_nil (e_go hK20 ?_)
     refine c_cond rfl (fun h4 => ?_) (fun h4 => ?_)
     · refine c_region ?_
       refine l_val wn (r_assign rfl) rfl ?_
       refine l_nil (e_cut hK19 (sc rfl (sc rfl (sc rfl (sc rfl (sc (by first | (simp only [if_pos h4]; done) | (simp only [if_pos h4]; rfl)) (sc rfl (sc rfl (sc rfl sn)))))))) (fun _ h => h))
     refine c_skip (e_cut hK19 (sc rfl (sc rfl (sc rfl (sc rfl (sc (by first | (simp only [if_neg h4]; done) | (simp only [if_neg h4]; rfl)) (sc rfl (sc rfl (sc rfl sn)))))))) (fun _ h => h))
   refine c_seq fun _ hK21 => ?_
   refine c_seq fun _ hK22 => ?_
   refine c_region ?_
   have hux : -1125899906842624 ≤ (if e.word = ⟨#[99, 111, 117, 110, 116]⟩ then 1 else s1.value) ∧ (if e.word = ⟨#[99, 111, 117, 110, 116]⟩ then 1 else s1.value) ≤ 1125899906842624 := Mn.unit_rng (w := e.word) hb_s1
   refine l_val wn (r_move rfl) rfl ?_
   refine l_val wn (r_lss rfl rfl) rfl ?_
   refine l_nil (e_go hK22 ?_)
   refine c_cond rfl (fun h5 => ?_) (fun h5 => ?_)
   · have hhas := Mn.has_no (cs := cs) (S := (Names.only s1.sr.l e.by_.l)) (by rcases hI2.2 with h | ⟨q, y, h, _⟩; exact fun y hy => h.2 y (by rw [List.take_of_length_le (by omega)]; exact hy); omega)
     refine c_seq fun _ hK23 => ?_
     refine c_region ?_
     refine l_seal 0 encLabel rfl rfl ?_
     refine l_val wn (r_assign rfl) rfl ?_
     refine l_nil (e_go hK23 ?_)
     refine c_cut [(2, .pointer (some ⟨b2, 0, none⟩)), (7, .slice A1 cs.length cp1), (10, .slice A2 ((Names.only s1.sr.l e.by_.l).length) cp2), (13, .int .i64 (if e.word = ⟨#[99, 111, 117, 110, 116]⟩ then 1 else s1.value)), (14, .int .i64 ((Mn.pos (cs.map CellX.e) (Names.only s1.sr.l e.by_.l)) : Int)), (16, .slice lA l.length lc), (17, .int .i64 (l.length : Int)), (18, .int .i64 (k : Int))] (Mem w ⟨no, P0⟩ [.pub (fun _ _ => (Mn.pos (cs.map CellX.e) (Names.only s1.sr.l e.by_.l)) ≤ cs.length), slP 2 labelE (.slice A2 ((Names.only s1.sr.l e.by_.l).length) cp2) (Names.only s1.sr.l e.by_.l), slP 3 matchE (.slice e.ms.A e.ms.l.length e.ms.c) e.ms.l, slP 1 strE (.slice e.by_.A e.by_.l.length e.by_.c) e.by_.l, slP 7 exprE (.slice e.kids.A e.kids.l.length e.kids.c) e.kids.l, allP ExprX.Ok e.kids.l, slP 2 labelE (.slice s1.sr.A s1.sr.l.length s1.sr.c) s1.sr.l, okP CellX.Ok s1, .blk b9 [.slice s1.sr.A s1.sr.l.length s1.sr.c, .int .i64 s1.value] 44, allP CellX.Ok cs, Row (.slice A1 cs.length cp1) 44 2 cellE cs, .blk b2 [.int .i64 e.kind, .int .i64 e.n, .int .i64 e.range, .string e.word, .slice e.ms.A e.ms.l.length e.ms.c, .slice e.by_.A e.by_.l.length e.by_.c, .slice e.kids.A e.kids.l.length e.kids.c] 27, okP ExprX.Ok e, slP 2 cellE (.slice lA l.length lc) l, allP CellX.Ok l]) (fun _ hK24 => ?_) ?_
     · refine c_block ?_
       refine c_loop1 (fun (j : Nat) => [(2, .pointer (some ⟨b2, 0, none⟩)), (7, .slice A1 cs.length cp1), (10, .slice A2 ((Names.only s1.sr.l e.by_.l).length) cp2), (13, .int .i64 (if e.word = ⟨#[99, 111, 117, 110, 116]⟩ then 1 else s1.value)), (14, .int .i64 (j : Int)), (16, .slice lA l.length lc), (17, .int .i64 (l.length : Int)), (18, .int .i64 (k : Int))]) (fun (j : Nat) => [slP 2 labelE (.slice A2 ((Names.only s1.sr.l e.by_.l).length) cp2) (Names.only s1.sr.l e.by_.l), slP 3 matchE (.slice e.ms.A e.ms.l.length e.ms.c) e.ms.l, slP 1 strE (.slice e.by_.A e.by_.l.length e.by_.c) e.by_.l, slP 7 exprE (.slice e.kids.A e.kids.l.length e.kids.c) e.kids.l, allP ExprX.Ok e.kids.l, slP 2 labelE (.slice s1.sr.A s1.sr.l.length s1.sr.c) s1.sr.l, okP CellX.Ok s1, .blk b9 [.slice s1.sr.A s1.sr.l.length s1.sr.c, .int .i64 s1.value] 44, allP CellX.Ok cs, Row (.slice A1 cs.length cp1) 44 2 cellE cs, .blk b2 [.int .i64 e.kind, .int .i64 e.n, .int .i64 e.range, .string e.word, .slice e.ms.A e.ms.l.length e.ms.c, .slice e.by_.A e.by_.l.length e.by_.c, .slice e.kids.A e.kids.l.length e.kids.c] 27, okP ExprX.Ok e, slP 2 cellE (.slice lA l.length lc) l, allP CellX.Ok l]) (fun (j : Nat) => j ≤ cs.length ∧ ∀ y ∈ cs.take j, Names.compare y.sr.l (Names.only s1.sr.l e.by_.l) < 0) (fun (j : Nat) => cs.length - j) 0 (sc rfl (sc rfl (sc rfl (sc rfl (sc (ji (by omega)) (sc rfl (sc rfl (sc rfl sn)))))))) (fun _ h => h) ?_ (fun j hI3 => ?_)
       · exact ⟨Nat.zero_le _, fun y hy => (by cases hy)⟩
       refine c_seq fun _ hK25 => ?_
       refine c_seq fun _ hK26 => ?_
       refine c_region ?_
       refine l_val wn (r_move rfl) rfl ?_
       refine l_val wn (r_move rfl) rfl ?_
       refine l_val wn (r_len rfl Try.underlying28) rfl ?_
       refine l_val wn (r_lss rfl rfl) rfl ?_
       refine l_val wn (r_move rfl) rfl ?_
       refine l_case (t := 52) rfl (fun h6 => ?_) (fun h6 => ?_)
       · refine l_val (wg rfl rfl rfl) (r_move rfl) rfl ?_
         refine l_val (wg rfl rfl rfl) (r_move rfl) rfl ?_
         obtain ⟨ad3, hd3⟩ := hA1 (ne_nil (i := j) (by first | omega | (simp <;> omega)))
         refine l_val (wg rfl rfl rfl) (r_ia (i := j) rfl hd3 rfl (by omega) (by first | omega | (simp <;> omega)) Try.underlying28 inf44) rfl ?_
         refine l_val (wg rfl rfl rfl) (r_fe rfl fld44_0) rfl ?_
         obtain ⟨s3, hs3⟩ : ∃ x, cs[j]? = some x := ⟨_, List.getElem?_eq_getElem (by first | omega | (simp <;> omega))⟩
         refine l_val (wg rfl rfl rfl) (r_rl 9 encCellX rfl rfl hd3 hs3 rfl flat42) rfl ?_
         refine l_val (wg rfl rfl rfl) (r_move rfl) rfl ?_
         have hw3 := hwf _ (List.mem_of_getElem? hs3)
         refine l_opn (fun _ h => h.one 8 CellX.Ok.loc rfl hs3) ?_
         refine l_opn (fun _ h => h.cellX 0 rfl) ?_
         obtain ⟨hc8, hm8, hA8⟩ := hw3.sr
         refine l_callF (wg rfl rfl rfl) rfl Try.call35 rfl (fun w1 hM => c_refCompare _ s3.sr.l _ (Names.only s1.sr.l e.by_.l) w1 (hM.slp 0 rfl) (hM.slp 2 rfl)) ?_
         refine l_val (wg rfl rfl rfl) (r_lss rfl rfl) rfl ?_
         refine l_val wn (r_pick rfl rfl) rfl ?_
         refine l_nil (e_go hK26 ?_)
         refine c_cond rfl (fun h7 => ?_) (fun h7 => ?_)
         · refine c_skip (e_go hK25 ?_)
           refine c_block ?_
           refine c_region ?_
           refine l_val wn (r_move rfl) rfl ?_
           refine l_val wn (r_addn rfl rfl (by omega)) rfl ?_
           refine l_val wn (r_assign rfl) rfl ?_
           refine l_nil (e_in_n (e_round1 (j + 1) (sc rfl (sc rfl (sc rfl (sc rfl (sc (ji (by omega)) (sc rfl (sc rfl (sc rfl sn)))))))) (fun _ h => (h.sel [2, 3, 4, 5, 6, 7, 8, 9, 10, 11, 12, 13, 14, 15] (by decide) rfl)) ?_ ?_))
           · exact ⟨by omega, all_take hs3 hI3.2 h7⟩
           omega
         have hpos9 : (Mn.pos (cs.map CellX.e) (Names.only s1.sr.l e.by_.l)) = j := Mn.asc_take (by omega) hI3.2 hasc (fun y hy => by have e9 := Option.some.inj (hy.symm.trans hs3); rw [e9]; exact h7)
         refine c_exit (e_then_x (e_loop1_x (e_in_hit (e_cut hK24 (sc rfl (sc rfl (sc rfl (sc rfl (sc (ji (by omega)) (sc rfl (sc rfl (sc rfl sn)))))))) (fun _ h => have h := Mem.fact (Mn.pos_le') h; (h.sel [0, 3, 4, 5, 6, 7, 8, 9, 10, 11, 12, 13, 14, 15, 16] (by decide) rfl))))))
       refine l_skip (wg rfl rfl rfl) rfl ?_
       refine l_skip (wg rfl rfl rfl) rfl ?_
       refine l_skip (wg rfl rfl rfl) rfl ?_
       refine l_skip (wg rfl rfl rfl) rfl ?_
       refine l_skip (wg rfl rfl rfl) rfl ?_
       refine l_skip (wg rfl rfl rfl) rfl ?_
       refine l_skip (wg rfl rfl rfl) rfl ?_
       refine l_skip (wg rfl rfl rfl) rfl ?_
       refine l_val wn (r_pick rfl rfl) rfl ?_
       refine l_nil (e_go hK26 ?_)
       refine c_false rfl rfl ?_
       have hpos9 : (Mn.pos (cs.map CellX.e) (Names.only s1.sr.l e.by_.l)) = j := Mn.asc_take (by omega) hI3.2 hasc (fun y hy => by have := (List.getElem?_eq_some_iff.1 hy).1; omega)
       refine c_exit (e_then_x (e_loop1_x (e_in_hit (e_cut hK24 (sc rfl (sc rfl (sc rfl (sc rfl (sc (ji (by omega)) (sc rfl (sc rfl (sc rfl sn)))))))) (fun _ h => have h := Mem.fact (Mn.pos_le') h; h)))))
     refine c_fact fun hple => ?_
     refine c_seq fun _ hK27 => ?_
     refine c_nodes (Mem w ⟨no, P0⟩ [slP 2 labelE (.slice A2 ((Names.only s1.sr.l e.by_.l).length) cp2) (Names.only s1.sr.l e.by_.l), slP 3 matchE (.slice e.ms.A e.ms.l.length e.ms.c) e.ms.l, slP 1 strE (.slice e.by_.A e.by_.l.length e.by_.c) e.by_.l, slP 7 exprE (.slice e.kids.A e.kids.l.length e.kids.c) e.kids.l, allP ExprX.Ok e.kids.l, slP 2 labelE (.slice s1.sr.A s1.sr.l.length s1.sr.c) s1.sr.l, okP CellX.Ok s1, .blk b9 [.slice s1.sr.A s1.sr.l.length s1.sr.c, .int .i64 s1.value] 44, .blk b2 [.int .i64 e.kind, .int .i64 e.n, .int .i64 e.range, .string e.word, .slice e.ms.A e.ms.l.length e.ms.c, .slice e.by_.A e.by_.l.length e.by_.c, .slice e.kids.A e.kids.l.length e.kids.c] 27, okP ExprX.Ok e, slP 2 cellE (.slice lA l.length lc) l, allP CellX.Ok l]) mix (fun _ h => h.drew) rfl ?_
     refine n_run (f := 6) [1, 2, 3, 5, 6, 7, 10, 11, 12] rfl rfl (by kernel_rfl) (by kernel_rfl) (fun _ h => (h.sel [0, 1, 2, 3, 4, 5, 6, 7, 10, 11, 12, 13] (by decide) rfl)) fun KS hKS => ?_
     refine s_val wn (r_move rfl) rfl ?_
     refine s_val wn (r_move rfl) rfl ?_
     refine s_val wn (r_dsl (lo := 0) (hi := (Mn.pos (cs.map CellX.e) (Names.only s1.sr.l e.by_.l))) rfl lo0 (hi1 rfl (by omega)) (by first | omega | (simp <;> omega)) (by first | omega | (simp <;> omega)) (by first | omega | (simp <;> omega)) Try.underlying28 inf44) rfl ?_
     refine s_val wn (r_move rfl) rfl ?_
     refine s_val wn (r_move rfl) rfl ?_
     refine s_val wn (r_build [.slice A2 ((Names.only s1.sr.l e.by_.l).length) cp2, .int .i64 (if e.word = ⟨#[99, 111, 117, 110, 116]⟩ then 1 else s1.value)] pl44 inf44 rfl rfl) rfl ?_
     refine s_val wn (r_move rfl) rfl ?_
     refine s_val wn (r_move rfl) rfl ?_
     refine s_val wn (r_dsl (lo := (Mn.pos (cs.map CellX.e) (Names.only s1.sr.l e.by_.l))) (hi := cs.length) rfl (lo1 rfl (by omega)) hi0 (by first | omega | (simp <;> omega)) (by first | omega | (simp <;> omega)) (by first | omega | (simp <;> omega)) Try.underlying28 inf44) rfl ?_
     refine s_end hKS ?_
     refine n_step2 (f := 5) (i := 0) (j := 8) rfl (by kernel_rfl) ?_ ?_
     · refine n_one (i := 0) rfl fun KN hKN => ?_
       refine l_bsL0 cellE wn Try.underlying28 inf44 rfl fun b64 => ?_
       refine l_nil (hKN _ _ (fun _ h => (h.sel [1, 2, 3, 4, 5, 6, 7, 8, 11, 12, 13, 14] (by decide) rfl)) ?_)
       refine n_step2 (f := 4) (i := 4) (j := 8) rfl (by kernel_rfl) ?_ ?_
       · refine n_one (i := 4) rfl fun KN hKN => ?_
         refine l_app 0 ([] : List CellX) (cs.take (Mn.pos (cs.map CellX.e) (Names.only s1.sr.l e.by_.l))) encCellX wn rfl rfl rfl (fun _ hM => (FlatSl.subOf (RowSl encCellX hM 10 rfl) (lo := 0) (hi := (Mn.pos (cs.map CellX.e) (Names.only s1.sr.l e.by_.l))) (by first | omega | (simp <;> omega)) (by first | omega | (simp <;> omega)) (by first | rfl | simp | (rw [List.take_length]; done)) rfl)) Try.underlying28 inf44 rfl rfl (by simp only [List.length_append, List.length_cons, List.length_nil, List.length_take, List.length_drop]; omega) rfl fun A3 cp3 hc9 hm9 hA9 => ?_
         refine l_nil (hKN _ _ (fun _ h => (h.sel [1, 2, 3, 4, 5, 6, 7, 8, 11, 12, 13, 14] (by decide) rfl)) ?_)
         refine n_step1 (f := 3) (i := 8) rfl (by kernel_rfl) ?_
         refine n_one (i := 8) rfl fun KN hKN => ?_
         refine l_bsL cellE ([(CellX.mk ⟨A2, cp2, (Names.only s1.sr.l e.by_.l)⟩ (if e.word = ⟨#[99, 111, 117, 110, 116]⟩ then 1 else s1.value))] : List CellX) wn Try.underlying28 inf44 rfl rfl rfl rfl (by decide) (by decide) rfl fun b72 => ?_
         refine l_nil (hKN _ _ (fun _ h => (h.sel [2, 3, 4, 5, 6, 7, 8, 9, 12, 13, 14, 15] (by decide) rfl)) ?_)
         refine n_step1 (f := 2) (i := 9) rfl (by kernel_rfl) ?_
         refine n_one (i := 9) rfl fun KN hKN => ?_
         refine l_app 1 (([] : List CellX) ++ (cs.take (Mn.pos (cs.map CellX.e) (Names.only s1.sr.l e.by_.l)))) ([(CellX.mk ⟨A2, cp2, (Names.only s1.sr.l e.by_.l)⟩ (if e.word = ⟨#[99, 111, 117, 110, 116]⟩ then 1 else s1.value))] : List CellX) encCellX wn rfl rfl rfl (fun _ hM => (RowSl encCellX hM 0 rfl)) Try.underlying28 inf44 rfl rfl (by simp only [List.length_append, List.length_cons, List.length_nil, List.length_take, List.length_drop]; omega) rfl fun A4 cp4 hc10 hm10 hA10 => ?_
         refine l_nil (hKN _ _ (fun _ h => (h.sel [2, 3, 4, 5, 6, 7, 8, 9, 12, 13, 14, 15] (by decide) rfl)) ?_)
         refine n_step1 (f := 1) (i := 13) rfl (by kernel_rfl) ?_
         refine n_one (i := 13) rfl fun KN hKN => ?_
         refine l_app 1 ((([] : List CellX) ++ (cs.take (Mn.pos (cs.map CellX.e) (Names.only s1.sr.l e.by_.l)))) ++ ([(CellX.mk ⟨A2, cp2, (Names.only s1.sr.l e.by_.l)⟩ (if e.word = ⟨#[99, 111, 117, 110, 116]⟩ then 1 else s1.value))] : List CellX)) (cs.drop (Mn.pos (cs.map CellX.e) (Names.only s1.sr.l e.by_.l))) encCellX wn rfl rfl rfl (fun _ hM => (FlatSl.subOf (RowSl encCellX hM 11 rfl) (lo := (Mn.pos (cs.map CellX.e) (Names.only s1.sr.l e.by_.l))) (hi := cs.length) (by first | omega | (simp <;> omega)) (by first | omega | (simp <;> omega)) (by first | rfl | simp | (rw [List.take_length]; done)) rfl)) Try.underlying28 inf44 rfl rfl (by simp only [List.length_append, List.length_cons, List.length_nil, List.length_take, List.length_drop]; omega) rfl fun A5 cp5 hc11 hm11 hA11 => ?_
         have ins9 : cs.take (Mn.pos (cs.map CellX.e) (Names.only s1.sr.l e.by_.l)) ++ (CellX.mk ⟨A2, cp2, (Names.only s1.sr.l e.by_.l)⟩ (if e.word = ⟨#[99, 111, 117, 110, 116]⟩ then 1 else s1.value)) :: cs.drop (Mn.pos (cs.map CellX.e) (Names.only s1.sr.l e.by_.l)) = (((([] : List CellX) ++ (cs.take (Mn.pos (cs.map CellX.e) (Names.only s1.sr.l e.by_.l)))) ++ ([(CellX.mk ⟨A2, cp2, (Names.only s1.sr.l e.by_.l)⟩ (if e.word = ⟨#[99, 111, 117, 110, 116]⟩ then 1 else s1.value))] : List CellX)) ++ (cs.drop (Mn.pos (cs.map CellX.e) (Names.only s1.sr.l e.by_.l)))) := by simp only [List.nil_append, List.append_assoc, List.singleton_append]
         refine l_opn (fun _ h => h.allIns (l' := (((([] : List CellX) ++ (cs.take (Mn.pos (cs.map CellX.e) (Names.only s1.sr.l e.by_.l)))) ++ ([(CellX.mk ⟨A2, cp2, (Names.only s1.sr.l e.by_.l)⟩ (if e.word = ⟨#[99, 111, 117, 110, 116]⟩ then 1 else s1.value))] : List CellX)) ++ (cs.drop (Mn.pos (cs.map CellX.e) (Names.only s1.sr.l e.by_.l))))) 10 2 rfl rfl (by rw [← ins9]; exact ins_of)) ?_
         have hw4 : ∀ y ∈ (((([] : List CellX) ++ (cs.take (Mn.pos (cs.map CellX.e) (Names.only s1.sr.l e.by_.l)))) ++ ([(CellX.mk ⟨A2, cp2, (Names.only s1.sr.l e.by_.l)⟩ (if e.word = ⟨#[99, 111, 117, 110, 116]⟩ then 1 else s1.value))] : List CellX)) ++ (cs.drop (Mn.pos (cs.map CellX.e) (Names.only s1.sr.l e.by_.l)))), CellX.Wf y := by rw [← ins9]; exact fun y hy => (ins_of y hy).elim (hwf y) fun h9 => ⟨by rw [h9]; exact (show Ex.Wf ⟨A2, cp2, (Names.only s1.sr.l e.by_.l)⟩ from ⟨by omega, by omega, hA6⟩)⟩
         refine l_nil (hKN _ _ (fun _ h => (h.sel [3, 4, 5, 6, 7, 8, 9, 10, 13, 14, 15, 16] (by decide) rfl)) ?_)
         refine n_run (f := 0) [14] rfl rfl (by kernel_rfl) (by kernel_rfl) (fun _ h => (h.sel [3, 4, 5, 6, 7, 8, 9, 10, 13, 14, 15, 16] (by decide) rfl)) fun KS hKS => ?_
         refine s_val wn (r_assign rfl) rfl ?_
         refine s_end hKS ?_
         refine n_done (by kernel_rfl) (e_go hK27 ?_)
         refine c_exit (e_then_x (e_in_hit (e_go hK7 ?_)))
         refine c_region ?_
         refine l_val wn (r_addn rfl rfl (by omega)) rfl ?_
         refine l_val wn (r_move rfl) rfl ?_
         refine l_nil (e_round3 (k + 1) (((([] : List CellX) ++ (cs.take (Mn.pos (cs.map CellX.e) (Names.only s1.sr.l e.by_.l)))) ++ ([(CellX.mk ⟨A2, cp2, (Names.only s1.sr.l e.by_.l)⟩ (if e.word = ⟨#[99, 111, 117, 110, 116]⟩ then 1 else s1.value))] : List CellX)) ++ (cs.drop (Mn.pos (cs.map CellX.e) (Names.only s1.sr.l e.by_.l)))) (.slice A5 ((((([] : List CellX) ++ (cs.take (Mn.pos (cs.map CellX.e) (Names.only s1.sr.l e.by_.l)))) ++ ([(CellX.mk ⟨A2, cp2, (Names.only s1.sr.l e.by_.l)⟩ (if e.word = ⟨#[99, 111, 117, 110, 116]⟩ then 1 else s1.value))] : List CellX)) ++ (cs.drop (Mn.pos (cs.map CellX.e) (Names.only s1.sr.l e.by_.l)))).length) cp5) (sc rfl (sc rfl (sc rfl (sc rfl (sc (ji (by omega)) sn))))) (fun _ h => (h.sel [0, 2, 13, 14, 15, 16] (by decide) rfl)) ?_ ?_)
         · obtain ⟨g1, g2, g3⟩ := Mn.all_ins (w := e.word) (by_ := e.by_.l) (s := (Names.only s1.sr.l e.by_.l)) (c := CellX.e s1) (r := (l.drop (k + 1)).map CellX.e) (x := (if e.word = ⟨#[99, 111, 117, 110, 116]⟩ then 1 else s1.value)) (z := (CellX.mk ⟨A2, cp2, (Names.only s1.sr.l e.by_.l)⟩ (if e.word = ⟨#[99, 111, 117, 110, 116]⟩ then 1 else s1.value))) rfl rfl rfl hhas hfit hb_s1
           exact ⟨by omega, hw4, by rw [hI1.2.2.1, Mn.drop_map hs1, g3, ← g1, ins9], by rw [← ins9, g1]; exact Mn.put_asc hasc, by rw [← ins9, g1]; exact g2, by rw [← ins9, ins_len (by omega)]; omega⟩
         omega
       refine n_one (i := 8) rfl fun KN hKN => ?_
       refine l_bsL cellE ([(CellX.mk ⟨A2, cp2, (Names.only s1.sr.l e.by_.l)⟩ (if e.word = ⟨#[99, 111, 117, 110, 116]⟩ then 1 else s1.value))] : List CellX) wn Try.underlying28 inf44 rfl rfl rfl rfl (by decide) (by decide) rfl fun b72 => ?_
       refine l_nil (hKN _ _ (fun _ h => (h.sel [2, 3, 4, 5, 6, 7, 8, 9, 12, 13, 14, 15] (by decide) rfl)) ?_)
       refine n_step1 (f := 3) (i := 4) rfl (by kernel_rfl) ?_
       refine n_one (i := 4) rfl fun KN hKN => ?_
       refine l_app 1 ([] : List CellX) (cs.take (Mn.pos (cs.map CellX.e) (Names.only s1.sr.l e.by_.l))) encCellX wn rfl rfl rfl (fun _ hM => (FlatSl.subOf (RowSl encCellX hM 11 rfl) (lo := 0) (hi := (Mn.pos (cs.map CellX.e) (Names.only s1.sr.l e.by_.l))) (by first | omega | (simp <;> omega)) (by first | omega | (simp <;> omega)) (by first | rfl | simp | (rw [List.take_length]; done)) rfl)) Try.underlying28 inf44 rfl rfl (by simp only [List.length_append, List.length_cons, List.length_nil, List.length_take, List.length_drop]; omega) rfl fun A6 cp6 hc12 hm12 hA12 => ?_
       refine l_nil (hKN _ _ (fun _ h => (h.sel [2, 3, 4, 5, 6, 7, 8, 9, 12, 13, 14, 15] (by decide) rfl)) ?_)
       refine n_step1 (f := 2) (i := 9) rfl (by kernel_rfl) ?_
       refine n_one (i := 9) rfl fun KN hKN => ?_
       refine l_app 1 (([] : List CellX) ++ (cs.take (Mn.pos (cs.map CellX.e) (Names.only s1.sr.l e.by_.l)))) ([(CellX.mk ⟨A2, cp2, (Names.only s1.sr.l e.by_.l)⟩ (if e.word = ⟨#[99, 111, 117, 110, 116]⟩ then 1 else s1.value))] : List CellX) encCellX wn rfl rfl rfl (fun _ hM => (RowSl encCellX hM 0 rfl)) Try.underlying28 inf44 rfl rfl (by simp only [List.length_append, List.length_cons, List.length_nil, List.length_take, List.length_drop]; omega) rfl fun A7 cp7 hc13 hm13 hA13 => ?_
       refine l_nil (hKN _ _ (fun _ h => (h.sel [2, 3, 4, 5, 6, 7, 8, 9, 12, 13, 14, 15] (by decide) rfl)) ?_)
       refine n_step1 (f := 1) (i := 13) rfl (by kernel_rfl) ?_
       refine n_one (i := 13) rfl fun KN hKN => ?_
       refine l_app 1 ((([] : List CellX) ++ (cs.take (Mn.pos (cs.map CellX.e) (Names.only s1.sr.l e.by_.l)))) ++ ([(CellX.mk ⟨A2, cp2, (Names.only s1.sr.l e.by_.l)⟩ (if e.word = ⟨#[99, 111, 117, 110, 116]⟩ then 1 else s1.value))] : List CellX)) (cs.drop (Mn.pos (cs.map CellX.e) (Names.only s1.sr.l e.by_.l))) encCellX wn rfl rfl rfl (fun _ hM => (FlatSl.subOf (RowSl encCellX hM 11 rfl) (lo := (Mn.pos (cs.map CellX.e) (Names.only s1.sr.l e.by_.l))) (hi := cs.length) (by first | omega | (simp <;> omega)) (by first | omega | (simp <;> omega)) (by first | rfl | simp | (rw [List.take_length]; done)) rfl)) Try.underlying28 inf44 rfl rfl (by simp only [List.length_append, List.length_cons, List.length_nil, List.length_take, List.length_drop]; omega) rfl fun A8 cp8 hc14 hm14 hA14 => ?_
       have ins9 : cs.take (Mn.pos (cs.map CellX.e) (Names.only s1.sr.l e.by_.l)) ++ (CellX.mk ⟨A2, cp2, (Names.only s1.sr.l e.by_.l)⟩ (if e.word = ⟨#[99, 111, 117, 110, 116]⟩ then 1 else s1.value)) :: cs.drop (Mn.pos (cs.map CellX.e) (Names.only s1.sr.l e.by_.l)) = (((([] : List CellX) ++ (cs.take (Mn.pos (cs.map CellX.e) (Names.only s1.sr.l e.by_.l)))) ++ ([(CellX.mk ⟨A2, cp2, (Names.only s1.sr.l e.by_.l)⟩ (if e.word = ⟨#[99, 111, 117, 110, 116]⟩ then 1 else s1.value))] : List CellX)) ++ (cs.drop (Mn.pos (cs.map CellX.e) (Names.only s1.sr.l e.by_.l)))) := by simp only [List.nil_append, List.append_assoc, List.singleton_append]
       refine l_opn (fun _ h => h.allIns (l' := (((([] : List CellX) ++ (cs.take (Mn.pos (cs.map CellX.e) (Names.only s1.sr.l e.by_.l)))) ++ ([(CellX.mk ⟨A2, cp2, (Names.only s1.sr.l e.by_.l)⟩ (if e.word = ⟨#[99, 111, 117, 110, 116]⟩ then 1 else s1.value))] : List CellX)) ++ (cs.drop (Mn.pos (cs.map CellX.e) (Names.only s1.sr.l e.by_.l))))) 10 2 rfl rfl (by rw [← ins9]; exact ins_of)) ?_
       have hw5 : ∀ y ∈ (((([] : List CellX) ++ (cs.take (Mn.pos (cs.map CellX.e) (Names.only s1.sr.l e.by_.l)))) ++ ([(CellX.mk ⟨A2, cp2, (Names.only s1.sr.l e.by_.l)⟩ (if e.word = ⟨#[99, 111, 117, 110, 116]⟩ then 1 else s1.value))] : List CellX)) ++ (cs.drop (Mn.pos (cs.map CellX.e) (Names.only s1.sr.l e.by_.l)))), CellX.Wf y := by rw [← ins9]; exact fun y hy => (ins_of y hy).elim (hwf y) fun h9 => ⟨by rw [h9]; exact (show Ex.Wf ⟨A2, cp2, (Names.only s1.sr.l e.by_.l)⟩ from ⟨by omega, by omega, hA6⟩)⟩
       refine l_nil (hKN _ _ (fun _ h => (h.sel [3, 4, 5, 6, 7, 8, 9, 10, 13, 14, 15, 16] (by decide) rfl)) ?_)
       refine n_run (f := 0) [14] rfl rfl (by kernel_rfl) (by kernel_rfl) (fun _ h => (h.sel [3, 4, 5, 6, 7, 8, 9, 10, 13, 14, 15, 16] (by decide) rfl)) fun KS hKS => ?_
       refine s_val wn (r_assign rfl) rfl ?_
       refine s_end hKS ?_
       refine n_done (by kernel_rfl) (e_go hK27 ?_)
       refine c_exit (e_then_x (e_in_hit (e_go hK7 ?_)))
       refine c_region ?_
       refine l_val wn (r_addn rfl rfl (by omega)) rfl ?_
       refine l_val wn (r_move rfl) rfl ?_
       refine l_nil (e_round3 (k + 1) (((([] : List CellX) ++ (cs.take (Mn.pos (cs.map CellX.e) (Names.only s1.sr.l e.by_.l)))) ++ ([(CellX.mk ⟨A2, cp2, (Names.only s1.sr.l e.by_.l)⟩ (if e.word = ⟨#[99, 111, 117, 110, 116]⟩ then 1 else s1.value))] : List CellX)) ++ (cs.drop (Mn.pos (cs.map CellX.e) (Names.only s1.sr.l e.by_.l)))) (.slice A8 ((((([] : List CellX) ++ (cs.take (Mn.pos (cs.map CellX.e) (Names.only s1.sr.l e.by_.l)))) ++ ([(CellX.mk ⟨A2, cp2, (Names.only s1.sr.l e.by_.l)⟩ (if e.word = ⟨#[99, 111, 117, 110, 116]⟩ then 1 else s1.value))] : List CellX)) ++ (cs.drop (Mn.pos (cs.map CellX.e) (Names.only s1.sr.l e.by_.l)))).length) cp8) (sc rfl (sc rfl (sc rfl (sc rfl (sc (ji (by omega)) sn))))) (fun _ h => (h.sel [0, 2, 13, 14, 15, 16] (by decide) rfl)) ?_ ?_)
       · obtain ⟨g1, g2, g3⟩ := Mn.all_ins (w := e.word) (by_ := e.by_.l) (s := (Names.only s1.sr.l e.by_.l)) (c := CellX.e s1) (r := (l.drop (k + 1)).map CellX.e) (x := (if e.word = ⟨#[99, 111, 117, 110, 116]⟩ then 1 else s1.value)) (z := (CellX.mk ⟨A2, cp2, (Names.only s1.sr.l e.by_.l)⟩ (if e.word = ⟨#[99, 111, 117, 110, 116]⟩ then 1 else s1.value))) rfl rfl rfl hhas hfit hb_s1
         exact ⟨by omega, hw5, by rw [hI1.2.2.1, Mn.drop_map hs1, g3, ← g1, ins9], by rw [← ins9, g1]; exact Mn.put_asc hasc, by rw [← ins9, g1]; exact g2, by rw [← ins9, ins_len (by omega)]; omega⟩
       omega
     refine n_one (i := 8) rfl fun KN hKN => ?_
     refine l_bsL cellE ([(CellX.mk ⟨A2, cp2, (Names.only s1.sr.l e.by_.l)⟩ (if e.word = ⟨#[99, 111, 117, 110, 116]⟩ then 1 else s1.value))] : List CellX) wn Try.underlying28 inf44 rfl rfl rfl rfl (by decide) (by decide) rfl fun b72 => ?_
     refine l_nil (hKN _ _ (fun _ h => (h.sel [1, 2, 3, 4, 5, 6, 7, 8, 11, 12, 13, 14] (by decide) rfl)) ?_)
     refine n_step1 (f := 4) (i := 0) rfl (by kernel_rfl) ?_
     refine n_one (i := 0) rfl fun KN hKN => ?_
     refine l_bsL0 cellE wn Try.underlying28 inf44 rfl fun b64 => ?_
     refine l_nil (hKN _ _ (fun _ h => (h.sel [2, 3, 4, 5, 6, 7, 8, 9, 12, 13, 14, 15] (by decide) rfl)) ?_)
     refine n_step1 (f := 3) (i := 4) rfl (by kernel_rfl) ?_
     refine n_one (i := 4) rfl fun KN hKN => ?_
     refine l_app 0 ([] : List CellX) (cs.take (Mn.pos (cs.map CellX.e) (Names.only s1.sr.l e.by_.l))) encCellX wn rfl rfl rfl (fun _ hM => (FlatSl.subOf (RowSl encCellX hM 11 rfl) (lo := 0) (hi := (Mn.pos (cs.map CellX.e) (Names.only s1.sr.l e.by_.l))) (by first | omega | (simp <;> omega)) (by first | omega | (simp <;> omega)) (by first | rfl | simp | (rw [List.take_length]; done)) rfl)) Try.underlying28 inf44 rfl rfl (by simp only [List.length_append, List.length_cons, List.length_nil, List.length_take, List.length_drop]; omega) rfl fun A9 cp9 hc15 hm15 hA15 => ?_
     refine l_nil (hKN _ _ (fun _ h => (h.sel [2, 3, 4, 5, 6, 7, 8, 9, 12, 13, 14, 15] (by decide) rfl)) ?_)
     refine n_step1 (f := 2) (i := 9) rfl (by kernel_rfl) ?_
     refine n_one (i := 9) rfl fun KN hKN => ?_
     refine l_app 0 (([] : List CellX) ++ (cs.take (Mn.pos (cs.map CellX.e) (Names.only s1.sr.l e.by_.l)))) ([(CellX.mk ⟨A2, cp2, (Names.only s1.sr.l e.by_.l)⟩ (if e.word = ⟨#[99, 111, 117, 110, 116]⟩ then 1 else s1.value))] : List CellX) encCellX wn rfl rfl rfl (fun _ hM => (RowSl encCellX hM 1 rfl)) Try.underlying28 inf44 rfl rfl (by simp only [List.length_append, List.length_cons, List.length_nil, List.length_take, List.length_drop]; omega) rfl fun A10 cp10 hc16 hm16 hA16 => ?_
     refine l_nil (hKN _ _ (fun _ h => (h.sel [2, 3, 4, 5, 6, 7, 8, 9, 12, 13, 14, 15] (by decide) rfl)) ?_)
     refine n_step1 (f := 1) (i := 13) rfl (by kernel_rfl) ?_
     refine n_one (i := 13) rfl fun KN hKN => ?_
     refine l_app 0 ((([] : List CellX) ++ (cs.take (Mn.pos (cs.map CellX.e) (Names.only s1.sr.l e.by_.l)))) ++ ([(CellX.mk ⟨A2, cp2, (Names.only s1.sr.l e.by_.l)⟩ (if e.word = ⟨#[99, 111, 117, 110, 116]⟩ then 1 else s1.value))] : List CellX)) (cs.drop (Mn.pos (cs.map CellX.e) (Names.only s1.sr.l e.by_.l))) encCellX wn rfl rfl rfl (fun _ hM => (FlatSl.subOf (RowSl encCellX hM 11 rfl) (lo := (Mn.pos (cs.map CellX.e) (Names.only s1.sr.l e.by_.l))) (hi := cs.length) (by first | omega | (simp <;> omega)) (by first | omega | (simp <;> omega)) (by first | rfl | simp | (rw [List.take_length]; done)) rfl)) Try.underlying28 inf44 rfl rfl (by simp only [List.length_append, List.length_cons, List.length_nil, List.length_take, List.length_drop]; omega) rfl fun A11 cp11 hc17 hm17 hA17 => ?_
     have ins9 : cs.take (Mn.pos (cs.map CellX.e) (Names.only s1.sr.l e.by_.l)) ++ (CellX.mk ⟨A2, cp2, (Names.only s1.sr.l e.by_.l)⟩ (if e.word = ⟨#[99, 111, 117, 110, 116]⟩ then 1 else s1.value)) :: cs.drop (Mn.pos (cs.map CellX.e) (Names.only s1.sr.l e.by_.l)) = (((([] : List CellX) ++ (cs.take (Mn.pos (cs.map CellX.e) (Names.only s1.sr.l e.by_.l)))) ++ ([(CellX.mk ⟨A2, cp2, (Names.only s1.sr.l e.by_.l)⟩ (if e.word = ⟨#[99, 111, 117, 110, 116]⟩ then 1 else s1.value))] : List CellX)) ++ (cs.drop (Mn.pos (cs.map CellX.e) (Names.only s1.sr.l e.by_.l)))) := by simp only [List.nil_append, List.append_assoc, List.singleton_append]
     refine l_opn (fun _ h => h.allIns (l' := (((([] : List CellX) ++ (cs.take (Mn.pos (cs.map CellX.e) (Names.only s1.sr.l e.by_.l)))) ++ ([(CellX.mk ⟨A2, cp2, (Names.only s1.sr.l e.by_.l)⟩ (if e.word = ⟨#[99, 111, 117, 110, 116]⟩ then 1 else s1.value))] : List CellX)) ++ (cs.drop (Mn.pos (cs.map CellX.e) (Names.only s1.sr.l e.by_.l))))) 10 2 rfl rfl (by rw [← ins9]; exact ins_of)) ?_
     have hw6 : ∀ y ∈ (((([] : List CellX) ++ (cs.take (Mn.pos (cs.map CellX.e) (Names.only s1.sr.l e.by_.l)))) ++ ([(CellX.mk ⟨A2, cp2, (Names.only s1.sr.l e.by_.l)⟩ (if e.word = ⟨#[99, 111, 117, 110, 116]⟩ then 1 else s1.value))] : List CellX)) ++ (cs.drop (Mn.pos (cs.map CellX.e) (Names.only s1.sr.l e.by_.l)))), CellX.Wf y := by rw [← ins9]; exact fun y hy => (ins_of y hy).elim (hwf y) fun h9 => ⟨by rw [h9]; exact (show Ex.Wf ⟨A2, cp2, (Names.only s1.sr.l e.by_.l)⟩ from ⟨by omega, by omega, hA6⟩)⟩
     refine l_nil (hKN _ _ (fun _ h => (h.sel [3, 4, 5, 6, 7, 8, 9, 10, 13, 14, 15, 16] (by decide) rfl)) ?_)
     refine n_run (f := 0) [14] rfl rfl (by kernel_rfl) (by kernel_rfl) (fun _ h => (h.sel [3, 4, 5, 6, 7, 8, 9, 10, 13, 14, 15, 16] (by decide) rfl)) fun KS hKS => ?_
     refine s_val wn (r_assign rfl) rfl ?_
     refine s_end hKS ?_
     refine n_done (by kernel_rfl) (e_go hK27 ?_)
     refine c_exit (e_then_x (e_in_hit (e_go hK7 ?_)))
     refine c_region ?_
     refine l_val wn (r_addn rfl rfl (by omega)) rfl ?_
     refine l_val wn (r_move rfl) rfl ?_
     refine l_nil (e_round3 (k + 1) (((([] : List CellX) ++ (cs.take (Mn.pos (cs.map CellX.e) (Names.only s1.sr.l e.by_.l)))) ++ ([(CellX.mk ⟨A2, cp2, (Names.only s1.sr.l e.by_.l)⟩ (if e.word = ⟨#[99, 111, 117, 110, 116]⟩ then 1 else s1.value))] : List CellX)) ++ (cs.drop (Mn.pos (cs.map CellX.e) (Names.only s1.sr.l e.by_.l)))) (.slice A11 ((((([] : List CellX) ++ (cs.take (Mn.pos (cs.map CellX.e) (Names.only s1.sr.l e.by_.l)))) ++ ([(CellX.mk ⟨A2, cp2, (Names.only s1.sr.l e.by_.l)⟩ (if e.word = ⟨#[99, 111, 117, 110, 116]⟩ then 1 else s1.value))] : List CellX)) ++ (cs.drop (Mn.pos (cs.map CellX.e) (Names.only s1.sr.l e.by_.l)))).length) cp11) (sc rfl (sc rfl (sc rfl (sc rfl (sc (ji (by omega)) sn))))) (fun _ h => (h.sel [0, 1, 13, 14, 15, 16] (by decide) rfl)) ?_ ?_)
     · obtain ⟨g1, g2, g3⟩ := Mn.all_ins (w := e.word) (by_ := e.by_.l) (s := (Names.only s1.sr.l e.by_.l)) (c := CellX.e s1) (r := (l.drop (k + 1)).map CellX.e) (x := (if e.word = ⟨#[99, 111, 117, 110, 116]⟩ then 1 else s1.value)) (z := (CellX.mk ⟨A2, cp2, (Names.only s1.sr.l e.by_.l)⟩ (if e.word = ⟨#[99, 111, 117, 110, 116]⟩ then 1 else s1.value))) rfl rfl rfl hhas hfit hb_s1
       exact ⟨by omega, hw6, by rw [hI1.2.2.1, Mn.drop_map hs1, g3, ← g1, ins9], by rw [← ins9, g1]; exact Mn.put_asc hasc, by rw [← ins9, g1]; exact g2, by rw [← ins9, ins_len (by omega)]; omega⟩
     omega
   obtain ⟨q9, y9, hq9, hy9, hs9⟩ := (hI2.2).resolve_left (fun h => by omega)
   obtain ⟨hp9, hh9⟩ := Mn.pos_of hasc hy9 hs9
   have hql := (List.getElem?_eq_some_iff.1 hy9).1
   have hb_y9 := Mn.Fit.at_ hfit hy9
   refine c_skip (e_go hK21 ?_)
   refine c_seq fun _ hK28 => ?_
   refine c_region ?_
   refine l_val wn (r_move rfl) rfl ?_
   refine l_val wn (r_move rfl) rfl ?_
   obtain ⟨ad4, hd4⟩ := hA1 (ne_nil (i := q9) (by first | omega | (simp <;> omega)))
   refine l_val wn (r_ia (i := q9) rfl hd4 rfl (by omega) (by first | omega | (simp <;> omega)) Try.underlying28 inf44) rfl ?_
   refine l_val wn (r_assign rfl) rfl ?_
   refine l_nil (e_go hK28 ?_)
   refine c_block ?_
   refine c_cut [(2, .pointer (some ⟨b2, 0, none⟩)), (7, .slice A1 cs.length cp1), (13, .int .i64 (if e.word = ⟨#[99, 111, 117, 110, 116]⟩ then 1 else s1.value)), (15, .pointer (some ((Addr.add ad4 (q9 * 2)).add 0))), (16, .slice lA l.length lc), (17, .int .i64 (l.length : Int)), (18, .int .i64 (k : Int)), (81, .bool (decide ((((e.word = ⟨#[109, 97, 120]⟩) ∧ (y9.value < (if e.word = ⟨#[99, 111, 117, 110, 116]⟩ then 1 else s1.value))) ∧ ((e.word = ⟨#[109, 97, 120]⟩) ∧ (y9.value < (if e.word = ⟨#[99, 111, 117, 110, 116]⟩ then 1 else s1.value)))) ∨ (¬ ((e.word = ⟨#[109, 97, 120]⟩) ∧ (y9.value < (if e.word = ⟨#[99, 111, 117, 110, 116]⟩ then 1 else s1.value))) ∧ ((e.word = ⟨#[109, 105, 110]⟩) ∧ ((if e.word = ⟨#[99, 111, 117, 110, 116]⟩ then 1 else s1.value) < y9.value))))))] (Mem w ⟨no, P0⟩ [Row (.slice A2 ((Names.only s1.sr.l e.by_.l).length) cp2) 51 2 labelE (Names.only s1.sr.l e.by_.l), slP 3 matchE (.slice e.ms.A e.ms.l.length e.ms.c) e.ms.l, slP 1 strE (.slice e.by_.A e.by_.l.length e.by_.c) e.by_.l, slP 7 exprE (.slice e.kids.A e.kids.l.length e.kids.c) e.kids.l, allP ExprX.Ok e.kids.l, slP 2 labelE (.slice s1.sr.A s1.sr.l.length s1.sr.c) s1.sr.l, okP CellX.Ok s1, .blk b9 [.slice s1.sr.A s1.sr.l.length s1.sr.c, .int .i64 s1.value] 44, allP CellX.Ok cs, Row (.slice A1 cs.length cp1) 44 2 cellE cs, .blk b2 [.int .i64 e.kind, .int .i64 e.n, .int .i64 e.range, .string e.word, .slice e.ms.A e.ms.l.length e.ms.c, .slice e.by_.A e.by_.l.length e.by_.c, .slice e.kids.A e.kids.l.length e.kids.c] 27, okP ExprX.Ok e, slP 2 cellE (.slice lA l.length lc) l, allP CellX.Ok l]) (fun _ hK29 => ?_) ?_
   · refine c_cut [(2, .pointer (some ⟨b2, 0, none⟩)), (7, .slice A1 cs.length cp1), (13, .int .i64 (if e.word = ⟨#[99, 111, 117, 110, 116]⟩ then 1 else s1.value)), (15, .pointer (some ((Addr.add ad4 (q9 * 2)).add 0))), (16, .slice lA l.length lc), (17, .int .i64 (l.length : Int)), (18, .int .i64 (k : Int)), (81, .bool (decide ((e.word = ⟨#[109, 97, 120]⟩) ∧ (y9.value < (if e.word = ⟨#[99, 111, 117, 110, 116]⟩ then 1 else s1.value)))))] (Mem w ⟨no, P0⟩ [Row (.slice A2 ((Names.only s1.sr.l e.by_.l).length) cp2) 51 2 labelE (Names.only s1.sr.l e.by_.l), slP 3 matchE (.slice e.ms.A e.ms.l.length e.ms.c) e.ms.l, slP 1 strE (.slice e.by_.A e.by_.l.length e.by_.c) e.by_.l, slP 7 exprE (.slice e.kids.A e.kids.l.length e.kids.c) e.kids.l, allP ExprX.Ok e.kids.l, slP 2 labelE (.slice s1.sr.A s1.sr.l.length s1.sr.c) s1.sr.l, okP CellX.Ok s1, .blk b9 [.slice s1.sr.A s1.sr.l.length s1.sr.c, .int .i64 s1.value] 44, allP CellX.Ok cs, Row (.slice A1 cs.length cp1) 44 2 cellE cs, .blk b2 [.int .i64 e.kind, .int .i64 e.n, .int .i64 e.range, .string e.word, .slice e.ms.A e.ms.l.length e.ms.c, .slice e.by_.A e.by_.l.length e.by_.c, .slice e.kids.A e.kids.l.length e.kids.c] 27, okP ExprX.Ok e, slP 2 cellE (.slice lA l.length lc) l, allP CellX.Ok l]) (fun _ hK30 => ?_) ?_
     · refine c_region ?_
       refine l_val wn (r_fa rfl fld27_3) rfl ?_
       refine l_val wn (r_lb 10 rfl rfl rfl flat9) rfl ?_
       refine l_val wn (r_seql rfl rfl) rfl ?_
       refine l_val wn (r_move rfl) rfl ?_
       refine l_case (t := 85) rfl (fun h8 => ?_) (fun h8 => ?_)
       · refine l_val (wg rfl rfl rfl) (r_move rfl) rfl ?_
         refine l_val (wg rfl rfl rfl) (r_move rfl) rfl ?_
         refine l_val (wg rfl rfl rfl) (r_nilCheck rfl) rfl ?_
         refine l_val (wg rfl rfl rfl) (r_fe rfl fld44_1) rfl ?_
         refine l_val (wg rfl rfl rfl) (r_rl 9 encCellX rfl rfl hd4 hy9 rfl flat3) rfl ?_
         refine l_val (wg rfl rfl rfl) (r_gtr rfl rfl) rfl ?_
         refine l_val wn (r_pick rfl rfl) rfl ?_
         refine l_val wn (r_assign rfl) rfl ?_
         refine l_nil (e_cut hK30 (sc rfl (sc rfl (sc rfl (sc rfl (sc rfl (sc rfl (sc rfl (sc (jp (iff_and_right h8 Iff.rfl)) sn)))))))) (fun _ h => h))
       refine l_skip (wg rfl rfl rfl) rfl ?_
       refine l_skip (wg rfl rfl rfl) rfl ?_
       refine l_skip (wg rfl rfl rfl) rfl ?_
       refine l_skip (wg rfl rfl rfl) rfl ?_
       refine l_skip (wg rfl rfl rfl) rfl ?_
       refine l_skip (wg rfl rfl rfl) rfl ?_
       refine l_val wn (r_pick rfl rfl) rfl ?_
       refine l_val wn (r_assign rfl) rfl ?_
       refine l_nil (e_cut hK30 (sc rfl (sc rfl (sc rfl (sc rfl (sc rfl (sc rfl (sc rfl (sc (jf (fun g => h8 g.1)) sn)))))))) (fun _ h => h))
     refine c_cond rfl (fun h9 => ?_) (fun h9 => ?_)
     · refine c_skip (e_cut hK29 (sc rfl (sc rfl (sc rfl (sc rfl (sc rfl (sc rfl (sc rfl (sc (jp (iff_ite_l h9 Iff.rfl)) sn)))))))) (fun _ h => h))
     refine c_region ?_
     refine l_val wn (r_fa rfl fld27_3) rfl ?_
     refine l_val wn (r_lb 10 rfl rfl rfl flat9) rfl ?_
     refine l_val wn (r_seql rfl rfl) rfl ?_
     refine l_val wn (r_move rfl) rfl ?_
     refine l_case (t := 96) rfl (fun h10 => ?_) (fun h10 => ?_)
     · refine l_val (wg rfl rfl rfl) (r_move rfl) rfl ?_
       refine l_val (wg rfl rfl rfl) (r_move rfl) rfl ?_
       refine l_val (wg rfl rfl rfl) (r_nilCheck rfl) rfl ?_
       refine l_val (wg rfl rfl rfl) (r_fe rfl fld44_1) rfl ?_
       refine l_val (wg rfl rfl rfl) (r_rl 9 encCellX rfl rfl hd4 hy9 rfl flat3) rfl ?_
       refine l_val (wg rfl rfl rfl) (r_lss rfl rfl) rfl ?_
       refine l_val wn (r_pick rfl rfl) rfl ?_
       refine l_val wn (r_assign rfl) rfl ?_
       refine l_nil (e_cut hK29 (sc rfl (sc rfl (sc rfl (sc rfl (sc rfl (sc rfl (sc rfl (sc (jp (iff_ite_r h9 (iff_and_right h10 Iff.rfl))) sn)))))))) (fun _ h => h))
     refine l_skip (wg rfl rfl rfl) rfl ?_
     refine l_skip (wg rfl rfl rfl) rfl ?_
     refine l_skip (wg rfl rfl rfl) rfl ?_
     refine l_skip (wg rfl rfl rfl) rfl ?_
     refine l_skip (wg rfl rfl rfl) rfl ?_
     refine l_skip (wg rfl rfl rfl) rfl ?_
     refine l_val wn (r_pick rfl rfl) rfl ?_
     refine l_val wn (r_assign rfl) rfl ?_
     refine l_nil (e_cut hK29 (sc rfl (sc rfl (sc rfl (sc rfl (sc rfl (sc rfl (sc rfl (sc (jf (fun g => g.elim (fun k => h9 k.1) (fun k => (fun g => h10 g.1) k.2))) sn)))))))) (fun _ h => h))
   refine c_cond rfl (fun h11 => ?_) (fun h11 => ?_)
   · refine c_region ?_
     refine l_val wn (r_move rfl) rfl ?_
     refine l_val wn (r_move rfl) rfl ?_
     refine l_val wn (r_nilCheck rfl) rfl ?_
     refine l_val wn (r_fe rfl fld44_1) rfl ?_
     refine l_rst 9 (vs := [.int .i64 (if e.word = ⟨#[99, 111, 117, 110, 116]⟩ then 1 else s1.value)]) (CellX.mk ⟨y9.sr.A, y9.sr.c, y9.sr.l⟩ (if e.word = ⟨#[99, 111, 117, 110, 116]⟩ then 1 else s1.value)) encCellX wn rfl rfl rfl rfl hd4 hy9 inf3 rfl rfl rfl rfl ?_
     refine l_opn (fun _ h => h.allOf (l' := (cs.set q9 (CellX.mk ⟨y9.sr.A, y9.sr.c, y9.sr.l⟩ (if e.word = ⟨#[99, 111, 117, 110, 116]⟩ then 1 else s1.value)))) 8 rfl (set_of hy9 rfl)) ?_
     have hw7 : ∀ x ∈ (cs.set q9 (CellX.mk ⟨y9.sr.A, y9.sr.c, y9.sr.l⟩ (if e.word = ⟨#[99, 111, 117, 110, 116]⟩ then 1 else s1.value))), CellX.Wf x := fun x hx => by obtain ⟨y, hy, e⟩ := set_of (z := (CellX.mk ⟨y9.sr.A, y9.sr.c, y9.sr.l⟩ (if e.word = ⟨#[99, 111, 117, 110, 116]⟩ then 1 else s1.value))) hy9 rfl x hx; exact ⟨by rw [e]; exact (hwf y hy).sr⟩
     refine l_nil (e_in_n (e_in_n (e_go hK7 ?_)))
     refine c_region ?_
     refine l_val wn (r_addn rfl rfl (by omega)) rfl ?_
     refine l_val wn (r_move rfl) rfl ?_
     refine l_nil (e_round3 (k + 1) (cs.set q9 (CellX.mk ⟨y9.sr.A, y9.sr.c, y9.sr.l⟩ (if e.word = ⟨#[99, 111, 117, 110, 116]⟩ then 1 else s1.value))) (.slice A1 cs.length cp1) (sc rfl (sc rfl (sc rfl (sc rfl (sc (ji (by omega)) sn))))) (fun _ h => (h.sel [0, 10, 11, 12, 13, 14] (by decide) rfl)) ?_ ?_)
     · obtain ⟨g1, g2, _⟩ := Mn.all_set (w := e.word) (by_ := e.by_.l) (s := (Names.only s1.sr.l e.by_.l)) (c := CellX.e s1) (r := (l.drop (k + 1)).map CellX.e) (x := (if e.word = ⟨#[99, 111, 117, 110, 116]⟩ then 1 else s1.value)) (d := y9) (z := (CellX.mk ⟨y9.sr.A, y9.sr.c, y9.sr.l⟩ (if e.word = ⟨#[99, 111, 117, 110, 116]⟩ then 1 else s1.value))) rfl rfl hasc hh9 hfit (by rw [hp9]; exact hy9) rfl (by show _ = Mn.comb e.word y9.value (if e.word = ⟨#[99, 111, 117, 110, 116]⟩ then 1 else s1.value); unfold Mn.comb; rcases hw with hw | hw | hw | hw <;> grind)
       obtain ⟨g3, g4⟩ := g2 (show Mn.fits (CellX.mk ⟨y9.sr.A, y9.sr.c, y9.sr.l⟩ (if e.word = ⟨#[99, 111, 117, 110, 116]⟩ then 1 else s1.value)).value = true from by first | (simpa using h11) | exact Mn.fits_iff.2 hb_y9 | exact Mn.fits_iff.2 hux)
       rw [hp9] at g1
       exact ⟨by omega, hw7, by rw [hI1.2.2.1, Mn.drop_map hs1, g4, ← g1], by rw [g1]; exact Mn.put_asc hasc, by rw [g1]; exact g3, by rw [List.length_set]; omega⟩
     omega
   refine c_cut [(2, .pointer (some ⟨b2, 0, none⟩)), (7, .slice A1 cs.length cp1), (13, .int .i64 (if e.word = ⟨#[99, 111, 117, 110, 116]⟩ then 1 else s1.value)), (15, .pointer (some ((Addr.add ad4 (q9 * 2)).add 0))), (16, .slice lA l.length lc), (17, .int .i64 (l.length : Int)), (18, .int .i64 (k : Int)), (108, .bool (decide ((e.word = ⟨#[115, 117, 109]⟩) ∨ (e.word = ⟨#[99, 111, 117, 110, 116]⟩))))] (Mem w ⟨no, P0⟩ [Row (.slice A2 ((Names.only s1.sr.l e.by_.l).length) cp2) 51 2 labelE (Names.only s1.sr.l e.by_.l), slP 3 matchE (.slice e.ms.A e.ms.l.length e.ms.c) e.ms.l, slP 1 strE (.slice e.by_.A e.by_.l.length e.by_.c) e.by_.l, slP 7 exprE (.slice e.kids.A e.kids.l.length e.kids.c) e.kids.l, allP ExprX.Ok e.kids.l, slP 2 labelE (.slice s1.sr.A s1.sr.l.length s1.sr.c) s1.sr.l, okP CellX.Ok s1, .blk b9 [.slice s1.sr.A s1.sr.l.length s1.sr.c, .int .i64 s1.value] 44, allP CellX.Ok cs, Row (.slice A1 cs.length cp1) 44 2 cellE cs, .blk b2 [.int .i64 e.kind, .int .i64 e.n, .int .i64 e.range, .string e.word, .slice e.ms.A e.ms.l.length e.ms.c, .slice e.by_.A e.by_.l.length e.by_.c, .slice e.kids.A e.kids.l.length e.kids.c] 27, okP ExprX.Ok e, slP 2 cellE (.slice lA l.length lc) l, allP CellX.Ok l]) (fun _ hK31 => ?_) ?_
   · refine c_region ?_
     refine l_val wn (r_fa rfl fld27_3) rfl ?_
     refine l_val wn (r_lb 10 rfl rfl rfl flat9) rfl ?_
     refine l_val wn (r_seql rfl rfl) rfl ?_
     refine l_val wn (r_move rfl) rfl ?_
     refine l_case (t := 112) rfl (fun h12 => ?_) (fun h12 => ?_)
     · refine l_skip (wg rfl rfl rfl) rfl ?_
       refine l_skip (wg rfl rfl rfl) rfl ?_
       refine l_skip (wg rfl rfl rfl) rfl ?_
       refine l_val wn (r_pick rfl rfl) rfl ?_
       refine l_val wn (r_assign rfl) rfl ?_
       refine l_nil (e_cut hK31 (sc rfl (sc rfl (sc rfl (sc rfl (sc rfl (sc rfl (sc rfl (sc (jt (Or.inl h12)) sn)))))))) (fun _ h => h))
     refine l_val (wg rfl rfl rfl) (r_fa rfl fld27_3) rfl ?_
     refine l_val (wg rfl rfl rfl) (r_lb 10 rfl rfl rfl flat9) rfl ?_
     refine l_val (wg rfl rfl rfl) (r_seql rfl rfl) rfl ?_
     refine l_val wn (r_pick rfl rfl) rfl ?_
     refine l_val wn (r_assign rfl) rfl ?_
     refine l_nil (e_cut hK31 (sc rfl (sc rfl (sc rfl (sc rfl (sc rfl (sc rfl (sc rfl (sc (jp (iff_or_right h12 Iff.rfl)) sn)))))))) (fun _ h => h))
   refine c_cond rfl (fun h13 => ?_) (fun h13 => ?_)
   · refine c_seq fun _ hK32 => ?_
     refine c_region ?_
     refine l_val wn (r_move rfl) rfl ?_
     refine l_val wn (r_move rfl) rfl ?_
     refine l_val wn (r_nilCheck rfl) rfl ?_
     refine l_val wn (r_fe rfl fld44_1) rfl ?_
     refine l_val wn (r_rl 9 encCellX rfl rfl hd4 hy9 rfl flat3) rfl ?_
     refine l_val wn (r_move rfl) rfl ?_
     refine l_val wn (r_addn rfl rfl (by omega)) rfl ?_
     refine l_val wn (r_nilCheck rfl) rfl ?_
     refine l_val wn (r_fe rfl fld44_1) rfl ?_
     refine l_rst 9 (vs := [.int .i64 (y9.value + (if e.word = ⟨#[99, 111, 117, 110, 116]⟩ then 1 else s1.value))]) (CellX.mk ⟨y9.sr.A, y9.sr.c, y9.sr.l⟩ (y9.value + (if e.word = ⟨#[99, 111, 117, 110, 116]⟩ then 1 else s1.value))) encCellX wn rfl rfl rfl rfl hd4 hy9 inf3 rfl rfl rfl rfl ?_
     refine l_opn (fun _ h => h.allOf (l' := (cs.set q9 (CellX.mk ⟨y9.sr.A, y9.sr.c, y9.sr.l⟩ (y9.value + (if e.word = ⟨#[99, 111, 117, 110, 116]⟩ then 1 else s1.value))))) 8 rfl (set_of hy9 rfl)) ?_
     have hw8 : ∀ x ∈ (cs.set q9 (CellX.mk ⟨y9.sr.A, y9.sr.c, y9.sr.l⟩ (y9.value + (if e.word = ⟨#[99, 111, 117, 110, 116]⟩ then 1 else s1.value)))), CellX.Wf x := fun x hx => by obtain ⟨y, hy, e⟩ := set_of (z := (CellX.mk ⟨y9.sr.A, y9.sr.c, y9.sr.l⟩ (y9.value + (if e.word = ⟨#[99, 111, 117, 110, 116]⟩ then 1 else s1.value)))) hy9 rfl x hx; exact ⟨by rw [e]; exact (hwf y hy).sr⟩
     refine l_nil (e_go hK32 ?_)
     refine c_seq fun _ hK33 => ?_
     refine c_region ?_
     refine l_val wn (r_move rfl) rfl ?_
     refine l_val wn (r_nilCheck rfl) rfl ?_
     refine l_val wn (r_fe rfl fld44_1) rfl ?_
     refine l_val wn (r_rl 10 encCellX rfl rfl hd4 (set_at hy9) rfl flat3) rfl ?_
     refine l_callF wn rfl Try.call65 rfl (fun w1 hM => c_big ((CellX.mk ⟨y9.sr.A, y9.sr.c, y9.sr.l⟩ (y9.value + (if e.word = ⟨#[99, 111, 117, 110, 116]⟩ then 1 else s1.value))).value) w1) ?_
     refine l_nil (e_go hK33 ?_)
     refine c_condb rfl (fun h14 => ?_) (fun h14 => ?_)
     · refine c_seq fun _ hK34 => ?_
       refine c_region ?_
       refine l_val wn (r_assign rfl) rfl ?_
       refine l_val wn (r_assign rfl) rfl ?_
       refine l_val wn (r_assign rfl) rfl ?_
       refine l_nil (e_go hK34 ?_)
       refine c_ret (e_in_r (e_in_r (e_then_r (e_loop3_r (e_in_r (e_then_r (e_ret3 (.inl rfl) Try.results47 (rv_tmp rfl) (rv_tmp rfl) (rv_tmp rfl) fun w1 hM => ?_)))))))
       obtain ⟨g1, _, g2⟩ := Mn.all_set (w := e.word) (by_ := e.by_.l) (s := (Names.only s1.sr.l e.by_.l)) (c := CellX.e s1) (r := (l.drop (k + 1)).map CellX.e) (x := (if e.word = ⟨#[99, 111, 117, 110, 116]⟩ then 1 else s1.value)) (d := y9) (z := (CellX.mk ⟨y9.sr.A, y9.sr.c, y9.sr.l⟩ (y9.value + (if e.word = ⟨#[99, 111, 117, 110, 116]⟩ then 1 else s1.value)))) rfl rfl hasc hh9 hfit (by rw [hp9]; exact hy9) rfl (by show _ = Mn.comb e.word y9.value (if e.word = ⟨#[99, 111, 117, 110, 116]⟩ then 1 else s1.value); unfold Mn.comb; rcases hw with hw | hw | hw | hw <;> grind)
       have hb9 : Mn.rout (Mn.all e.word e.by_.l (l.map CellX.e)) = ([], false, 3) := by rw [Mn.all, hI1.2.2.1, Mn.drop_map hs1, g2 (by simpa using h14)]; rfl
       exact hM.retE (⟨none, 0, []⟩ : SlX CellX) (by first | (rw [hb9]; done) | (rw [hb9]; rfl)) (by first | (rw [hb9]; done) | (rw [hb9]; rfl)) fun Pb pp => ⟨FlatSl.nil_ _ _ _ _, fun c hc => (by cases hc)⟩
     refine c_skip (e_in_n (e_in_n (e_go hK7 ?_)))
     refine c_region ?_
     refine l_val wn (r_addn rfl rfl (by omega)) rfl ?_
     refine l_val wn (r_move rfl) rfl ?_
     refine l_nil (e_round3 (k + 1) (cs.set q9 (CellX.mk ⟨y9.sr.A, y9.sr.c, y9.sr.l⟩ (y9.value + (if e.word = ⟨#[99, 111, 117, 110, 116]⟩ then 1 else s1.value)))) (.slice A1 cs.length cp1) (sc rfl (sc rfl (sc rfl (sc rfl (sc (ji (by omega)) sn))))) (fun _ h => (h.sel [0, 10, 11, 12, 13, 14] (by decide) rfl)) ?_ ?_)
     · obtain ⟨g1, g2, _⟩ := Mn.all_set (w := e.word) (by_ := e.by_.l) (s := (Names.only s1.sr.l e.by_.l)) (c := CellX.e s1) (r := (l.drop (k + 1)).map CellX.e) (x := (if e.word = ⟨#[99, 111, 117, 110, 116]⟩ then 1 else s1.value)) (d := y9) (z := (CellX.mk ⟨y9.sr.A, y9.sr.c, y9.sr.l⟩ (y9.value + (if e.word = ⟨#[99, 111, 117, 110, 116]⟩ then 1 else s1.value)))) rfl rfl hasc hh9 hfit (by rw [hp9]; exact hy9) rfl (by show _ = Mn.comb e.word y9.value (if e.word = ⟨#[99, 111, 117, 110, 116]⟩ then 1 else s1.value); unfold Mn.comb; rcases hw with hw | hw | hw | hw <;> grind)
       obtain ⟨g3, g4⟩ := g2 (show Mn.fits (CellX.mk ⟨y9.sr.A, y9.sr.c, y9.sr.l⟩ (y9.value + (if e.word = ⟨#[99, 111, 117, 110, 116]⟩ then 1 else s1.value))).value = true from by first | (simpa using h14) | exact Mn.fits_iff.2 hb_y9 | exact Mn.fits_iff.2 hux)
       rw [hp9] at g1
       exact ⟨by omega, hw8, by rw [hI1.2.2.1, Mn.drop_map hs1, g4, ← g1], by rw [g1]; exact Mn.put_asc hasc, by rw [g1]; exact g3, by rw [List.length_set]; omega⟩
     omega
   refine c_skip (e_in_n (e_in_n (e_go hK7 ?_)))
   refine c_region ?_
   refine l_val wn (r_addn rfl rfl (by omega)) rfl ?_
   refine l_val wn (r_move rfl) rfl ?_
   refine l_nil (e_round3 (k + 1) cs (.slice A1 cs.length cp1) (sc rfl (sc rfl (sc rfl (sc rfl (sc (ji (by omega)) sn))))) (fun _ h => (h.sel [8, 9, 10, 11, 12, 13] (by decide) rfl)) ?_ ?_)
   · obtain ⟨g1, g2, _⟩ := Mn.all_set (w := e.word) (by_ := e.by_.l) (s := (Names.only s1.sr.l e.by_.l)) (c := CellX.e s1) (r := (l.drop (k + 1)).map CellX.e) (x := (if e.word = ⟨#[99, 111, 117, 110, 116]⟩ then 1 else s1.value)) (d := y9) (z := y9) rfl rfl hasc hh9 hfit (by rw [hp9]; exact hy9) rfl (by show _ = Mn.comb e.word y9.value (if e.word = ⟨#[99, 111, 117, 110, 116]⟩ then 1 else s1.value); unfold Mn.comb; rcases hw with hw | hw | hw | hw <;> grind)
     obtain ⟨g3, g4⟩ := g2 (show Mn.fits y9.value = true from by first | (simpa using h13) | exact Mn.fits_iff.2 hb_y9 | exact Mn.fits_iff.2 hux)
     rw [hp9] at g1
     rw [Mn.set_same hy9] at g1
     exact ⟨by omega, hwf, by rw [hI1.2.2.1, Mn.drop_map hs1, g4, ← g1], by rw [g1]; exact Mn.put_asc hasc, by rw [g1]; exact g3, by omega⟩
   omega
 refine c_exit (e_then_x (e_loop3_x (e_in_hit (e_go hK3 ?_))))
 refine c_seq fun _ hK35 => ?_
 refine c_region ?_
 refine l_val wn (r_move rfl) rfl ?_
 refine l_val wn (r_assign rfl) rfl ?_
 refine l_val wn (r_assign rfl) rfl ?_
 refine l_val wn (r_assign rfl) rfl ?_
 refine l_nil (e_go hK35 ?_)
 refine c_ret (e_ret3 (.inl rfl) Try.results47 (rv_tmp rfl) (rv_tmp rfl) (rv_tmp rfl) fun w1 hM => ?_)
 have hb9 : Mn.rout (Mn.all e.word e.by_.l (l.map CellX.e)) = (cs.map CellX.e, true, 0) := by rw [Mn.all, hI1.2.2.1, Mn.drop_end (by omega), Mn.allFrom]; rfl
 have hM := hM.sealRow encCellX (i := 1) rfl rfl
 exact hM.retE (⟨A1, cp1, cs⟩ : SlX CellX) (by first | (rw [hb9]; done) | (rw [hb9]; rfl)) (by first | (rw [hb9]; done) | (rw [hb9]; rfl)) fun Pb pp => ⟨pp.sl 1 rfl, pp.at_ 0 _ rfl⟩

set_option maxHeartbeats 1000000 in
theorem c_refAsk1 (mv : Value) (m : List Match) (a : Int) (b : Int) (lad : Addr) (lv : Value) (l : List LineX) (P0 : Nat → Prop) (w : World) (hP0 : ∀ b, P0 b → b < w.heap.size) (hm : FlatSl P0 3 matchE mv m w) (hlp : CelAt P0 lad [lv] w) (hl : FlatSl P0 2 lineE lv l w) (hla : ∀ x ∈ l, LineX.Ok P0 x w) (hl8 : l.length ≤ 1048576) (hsz : ∀ x ∈ l, x.sr.l.length ≤ 1048576 ∧ x.sm.l.length ≤ 1048576) (hvl : ∀ x ∈ l, ∀ s ∈ x.sm.l, -1000000000 ≤ s.value ∧ s.value ≤ 1000000000) :
    Calls Try.prog 26 #[mv, .int .i64 a, .int .i64 b, .pointer (some lad)] w (RetE w P0 (refV (Mn.lookL (l.map LineX.e) m a b).2) (fun z => RefX.is z (Mn.lookL (l.map LineX.e) m a b).1) (fun z S => RefX.Ok S z)) := by
 obtain ⟨mA, mc, rfl, hmc, hmm, hmA⟩ := hm.form
 have hwl : ∀ x ∈ l, LineX.Wf x := fun x hx => (hla x hx).wf
 obtain ⟨lA, lc, rfl, hlc, hlm, hlA⟩ := hl.form
 refine fstart (N := 63) (vals := [.slice mA m.length mc, .int .i64 a, .int .i64 b, .pointer (some ((Addr.add lad 0).add 0))]) (S := Mem w ⟨no, P0⟩ [slP 3 matchE (.slice mA m.length mc) m, celP lad [.slice lA l.length lc], slP 2 lineE (.slice lA l.length lc) l, allP LineX.Ok l]) Try.func26 rfl rfl rfl (Mem.ofDatsP hP0 (dc (dlp hm) (dc (dp (CelAt.loc _ _) hlp) (dc (dlp hl) (dc (dp (all_loc LineX.Ok.loc _) hla) dn))))) ?_
 refine c_seq fun _ hK1 => ?_
 refine c_region ?_
 refine l_val wn (r_assign rfl) rfl ?_
 refine l_val wn (r_assign rfl) rfl ?_
 refine l_val wn (r_assign rfl) rfl ?_
 refine l_nil (e_go hK1 ?_)
 refine c_seq fun _ hK2 => ?_
 refine c_region ?_
 refine l_nilRow (cellE : CellX → List Value) 44 2 ?_
 refine l_opn (fun _ h => h.all0 CellX.Ok.loc) ?_
 refine l_val wn (r_assign rfl) rfl ?_
 refine l_nil (e_go hK2 ?_)
 refine c_seq fun _ hK3 => ?_
 refine c_region ?_
 refine l_nilRow (sumE : Sum → List Value) 62 7 ?_
 refine l_val wn (r_assign rfl) rfl ?_
 refine l_nil (e_go hK3 ?_)
 refine c_seq fun _ hK4 => ?_
 refine c_seq fun _ hK5 => ?_
 refine c_region ?_
 refine l_val wn (r_cel 4 rfl rfl rfl flat22) rfl ?_
 refine l_val wn (r_len rfl Try.underlying22) rfl ?_
 refine l_val wn (r_move rfl) rfl ?_
 refine l_nil (e_go hK5 ?_)
 refine c_block ?_
 refine c_loop5 (fun (k : Nat) (ss : List CellX) (us : List Sum) (sv : Value) (uv : Value) => [(0, .slice mA m.length mc), (1, .int .i64 a), (2, .int .i64 b), (10, sv), (11, uv), (17, .slice lA l.length lc), (18, .int .i64 (l.length : Int)), (19, .int .i64 (k : Int))]) (fun (k : Nat) (ss : List CellX) (us : List Sum) (sv : Value) (uv : Value) => [Row uv 62 7 sumE us, allP CellX.Ok ss, Row sv 44 2 cellE ss, slP 3 matchE (.slice mA m.length mc) m, celP lad [.slice lA l.length lc], slP 2 lineE (.slice lA l.length lc) l, allP LineX.Ok l]) (fun (k : Nat) (ss : List CellX) (us : List Sum) (sv : Value) (uv : Value) => k ≤ l.length ∧ (∀ x ∈ ss, CellX.Wf x) ∧ ss.map (fun x => x.sr.l) = (Mn.lookL ((l.take k).map LineX.e) m a b).1.map (·.1) ∧ us = (Mn.lookL ((l.take k).map LineX.e) m a b).1.map (·.2) ∧ ss.length ≤ k ∧ us.length ≤ k) (fun (k : Nat) (ss : List CellX) (us : List Sum) (sv : Value) (uv : Value) => l.length - k) 0 [] [] (.slice none 0 0) (.slice none 0 0) (sc rfl (sc rfl (sc rfl (sc rfl (sc rfl (sc rfl (sc rfl (sc (ji (by omega)) sn)))))))) (fun _ h => h) ?_ (fun k ss us sv uv hI1 => ?_)
 · exact ⟨Nat.zero_le _, fun x hx => (by cases hx), rfl, rfl, Nat.le_refl _, Nat.le_refl _⟩
 have hwf := hI1.2.1
 have hlen := hI1.2.2.2.2
 refine c_open 2 (l := ss) rfl fun A1 cp1 hv1 hc1 hm1 hA1 => ?_
 subst hv1
 refine c_open 0 (l := us) rfl fun A2 cp2 hv2 hc2 hm2 hA2 => ?_
 subst hv2
 refine c_seq fun _ hK6 => ?_
 refine c_region ?_
 refine l_val wn (r_lss rfl rfl) rfl ?_
 refine l_nil (e_go hK6 ?_)
 refine c_seq fun _ hK7 => ?_
 refine c_cond rfl (fun h1 => ?_) (fun h1 => ?_)
 · refine c_skip (e_go hK7 ?_)
   refine c_seq fun _ hK8 => ?_
   refine c_block ?_
   refine c_seq fun _ hK9 => ?_
   refine c_region ?_
   obtain ⟨ad1, hd1⟩ := hlA (ne_nil (i := k) (by first | omega | (simp <;> omega)))
   refine l_val wn (r_ia (i := k) rfl hd1 rfl (by omega) (by first | omega | (simp <;> omega)) Try.underlying22 inf49) rfl ?_
   obtain ⟨s1, hs1⟩ : ∃ x, l[k]? = some x := ⟨_, List.getElem?_eq_getElem (by first | omega | (simp <;> omega))⟩
   refine l_val wn (r_pln 5 [.slice s1.sr.A s1.sr.l.length s1.sr.c, .slice s1.sm.A s1.sm.l.length s1.sm.c] rfl rfl hd1 hs1 rfl rfl agg49 inf49) rfl ?_
   refine l_alloc wn inf49 rfl fun b13 => ?_
   refine l_stn 0 wn rfl rfl rfl inf49 rfl rfl rfl ?_
   refine l_nil (e_go hK9 ?_)
   refine c_seq fun _ hK10 => ?_
   refine c_region ?_
   refine l_nilRow (sampleE : Sample → List Value) 54 2 ?_
   refine l_val wn (r_assign rfl) rfl ?_
   refine l_nil (e_go hK10 ?_)
   refine c_seq fun _ hK11 => ?_
   refine c_seq fun _ hK12 => ?_
   refine c_region ?_
   refine l_val wn (r_fa rfl fld49_1) rfl ?_
   refine l_val wn (r_lb 1 rfl rfl rfl flat47) rfl ?_
   refine l_val wn (r_len rfl Try.underlying47) rfl ?_
   refine l_val wn (r_move rfl) rfl ?_
   refine l_nil (e_go hK12 ?_)
   refine c_block ?_
   refine c_loop3 (fun (j : Nat) (ins : List Sample) (iv : Value) => [(0, .slice mA m.length mc), (1, .int .i64 a), (2, .int .i64 b), (10, .slice A1 ss.length cp1), (11, .slice A2 us.length cp2), (13, .pointer (some ⟨b13, 0, none⟩)), (14, iv), (17, .slice lA l.length lc), (18, .int .i64 (l.length : Int)), (19, .int .i64 (k : Int)), (24, .slice s1.sm.A s1.sm.l.length s1.sm.c), (25, .int .i64 (s1.sm.l.length : Int)), (26, .int .i64 (j : Int))]) (fun (j : Nat) (ins : List Sample) (iv : Value) => [Row iv 54 2 sampleE ins, .blk b13 [.slice s1.sr.A s1.sr.l.length s1.sr.c, .slice s1.sm.A s1.sm.l.length s1.sm.c] 49, Row (.slice A2 us.length cp2) 62 7 sumE us, allP CellX.Ok ss, Row (.slice A1 ss.length cp1) 44 2 cellE ss, slP 3 matchE (.slice mA m.length mc) m, celP lad [.slice lA l.length lc], slP 2 lineE (.slice lA l.length lc) l, allP LineX.Ok l]) (fun (j : Nat) (ins : List Sample) (iv : Value) => j ≤ s1.sm.l.length ∧ ins = (s1.sm.l.take j).filter (Mn.inWin a b)) (fun (j : Nat) (ins : List Sample) (iv : Value) => s1.sm.l.length - j) 0 [] (.slice none 0 0) (sc rfl (sc rfl (sc rfl (sc rfl (sc rfl (sc rfl (sc rfl (sc rfl (sc rfl (sc rfl (sc rfl (sc rfl (sc (ji (by omega)) sn))))))))))))) (fun _ h => h) ?_ (fun j ins iv hI2 => ?_)
   · exact ⟨Nat.zero_le _, rfl⟩
   have hin := hI2
   have hnl : ins.length ≤ s1.sm.l.length := by rw [hin.2]; exact Nat.le_trans (List.length_filter_le _ _) (by rw [List.length_take]; omega)
   have hsz1 := hsz _ (List.mem_of_getElem? hs1)
   have hvi : ∀ x ∈ ins, -9223372036854775808 ≤ x.value ∧ x.value ≤ 9223372036854775807 := fun x hx => by rw [hin.2] at hx; have := hvl _ (List.mem_of_getElem? hs1) x (List.mem_of_mem_take (List.mem_filter.1 hx).1); omega
   refine c_open 0 (l := ins) rfl fun A3 cp3 hv3 hc3 hm3 hA3 => ?_
   subst hv3
   refine c_seq fun _ hK13 => ?_
   refine c_region ?_
   refine l_val wn (r_lss rfl rfl) rfl ?_
   refine l_nil (e_go hK13 ?_)
   refine c_seq fun _ hK14 => ?_
   refine c_cond rfl (fun h2 => ?_) (fun h2 => ?_)
   · refine c_skip (e_go hK14 ?_)
     refine c_seq fun _ hK15 => ?_
     refine c_block ?_
     refine c_seq fun _ hK16 => ?_
     refine c_region ?_
     have hw1 := hwl _ (List.mem_of_getElem? hs1)
     refine l_opn (fun _ h => h.one 8 LineX.Ok.loc rfl hs1) ?_
     refine l_opn (fun _ h => h.lineX 0 rfl) ?_
     obtain ⟨hc4, hm4, hA4⟩ := hw1.sr
     obtain ⟨hc5, hm5, hA5⟩ := hw1.sm
     obtain ⟨ad2, hd2⟩ := hA5 (ne_nil (i := j) (by first | omega | (simp <;> omega)))
     refine l_val wn (r_ia (i := j) rfl hd2 rfl (by omega) (by first | omega | (simp <;> omega)) Try.underlying47 inf54) rfl ?_
     obtain ⟨s2, hs2⟩ : ∃ x, s1.sm.l[j]? = some x := ⟨_, List.getElem?_eq_getElem (by first | omega | (simp <;> omega))⟩
     refine l_val wn (r_pln 1 [.int .i64 s2.time, .int .i64 s2.value] rfl rfl hd2 hs2 rfl rfl agg54 inf54) rfl ?_
     refine l_alloc wn inf54 rfl fun b16 => ?_
     refine l_stn 0 wn rfl rfl rfl inf54 rfl rfl rfl ?_
     refine l_nil (e_go hK16 ?_)
     refine c_seq fun _ hK17 => ?_
     refine c_region ?_
     refine l_val wn (r_move rfl) rfl ?_
     refine l_val wn (r_fa rfl fld54_0) rfl ?_
     refine l_val wn (r_lb 0 rfl rfl rfl flat3) rfl ?_
     refine l_val wn (r_leq rfl rfl) rfl ?_
     refine l_val wn (r_move rfl) rfl ?_
     refine l_case (t := 34) rfl (fun h3 => ?_) (fun h3 => ?_)
     · refine l_val (wg rfl rfl rfl) (r_fa rfl fld54_0) rfl ?_
       refine l_val (wg rfl rfl rfl) (r_lb 0 rfl rfl rfl flat3) rfl ?_
       refine l_val (wg rfl rfl rfl) (r_move rfl) rfl ?_
       refine l_val (wg rfl rfl rfl) (r_lss rfl rfl) rfl ?_
       refine l_val wn (r_pick rfl rfl) rfl ?_
       refine l_nil (e_go hK17 ?_)
       refine c_cond rfl (fun h4 => ?_) (fun h4 => ?_)
       · refine c_region ?_
         refine l_val wn (r_move rfl) rfl ?_
         refine l_val wn (r_lbn 0 [.int .i64 s2.time, .int .i64 s2.value] rfl rfl rfl rfl agg54 inf54) rfl ?_
         refine l_bsL sampleE ([s2] : List Sample) wn Try.underlying47 inf54 rfl rfl rfl rfl (by decide) (by decide) rfl fun b42 => ?_
         refine l_app 5 ins ([s2] : List Sample) encSample wn rfl rfl rfl (fun _ hM => (RowSl encSample hM 0 rfl)) Try.underlying47 inf54 rfl rfl (by simp only [List.length_append, List.length_cons, List.length_nil]; omega) rfl fun A4 cp4 hc6 hm6 hA6 => ?_
         refine l_val wn (r_assign rfl) rfl ?_
         refine l_nil (e_in_n (e_go hK15 ?_))
         refine c_region ?_
         refine l_val wn (r_addn rfl rfl (by omega)) rfl ?_
         refine l_val wn (r_move rfl) rfl ?_
         refine l_nil (e_round3 (j + 1) (ins ++ ([s2] : List Sample)) (.slice A4 ((ins ++ ([s2] : List Sample)).length) cp4) (sc rfl (sc rfl (sc rfl (sc rfl (sc rfl (sc rfl (sc rfl (sc rfl (sc rfl (sc rfl (sc rfl (sc rfl (sc (ji (by omega)) sn))))))))))))) (fun _ h => (h.sel [5, 6, 7, 8, 9, 10, 11, 12, 13] (by decide) rfl)) ?_ ?_)
         · exact ⟨by omega, by rw [Mn.filt_at hs2, if_pos (Mn.win_t (by omega)), ← hin.2]⟩
         omega
       refine c_skip (e_in_n (e_go hK15 ?_))
       refine c_region ?_
       refine l_val wn (r_addn rfl rfl (by omega)) rfl ?_
       refine l_val wn (r_move rfl) rfl ?_
       refine l_nil (e_round3 (j + 1) ins (.slice A3 ins.length cp3) (sc rfl (sc rfl (sc rfl (sc rfl (sc rfl (sc rfl (sc rfl (sc rfl (sc rfl (sc rfl (sc rfl (sc rfl (sc (ji (by omega)) sn))))))))))))) (fun _ h => (h.sel [4, 5, 6, 7, 8, 9, 10, 11, 12] (by decide) rfl)) ?_ ?_)
       · exact ⟨by omega, by rw [Mn.filt_at hs2, if_neg (Mn.win_f (by omega))]; exact hin.2⟩
       omega
     refine l_skip (wg rfl rfl rfl) rfl ?_
     refine l_skip (wg rfl rfl rfl) rfl ?_
     refine l_skip (wg rfl rfl rfl) rfl ?_
     refine l_skip (wg rfl rfl rfl) rfl ?_
     refine l_val wn (r_pick rfl rfl) rfl ?_
     refine l_nil (e_go hK17 ?_)
     refine c_false rfl rfl ?_
     refine c_skip (e_in_n (e_go hK15 ?_))
     refine c_region ?_
     refine l_val wn (r_addn rfl rfl (by omega)) rfl ?_
     refine l_val wn (r_move rfl) rfl ?_
     refine l_nil (e_round3 (j + 1) ins (.slice A3 ins.length cp3) (sc rfl (sc rfl (sc rfl (sc rfl (sc rfl (sc rfl (sc rfl (sc rfl (sc rfl (sc rfl (sc rfl (sc rfl (sc (ji (by omega)) sn))))))))))))) (fun _ h => (h.sel [4, 5, 6, 7, 8, 9, 10, 11, 12] (by decide) rfl)) ?_ ?_)
     · exact ⟨by omega, by rw [Mn.filt_at hs2, if_neg (Mn.win_f (by omega))]; exact hin.2⟩
     omega
   refine c_exit (e_then_x (e_loop3_x (e_in_hit (e_go hK11 ?_))))
   refine c_seq fun _ hK18 => ?_
   refine c_region ?_
   have hin9 : ins = s1.sm.l.filter (Mn.inWin a b) := by rw [hin.2, List.take_of_length_le (by omega)]
   refine l_val wn (r_fa rfl fld49_0) rfl ?_
   refine l_val wn (r_lb 1 rfl rfl rfl flat42) rfl ?_
   refine l_val wn (r_move rfl) rfl ?_
   have hw2 := hwl _ (List.mem_of_getElem? hs1)
   refine l_opn (fun _ h => h.one 8 LineX.Ok.loc rfl hs1) ?_
   refine l_opn (fun _ h => h.lineX 0 rfl) ?_
   obtain ⟨hc7, hm7, hA7⟩ := hw2.sr
   obtain ⟨hc8, hm8, hA8⟩ := hw2.sm
   refine l_callF wn rfl Try.call27 rfl (fun w1 hM => c_refMatches _ s1.sr.l _ m w1 (hM.slp 0 rfl) (hM.slp 8 rfl)) ?_
   refine l_nil (e_go hK18 ?_)
   refine c_condb rfl (fun h5 => ?_) (fun h5 => ?_)
   · refine c_region ?_
     refine l_val wn (r_move rfl) rfl ?_
     refine l_val wn (r_fa rfl fld49_0) rfl ?_
     refine l_val wn (r_lb 4 rfl rfl rfl flat42) rfl ?_
     refine l_val wn (r_build [.slice s1.sr.A s1.sr.l.length s1.sr.c, .int .i64 0] pl44 inf44 rfl rfl) rfl ?_
     refine l_bsL cellE ([(CellX.mk ⟨s1.sr.A, s1.sr.c, s1.sr.l⟩ 0)] : List CellX) wn Try.underlying28 inf44 rfl rfl rfl rfl (by decide) (by decide) rfl fun b53 => ?_
     refine l_app 8 ss ([(CellX.mk ⟨s1.sr.A, s1.sr.c, s1.sr.l⟩ 0)] : List CellX) encCellX wn rfl rfl rfl (fun _ hM => (RowSl encCellX hM 0 rfl)) Try.underlying28 inf44 rfl rfl (by simp only [List.length_append, List.length_cons, List.length_nil]; omega) rfl fun A5 cp5 hc9 hm9 hA9 => ?_
     refine l_opn (fun _ h => h.allCell (n := 0) 7 1 rfl rfl) ?_
     have hw3 : ∀ x ∈ (ss ++ ([(CellX.mk ⟨s1.sr.A, s1.sr.c, s1.sr.l⟩ 0)] : List CellX)), CellX.Wf x := fun x hx => (List.mem_append.1 hx).elim (hwf x) fun h => by rw [List.mem_singleton.1 h]; exact ⟨⟨by omega, by omega, hA7⟩⟩
     refine l_val wn (r_move rfl) rfl ?_
     refine l_val wn (r_move rfl) rfl ?_
     refine l_callF wn rfl Try.call28 rfl (fun w1 hM => c_refOf _ ins w1 (RowSl encSample hM 5 rfl) (by omega) hvi) ?_
     refine l_bsL sumE ([(Agg.of ins)] : List Sum) wn Try.underlying58 inf62 rfl rfl rfl rfl (by decide) (by decide) rfl fun b58 => ?_
     refine l_app 8 us ([(Agg.of ins)] : List Sum) encSum wn rfl rfl rfl (fun _ hM => (RowSl encSum hM 0 rfl)) Try.underlying58 inf62 rfl rfl (by simp only [List.length_append, List.length_cons, List.length_nil]; omega) rfl fun A6 cp6 hc10 hm10 hA10 => ?_
     refine l_val wn (r_assign rfl) rfl ?_
     refine l_val wn (r_assign rfl) rfl ?_
     refine l_nil (e_in_n (e_go hK8 ?_))
     refine c_region ?_
     refine l_val wn (r_addn rfl rfl (by omega)) rfl ?_
     refine l_val wn (r_move rfl) rfl ?_
     refine l_nil (e_round5 (k + 1) (ss ++ ([(CellX.mk ⟨s1.sr.A, s1.sr.c, s1.sr.l⟩ 0)] : List CellX)) (us ++ ([(Agg.of ins)] : List Sum)) (.slice A5 ((ss ++ ([(CellX.mk ⟨s1.sr.A, s1.sr.c, s1.sr.l⟩ 0)] : List CellX)).length) cp5) (.slice A6 ((us ++ ([(Agg.of ins)] : List Sum)).length) cp6) (sc rfl (sc rfl (sc rfl (sc rfl (sc rfl (sc rfl (sc rfl (sc (ji (by omega)) sn)))))))) (fun _ h => (h.sel [8, 1, 10, 11, 12, 13, 14] (by decide) rfl)) ?_ ?_)
     · exact ⟨by omega, hw3, by rw [Mn.look_at hs1, if_pos h5, List.map_append, List.map_append, ← hI1.2.2.1]; rfl, by rw [Mn.look_at hs1, if_pos h5, List.map_append, ← hI1.2.2.2.1, ← hin9]; rfl, by simp only [List.length_append, List.length_cons, List.length_nil]; omega, by simp only [List.length_append, List.length_cons, List.length_nil]; omega⟩
     omega
   refine c_skip (e_in_n (e_go hK8 ?_))
   refine c_region ?_
   refine l_val wn (r_addn rfl rfl (by omega)) rfl ?_
   refine l_val wn (r_move rfl) rfl ?_
   refine l_nil (e_round5 (k + 1) ss us (.slice A1 ss.length cp1) (.slice A2 us.length cp2) (sc rfl (sc rfl (sc rfl (sc rfl (sc rfl (sc rfl (sc rfl (sc (ji (by omega)) sn)))))))) (fun _ h => (h.sel [5, 6, 7, 8, 9, 10, 11] (by decide) rfl)) ?_ ?_)
   · exact ⟨by omega, hwf, by rw [Mn.look_at hs1, if_neg (by simpa using h5)]; exact hI1.2.2.1, by rw [Mn.look_at hs1, if_neg (by simpa using h5)]; exact hI1.2.2.2.1, by omega, by omega⟩
   omega
 refine c_exit (e_then_x (e_loop5_x (e_in_hit (e_go hK4 ?_))))
 refine c_seq fun _ hK19 => ?_
 refine c_region ?_
 refine l_val wn (r_move rfl) rfl ?_
 refine l_val wn (r_move rfl) rfl ?_
 refine l_val wn (r_assign rfl) rfl ?_
 refine l_val wn (r_assign rfl) rfl ?_
 refine l_val wn (r_assign rfl) rfl ?_
 refine l_nil (e_go hK19 ?_)
 refine c_ret (e_ret3 (.inl rfl) Try.results26 (rv_tmp rfl) (rv_tmp rfl) (rv_tmp rfl) fun w1 hM => ?_)
 have hM := hM.sealRow encCellX (i := 2) rfl rfl
 have hM := hM.sealRow encSum (i := 0) rfl rfl
 have h9 : (Mn.lookL ((l.take k).map LineX.e) m a b).1 = (Mn.lookL (l.map LineX.e) m a b).1 := by rw [List.take_of_length_le (by omega)]
 exact hM.retE (⟨⟨A1, cp1, ss⟩, ⟨A2, cp2, us⟩⟩ : RefX) rfl ⟨by rw [← h9]; exact hI1.2.2.1, by rw [← h9]; exact hI1.2.2.2.1⟩ fun Pb pp => ⟨pp.sl 2 rfl, pp.at_ 1 _ rfl, pp.sl 0 rfl⟩

def c_refEval_C (e : ExprX) : Prop := ∀ (time : Int) (f : Nat) (fcap : Array Value) (C : (Nat → Prop) → World → Prop) (lk : Look) (P0 : Nat → Prop) (w : World) (hP0 : ∀ b, P0 b → b < w.heap.size) (he : ExprX.Ok P0 e w) (hC : C P0 w) (hf : RefFn Try.prog f fcap C lk) (hg : Mn.GoodLook lk) (hdl : Mn.DstLook lk) (ht : 0 ≤ time ∧ time ≤ 1000000) (hso : Mn.Sound e.e),
    Calls Try.prog 25 #[.agg (exprE e).toArray, .int .i64 time, .func (.func f) #[] fcap] w (RetE w P0 (rV (Mn.rout (Mn.eval lk time e.e))) (fun z => z.l.map CellX.e = (Mn.rout (Mn.eval lk time e.e)).1) (fun z S => CelsX.Ok S z))
set_option maxHeartbeats 4000000 in
theorem c_refEval_step (e : ExprX) (ih : ∀ k : ExprX, SizeOf.sizeOf k < SizeOf.sizeOf e → c_refEval_C k) : c_refEval_C e := by
  intro time f fcap C lk P0 w hP0 he hC hf hg hdl ht hso
  have hwe := he.wf
  have hre := (Mn.right_e hso.right).1
  refine fstart (N := 199) (vals := [.agg (exprE e).toArray, .int .i64 time, .func (.func f) #[] fcap]) (S := Mem w ⟨no, P0⟩ [okP ExprX.Ok e, .pub C]) Try.func25 rfl rfl rfl (Mem.ofDatsP hP0 (dc (dp (ExprX.Ok.loc _) he) (dc (dp hf.loc hC) dn))) ?_
  refine c_seq fun K1 hK1 => ?_
  refine c_region ?_
  refine l_box wn rfl rfl fun b3 => ?_
  refine l_val wn (r_assign rfl) rfl ?_
  refine l_val wn (r_assign rfl) rfl ?_
  refine l_val wn (r_assign rfl) rfl ?_
  refine l_nil (e_go hK1 ?_)
  refine c_seq fun K2 hK2 => ?_
  refine c_seq fun K3 hK3 => ?_
  refine c_region ?_
  refine l_val wn (r_fa rfl fld27_0) rfl ?_
  refine l_val wn (r_lb 0 rfl rfl rfl flat3) rfl ?_
  refine l_nil (e_go hK3 ?_)
  refine c_block ?_
  refine c_seq fun K4 hK4 => ?_
  refine c_region ?_
  refine l_val wn (r_eql rfl rfl) rfl ?_
  refine l_val wn (r_assign rfl) rfl ?_
  refine l_nil (e_go hK4 ?_)
  refine c_cond rfl (fun h1 => ?_) (fun h1 => ?_)
  ·
    refine c_seq fun K5 hK5 => ?_
    refine c_region ?_
    refine l_val wn (r_fa rfl fld27_1) rfl ?_
    refine l_val wn (r_lb 0 rfl rfl rfl flat3) rfl ?_
    refine l_val wn (r_build [.slice none 0 0, .int .i64 e.n] pl44 inf44 rfl rfl) rfl ?_
    refine l_bsL cellE ([(CellX.mk ⟨none, 0, []⟩ e.n)] : List CellX) wn Try.underlying28 inf44 rfl rfl rfl rfl (by decide) (by decide) rfl fun b42 => ?_
    refine l_val wn (r_assign rfl) rfl ?_
    refine l_val wn (r_assign rfl) rfl ?_
    refine l_val wn (r_assign rfl) rfl ?_
    refine l_nil (e_go hK5 ?_)
    refine c_ret (e_in_r (e_then_r (e_ret3 (.inl rfl) Try.results25 (rv_tmp rfl) (rv_tmp rfl) (rv_tmp rfl) fun w1 hM => ?_)))
    have hb9 : (Mn.rout (Mn.eval lk time e.e)) = ([⟨[], e.n⟩], false, 0) := by rw [Mn.eval_e, if_pos h1]; rfl
    have hM := hM.sealRow encCellX (i := 0) rfl rfl
    exact hM.retE (⟨(some ⟨b42, 0, none⟩), 1, ([(CellX.mk ⟨none, 0, []⟩ e.n)] : List CellX)⟩ : SlX CellX) (by first | (rw [hb9]; done) | (rw [hb9]; rfl)) (by first | (rw [hb9]; done) | (rw [hb9]; rfl)) fun Pb pp => ⟨pp.sl 0 rfl, fun c hc => by obtain rfl := List.mem_singleton.1 hc; exact ⟨FlatSl.nil_ _ _ _ _⟩⟩
  ·
    refine c_seq fun K6 hK6 => ?_
    refine c_region ?_
    refine l_val wn (r_eql rfl rfl) rfl ?_
    refine l_val wn (r_assign rfl) rfl ?_
    refine l_nil (e_go hK6 ?_)
    refine c_cond rfl (fun h2 => ?_) (fun h2 => ?_)
    ·
      refine c_seq fun K7 hK7 => ?_
      refine c_region ?_
      refine l_val wn (r_move rfl) rfl ?_
      refine l_val wn (r_fa rfl fld27_2) rfl ?_
      refine l_val wn (r_lb 0 rfl rfl rfl flat3) rfl ?_
      refine l_val wn (r_subn rfl rfl (by omega)) rfl ?_
      refine l_val wn (r_assign rfl) rfl ?_
      refine l_nil (e_go hK7 ?_)
      refine c_cut [(1, .int .i64 time), (2, .func (.func f) #[] fcap), (3, .pointer (some ⟨b3, 0, none⟩)), (9, .int .i64 (if (time - e.range) < 0 then 0 else (time - e.range)))] (Mem w ⟨no, P0⟩ [.blk b3 [.int .i64 e.kind, .int .i64 e.n, .int .i64 e.range, .string e.word, .slice e.ms.A e.ms.l.length e.ms.c, .slice e.by_.A e.by_.l.length e.by_.c, .slice e.kids.A e.kids.l.length e.kids.c] 27, okP ExprX.Ok e, .pub C]) (fun K8 hK8 => ?_) ?_
      ·
        refine c_seq fun K9 hK9 => ?_
        refine c_region ?_
        refine l_val wn (r_move rfl) rfl ?_
        refine l_val wn (r_lss rfl rfl) rfl ?_
        refine l_nil (e_go hK9 ?_)
        refine c_cond rfl (fun h3 => ?_) (fun h3 => ?_)
        ·
          refine c_region ?_
          refine l_val wn (r_assign rfl) rfl ?_
          refine l_nil (e_cut hK8 (sc rfl (sc rfl (sc rfl (sc (by first | (simp only [if_pos h3]; done) | (simp only [if_pos h3]; rfl)) sn)))) (fun _ h => h))
        ·
          refine c_skip (e_cut hK8 (sc rfl (sc rfl (sc rfl (sc (by first | (simp only [if_neg h3]; done) | (simp only [if_neg h3]; rfl)) sn)))) (fun _ h => h))
      ·
        refine c_seq fun K10 hK10 => ?_
        refine c_region ?_
        refine l_val wn (r_move rfl) rfl ?_
        refine l_val wn (r_fa rfl fld27_4) rfl ?_
        refine l_val wn (r_lb 0 rfl rfl rfl flat23) rfl ?_
        refine l_val wn (r_move rfl) rfl ?_
        refine l_val wn (r_move rfl) rfl ?_
        refine l_opn (fun _ h => h.exprX 1 rfl) ?_
        obtain ⟨hc1, hm1, hA1⟩ := hwe.ms
        obtain ⟨hc2, hm2, hA2⟩ := hwe.by_
        obtain ⟨hc3, hm3, hA3⟩ := hwe.kids
        refine l_callE (β := RefX) (refV (lk e.ms.l (Mn.frm time e.range) time).2) (fun z => RefX.is z (lk e.ms.l (Mn.frm time e.range) time).1) (fun z S => RefX.Ok S z) (fun z => RefX.Ok.loc z) wn rfl rfl hf.call rfl (fun w1 Pb hM pp => hf.run ⟨e.ms.A, e.ms.c, e.ms.l⟩ (Mn.frm time e.range) time w1 Pb pp.lt (pp.sl 0 rfl) (pp.at_ 6 _ rfl) (Mn.frm_nn _ _) ht.2) fun z1 hz1 => ?_
        refine l_get 0 rfl (fun S w h => RefX.Ok.wf h) fun hw1 => ?_
        refine l_opn (fun _ h => h.refX 0 rfl) ?_
        obtain ⟨hc4, hm4, hA4⟩ := hw1.cs
        obtain ⟨hc5, hm5, hA5⟩ := hw1.sm
        refine l_val wn (r_move rfl) rfl ?_
        refine l_val wn (r_extract rfl rfl) rfl ?_
        refine l_val wn (r_extract rfl rfl) rfl ?_
        refine l_val wn (r_extract rfl rfl) rfl ?_
        refine l_val wn (r_assign rfl) rfl ?_
        refine l_val wn (r_assign rfl) rfl ?_
        refine l_val wn (r_assign rfl) rfl ?_
        refine l_nil (e_go hK10 ?_)
        refine c_seq fun K11 hK11 => ?_
        refine c_seq fun K12 hK12 => ?_
        refine c_region ?_
        refine l_val wn (r_move rfl) rfl ?_
        refine l_val wn (r_neq rfl rfl) rfl ?_
        refine l_nil (e_go hK12 ?_)
        refine c_cond rfl (fun h4 => ?_) (fun h4 => ?_)
        ·
          refine c_seq fun K13 hK13 => ?_
          refine c_region ?_
          refine l_val wn (r_move rfl) rfl ?_
          refine l_val wn (r_assign rfl) rfl ?_
          refine l_val wn (r_assign rfl) rfl ?_
          refine l_val wn (r_assign rfl) rfl ?_
          refine l_nil (e_go hK13 ?_)
          refine c_ret (e_then_r (e_in_r (e_then_r (e_ret3 (.inl rfl) Try.results25 (rv_tmp rfl) (rv_tmp rfl) (rv_tmp rfl) fun w1 hM => ?_))))
          have hv9 : Mn.eval lk time e.e = Mn.window lk time e.word e.ms.l e.range := by rw [Mn.eval_e, if_neg h1, if_pos h2]
          have hb9 : (Mn.rout (Mn.eval lk time e.e)) = ([], false, (lk e.ms.l (Mn.frm time e.range) time).2) := by rw [hv9, Mn.rout_bad (by rw [Mn.window, if_pos (by simpa using h4)]; exact h4), Mn.window, if_pos (by simpa using h4)]
          exact hM.retE (⟨none, 0, []⟩ : SlX CellX) (by first | (rw [hb9]; done) | (rw [hb9]; rfl)) (by first | (rw [hb9]; done) | (rw [hb9]; rfl)) fun Pb pp => ⟨FlatSl.nil_ _ _ _ _, fun c hc => (by cases hc)⟩
        ·
          refine c_skip (e_go hK11 ?_)
          refine c_seq fun K14 hK14 => ?_
          refine c_region ?_
          refine l_nilRow (cellE : CellX → List Value) 44 2 ?_
          refine l_opn (fun _ h => h.all0 CellX.Ok.loc) ?_
          refine l_val wn (r_assign rfl) rfl ?_
          refine l_nil (e_go hK14 ?_)
          refine c_seq fun K15 hK15 => ?_
          refine c_seq fun K16 hK16 => ?_
          refine c_region ?_
          refine l_val wn (r_move rfl) rfl ?_
          refine l_val wn (r_len rfl Try.underlying28) rfl ?_
          refine l_val wn (r_move rfl) rfl ?_
          refine l_nil (e_go hK16 ?_)
          refine c_block ?_
          have hl1 : z1.cs.l.length = (lk e.ms.l (Mn.frm time e.range) time).1.length := by have := congrArg List.length hz1.1; simpa using this
          have hl2 : z1.sm.l.length = (lk e.ms.l (Mn.frm time e.range) time).1.length := by have := congrArg List.length hz1.2; simpa using this
          have hl3 := (hg e.ms.l (Mn.frm time e.range) time).1
          refine c_loop3 (fun (k : Nat) (cs : List CellX) (ov : Value) => [(3, .pointer (some ⟨b3, 0, none⟩)), (11, .slice z1.sm.A z1.sm.l.length z1.sm.c), (13, ov), (64, .slice z1.cs.A z1.cs.l.length z1.cs.c), (65, .int .i64 (z1.cs.l.length : Int)), (66, .int .i64 (k : Int))]) (fun (k : Nat) (cs : List CellX) (ov : Value) => [allP CellX.Ok cs, Row ov 44 2 cellE cs, slP 2 cellE (.slice z1.cs.A z1.cs.l.length z1.cs.c) z1.cs.l, allP CellX.Ok z1.cs.l, slP 7 sumE (.slice z1.sm.A z1.sm.l.length z1.sm.c) z1.sm.l, .pub (fun S => RefX.Ok S z1), slP 3 matchE (.slice e.ms.A e.ms.l.length e.ms.c) e.ms.l, slP 1 strE (.slice e.by_.A e.by_.l.length e.by_.c) e.by_.l, slP 7 exprE (.slice e.kids.A e.kids.l.length e.kids.c) e.kids.l, allP ExprX.Ok e.kids.l, .blk b3 [.int .i64 e.kind, .int .i64 e.n, .int .i64 e.range, .string e.word, .slice e.ms.A e.ms.l.length e.ms.c, .slice e.by_.A e.by_.l.length e.by_.c, .slice e.kids.A e.kids.l.length e.kids.c] 27, okP ExprX.Ok e, .pub C]) (fun (k : Nat) (cs : List CellX) (ov : Value) => k ≤ z1.cs.l.length ∧ (∀ x ∈ cs, CellX.Wf x) ∧ cs.map CellX.e = Mn.winCells e.word ((lk e.ms.l (Mn.frm time e.range) time).1.take k) ∧ cs.length ≤ k) (fun (k : Nat) (cs : List CellX) (ov : Value) => z1.cs.l.length - k) 0 [] (.slice none 0 0) (sc rfl (sc rfl (sc rfl (sc rfl (sc rfl (sc (ji (by omega)) sn)))))) (fun _ h => h) ?_ (fun k cs ov hI1 => ?_)
          · exact ⟨Nat.zero_le _, fun x hx => (by cases hx), rfl, Nat.le_refl _⟩
          ·
            have hwf := hI1.2.1
            have hlen := hI1.2.2.2
            refine c_open 1 (l := cs) rfl fun A1 cp1 hv1 hc6 hm6 hA6 => ?_
            subst hv1
            refine c_seq fun K17 hK17 => ?_
            refine c_region ?_
            refine l_val wn (r_lss rfl rfl) rfl ?_
            refine l_nil (e_go hK17 ?_)
            refine c_seq fun K18 hK18 => ?_
            refine c_cond rfl (fun h5 => ?_) (fun h5 => ?_)
            ·
              refine c_skip (e_go hK18 ?_)
              refine c_seq fun K19 hK19 => ?_
              refine c_block ?_
              refine c_seq fun K20 hK20 => ?_
              refine c_region ?_
              refine l_val wn (r_move rfl) rfl ?_
              obtain ⟨ad1, hd1⟩ := hA4 (ne_nil (i := k) (by first | omega | (simp <;> omega)))
              refine l_val wn (r_ia (i := k) rfl hd1 rfl (by omega) (by first | omega | (simp <;> omega)) Try.underlying28 inf44) rfl ?_
              obtain ⟨s1, hs1⟩ : ∃ x, z1.cs.l[k]? = some x := ⟨_, List.getElem?_eq_getElem (by first | omega | (simp <;> omega))⟩
              refine l_val wn (r_pln 2 [.slice s1.sr.A s1.sr.l.length s1.sr.c, .int .i64 s1.value] rfl rfl hd1 hs1 rfl rfl agg44 inf44) rfl ?_
              refine l_alloc wn inf44 rfl fun b15 => ?_
              refine l_val wn (r_assign rfl) rfl ?_
              refine l_stn 0 wn rfl rfl rfl inf44 rfl rfl rfl ?_
              refine l_nil (e_go hK20 ?_)
              refine c_seq fun K21 hK21 => ?_
              refine c_quiet mix (by kernel_rfl) (fun _ h => h.drew) ?_
              refine q_val wn (r_fa rfl fld27_3) rfl ?_
              refine q_val wn (r_lb 11 rfl rfl rfl flat9) rfl ?_
              refine q_val wn (r_move rfl) rfl ?_
              refine q_val wn (r_move rfl) rfl ?_
              obtain ⟨ad2, hd2⟩ := hA5 (ne_nil (i := k) (by first | omega | (simp <;> omega)))
              refine q_val wn (r_ia (i := k) rfl hd2 rfl (by omega) (by first | omega | (simp <;> omega)) Try.underlying58 inf62) rfl ?_
              obtain ⟨s2, hs2⟩ : ∃ x, z1.sm.l[k]? = some x := ⟨_, List.getElem?_eq_getElem (by first | omega | (simp <;> omega))⟩
              refine q_val wn (r_pln 5 [.int .i64 s2.count, .int .i64 s2.total, .int .i64 s2.min, .int .i64 s2.max, .int .i64 s2.first, .int .i64 s2.last, .int .i64 s2.rise] rfl rfl hd2 hs2 rfl rfl agg62 inf62) rfl ?_
              refine q_callF wn rfl Try.call46 rfl (fun w1 hM => c_refWord e.word s2 w1) ?_
              refine q_val wn (r_move rfl) rfl ?_
              refine q_val wn (r_extract rfl rfl) rfl ?_
              refine q_val wn (r_extract rfl rfl) rfl ?_
              refine q_val wn (r_assign rfl) rfl ?_
              refine q_val wn (r_assign rfl) rfl ?_
              refine q_end (e_go hK21 ?_)
              refine c_seq fun K22 hK22 => ?_
              refine c_region ?_
              refine l_val wn (r_move rfl) rfl ?_
              refine l_nil (e_go hK22 ?_)
              refine c_condb rfl (fun h6 => ?_) (fun h6 => ?_)
              ·
                refine c_region ?_
                refine l_val wn (r_move rfl) rfl ?_
                refine l_val wn (r_fa rfl fld44_0) rfl ?_
                refine l_val wn (r_lb 0 rfl rfl rfl flat42) rfl ?_
                refine l_val wn (r_move rfl) rfl ?_
                refine l_val wn (r_build [.slice s1.sr.A s1.sr.l.length s1.sr.c, .int .i64 ((Agg.value e.word s2).1)] pl44 inf44 rfl rfl) rfl ?_
                refine l_bsL cellE ([(CellX.mk ⟨s1.sr.A, s1.sr.c, s1.sr.l⟩ ((Agg.value e.word s2).1))] : List CellX) wn Try.underlying28 inf44 rfl rfl rfl rfl (by decide) (by decide) rfl fun b87 => ?_
                refine l_app 3 cs ([(CellX.mk ⟨s1.sr.A, s1.sr.c, s1.sr.l⟩ ((Agg.value e.word s2).1))] : List CellX) encCellX wn rfl rfl rfl (fun _ hM => (RowSl encCellX hM 0 rfl)) Try.underlying28 inf44 rfl rfl (by simp only [List.length_append, List.length_cons, List.length_nil]; omega) rfl fun A2 cp2 hc7 hm7 hA7 => ?_
                have hw3 := hw1.all _ (List.mem_of_getElem? hs1)
                refine l_opn (fun _ h => h.one 5 CellX.Ok.loc rfl hs1) ?_
                refine l_opn (fun _ h => h.cellX 0 rfl) ?_
                obtain ⟨hc8, hm8, hA8⟩ := hw3.sr
                refine l_opn (fun _ h => h.allCell (n := (Agg.value e.word s2).1) 4 0 rfl rfl) ?_
                have hw2 : ∀ x ∈ (cs ++ ([(CellX.mk ⟨s1.sr.A, s1.sr.c, s1.sr.l⟩ ((Agg.value e.word s2).1))] : List CellX)), CellX.Wf x := fun x hx => (List.mem_append.1 hx).elim (hwf x) fun h => by rw [List.mem_singleton.1 h]; exact ⟨⟨by omega, by omega, hA8⟩⟩
                refine l_val wn (r_assign rfl) rfl ?_
                refine l_nil (e_in_n (e_go hK19 ?_))
                refine c_region ?_
                refine l_val wn (r_addn rfl rfl (by omega)) rfl ?_
                refine l_val wn (r_move rfl) rfl ?_
                refine l_nil (e_round3 (k + 1) (cs ++ ([(CellX.mk ⟨s1.sr.A, s1.sr.c, s1.sr.l⟩ ((Agg.value e.word s2).1))] : List CellX)) (.slice A2 ((cs ++ ([(CellX.mk ⟨s1.sr.A, s1.sr.c, s1.sr.l⟩ ((Agg.value e.word s2).1))] : List CellX)).length) cp2) (sc rfl (sc rfl (sc rfl (sc rfl (sc rfl (sc (ji (by omega)) sn)))))) (fun _ h => (h.sel [0, 6, 7, 8, 9, 10, 11, 12, 13, 14, 15, 16, 17] (by decide) rfl)) ?_ ?_)
                · exact ⟨by omega, hw2, by rw [Mn.winCells_at (s := s1.sr.l) (m := s2) (by rw [← hz1.1, List.getElem?_map, hs1]; rfl) (by rw [← hz1.2]; exact hs2), if_pos h6, List.map_append, hI1.2.2.1]; rfl, by simp only [List.length_append, List.length_cons, List.length_nil]; omega⟩
                · omega
              ·
                refine c_skip (e_in_n (e_go hK19 ?_))
                refine c_region ?_
                refine l_val wn (r_addn rfl rfl (by omega)) rfl ?_
                refine l_val wn (r_move rfl) rfl ?_
                refine l_nil (e_round3 (k + 1) cs (.slice A1 cs.length cp1) (sc rfl (sc rfl (sc rfl (sc rfl (sc rfl (sc (ji (by omega)) sn)))))) (fun _ h => (h.sel [1, 2, 3, 4, 5, 6, 7, 8, 9, 10, 11, 12, 13] (by decide) rfl)) ?_ ?_)
                · exact ⟨by omega, hwf, by rw [Mn.winCells_at (s := s1.sr.l) (m := s2) (by rw [← hz1.1, List.getElem?_map, hs1]; rfl) (by rw [← hz1.2]; exact hs2), if_neg (by simpa using h6), List.append_nil]; exact hI1.2.2.1, by omega⟩
                · omega
            ·
              refine c_exit (e_then_x (e_loop3_x (e_in_hit (e_go hK15 ?_))))
              refine c_seq fun K23 hK23 => ?_
              refine c_region ?_
              refine l_val wn (r_move rfl) rfl ?_
              refine l_val wn (r_assign rfl) rfl ?_
              refine l_val wn (r_assign rfl) rfl ?_
              refine l_val wn (r_assign rfl) rfl ?_
              refine l_nil (e_go hK23 ?_)
              refine c_ret (e_in_r (e_then_r (e_ret3 (.inl rfl) Try.results25 (rv_tmp rfl) (rv_tmp rfl) (rv_tmp rfl) fun w1 hM => ?_)))
              have hv9 : Mn.eval lk time e.e = Mn.window lk time e.word e.ms.l e.range := by rw [Mn.eval_e, if_neg h1, if_pos h2]
              have hb9 : (Mn.rout (Mn.eval lk time e.e)) = (cs.map CellX.e, true, 0) := by rw [hv9, Mn.window, if_neg (by simpa using h4), hI1.2.2.1, List.take_of_length_le (by omega)]; rfl
              have hM := hM.sealRow encCellX (i := 1) rfl rfl
              exact hM.retE (⟨A1, cp1, cs⟩ : SlX CellX) (by first | (rw [hb9]; done) | (rw [hb9]; rfl)) (by first | (rw [hb9]; done) | (rw [hb9]; rfl)) fun Pb pp => ⟨pp.sl 1 rfl, pp.at_ 0 _ rfl⟩
    ·
      refine c_seq fun K24 hK24 => ?_
      refine c_region ?_
      refine l_val wn (r_eql rfl rfl) rfl ?_
      refine l_val wn (r_assign rfl) rfl ?_
      refine l_nil (e_go hK24 ?_)
      refine c_cond rfl (fun h7 => ?_) (fun h7 => ?_)
      ·
        refine c_seq fun K25 hK25 => ?_
        refine c_region ?_
        refine l_val wn (r_fa rfl fld27_6) rfl ?_
        refine l_val wn (r_lb 0 rfl rfl rfl flat25) rfl ?_
        refine l_opn (fun _ h => h.exprX 1 rfl) ?_
        obtain ⟨hc9, hm9, hA9⟩ := hwe.ms
        obtain ⟨hc10, hm10, hA10⟩ := hwe.by_
        obtain ⟨hc11, hm11, hA11⟩ := hwe.kids
        obtain ⟨ad3, hd3⟩ := hA11 (ne_nil (i := 0) (by first | omega | (simp <;> omega)))
        refine l_val wn (r_ia (i := 0) rfl hd3 rfl (by omega) (by first | omega | (simp <;> omega)) Try.underlying25 inf27) rfl ?_
        obtain ⟨s3, hs3⟩ : ∃ x, e.kids.l[0]? = some x := ⟨_, List.getElem?_eq_getElem (by first | omega | (simp <;> omega))⟩
        refine l_val wn (r_pln 2 [.int .i64 s3.kind, .int .i64 s3.n, .int .i64 s3.range, .string s3.word, .slice s3.ms.A s3.ms.l.length s3.ms.c, .slice s3.by_.A s3.by_.l.length s3.by_.c, .slice s3.kids.A s3.kids.l.length s3.kids.c] rfl rfl hd3 hs3 rfl rfl agg27 inf27) rfl ?_
        refine l_val wn (r_move rfl) rfl ?_
        refine l_val wn (r_move rfl) rfl ?_
        have hw4 := hwe.all _ (List.mem_of_getElem? hs3)
        refine l_opn (fun _ h => h.one 3 ExprX.Ok.loc rfl hs3) ?_
        refine l_callE0 (β := SlX CellX) (rV (Mn.rout (Mn.eval lk time s3.e))) (fun z => z.l.map CellX.e = (Mn.rout (Mn.eval lk time s3.e)).1) (fun z S => CelsX.Ok S z) (fun z => CelsX.Ok.loc z) wn rfl Try.call25 rfl (fun w1 Pb hM pp => ih s3 (ExprX.kid_lt (List.mem_of_getElem? hs3)) time f fcap C lk Pb w1 pp.lt (pp.at_ 0 _ rfl) (pp.at_ 7 _ rfl) hf hg hdl ht (hso.kid (List.mem_of_getElem? (by assumption)))) fun z2 hz2 => ?_
        refine l_get 0 rfl (fun S w h => CelsX.Ok.wf h) fun hw5 => ?_
        refine l_opn (fun _ h => h.celsX 0 rfl) ?_
        obtain ⟨hc12, hm12, hA12⟩ := hw5.cells
        refine l_val wn (r_move rfl) rfl ?_
        refine l_val wn (r_extract rfl rfl) rfl ?_
        refine l_val wn (r_extract rfl rfl) rfl ?_
        refine l_val wn (r_extract rfl rfl) rfl ?_
        refine l_val wn (r_assign rfl) rfl ?_
        refine l_val wn (r_assign rfl) rfl ?_
        refine l_val wn (r_assign rfl) rfl ?_
        refine l_nil (e_go hK25 ?_)
        refine c_seq fun K26 hK26 => ?_
        refine c_seq fun K27 hK27 => ?_
        refine c_region ?_
        refine l_val wn (r_move rfl) rfl ?_
        refine l_val wn (r_neq rfl rfl) rfl ?_
        refine l_nil (e_go hK27 ?_)
        refine c_cond rfl (fun h8 => ?_) (fun h8 => ?_)
        ·
          refine c_seq fun K28 hK28 => ?_
          refine c_region ?_
          refine l_val wn (r_move rfl) rfl ?_
          refine l_val wn (r_assign rfl) rfl ?_
          refine l_val wn (r_assign rfl) rfl ?_
          refine l_val wn (r_assign rfl) rfl ?_
          refine l_nil (e_go hK28 ?_)
          refine c_ret (e_then_r (e_in_r (e_then_r (e_ret3 (.inl rfl) Try.results25 (rv_tmp rfl) (rv_tmp rfl) (rv_tmp rfl) fun w1 hM => ?_))))
          have hx9 : (Mn.eval lk time s3.e).2 ≠ 0 := by rw [← Mn.rout_err]; exact h8
          have hb9 : (Mn.rout (Mn.eval lk time e.e)) = ([], false, (Mn.rout (Mn.eval lk time s3.e)).2.2) := by rw [Mn.kid1 h7 (show e.kids.l.length = 1 by omega) hs3, if_pos hx9, Mn.rout_bad (r := (Mn.zero, (Mn.eval lk time s3.e).2)) hx9, Mn.rout_bad (r := (Mn.eval lk time s3.e)) hx9]
          exact hM.retE (⟨none, 0, []⟩ : SlX CellX) (by first | (rw [hb9]; done) | (rw [hb9]; rfl)) (by first | (rw [hb9]; done) | (rw [hb9]; rfl)) fun Pb pp => ⟨FlatSl.nil_ _ _ _ _, fun c hc => (by cases hc)⟩
        ·
          refine c_skip (e_go hK26 ?_)
          refine c_seq fun K29 hK29 => ?_
          refine c_region ?_
          have e0_0 : (Mn.eval lk time s3.e).2 = 0 := by rw [← Mn.rout_err]; exact Classical.not_not.1 h8
          have hsd_0 := hso.kid (List.mem_of_getElem? hs3)
          have hcl_0 : z2.l.map CellX.e = Mn.cellsOf (Mn.eval lk time s3.e).1 := hz2.trans (Mn.rout_cells e0_0).1
          obtain ⟨hgb_0, hgs_0, hgl_0⟩ := Mn.cells_good (Mn.eval_good hg time _ hsd_0.right) hcl_0
          refine l_val wn (r_lbn 8 [.int .i64 e.kind, .int .i64 e.n, .int .i64 e.range, .string e.word, .slice e.ms.A e.ms.l.length e.ms.c, .slice e.by_.A e.by_.l.length e.by_.c, .slice e.kids.A e.kids.l.length e.kids.c] rfl rfl rfl rfl agg27 inf27) rfl ?_
          refine l_val wn (r_move rfl) rfl ?_
          refine l_callE0 (β := SlX CellX) (rV (Mn.rout (Mn.all e.word e.by_.l (z2.l.map CellX.e)))) (fun z => z.l.map CellX.e = (Mn.rout (Mn.all e.word e.by_.l (z2.l.map CellX.e))).1) (fun z S => CelsX.Ok S z) (fun z => CelsX.Ok.loc z) wn rfl Try.call47 rfl (fun w1 Pb hM pp => c_refAll e _ z2.l Pb w1 pp.lt (pp.at_ 9 _ rfl) (pp.sl 0 rfl) (pp.at_ 1 _ rfl) (by assumption) (by assumption) (by assumption) (Mn.sound_words hso (by assumption))) fun z3 hz3 => ?_
          refine l_get 0 rfl (fun S w h => CelsX.Ok.wf h) fun hw6 => ?_
          refine l_opn (fun _ h => h.celsX 0 rfl) ?_
          obtain ⟨hc13, hm13, hA13⟩ := hw6.cells
          refine l_val wn (r_extract rfl rfl) rfl ?_
          refine l_val wn (r_extract rfl rfl) rfl ?_
          refine l_val wn (r_extract rfl rfl) rfl ?_
          refine l_val wn (r_assign rfl) rfl ?_
          refine l_val wn (r_assign rfl) rfl ?_
          refine l_val wn (r_assign rfl) rfl ?_
          refine l_nil (e_go hK29 ?_)
          refine c_ret (e_in_r (e_then_r (e_ret3 (.inl rfl) Try.results25 (rv_tmp rfl) (rv_tmp rfl) (rv_tmp rfl) fun w1 hM => ?_)))
          have hvc9 : (Mn.eval lk time s3.e).1.vec = true := by rw [Mn.eval_vec time _ hsd_0.fine e0_0]; exact hso.vec h7 (show e.kids.l.length = 1 by omega) hs3
          have hzc9 : z2.l.map CellX.e = (Mn.eval lk time s3.e).1.cells := by rw [hcl_0, Mn.cellsOf, if_pos hvc9]
          have hb9 : (Mn.rout (Mn.eval lk time e.e)) = Mn.rout (Mn.all e.word e.by_.l (z2.l.map CellX.e)) := by rw [Mn.kid1 h7 (show e.kids.l.length = 1 by omega) hs3, if_neg (by simpa using e0_0), hzc9]
          exact hM.retE z3 (by first | (rw [hb9]; done) | (rw [hb9]; rfl)) (by rw [hb9]; exact hz3) fun Pb pp => pp.at_ 2 _ rfl
      ·
        refine c_skip (e_in_n (e_go hK2 ?_))
        refine c_seq fun K30 hK30 => ?_
        refine c_region ?_
        refine l_val wn (r_fa rfl fld27_6) rfl ?_
        refine l_val wn (r_lb 0 rfl rfl rfl flat25) rfl ?_
        refine l_opn (fun _ h => h.exprX 1 rfl) ?_
        obtain ⟨hc14, hm14, hA14⟩ := hwe.ms
        obtain ⟨hc15, hm15, hA15⟩ := hwe.by_
        obtain ⟨hc16, hm16, hA16⟩ := hwe.kids
        obtain ⟨ad4, hd4⟩ := hA16 (ne_nil (i := 0) (by first | omega | (simp <;> omega)))
        refine l_val wn (r_ia (i := 0) rfl hd4 rfl (by omega) (by first | omega | (simp <;> omega)) Try.underlying25 inf27) rfl ?_
        obtain ⟨s4, hs4⟩ : ∃ x, e.kids.l[0]? = some x := ⟨_, List.getElem?_eq_getElem (by first | omega | (simp <;> omega))⟩
        refine l_val wn (r_pln 2 [.int .i64 s4.kind, .int .i64 s4.n, .int .i64 s4.range, .string s4.word, .slice s4.ms.A s4.ms.l.length s4.ms.c, .slice s4.by_.A s4.by_.l.length s4.by_.c, .slice s4.kids.A s4.kids.l.length s4.kids.c] rfl rfl hd4 hs4 rfl rfl agg27 inf27) rfl ?_
        refine l_val wn (r_move rfl) rfl ?_
        refine l_val wn (r_move rfl) rfl ?_
        have hw7 := hwe.all _ (List.mem_of_getElem? hs4)
        refine l_opn (fun _ h => h.one 3 ExprX.Ok.loc rfl hs4) ?_
        refine l_callE0 (β := SlX CellX) (rV (Mn.rout (Mn.eval lk time s4.e))) (fun z => z.l.map CellX.e = (Mn.rout (Mn.eval lk time s4.e)).1) (fun z S => CelsX.Ok S z) (fun z => CelsX.Ok.loc z) wn rfl Try.call25 rfl (fun w1 Pb hM pp => ih s4 (ExprX.kid_lt (List.mem_of_getElem? hs4)) time f fcap C lk Pb w1 pp.lt (pp.at_ 0 _ rfl) (pp.at_ 7 _ rfl) hf hg hdl ht (hso.kid (List.mem_of_getElem? (by assumption)))) fun z4 hz4 => ?_
        refine l_get 0 rfl (fun S w h => CelsX.Ok.wf h) fun hw8 => ?_
        refine l_opn (fun _ h => h.celsX 0 rfl) ?_
        obtain ⟨hc17, hm17, hA17⟩ := hw8.cells
        refine l_val wn (r_move rfl) rfl ?_
        refine l_val wn (r_extract rfl rfl) rfl ?_
        refine l_val wn (r_extract rfl rfl) rfl ?_
        refine l_val wn (r_extract rfl rfl) rfl ?_
        refine l_val wn (r_assign rfl) rfl ?_
        refine l_val wn (r_assign rfl) rfl ?_
        refine l_val wn (r_assign rfl) rfl ?_
        refine l_nil (e_go hK30 ?_)
        refine c_seq fun K31 hK31 => ?_
        refine c_seq fun K32 hK32 => ?_
        refine c_region ?_
        refine l_val wn (r_move rfl) rfl ?_
        refine l_val wn (r_neq rfl rfl) rfl ?_
        refine l_nil (e_go hK32 ?_)
        refine c_cond rfl (fun h9 => ?_) (fun h9 => ?_)
        ·
          refine c_seq fun K33 hK33 => ?_
          refine c_region ?_
          refine l_val wn (r_move rfl) rfl ?_
          refine l_val wn (r_assign rfl) rfl ?_
          refine l_val wn (r_assign rfl) rfl ?_
          refine l_val wn (r_assign rfl) rfl ?_
          refine l_nil (e_go hK33 ?_)
          refine c_ret (e_then_r (e_ret3 (.inl rfl) Try.results25 (rv_tmp rfl) (rv_tmp rfl) (rv_tmp rfl) fun w1 hM => ?_))
          have hx9 : (Mn.eval lk time s4.e).2 ≠ 0 := by rw [← Mn.rout_err]; exact h9
          obtain ⟨u9, hu9⟩ : ∃ x, e.kids.l[1]? = some x := ⟨_, List.getElem?_eq_getElem (by omega)⟩
          have hb9 : (Mn.rout (Mn.eval lk time e.e)) = ([], false, (Mn.rout (Mn.eval lk time s4.e)).2.2) := by rw [Mn.kid2 (show e.kind = 4 by omega) (show e.kids.l.length = 2 by omega) hs4 hu9, if_pos hx9, Mn.rout_bad (r := (Mn.zero, (Mn.eval lk time s4.e).2)) hx9, Mn.rout_bad (r := (Mn.eval lk time s4.e)) hx9]
          exact hM.retE (⟨none, 0, []⟩ : SlX CellX) (by first | (rw [hb9]; done) | (rw [hb9]; rfl)) (by first | (rw [hb9]; done) | (rw [hb9]; rfl)) fun Pb pp => ⟨FlatSl.nil_ _ _ _ _, fun c hc => (by cases hc)⟩
        ·
          refine c_skip (e_go hK31 ?_)
          refine c_seq fun K34 hK34 => ?_
          refine c_region ?_
          refine l_val wn (r_fa rfl fld27_6) rfl ?_
          refine l_val wn (r_lb 8 rfl rfl rfl flat25) rfl ?_
          refine l_val wn (r_ia (i := 1) rfl hd4 rfl (by omega) (by first | omega | (simp <;> omega)) Try.underlying25 inf27) rfl ?_
          obtain ⟨s5, hs5⟩ : ∃ x, e.kids.l[1]? = some x := ⟨_, List.getElem?_eq_getElem (by first | omega | (simp <;> omega))⟩
          refine l_val wn (r_pln 6 [.int .i64 s5.kind, .int .i64 s5.n, .int .i64 s5.range, .string s5.word, .slice s5.ms.A s5.ms.l.length s5.ms.c, .slice s5.by_.A s5.by_.l.length s5.by_.c, .slice s5.kids.A s5.kids.l.length s5.kids.c] rfl rfl hd4 hs5 rfl rfl agg27 inf27) rfl ?_
          refine l_val wn (r_move rfl) rfl ?_
          refine l_val wn (r_move rfl) rfl ?_
          have hw9 := hwe.all _ (List.mem_of_getElem? hs5)
          refine l_opn (fun _ h => h.one 7 ExprX.Ok.loc rfl hs5) ?_
          refine l_callE0 (β := SlX CellX) (rV (Mn.rout (Mn.eval lk time s5.e))) (fun z => z.l.map CellX.e = (Mn.rout (Mn.eval lk time s5.e)).1) (fun z S => CelsX.Ok S z) (fun z => CelsX.Ok.loc z) wn rfl Try.call25 rfl (fun w1 Pb hM pp => ih s5 (ExprX.kid_lt (List.mem_of_getElem? hs5)) time f fcap C lk Pb w1 pp.lt (pp.at_ 0 _ rfl) (pp.at_ 11 _ rfl) hf hg hdl ht (hso.kid (List.mem_of_getElem? (by assumption)))) fun z5 hz5 => ?_
          refine l_get 0 rfl (fun S w h => CelsX.Ok.wf h) fun hw10 => ?_
          refine l_opn (fun _ h => h.celsX 0 rfl) ?_
          obtain ⟨hc18, hm18, hA18⟩ := hw10.cells
          refine l_val wn (r_move rfl) rfl ?_
          refine l_val wn (r_extract rfl rfl) rfl ?_
          refine l_val wn (r_extract rfl rfl) rfl ?_
          refine l_val wn (r_extract rfl rfl) rfl ?_
          refine l_val wn (r_assign rfl) rfl ?_
          refine l_val wn (r_assign rfl) rfl ?_
          refine l_val wn (r_assign rfl) rfl ?_
          refine l_nil (e_go hK34 ?_)
          refine c_seq fun K35 hK35 => ?_
          refine c_seq fun K36 hK36 => ?_
          refine c_region ?_
          refine l_val wn (r_move rfl) rfl ?_
          refine l_val wn (r_neq rfl rfl) rfl ?_
          refine l_nil (e_go hK36 ?_)
          refine c_cond rfl (fun h10 => ?_) (fun h10 => ?_)
          ·
            refine c_seq fun K37 hK37 => ?_
            refine c_region ?_
            refine l_val wn (r_move rfl) rfl ?_
            refine l_val wn (r_assign rfl) rfl ?_
            refine l_val wn (r_assign rfl) rfl ?_
            refine l_val wn (r_assign rfl) rfl ?_
            refine l_nil (e_go hK37 ?_)
            refine c_ret (e_then_r (e_ret3 (.inl rfl) Try.results25 (rv_tmp rfl) (rv_tmp rfl) (rv_tmp rfl) fun w1 hM => ?_))
            have hy9 : (Mn.eval lk time s4.e).2 = 0 := by rw [← Mn.rout_err]; exact Classical.not_not.1 h9
            have hx9 : (Mn.eval lk time s5.e).2 ≠ 0 := by rw [← Mn.rout_err]; exact h10
            have hb9 : (Mn.rout (Mn.eval lk time e.e)) = ([], false, (Mn.rout (Mn.eval lk time s5.e)).2.2) := by rw [Mn.kid2 (show e.kind = 4 by omega) (show e.kids.l.length = 2 by omega) hs4 hs5, if_neg (by simpa using hy9), if_pos hx9, Mn.rout_bad (r := (Mn.zero, (Mn.eval lk time s5.e).2)) hx9, Mn.rout_bad (r := (Mn.eval lk time s5.e)) hx9]
            exact hM.retE (⟨none, 0, []⟩ : SlX CellX) (by first | (rw [hb9]; done) | (rw [hb9]; rfl)) (by first | (rw [hb9]; done) | (rw [hb9]; rfl)) fun Pb pp => ⟨FlatSl.nil_ _ _ _ _, fun c hc => (by cases hc)⟩
          ·
            refine c_skip (e_go hK35 ?_)
            refine c_seq fun K38 hK38 => ?_
            refine c_region ?_
            have e0_0 : (Mn.eval lk time s4.e).2 = 0 := by rw [← Mn.rout_err]; exact Classical.not_not.1 h9
            have hsd_0 := hso.kid (List.mem_of_getElem? hs4)
            have hcl_0 : z4.l.map CellX.e = Mn.cellsOf (Mn.eval lk time s4.e).1 := hz4.trans (Mn.rout_cells e0_0).1
            obtain ⟨hgb_0, hgs_0, hgl_0⟩ := Mn.cells_good (Mn.eval_good hg time _ hsd_0.right) hcl_0
            have e0_1 : (Mn.eval lk time s5.e).2 = 0 := by rw [← Mn.rout_err]; exact Classical.not_not.1 h10
            have hsd_1 := hso.kid (List.mem_of_getElem? hs5)
            have hcl_1 : z5.l.map CellX.e = Mn.cellsOf (Mn.eval lk time s5.e).1 := hz5.trans (Mn.rout_cells e0_1).1
            obtain ⟨hgb_1, hgs_1, hgl_1⟩ := Mn.cells_good (Mn.eval_good hg time _ hsd_1.right) hcl_1
            refine l_nilRow (cellE : CellX → List Value) 44 2 ?_
            refine l_opn (fun _ h => h.all0 CellX.Ok.loc) ?_
            refine l_val wn (r_assign rfl) rfl ?_
            refine l_nil (e_go hK38 ?_)
            refine c_seq fun K39 hK39 => ?_
            refine c_region ?_
            refine l_val wn (r_assign rfl) rfl ?_
            refine l_nil (e_go hK39 ?_)
            refine c_seq fun K40 hK40 => ?_
            refine c_seq fun K41 hK41 => ?_
            refine c_region ?_
            refine l_val wn (r_move rfl) rfl ?_
            refine l_val wn (r_len rfl Try.underlying28) rfl ?_
            refine l_val wn (r_move rfl) rfl ?_
            refine l_nil (e_go hK41 ?_)
            refine c_block ?_
            refine c_loop4 (fun (k : Nat) (cs : List CellX) (good : Bool) (ov : Value) => [(3, .pointer (some ⟨b3, 0, none⟩)), (22, .bool ((Mn.rout (Mn.eval lk time s4.e)).2.1)), (24, .slice z5.A z5.l.length z5.c), (25, .bool ((Mn.rout (Mn.eval lk time s5.e)).2.1)), (26, ov), (27, .bool good), (141, .slice z4.A z4.l.length z4.c), (142, .int .i64 (z4.l.length : Int)), (143, .int .i64 (k : Int))]) (fun (k : Nat) (cs : List CellX) (good : Bool) (ov : Value) => [allP CellX.Ok cs, Row ov 44 2 cellE cs, slP 2 cellE (.slice z5.A z5.l.length z5.c) z5.l, allP CellX.Ok z5.l, okP CelsX.Ok z5, okP ExprX.Ok s5, slP 2 cellE (.slice z4.A z4.l.length z4.c) z4.l, allP CellX.Ok z4.l, okP CelsX.Ok z4, okP ExprX.Ok s4, slP 3 matchE (.slice e.ms.A e.ms.l.length e.ms.c) e.ms.l, slP 1 strE (.slice e.by_.A e.by_.l.length e.by_.c) e.by_.l, slP 7 exprE (.slice e.kids.A e.kids.l.length e.kids.c) e.kids.l, allP ExprX.Ok e.kids.l, .blk b3 [.int .i64 e.kind, .int .i64 e.n, .int .i64 e.range, .string e.word, .slice e.ms.A e.ms.l.length e.ms.c, .slice e.by_.A e.by_.l.length e.by_.c, .slice e.kids.A e.kids.l.length e.kids.c] 27, okP ExprX.Ok e, .pub C]) (fun (k : Nat) (cs : List CellX) (good : Bool) (ov : Value) => k ≤ z4.l.length ∧ (∀ x ∈ cs, CellX.Wf x) ∧ cs.map CellX.e = Mn.done e.word (Mn.rp (Mn.rout (Mn.eval lk time s4.e)).2.1 (Mn.rout (Mn.eval lk time s5.e)).2.1 ((z4.l.take k).map CellX.e) (z5.l.map CellX.e)) ∧ good = Mn.fine e.word (Mn.rp (Mn.rout (Mn.eval lk time s4.e)).2.1 (Mn.rout (Mn.eval lk time s5.e)).2.1 ((z4.l.take k).map CellX.e) (z5.l.map CellX.e)) ∧ cs.length ≤ k * z5.l.length) (fun (k : Nat) (cs : List CellX) (good : Bool) (ov : Value) => z4.l.length - k) 0 [] true (.slice none 0 0) (sc rfl (sc rfl (sc rfl (sc rfl (sc rfl (sc rfl (sc rfl (sc rfl (sc (ji (by omega)) sn))))))))) (fun _ h => h) ?_ (fun k cs good ov hI2 => ?_)
            · exact ⟨Nat.zero_le _, fun x hx => (by cases hx), rfl, rfl, Nat.zero_le _⟩
            ·
              have hwf := hI2.2.1
              have hlen := hI2.2.2.2.2
              have hkb : k * z5.l.length ≤ 1048576 * 1048576 := Nat.mul_le_mul (by omega) (by omega)
              refine c_open 1 (l := cs) rfl fun A3 cp3 hv2 hc19 hm19 hA19 => ?_
              subst hv2
              refine c_seq fun K42 hK42 => ?_
              refine c_region ?_
              refine l_val wn (r_lss rfl rfl) rfl ?_
              refine l_nil (e_go hK42 ?_)
              refine c_seq fun K43 hK43 => ?_
              refine c_cond rfl (fun h11 => ?_) (fun h11 => ?_)
              ·
                refine c_skip (e_go hK43 ?_)
                refine c_seq fun K44 hK44 => ?_
                refine c_block ?_
                refine c_seq fun K45 hK45 => ?_
                refine c_region ?_
                obtain ⟨ad5, hd5⟩ := hA17 (ne_nil (i := k) (by first | omega | (simp <;> omega)))
                refine l_val wn (r_ia (i := k) rfl hd5 rfl (by omega) (by first | omega | (simp <;> omega)) Try.underlying28 inf44) rfl ?_
                obtain ⟨s6, hs6⟩ : ∃ x, z4.l[k]? = some x := ⟨_, List.getElem?_eq_getElem (by first | omega | (simp <;> omega))⟩
                have hb_s6 := hgb_0 _ (List.mem_of_getElem? hs6)
                refine l_val wn (r_pln 6 [.slice s6.sr.A s6.sr.l.length s6.sr.c, .int .i64 s6.value] rfl rfl hd5 hs6 rfl rfl agg44 inf44) rfl ?_
                refine l_alloc wn inf44 rfl fun b29 => ?_
                refine l_stn 0 wn rfl rfl rfl inf44 rfl rfl rfl ?_
                refine l_nil (e_go hK45 ?_)
                refine c_seq fun K46 hK46 => ?_
                refine c_region ?_
                refine l_val wn (r_move rfl) rfl ?_
                refine l_val wn (r_len rfl Try.underlying28) rfl ?_
                refine l_val wn (r_move rfl) rfl ?_
                refine l_nil (e_go hK46 ?_)
                refine c_block ?_
                refine c_loop4 (fun (j : Nat) (ds : List CellX) (gd : Bool) (ov2 : Value) => [(3, .pointer (some ⟨b3, 0, none⟩)), (22, .bool ((Mn.rout (Mn.eval lk time s4.e)).2.1)), (24, .slice z5.A z5.l.length z5.c), (25, .bool ((Mn.rout (Mn.eval lk time s5.e)).2.1)), (26, ov2), (27, .bool gd), (29, .pointer (some ⟨b29, 0, none⟩)), (141, .slice z4.A z4.l.length z4.c), (142, .int .i64 (z4.l.length : Int)), (143, .int .i64 (k : Int)), (147, .slice z5.A z5.l.length z5.c), (148, .int .i64 (z5.l.length : Int)), (149, .int .i64 (j : Int))]) (fun (j : Nat) (ds : List CellX) (gd : Bool) (ov2 : Value) => [.blk b29 [.slice s6.sr.A s6.sr.l.length s6.sr.c, .int .i64 s6.value] 44, allP CellX.Ok ds, Row ov2 44 2 cellE ds, slP 2 cellE (.slice z5.A z5.l.length z5.c) z5.l, allP CellX.Ok z5.l, okP CelsX.Ok z5, okP ExprX.Ok s5, slP 2 cellE (.slice z4.A z4.l.length z4.c) z4.l, allP CellX.Ok z4.l, okP CelsX.Ok z4, okP ExprX.Ok s4, slP 3 matchE (.slice e.ms.A e.ms.l.length e.ms.c) e.ms.l, slP 1 strE (.slice e.by_.A e.by_.l.length e.by_.c) e.by_.l, slP 7 exprE (.slice e.kids.A e.kids.l.length e.kids.c) e.kids.l, allP ExprX.Ok e.kids.l, .blk b3 [.int .i64 e.kind, .int .i64 e.n, .int .i64 e.range, .string e.word, .slice e.ms.A e.ms.l.length e.ms.c, .slice e.by_.A e.by_.l.length e.by_.c, .slice e.kids.A e.kids.l.length e.kids.c] 27, okP ExprX.Ok e, .pub C]) (fun (j : Nat) (ds : List CellX) (gd : Bool) (ov2 : Value) => j ≤ z5.l.length ∧ (∀ x ∈ ds, CellX.Wf x) ∧ ds.map CellX.e = Mn.done e.word (Mn.rp (Mn.rout (Mn.eval lk time s4.e)).2.1 (Mn.rout (Mn.eval lk time s5.e)).2.1 ((z4.l.take k).map CellX.e) (z5.l.map CellX.e) ++ Mn.rp1 (Mn.rout (Mn.eval lk time s4.e)).2.1 (Mn.rout (Mn.eval lk time s5.e)).2.1 s6.e ((z5.l.take j).map CellX.e)) ∧ gd = Mn.fine e.word (Mn.rp (Mn.rout (Mn.eval lk time s4.e)).2.1 (Mn.rout (Mn.eval lk time s5.e)).2.1 ((z4.l.take k).map CellX.e) (z5.l.map CellX.e) ++ Mn.rp1 (Mn.rout (Mn.eval lk time s4.e)).2.1 (Mn.rout (Mn.eval lk time s5.e)).2.1 s6.e ((z5.l.take j).map CellX.e)) ∧ ds.length ≤ k * z5.l.length + j) (fun (j : Nat) (ds : List CellX) (gd : Bool) (ov2 : Value) => z5.l.length - j) 0 cs good (.slice A3 cs.length cp3) (sc rfl (sc rfl (sc rfl (sc rfl (sc rfl (sc rfl (sc rfl (sc rfl (sc rfl (sc rfl (sc rfl (sc rfl (sc (ji (by omega)) sn))))))))))))) (fun _ h => h) ?_ (fun j ds gd ov2 hI3 => ?_)
                · exact ⟨Nat.zero_le _, hwf, by rw [show Mn.rp1 _ _ _ _ = [] from rfl, List.append_nil]; exact hI2.2.2.1, by rw [show Mn.rp1 _ _ _ _ = [] from rfl, List.append_nil]; exact hI2.2.2.2.1, by omega⟩
                ·
                  have hwd := hI3.2.1
                  have hlen2 := hI3.2.2.2.2
                  refine c_open 2 (l := ds) rfl fun A4 cp4 hv3 hc20 hm20 hA20 => ?_
                  subst hv3
                  refine c_seq fun K47 hK47 => ?_
                  refine c_region ?_
                  refine l_val wn (r_lss rfl rfl) rfl ?_
                  refine l_nil (e_go hK47 ?_)
                  refine c_seq fun K48 hK48 => ?_
                  refine c_cond rfl (fun h12 => ?_) (fun h12 => ?_)
                  ·
                    refine c_skip (e_go hK48 ?_)
                    refine c_seq fun K49 hK49 => ?_
                    refine c_block ?_
                    refine c_seq fun K50 hK50 => ?_
                    refine c_region ?_
                    obtain ⟨ad6, hd6⟩ := hA18 (ne_nil (i := j) (by first | omega | (simp <;> omega)))
                    refine l_val wn (r_ia (i := j) rfl hd6 rfl (by omega) (by first | omega | (simp <;> omega)) Try.underlying28 inf44) rfl ?_
                    obtain ⟨s7, hs7⟩ : ∃ x, z5.l[j]? = some x := ⟨_, List.getElem?_eq_getElem (by first | omega | (simp <;> omega))⟩
                    have hb_s7 := hgb_1 _ (List.mem_of_getElem? hs7)
                    refine l_val wn (r_pln 3 [.slice s7.sr.A s7.sr.l.length s7.sr.c, .int .i64 s7.value] rfl rfl hd6 hs7 rfl rfl agg44 inf44) rfl ?_
                    refine l_alloc wn inf44 rfl fun b31 => ?_
                    refine l_stn 0 wn rfl rfl rfl inf44 rfl rfl rfl ?_
                    refine l_nil (e_go hK50 ?_)
                    refine c_seq fun K51 hK51 => ?_
                    refine c_cut [(3, .pointer (some ⟨b3, 0, none⟩)), (22, .bool ((Mn.rout (Mn.eval lk time s4.e)).2.1)), (24, .slice z5.A z5.l.length z5.c), (25, .bool ((Mn.rout (Mn.eval lk time s5.e)).2.1)), (26, .slice A4 ds.length cp4), (27, .bool gd), (29, .pointer (some ⟨b29, 0, none⟩)), (31, .pointer (some ⟨b31, 0, none⟩)), (141, .slice z4.A z4.l.length z4.c), (142, .int .i64 (z4.l.length : Int)), (143, .int .i64 (k : Int)), (147, .slice z5.A z5.l.length z5.c), (148, .int .i64 (z5.l.length : Int)), (149, .int .i64 (j : Int)), (164, .bool (decide (((Mn.rout (Mn.eval lk time s4.e)).2.1 = true) ∧ (((Mn.rout (Mn.eval lk time s5.e)).2.1 = true) ∧ (¬ (s6.sr.l = s7.sr.l))))))] (Mem w ⟨no, P0⟩ [.blk b31 [.slice s7.sr.A s7.sr.l.length s7.sr.c, .int .i64 s7.value] 44, .blk b29 [.slice s6.sr.A s6.sr.l.length s6.sr.c, .int .i64 s6.value] 44, allP CellX.Ok ds, Row (.slice A4 ds.length cp4) 44 2 cellE ds, slP 2 cellE (.slice z5.A z5.l.length z5.c) z5.l, allP CellX.Ok z5.l, okP CelsX.Ok z5, okP ExprX.Ok s5, slP 2 cellE (.slice z4.A z4.l.length z4.c) z4.l, allP CellX.Ok z4.l, okP CelsX.Ok z4, okP ExprX.Ok s4, slP 3 matchE (.slice e.ms.A e.ms.l.length e.ms.c) e.ms.l, slP 1 strE (.slice e.by_.A e.by_.l.length e.by_.c) e.by_.l, slP 7 exprE (.slice e.kids.A e.kids.l.length e.kids.c) e.kids.l, allP ExprX.Ok e.kids.l, .blk b3 [.int .i64 e.kind, .int .i64 e.n, .int .i64 e.range, .string e.word, .slice e.ms.A e.ms.l.length e.ms.c, .slice e.by_.A e.by_.l.length e.by_.c, .slice e.kids.A e.kids.l.length e.kids.c] 27, okP ExprX.Ok e, .pub C]) (fun K52 hK52 => ?_) ?_
                    ·
                      refine c_region ?_
                      refine l_val wn (r_move rfl) rfl ?_
                      refine l_val wn (r_move rfl) rfl ?_
                      refine l_caseb (t := 154) rfl (fun h13 => ?_) (fun h13 => ?_)
                      ·
                        refine l_val (wg rfl rfl rfl) (r_move rfl) rfl ?_
                        refine l_val wn (r_pick rfl rfl) rfl ?_
                        refine l_val wn (r_move rfl) rfl ?_
                        refine l_caseb (t := 157) rfl (fun h14 => ?_) (fun h14 => ?_)
                        ·
                          refine l_val (wg rfl rfl rfl) (r_fa rfl fld44_0) rfl ?_
                          refine l_val (wg rfl rfl rfl) (r_lb 1 rfl rfl rfl flat42) rfl ?_
                          refine l_val (wg rfl rfl rfl) (r_fa rfl fld44_0) rfl ?_
                          refine l_val (wg rfl rfl rfl) (r_lb 0 rfl rfl rfl flat42) rfl ?_
                          have hw11 := hw8.all _ (List.mem_of_getElem? hs6)
                          refine l_opn (fun _ h => h.one 9 CellX.Ok.loc rfl hs6) ?_
                          refine l_opn (fun _ h => h.cellX 0 rfl) ?_
                          obtain ⟨hc21, hm21, hA21⟩ := hw11.sr
                          have hw12 := hw10.all _ (List.mem_of_getElem? hs7)
                          refine l_opn (fun _ h => h.one 7 CellX.Ok.loc rfl hs7) ?_
                          refine l_opn (fun _ h => h.cellX 0 rfl) ?_
                          obtain ⟨hc22, hm22, hA22⟩ := hw12.sr
                          refine l_callF (wg rfl rfl rfl) rfl Try.call18 rfl (fun w1 hM => c_SameSeries _ s6.sr.l _ s7.sr.l w1 (hM.slp 2 rfl) (hM.slp 0 rfl)) ?_
                          refine l_val (wg rfl rfl rfl) (r_not rfl) rfl ?_
                          refine l_val wn (r_pick rfl rfl) rfl ?_
                          refine l_nil (e_cut hK52 (sc rfl (sc rfl (sc rfl (sc rfl (sc rfl (sc rfl (sc rfl (sc rfl (sc rfl (sc rfl (sc rfl (sc rfl (sc rfl (sc rfl (sc (jp (iff_and_right h13 (iff_and_right h14 Iff.rfl))) sn))))))))))))))) (fun _ h => (h.sel [4, 5, 6, 7, 8, 9, 10, 11, 12, 13, 14, 15, 16, 17, 18, 19, 20, 21, 22] (by decide) rfl)))
                        ·
                          refine l_skip (wg rfl rfl rfl) rfl ?_
                          refine l_skip (wg rfl rfl rfl) rfl ?_
                          refine l_skip (wg rfl rfl rfl) rfl ?_
                          refine l_skip (wg rfl rfl rfl) rfl ?_
                          refine l_skip (wg rfl rfl rfl) rfl ?_
                          refine l_skip (wg rfl rfl rfl) rfl ?_
                          refine l_val wn (r_pick rfl rfl) rfl ?_
                          refine l_nil (e_cut hK52 (sc rfl (sc rfl (sc rfl (sc rfl (sc rfl (sc rfl (sc rfl (sc rfl (sc rfl (sc rfl (sc rfl (sc rfl (sc rfl (sc rfl (sc (jf (fun g => (fun g => h14 g.1) g.2)) sn))))))))))))))) (fun _ h => h))
                      ·
                        refine l_skip (wg rfl rfl rfl) rfl ?_
                        refine l_val wn (r_pick rfl rfl) rfl ?_
                        refine l_val wn (r_move rfl) rfl ?_
                        refine l_skip (wg rfl rfl rfl) rfl ?_
                        refine l_skip (wg rfl rfl rfl) rfl ?_
                        refine l_skip (wg rfl rfl rfl) rfl ?_
                        refine l_skip (wg rfl rfl rfl) rfl ?_
                        refine l_skip (wg rfl rfl rfl) rfl ?_
                        refine l_skip (wg rfl rfl rfl) rfl ?_
                        refine l_val wn (r_pick rfl rfl) rfl ?_
                        refine l_nil (e_cut hK52 (sc rfl (sc rfl (sc rfl (sc rfl (sc rfl (sc rfl (sc rfl (sc rfl (sc rfl (sc rfl (sc rfl (sc rfl (sc rfl (sc rfl (sc (jf (fun g => h13 g.1)) sn))))))))))))))) (fun _ h => h))
                    ·
                      refine c_cond rfl (fun h15 => ?_) (fun h15 => ?_)
                      ·
                        refine c_exit (e_then_x (e_in_hit (e_go hK49 ?_)))
                        refine c_region ?_
                        refine l_val wn (r_addn rfl rfl (by omega)) rfl ?_
                        refine l_val wn (r_move rfl) rfl ?_
                        refine l_nil (e_round4 (j + 1) ds gd (.slice A4 ds.length cp4) (sc rfl (sc rfl (sc rfl (sc rfl (sc rfl (sc rfl (sc rfl (sc rfl (sc rfl (sc rfl (sc rfl (sc rfl (sc (ji (by omega)) sn))))))))))))) (fun _ h => (h.sel [1, 2, 3, 4, 5, 6, 7, 8, 9, 10, 11, 12, 13, 14, 15, 16, 17, 18] (by decide) rfl)) ?_ ?_)
                        · have hg9 : (((Mn.rout (Mn.eval lk time s4.e)).2.1 = true ∧ (Mn.rout (Mn.eval lk time s5.e)).2.1 = true) ∧ ¬ s6.sr.l = s7.sr.l) := by simp_all only [not_true_eq_false, not_false_eq_true, and_self, and_true, true_and]
                          exact ⟨by omega, hwd, by rw [Mn.rp1_no hs7 hg9]; exact hI3.2.2.1, by rw [Mn.rp1_no hs7 hg9]; exact hI3.2.2.2.1, by omega⟩
                        · omega
                      ·
                        refine c_skip (e_go hK51 ?_)
                        refine c_seq fun K53 hK53 => ?_
                        refine c_region ?_
                        refine l_val wn (r_fa rfl fld44_0) rfl ?_
                        refine l_val wn (r_lb 1 rfl rfl rfl flat42) rfl ?_
                        refine l_val wn (r_assign rfl) rfl ?_
                        refine l_nil (e_go hK53 ?_)
                        refine c_seq fun K54 hK54 => ?_
                        refine c_seq fun K55 hK55 => ?_
                        refine c_region ?_
                        refine l_val wn (r_move rfl) rfl ?_
                        refine l_nil (e_go hK55 ?_)
                        refine c_condb rfl (fun h16 => ?_) (fun h16 => ?_)
                        ·
                          refine c_region ?_
                          refine l_val wn (r_fa rfl fld44_0) rfl ?_
                          refine l_val wn (r_lb 0 rfl rfl rfl flat42) rfl ?_
                          refine l_val wn (r_assign rfl) rfl ?_
                          refine l_nil (e_go hK54 ?_)
                          refine c_seq fun K56 hK56 => ?_
                          refine c_region ?_
                          refine l_val wn (r_fa rfl fld27_3) rfl ?_
                          refine l_val wn (r_lb 16 rfl rfl rfl flat9) rfl ?_
                          refine l_val wn (r_fa rfl fld44_1) rfl ?_
                          refine l_val wn (r_lb 1 rfl rfl rfl flat3) rfl ?_
                          refine l_val wn (r_fa rfl fld44_1) rfl ?_
                          refine l_val wn (r_lb 0 rfl rfl rfl flat3) rfl ?_
                          refine l_callF wn rfl Try.call48 rfl (fun w1 hM => c_refOp e.word s6.value s7.value w1 (by assumption) (by assumption)) ?_
                          refine l_val wn (r_move rfl) rfl ?_
                          refine l_val wn (r_extract rfl rfl) rfl ?_
                          refine l_val wn (r_extract rfl rfl) rfl ?_
                          refine l_val wn (r_assign rfl) rfl ?_
                          refine l_val wn (r_assign rfl) rfl ?_
                          refine l_nil (e_go hK56 ?_)
                          refine c_cut [(3, .pointer (some ⟨b3, 0, none⟩)), (22, .bool ((Mn.rout (Mn.eval lk time s4.e)).2.1)), (24, .slice z5.A z5.l.length z5.c), (25, .bool ((Mn.rout (Mn.eval lk time s5.e)).2.1)), (26, .slice A4 ds.length cp4), (27, .bool (decide ((gd = true) ∧ ((Mn.op e.word s6.value s7.value).2 = true)))), (29, .pointer (some ⟨b29, 0, none⟩)), (32, .slice s7.sr.A s7.sr.l.length s7.sr.c), (33, .int .i64 ((Mn.op e.word s6.value s7.value).1)), (141, .slice z4.A z4.l.length z4.c), (142, .int .i64 (z4.l.length : Int)), (143, .int .i64 (k : Int)), (147, .slice z5.A z5.l.length z5.c), (148, .int .i64 (z5.l.length : Int)), (149, .int .i64 (j : Int))] (Mem w ⟨no, P0⟩ [.blk b31 [.slice s7.sr.A s7.sr.l.length s7.sr.c, .int .i64 s7.value] 44, .blk b29 [.slice s6.sr.A s6.sr.l.length s6.sr.c, .int .i64 s6.value] 44, allP CellX.Ok ds, Row (.slice A4 ds.length cp4) 44 2 cellE ds, slP 2 cellE (.slice z5.A z5.l.length z5.c) z5.l, allP CellX.Ok z5.l, okP CelsX.Ok z5, okP ExprX.Ok s5, slP 2 cellE (.slice z4.A z4.l.length z4.c) z4.l, allP CellX.Ok z4.l, okP CelsX.Ok z4, okP ExprX.Ok s4, slP 3 matchE (.slice e.ms.A e.ms.l.length e.ms.c) e.ms.l, slP 1 strE (.slice e.by_.A e.by_.l.length e.by_.c) e.by_.l, slP 7 exprE (.slice e.kids.A e.kids.l.length e.kids.c) e.kids.l, allP ExprX.Ok e.kids.l, .blk b3 [.int .i64 e.kind, .int .i64 e.n, .int .i64 e.range, .string e.word, .slice e.ms.A e.ms.l.length e.ms.c, .slice e.by_.A e.by_.l.length e.by_.c, .slice e.kids.A e.kids.l.length e.kids.c] 27, okP ExprX.Ok e, .pub C]) (fun K57 hK57 => ?_) ?_
                          ·
                            refine c_region ?_
                            refine l_val wn (r_move rfl) rfl ?_
                            refine l_val wn (r_move rfl) rfl ?_
                            refine l_caseb (t := 181) rfl (fun h17 => ?_) (fun h17 => ?_)
                            ·
                              refine l_val (wg rfl rfl rfl) (r_move rfl) rfl ?_
                              refine l_val wn (r_pick rfl rfl) rfl ?_
                              refine l_val wn (r_assign rfl) rfl ?_
                              refine l_nil (e_cut hK57 (sc rfl (sc rfl (sc rfl (sc rfl (sc rfl (sc (jpb (iff_and_right h17 Iff.rfl)) (sc rfl (sc rfl (sc rfl (sc rfl (sc rfl (sc rfl (sc rfl (sc rfl (sc rfl sn))))))))))))))) (fun _ h => h))
                            ·
                              refine l_skip (wg rfl rfl rfl) rfl ?_
                              refine l_val wn (r_pick rfl rfl) rfl ?_
                              refine l_val wn (r_assign rfl) rfl ?_
                              refine l_nil (e_cut hK57 (sc rfl (sc rfl (sc rfl (sc rfl (sc rfl (sc (jf (fun g => h17 g.1)) (sc rfl (sc rfl (sc rfl (sc rfl (sc rfl (sc rfl (sc rfl (sc rfl (sc rfl sn))))))))))))))) (fun _ h => h))
                          ·
                            refine c_region ?_
                            refine l_val wn (r_move rfl) rfl ?_
                            refine l_val wn (r_move rfl) rfl ?_
                            refine l_val wn (r_move rfl) rfl ?_
                            refine l_val wn (r_build [.slice s7.sr.A s7.sr.l.length s7.sr.c, .int .i64 ((Mn.op e.word s6.value s7.value).1)] pl44 inf44 rfl rfl) rfl ?_
                            refine l_bsL cellE ([(CellX.mk ⟨s7.sr.A, s7.sr.c, s7.sr.l⟩ ((Mn.op e.word s6.value s7.value).1))] : List CellX) wn Try.underlying28 inf44 rfl rfl rfl rfl (by decide) (by decide) rfl fun b188 => ?_
                            refine l_app 4 ds ([(CellX.mk ⟨s7.sr.A, s7.sr.c, s7.sr.l⟩ ((Mn.op e.word s6.value s7.value).1))] : List CellX) encCellX wn rfl rfl rfl (fun _ hM => (RowSl encCellX hM 0 rfl)) Try.underlying28 inf44 rfl rfl (by simp only [List.length_append, List.length_cons, List.length_nil]; omega) rfl fun A5 cp5 hc23 hm23 hA23 => ?_
                            have hw14 := hw10.all _ (List.mem_of_getElem? hs7)
                            refine l_opn (fun _ h => h.one 6 CellX.Ok.loc rfl hs7) ?_
                            refine l_opn (fun _ h => h.cellX 0 rfl) ?_
                            obtain ⟨hc24, hm24, hA24⟩ := hw14.sr
                            refine l_opn (fun _ h => h.allCell (n := (Mn.op e.word s6.value s7.value).1) 5 0 rfl rfl) ?_
                            have hw13 : ∀ x ∈ (ds ++ ([(CellX.mk ⟨s7.sr.A, s7.sr.c, s7.sr.l⟩ ((Mn.op e.word s6.value s7.value).1))] : List CellX)), CellX.Wf x := fun x hx => (List.mem_append.1 hx).elim (hwd x) fun h => by rw [List.mem_singleton.1 h]; exact ⟨⟨by omega, by omega, hA24⟩⟩
                            refine l_val wn (r_assign rfl) rfl ?_
                            refine l_nil (e_in_n (e_go hK49 ?_))
                            refine c_region ?_
                            refine l_val wn (r_addn rfl rfl (by omega)) rfl ?_
                            refine l_val wn (r_move rfl) rfl ?_
                            refine l_nil (e_round4 (j + 1) (ds ++ ([(CellX.mk ⟨s7.sr.A, s7.sr.c, s7.sr.l⟩ ((Mn.op e.word s6.value s7.value).1))] : List CellX)) (decide ((gd = true) ∧ ((Mn.op e.word s6.value s7.value).2 = true))) (.slice A5 ((ds ++ ([(CellX.mk ⟨s7.sr.A, s7.sr.c, s7.sr.l⟩ ((Mn.op e.word s6.value s7.value).1))] : List CellX)).length) cp5) (sc rfl (sc rfl (sc rfl (sc rfl (sc rfl (sc rfl (sc rfl (sc rfl (sc rfl (sc rfl (sc rfl (sc rfl (sc (ji (by omega)) sn))))))))))))) (fun _ h => (h.sel [5, 0, 7, 8, 9, 10, 11, 12, 13, 14, 15, 16, 17, 18, 19, 20, 21, 22] (by decide) rfl)) ?_ ?_)
                            · have hg9 : ¬ (((Mn.rout (Mn.eval lk time s4.e)).2.1 = true ∧ (Mn.rout (Mn.eval lk time s5.e)).2.1 = true) ∧ ¬ s6.sr.l = s7.sr.l) := by simp_all
                              have hp9 : (Mn.rp (Mn.rout (Mn.eval lk time s4.e)).2.1 (Mn.rout (Mn.eval lk time s5.e)).2.1 ((z4.l.take k).map CellX.e) (z5.l.map CellX.e) ++ Mn.rp1 (Mn.rout (Mn.eval lk time s4.e)).2.1 (Mn.rout (Mn.eval lk time s5.e)).2.1 s6.e ((z5.l.take (j + 1)).map CellX.e)) = (Mn.rp (Mn.rout (Mn.eval lk time s4.e)).2.1 (Mn.rout (Mn.eval lk time s5.e)).2.1 ((z4.l.take k).map CellX.e) (z5.l.map CellX.e) ++ Mn.rp1 (Mn.rout (Mn.eval lk time s4.e)).2.1 (Mn.rout (Mn.eval lk time s5.e)).2.1 s6.e ((z5.l.take j).map CellX.e)) ++ [(s7.sr.l, s6.value, s7.value)] := by rw [Mn.rp1_yes hs7 hg9 (by simpa using h16), List.append_assoc]
                              exact ⟨by omega, hw13, Mn.done_at hI3.2.2.1 hp9, by rw [hp9]; exact Mn.fine_and hI3.2.2.2.1, by simp only [List.length_append, List.length_cons, List.length_nil]; omega⟩
                            · omega
                        ·
                          refine c_skip (e_go hK54 ?_)
                          refine c_seq fun K58 hK58 => ?_
                          refine c_region ?_
                          refine l_val wn (r_fa rfl fld27_3) rfl ?_
                          refine l_val wn (r_lb 16 rfl rfl rfl flat9) rfl ?_
                          refine l_val wn (r_fa rfl fld44_1) rfl ?_
                          refine l_val wn (r_lb 1 rfl rfl rfl flat3) rfl ?_
                          refine l_val wn (r_fa rfl fld44_1) rfl ?_
                          refine l_val wn (r_lb 0 rfl rfl rfl flat3) rfl ?_
                          refine l_callF wn rfl Try.call48 rfl (fun w1 hM => c_refOp e.word s6.value s7.value w1 (by assumption) (by assumption)) ?_
                          refine l_val wn (r_move rfl) rfl ?_
                          refine l_val wn (r_extract rfl rfl) rfl ?_
                          refine l_val wn (r_extract rfl rfl) rfl ?_
                          refine l_val wn (r_assign rfl) rfl ?_
                          refine l_val wn (r_assign rfl) rfl ?_
                          refine l_nil (e_go hK58 ?_)
                          refine c_cut [(3, .pointer (some ⟨b3, 0, none⟩)), (22, .bool ((Mn.rout (Mn.eval lk time s4.e)).2.1)), (24, .slice z5.A z5.l.length z5.c), (25, .bool ((Mn.rout (Mn.eval lk time s5.e)).2.1)), (26, .slice A4 ds.length cp4), (27, .bool (decide ((gd = true) ∧ ((Mn.op e.word s6.value s7.value).2 = true)))), (29, .pointer (some ⟨b29, 0, none⟩)), (32, .slice s6.sr.A s6.sr.l.length s6.sr.c), (33, .int .i64 ((Mn.op e.word s6.value s7.value).1)), (141, .slice z4.A z4.l.length z4.c), (142, .int .i64 (z4.l.length : Int)), (143, .int .i64 (k : Int)), (147, .slice z5.A z5.l.length z5.c), (148, .int .i64 (z5.l.length : Int)), (149, .int .i64 (j : Int))] (Mem w ⟨no, P0⟩ [.blk b31 [.slice s7.sr.A s7.sr.l.length s7.sr.c, .int .i64 s7.value] 44, .blk b29 [.slice s6.sr.A s6.sr.l.length s6.sr.c, .int .i64 s6.value] 44, allP CellX.Ok ds, Row (.slice A4 ds.length cp4) 44 2 cellE ds, slP 2 cellE (.slice z5.A z5.l.length z5.c) z5.l, allP CellX.Ok z5.l, okP CelsX.Ok z5, okP ExprX.Ok s5, slP 2 cellE (.slice z4.A z4.l.length z4.c) z4.l, allP CellX.Ok z4.l, okP CelsX.Ok z4, okP ExprX.Ok s4, slP 3 matchE (.slice e.ms.A e.ms.l.length e.ms.c) e.ms.l, slP 1 strE (.slice e.by_.A e.by_.l.length e.by_.c) e.by_.l, slP 7 exprE (.slice e.kids.A e.kids.l.length e.kids.c) e.kids.l, allP ExprX.Ok e.kids.l, .blk b3 [.int .i64 e.kind, .int .i64 e.n, .int .i64 e.range, .string e.word, .slice e.ms.A e.ms.l.length e.ms.c, .slice e.by_.A e.by_.l.length e.by_.c, .slice e.kids.A e.kids.l.length e.kids.c] 27, okP ExprX.Ok e, .pub C]) (fun K59 hK59 => ?_) ?_
                          ·
                            refine c_region ?_
                            refine l_val wn (r_move rfl) rfl ?_
                            refine l_val wn (r_move rfl) rfl ?_
                            refine l_caseb (t := 181) rfl (fun h18 => ?_) (fun h18 => ?_)
                            ·
                              refine l_val (wg rfl rfl rfl) (r_move rfl) rfl ?_
                              refine l_val wn (r_pick rfl rfl) rfl ?_
                              refine l_val wn (r_assign rfl) rfl ?_
                              refine l_nil (e_cut hK59 (sc rfl (sc rfl (sc rfl (sc rfl (sc rfl (sc (jpb (iff_and_right h18 Iff.rfl)) (sc rfl (sc rfl (sc rfl (sc rfl (sc rfl (sc rfl (sc rfl (sc rfl (sc rfl sn))))))))))))))) (fun _ h => h))
                            ·
                              refine l_skip (wg rfl rfl rfl) rfl ?_
                              refine l_val wn (r_pick rfl rfl) rfl ?_
                              refine l_val wn (r_assign rfl) rfl ?_
                              refine l_nil (e_cut hK59 (sc rfl (sc rfl (sc rfl (sc rfl (sc rfl (sc (jf (fun g => h18 g.1)) (sc rfl (sc rfl (sc rfl (sc rfl (sc rfl (sc rfl (sc rfl (sc rfl (sc rfl sn))))))))))))))) (fun _ h => h))
                          ·
                            refine c_region ?_
                            refine l_val wn (r_move rfl) rfl ?_
                            refine l_val wn (r_move rfl) rfl ?_
                            refine l_val wn (r_move rfl) rfl ?_
                            refine l_val wn (r_build [.slice s6.sr.A s6.sr.l.length s6.sr.c, .int .i64 ((Mn.op e.word s6.value s7.value).1)] pl44 inf44 rfl rfl) rfl ?_
                            refine l_bsL cellE ([(CellX.mk ⟨s6.sr.A, s6.sr.c, s6.sr.l⟩ ((Mn.op e.word s6.value s7.value).1))] : List CellX) wn Try.underlying28 inf44 rfl rfl rfl rfl (by decide) (by decide) rfl fun b188 => ?_
                            refine l_app 4 ds ([(CellX.mk ⟨s6.sr.A, s6.sr.c, s6.sr.l⟩ ((Mn.op e.word s6.value s7.value).1))] : List CellX) encCellX wn rfl rfl rfl (fun _ hM => (RowSl encCellX hM 0 rfl)) Try.underlying28 inf44 rfl rfl (by simp only [List.length_append, List.length_cons, List.length_nil]; omega) rfl fun A6 cp6 hc25 hm25 hA25 => ?_
                            have hw16 := hw8.all _ (List.mem_of_getElem? hs6)
                            refine l_opn (fun _ h => h.one 10 CellX.Ok.loc rfl hs6) ?_
                            refine l_opn (fun _ h => h.cellX 0 rfl) ?_
                            obtain ⟨hc26, hm26, hA26⟩ := hw16.sr
                            refine l_opn (fun _ h => h.allCell (n := (Mn.op e.word s6.value s7.value).1) 5 0 rfl rfl) ?_
                            have hw15 : ∀ x ∈ (ds ++ ([(CellX.mk ⟨s6.sr.A, s6.sr.c, s6.sr.l⟩ ((Mn.op e.word s6.value s7.value).1))] : List CellX)), CellX.Wf x := fun x hx => (List.mem_append.1 hx).elim (hwd x) fun h => by rw [List.mem_singleton.1 h]; exact ⟨⟨by omega, by omega, hA26⟩⟩
                            refine l_val wn (r_assign rfl) rfl ?_
                            refine l_nil (e_in_n (e_go hK49 ?_))
                            refine c_region ?_
                            refine l_val wn (r_addn rfl rfl (by omega)) rfl ?_
                            refine l_val wn (r_move rfl) rfl ?_
                            refine l_nil (e_round4 (j + 1) (ds ++ ([(CellX.mk ⟨s6.sr.A, s6.sr.c, s6.sr.l⟩ ((Mn.op e.word s6.value s7.value).1))] : List CellX)) (decide ((gd = true) ∧ ((Mn.op e.word s6.value s7.value).2 = true))) (.slice A6 ((ds ++ ([(CellX.mk ⟨s6.sr.A, s6.sr.c, s6.sr.l⟩ ((Mn.op e.word s6.value s7.value).1))] : List CellX)).length) cp6) (sc rfl (sc rfl (sc rfl (sc rfl (sc rfl (sc rfl (sc rfl (sc rfl (sc rfl (sc rfl (sc rfl (sc rfl (sc (ji (by omega)) sn))))))))))))) (fun _ h => (h.sel [5, 0, 7, 8, 9, 10, 11, 12, 13, 14, 15, 16, 17, 18, 19, 20, 21, 22] (by decide) rfl)) ?_ ?_)
                            · have hg9 : ¬ (((Mn.rout (Mn.eval lk time s4.e)).2.1 = true ∧ (Mn.rout (Mn.eval lk time s5.e)).2.1 = true) ∧ ¬ s6.sr.l = s7.sr.l) := by simp_all
                              have hp9 : (Mn.rp (Mn.rout (Mn.eval lk time s4.e)).2.1 (Mn.rout (Mn.eval lk time s5.e)).2.1 ((z4.l.take k).map CellX.e) (z5.l.map CellX.e) ++ Mn.rp1 (Mn.rout (Mn.eval lk time s4.e)).2.1 (Mn.rout (Mn.eval lk time s5.e)).2.1 s6.e ((z5.l.take (j + 1)).map CellX.e)) = (Mn.rp (Mn.rout (Mn.eval lk time s4.e)).2.1 (Mn.rout (Mn.eval lk time s5.e)).2.1 ((z4.l.take k).map CellX.e) (z5.l.map CellX.e) ++ Mn.rp1 (Mn.rout (Mn.eval lk time s4.e)).2.1 (Mn.rout (Mn.eval lk time s5.e)).2.1 s6.e ((z5.l.take j).map CellX.e)) ++ [(s6.sr.l, s6.value, s7.value)] := by rw [Mn.rp1_yes' hs7 hg9 (by simpa using h16), List.append_assoc]
                              exact ⟨by omega, hw15, Mn.done_at hI3.2.2.1 hp9, by rw [hp9]; exact Mn.fine_and hI3.2.2.2.1, by simp only [List.length_append, List.length_cons, List.length_nil]; omega⟩
                            · omega
                  ·
                    refine c_exit (e_then_x (e_loop4_x (e_in_hit (e_in_n (e_go hK44 ?_)))))
                    refine c_region ?_
                    refine l_val wn (r_addn rfl rfl (by omega)) rfl ?_
                    refine l_val wn (r_move rfl) rfl ?_
                    refine l_nil (e_round4 (k + 1) ds gd (.slice A4 ds.length cp4) (sc rfl (sc rfl (sc rfl (sc rfl (sc rfl (sc rfl (sc rfl (sc rfl (sc (ji (by omega)) sn))))))))) (fun _ h => (h.sel [1, 2, 3, 4, 5, 6, 7, 8, 9, 10, 11, 12, 13, 14, 15, 16, 17] (by decide) rfl)) ?_ ?_)
                    · have ht9 : z5.l.take j = z5.l := List.take_of_length_le (by omega)
                      have h9 := hI3.2.2.1
                      have h8 := hI3.2.2.2.1
                      rw [ht9] at h9 h8
                      exact ⟨by omega, hwd, by rw [Mn.rp_at hs6]; exact h9, by rw [Mn.rp_at hs6]; exact h8, by rw [Nat.succ_mul]; omega⟩
                    · omega
              ·
                refine c_exit (e_then_x (e_loop4_x (e_in_hit (e_go hK40 ?_))))
                refine c_seq fun K60 hK60 => ?_
                refine c_seq fun K61 hK61 => ?_
                refine c_region ?_
                refine l_val wn (r_move rfl) rfl ?_
                refine l_val wn (r_notb rfl) rfl ?_
                refine l_nil (e_go hK61 ?_)
                refine c_condb rfl (fun h19 => ?_) (fun h19 => ?_)
                ·
                  refine c_seq fun K62 hK62 => ?_
                  refine c_region ?_
                  refine l_val wn (r_assign rfl) rfl ?_
                  refine l_val wn (r_assign rfl) rfl ?_
                  refine l_val wn (r_assign rfl) rfl ?_
                  refine l_nil (e_go hK62 ?_)
                  refine c_ret (e_then_r (e_ret3 (.inl rfl) Try.results25 (rv_tmp rfl) (rv_tmp rfl) (rv_tmp rfl) fun w1 hM => ?_))
                  have hx8 : (Mn.rout (Mn.eval lk time s4.e)).2.1 = (Mn.eval lk time s4.e).1.vec := (Mn.rout_cells e0_0).2
                  have hy8 : (Mn.rout (Mn.eval lk time s5.e)).2.1 = (Mn.eval lk time s5.e).1.vec := (Mn.rout_cells e0_1).2
                  have hrp9 : Mn.rp (Mn.rout (Mn.eval lk time s4.e)).2.1 (Mn.rout (Mn.eval lk time s5.e)).2.1 ((z4.l.take k).map CellX.e) (z5.l.map CellX.e) = Mn.rp (Mn.eval lk time s4.e).1.vec (Mn.eval lk time s5.e).1.vec (Mn.cellsOf (Mn.eval lk time s4.e).1) (Mn.cellsOf (Mn.eval lk time s5.e).1) := by rw [Mn.rp_end (by omega), hcl_0, hcl_1, hx8, hy8]
                  have hbn9 : (Mn.rout (Mn.eval lk time e.e)) = if good = true then (cs.map CellX.e, (Mn.eval lk time s4.e).1.vec || (Mn.eval lk time s5.e).1.vec, 0) else ([], false, 3) := by rw [Mn.kid2 (show e.kind = 4 by omega) (show e.kids.l.length = 2 by omega) hs4 hs5, if_neg (by simpa using e0_0), if_neg (by simpa using e0_1), Mn.rp_bin (Mn.eval_dst hdl time _), ← hrp9, ← hI2.2.2.1, ← hI2.2.2.2.1]
                  have hb9 : (Mn.rout (Mn.eval lk time e.e)) = ([], false, 3) := by rw [hbn9, if_neg (by simpa using h19)]
                  exact hM.retE (⟨none, 0, []⟩ : SlX CellX) (by first | (rw [hb9]; done) | (rw [hb9]; rfl)) (by first | (rw [hb9]; done) | (rw [hb9]; rfl)) fun Pb pp => ⟨FlatSl.nil_ _ _ _ _, fun c hc => (by cases hc)⟩
                ·
                  refine c_skip (e_go hK60 ?_)
                  refine c_seq fun K63 hK63 => ?_
                  refine c_region ?_
                  refine l_val wn (r_move rfl) rfl ?_
                  refine l_val wn (r_move rfl) rfl ?_
                  refine l_val wn (r_move rfl) rfl ?_
                  refine l_caseb (t := 196) rfl (fun h20 => ?_) (fun h20 => ?_)
                  ·
                    refine l_skip (wg rfl rfl rfl) rfl ?_
                    refine l_val wn (r_pick rfl rfl) rfl ?_
                    refine l_val wn (r_assign rfl) rfl ?_
                    refine l_val wn (r_assign rfl) rfl ?_
                    refine l_val wn (r_assign rfl) rfl ?_
                    refine l_nil (e_go hK63 ?_)
                    refine c_ret (e_ret3 (.inl rfl) Try.results25 (rv_tmp rfl) (rv_tmp rfl) (rv_tmp rfl) fun w1 hM => ?_)
                    have hx8 : (Mn.rout (Mn.eval lk time s4.e)).2.1 = (Mn.eval lk time s4.e).1.vec := (Mn.rout_cells e0_0).2
                    have hy8 : (Mn.rout (Mn.eval lk time s5.e)).2.1 = (Mn.eval lk time s5.e).1.vec := (Mn.rout_cells e0_1).2
                    have hrp9 : Mn.rp (Mn.rout (Mn.eval lk time s4.e)).2.1 (Mn.rout (Mn.eval lk time s5.e)).2.1 ((z4.l.take k).map CellX.e) (z5.l.map CellX.e) = Mn.rp (Mn.eval lk time s4.e).1.vec (Mn.eval lk time s5.e).1.vec (Mn.cellsOf (Mn.eval lk time s4.e).1) (Mn.cellsOf (Mn.eval lk time s5.e).1) := by rw [Mn.rp_end (by omega), hcl_0, hcl_1, hx8, hy8]
                    have hbn9 : (Mn.rout (Mn.eval lk time e.e)) = if good = true then (cs.map CellX.e, (Mn.eval lk time s4.e).1.vec || (Mn.eval lk time s5.e).1.vec, 0) else ([], false, 3) := by rw [Mn.kid2 (show e.kind = 4 by omega) (show e.kids.l.length = 2 by omega) hs4 hs5, if_neg (by simpa using e0_0), if_neg (by simpa using e0_1), Mn.rp_bin (Mn.eval_dst hdl time _), ← hrp9, ← hI2.2.2.1, ← hI2.2.2.2.1]
                    have hb9 : (Mn.rout (Mn.eval lk time e.e)) = (cs.map CellX.e, true, 0) := by rw [hbn9, if_pos (by simpa using h19), ← hx8, ← hy8]; simp [h20]
                    have hM := hM.sealRow encCellX (i := 1) rfl rfl
                    exact hM.retE (⟨A3, cp3, cs⟩ : SlX CellX) (by first | (rw [hb9]; done) | (rw [hb9]; rfl)) (by first | (rw [hb9]; done) | (rw [hb9]; rfl)) fun Pb pp => ⟨pp.sl 1 rfl, pp.at_ 0 _ rfl⟩
                  ·
                    refine l_val (wg rfl rfl rfl) (r_move rfl) rfl ?_
                    refine l_val wn (r_pick rfl rfl) rfl ?_
                    refine l_val wn (r_assign rfl) rfl ?_
                    refine l_val wn (r_assign rfl) rfl ?_
                    refine l_val wn (r_assign rfl) rfl ?_
                    refine l_nil (e_go hK63 ?_)
                    refine c_ret (e_ret3 (.inl rfl) Try.results25 (rv_tmp rfl) (rv_tmp rfl) (rv_tmp rfl) fun w1 hM => ?_)
                    have hx8 : (Mn.rout (Mn.eval lk time s4.e)).2.1 = (Mn.eval lk time s4.e).1.vec := (Mn.rout_cells e0_0).2
                    have hy8 : (Mn.rout (Mn.eval lk time s5.e)).2.1 = (Mn.eval lk time s5.e).1.vec := (Mn.rout_cells e0_1).2
                    have hrp9 : Mn.rp (Mn.rout (Mn.eval lk time s4.e)).2.1 (Mn.rout (Mn.eval lk time s5.e)).2.1 ((z4.l.take k).map CellX.e) (z5.l.map CellX.e) = Mn.rp (Mn.eval lk time s4.e).1.vec (Mn.eval lk time s5.e).1.vec (Mn.cellsOf (Mn.eval lk time s4.e).1) (Mn.cellsOf (Mn.eval lk time s5.e).1) := by rw [Mn.rp_end (by omega), hcl_0, hcl_1, hx8, hy8]
                    have hbn9 : (Mn.rout (Mn.eval lk time e.e)) = if good = true then (cs.map CellX.e, (Mn.eval lk time s4.e).1.vec || (Mn.eval lk time s5.e).1.vec, 0) else ([], false, 3) := by rw [Mn.kid2 (show e.kind = 4 by omega) (show e.kids.l.length = 2 by omega) hs4 hs5, if_neg (by simpa using e0_0), if_neg (by simpa using e0_1), Mn.rp_bin (Mn.eval_dst hdl time _), ← hrp9, ← hI2.2.2.1, ← hI2.2.2.2.1]
                    have hb9 : (Mn.rout (Mn.eval lk time e.e)) = (cs.map CellX.e, (Mn.rout (Mn.eval lk time s5.e)).2.1, 0) := by rw [hbn9, if_pos (by simpa using h19), ← hx8, ← hy8]; simp [h20]
                    have hM := hM.sealRow encCellX (i := 1) rfl rfl
                    exact hM.retE (⟨A3, cp3, cs⟩ : SlX CellX) (by first | (rw [hb9]; done) | (rw [hb9]; rfl)) (by first | (rw [hb9]; done) | (rw [hb9]; rfl)) fun Pb pp => ⟨pp.sl 1 rfl, pp.at_ 0 _ rfl⟩
theorem c_refEval (e : ExprX) : c_refEval_C e := recX c_refEval_step e

end Go.Proofs.Ytldecdningjkoaa
