/-
  Walks: what each function hands back.
-/
import Derived.Test.YtldecdningjkoaaWmeanb
import Derived.Test.YtldecdningjkoaaPLaw6
namespace Go.Proofs.Ytldecdningjkoaa
open Ex
set_option linter.unusedVariables false
set_option linter.unusedSimpArgs false
def c_expr_C (e : ExprX) : Prop := ∀ (vad : Addr) (time : Int) (f : Nat) (fcap : Array Value) (C : (Nat → Prop) → World → Prop) (lk : Look) (ead : Addr) (P0 : Nat → Prop) (w : World) (hP0 : ∀ b, P0 b → b < w.heap.size) (hv : CelAt P0 vad [.int .i64 time, .func (.func f) #[] fcap] w) (hC : C P0 w) (hf : WinFn Try.prog f fcap C lk) (hec : CelAt P0 ead (exprE e) w) (he : ExprX.Ok P0 e w) (hg : Mn.GoodLook lk) (ht : 0 ≤ time ∧ time ≤ 1000000) (hr : Mn.right e.e),
    Calls Try.prog 42 #[.pointer (some vad), .pointer (some ead)] w (RetE w P0 (fun z : ValX => .tuple #[.agg (valE z).toArray, .int .i64 (Mn.eval lk time e.e).2]) (fun z => z.e = (Mn.eval lk time e.e).1) (fun z S => ValX.Ok S z))
set_option maxHeartbeats 2000000 in
theorem c_expr_step (e : ExprX) (ih : ∀ k : ExprX, SizeOf.sizeOf k < SizeOf.sizeOf e → c_expr_C k) : c_expr_C e := by
  intro vad time f fcap C lk ead P0 w hP0 hv hC hf hec he hg ht hr
  have hwe := he.wf
  have hre := (Mn.right_e hr).1
  have hrk := (Mn.right_e hr).2
  refine fstart (N := 89) (vals := [.pointer (some ((Addr.add vad 0).add 0)), .pointer (some ((Addr.add ead 0).add 0))]) (S := Mem w ⟨no, P0⟩ [celP vad [.int .i64 time, .func (.func f) #[] fcap], .pub C, celP ead [.int .i64 e.kind, .int .i64 e.n, .int .i64 e.range, .string e.word, .slice e.ms.A e.ms.l.length e.ms.c, .slice e.by_.A e.by_.l.length e.by_.c, .slice e.kids.A e.kids.l.length e.kids.c], okP ExprX.Ok e]) Try.func42 rfl rfl rfl (Mem.ofDatsP hP0 (dc (dp (CelAt.loc _ _) hv) (dc (dp hf.loc hC) (dc (dp (CelAt.loc _ _) hec) (dc (dp (ExprX.Ok.loc _) he) dn))))) ?_
  refine c_seq fun K1 hK1 => ?_
  refine c_region ?_
  refine l_alloc wn inf77 rfl fun b4 => ?_
  refine l_val wn (r_assign rfl) rfl ?_
  refine l_nil (e_go hK1 ?_)
  refine c_seq fun K2 hK2 => ?_
  refine c_seq fun K3 hK3 => ?_
  refine c_region ?_
  refine l_val wn (r_move rfl) rfl ?_
  refine l_val wn (r_nilCheck rfl) rfl ?_
  refine l_val wn (r_fe rfl fld27_0) rfl ?_
  refine l_val wn (r_cel 3 rfl rfl rfl flat3) rfl ?_
  refine l_nil (e_go hK3 ?_)
  refine c_block ?_
  refine c_seq fun K4 hK4 => ?_
  refine c_region ?_
  refine l_val wn (r_eql rfl rfl) rfl ?_
  refine l_val wn (r_assign rfl) rfl ?_
  refine l_nil (e_go hK4 ?_)
  refine c_cond rfl (fun h1 => ?_) (fun h1 => ?_)
  ·
    refine c_seq fun K5 hK5 => ?_
    refine c_region ?_
    refine l_val wn (r_move rfl) rfl ?_
    refine l_val wn (r_nilCheck rfl) rfl ?_
    refine l_val wn (r_fe rfl fld27_1) rfl ?_
    refine l_val wn (r_cel 3 rfl rfl rfl flat3) rfl ?_
    refine l_val wn (r_build [.bool false, .int .i64 e.n, .slice none 0 0] pl77 inf77 rfl rfl) rfl ?_
    refine l_stn 0 wn rfl rfl rfl inf77 rfl rfl rfl ?_
    refine l_val wn (r_assign rfl) rfl ?_
    refine l_nil (e_go hK5 ?_)
    refine c_ret (e_in_r (e_then_r (e_ret2 (.inl rfl) Try.results42 (rv_cell 0 rfl rfl agg77 inf77 rfl) (rv_tmp rfl) fun w1 hM => ?_)))
    have hb9 : Mn.eval lk time e.e = (⟨false, e.n, []⟩, 0) := by rw [Mn.eval_e, if_pos h1]
    exact hM.retE (⟨false, e.n, ⟨none, 0, []⟩⟩ : ValX) (by first | (rw [hb9]; done) | (rw [hb9]; rfl)) (by first | (rw [hb9]; done) | (rw [hb9]; rfl)) fun Pb pp => ⟨FlatSl.nil_ _ _ _ _, fun c hc => by cases hc⟩
  ·
    refine c_seq fun K6 hK6 => ?_
    refine c_region ?_
    refine l_val wn (r_eql rfl rfl) rfl ?_
    refine l_val wn (r_assign rfl) rfl ?_
    refine l_nil (e_go hK6 ?_)
    refine c_cond rfl (fun h2 => ?_) (fun h2 => ?_)
    ·
      refine c_seq fun K7 hK7 => ?_
      refine c_region ?_
      refine l_val wn (r_move rfl) rfl ?_
      refine l_val wn (r_move rfl) rfl ?_
      refine l_callE0 (β := ValX) (fun z => .tuple #[.agg (valE z).toArray, .int .i64 ((Mn.window lk time e.word e.ms.l e.range).2)]) (fun z => z.e = (Mn.window lk time e.word e.ms.l e.range).1) (fun z S => ValX.Ok S z) (fun z => ValX.Ok.loc z) wn rfl Try.call60 rfl (fun w1 Pb hM pp => c_window vad time f fcap C lk ead e Pb w1 pp.lt (pp.at_ 1 _ rfl) (pp.at_ 2 _ rfl) hf (pp.at_ 3 _ rfl) (pp.at_ 4 _ rfl) hg ht (by omega)) fun z1 hz1 => ?_
      refine l_get 0 rfl (fun S w h => ValX.Ok.wf h) fun hw1 => ?_
      refine l_val wn (r_extract rfl rfl) rfl ?_
      refine l_val wn (r_extract rfl rfl) rfl ?_
      refine l_stn 1 wn rfl rfl rfl inf77 rfl rfl rfl ?_
      refine l_val wn (r_assign rfl) rfl ?_
      refine l_nil (e_go hK7 ?_)
      refine c_ret (e_in_r (e_then_r (e_ret2 (.inl rfl) Try.results42 (rv_cell 1 rfl rfl agg77 inf77 rfl) (rv_tmp rfl) fun w1 hM => ?_)))
      have hb9 : Mn.eval lk time e.e = Mn.window lk time e.word e.ms.l e.range := by rw [Mn.eval_e, if_neg h1, if_pos h2]
      exact hM.retE z1 (by first | (rw [hb9]; done) | (rw [hb9]; rfl)) (by rw [hb9]; exact hz1) fun Pb pp => pp.at_ 0 _ rfl
    ·
      refine c_skip (e_in_n (e_go hK2 ?_))
      refine c_seq fun K8 hK8 => ?_
      refine c_region ?_
      refine l_nilRow (valE : ValX → List Value) 77 3 ?_
      refine l_opn (fun _ h => h.all0 ValX.Ok.loc) ?_
      refine l_val wn (r_assign rfl) rfl ?_
      refine l_nil (e_go hK8 ?_)
      refine c_seq fun K9 hK9 => ?_
      refine c_seq fun K10 hK10 => ?_
      refine c_region ?_
      refine l_val wn (r_move rfl) rfl ?_
      refine l_val wn (r_nilCheck rfl) rfl ?_
      refine l_val wn (r_fe rfl fld27_6) rfl ?_
      refine l_val wn (r_cel 5 rfl rfl rfl flat25) rfl ?_
      refine l_val wn (r_len rfl Try.underlying25) rfl ?_
      refine l_val wn (r_move rfl) rfl ?_
      refine l_nil (e_go hK10 ?_)
      refine c_block ?_
      refine c_loop3 (fun (k : Nat) (vs : List ValX) (vv : Value) => [(0, .pointer (some ((Addr.add vad 0).add 0))), (1, .pointer (some ((Addr.add ead 0).add 0))), (4, .pointer (some ⟨b4, 0, none⟩)), (6, vv), (32, .int .i64 (e.kids.l.length : Int)), (33, .int .i64 (k : Int))]) (fun (k : Nat) (vs : List ValX) (vv : Value) => [allP ValX.Ok vs, Row vv 77 3 valE vs, .blk b4 [.bool false, .int .i64 0, .slice none 0 0] 77, celP vad [.int .i64 time, .func (.func f) #[] fcap], .pub C, celP ead [.int .i64 e.kind, .int .i64 e.n, .int .i64 e.range, .string e.word, .slice e.ms.A e.ms.l.length e.ms.c, .slice e.by_.A e.by_.l.length e.by_.c, .slice e.kids.A e.kids.l.length e.kids.c], okP ExprX.Ok e]) (fun (k : Nat) (vs : List ValX) (vv : Value) => k ≤ e.kids.l.length ∧ (∀ x ∈ vs, ValX.Wf x) ∧ Mn.evals lk time (e.kids.l.map ExprX.e) = (vs.map ValX.e ++ (Mn.evals lk time ((e.kids.l.drop k).map ExprX.e)).1, (Mn.evals lk time ((e.kids.l.drop k).map ExprX.e)).2) ∧ vs.length = k) (fun (k : Nat) (vs : List ValX) (vv : Value) => e.kids.l.length - k) 0 [] (.slice none 0 0) (sc rfl (sc rfl (sc rfl (sc rfl (sc rfl (sc (ji (by omega)) sn)))))) (fun _ h => h) ?_ (fun k vs vv hI1 => ?_)
      · exact ⟨Nat.zero_le _, fun x hx => (by cases hx), Mn.evals_0 _ _ _, rfl⟩
      ·
        have hwf := hI1.2.1
        have hlen := hI1.2.2.2
        refine c_open 1 (l := vs) rfl fun A1 cp1 hv1 hc1 hm1 hA1 => ?_
        subst hv1
        refine c_seq fun K11 hK11 => ?_
        refine c_region ?_
        refine l_val wn (r_lss rfl rfl) rfl ?_
        refine l_nil (e_go hK11 ?_)
        refine c_seq fun K12 hK12 => ?_
        refine c_cond rfl (fun h3 => ?_) (fun h3 => ?_)
        ·
          refine c_skip (e_go hK12 ?_)
          refine c_seq fun K13 hK13 => ?_
          refine c_block ?_
          refine c_seq fun K14 hK14 => ?_
          refine c_region ?_
          refine l_val wn (r_move rfl) rfl ?_
          refine l_val wn (r_assign rfl) rfl ?_
          refine l_nil (e_go hK14 ?_)
          refine c_seq fun K15 hK15 => ?_
          refine c_region ?_
          refine l_val wn (r_move rfl) rfl ?_
          refine l_val wn (r_move rfl) rfl ?_
          refine l_val wn (r_nilCheck rfl) rfl ?_
          refine l_val wn (r_fe rfl fld27_6) rfl ?_
          refine l_val wn (r_cel 5 rfl rfl rfl flat25) rfl ?_
          refine l_val wn (r_move rfl) rfl ?_
          refine l_opn (fun _ h => h.exprX 6 rfl) ?_
          obtain ⟨hc2, hm2, hA2⟩ := hwe.ms
          obtain ⟨hc3, hm3, hA3⟩ := hwe.by_
          obtain ⟨hc4, hm4, hA4⟩ := hwe.kids
          obtain ⟨ad1, hd1⟩ := hA4 (ne_nil (i := k) (by first | omega | (simp <;> omega)))
          refine l_val wn (r_ia (i := k) rfl hd1 rfl (by omega) (by first | omega | (simp <;> omega)) Try.underlying25 inf27) rfl ?_
          obtain ⟨s1, hs1⟩ : ∃ x, e.kids.l[k]? = some x := ⟨_, List.getElem?_eq_getElem (by first | omega | (simp <;> omega))⟩
          have hw2 := hwe.all _ (List.mem_of_getElem? hs1)
          refine l_opn (fun _ h => h.one 3 ExprX.Ok.loc rfl hs1) ?_
          refine l_callE0 (β := ValX) (fun z => .tuple #[.agg (valE z).toArray, .int .i64 ((Mn.eval lk time s1.e).2)]) (fun z => z.e = (Mn.eval lk time s1.e).1) (fun z S => ValX.Ok S z) (fun z => ValX.Ok.loc z) wn rfl Try.call42 rfl (fun w1 Pb hM pp => ih s1 (ExprX.kid_lt (List.mem_of_getElem? hs1)) vad time f fcap C lk (Addr.add ad1 (k * 7)) Pb w1 pp.lt (pp.at_ 8 _ rfl) (pp.at_ 9 _ rfl) hf (cel_of (pp.sl 3 rfl) hd1 hs1) (pp.at_ 0 _ rfl) hg ht (hrk _ (List.mem_of_getElem? (by assumption)))) fun z2 hz2 => ?_
          refine l_get 0 rfl (fun S w h => ValX.Ok.wf h) fun hw3 => ?_
          refine l_val wn (r_move rfl) rfl ?_
          refine l_val wn (r_extract rfl rfl) rfl ?_
          refine l_val wn (r_extract rfl rfl) rfl ?_
          refine l_alloc wn inf77 rfl fun b8 => ?_
          refine l_stn 0 wn rfl rfl rfl inf77 rfl rfl rfl ?_
          refine l_val wn (r_assign rfl) rfl ?_
          refine l_nil (e_go hK15 ?_)
          refine c_seq fun K16 hK16 => ?_
          refine c_seq fun K17 hK17 => ?_
          refine c_region ?_
          refine l_val wn (r_move rfl) rfl ?_
          refine l_val wn (r_neq rfl rfl) rfl ?_
          refine l_nil (e_go hK17 ?_)
          refine c_cond rfl (fun h4 => ?_) (fun h4 => ?_)
          ·
            refine c_seq fun K18 hK18 => ?_
            refine c_region ?_
            refine l_val wn (r_build [.bool false, .int .i64 0, .slice none 0 0] pl77 inf77 rfl rfl) rfl ?_
            refine l_val wn (r_move rfl) rfl ?_
            refine l_stn 9 wn rfl rfl rfl inf77 rfl rfl rfl ?_
            refine l_val wn (r_assign rfl) rfl ?_
            refine l_nil (e_go hK18 ?_)
            refine c_ret (e_then_r (e_in_r (e_then_r (e_loop3_r (e_in_r (e_then_r (e_ret2 (.inl rfl) Try.results42 (rv_cell 9 rfl rfl agg77 inf77 rfl) (rv_tmp rfl) fun w1 hM => ?_)))))))
            have hv9 := Mn.evals_bad hI1.2.2.1 hs1 h4
            have hb9 : Mn.eval lk time e.e = (Mn.zero, (Mn.eval lk time s1.e).2) := by rw [Mn.eval_e, if_neg h1, if_neg h2, if_pos (by rw [hv9]; exact h4), hv9]
            exact hM.retE (⟨false, 0, ⟨none, 0, []⟩⟩ : ValX) (by first | (rw [hb9]; done) | (rw [hb9]; rfl)) (by first | (rw [hb9]; done) | (rw [hb9]; rfl)) fun Pb pp => ⟨FlatSl.nil_ _ _ _ _, fun c hc => by cases hc⟩
          ·
            refine c_skip (e_go hK16 ?_)
            refine c_region ?_
            refine l_val wn (r_move rfl) rfl ?_
            refine l_val wn (r_lbn 0 [.bool z2.vec, .int .i64 z2.n, .slice z2.cells.A z2.cells.l.length z2.cells.c] rfl rfl rfl rfl agg77 inf77) rfl ?_
            refine l_bsL valE ([z2] : List ValX) wn Try.underlying111 inf77 rfl rfl rfl rfl (by decide) (by decide) rfl fun b53 => ?_
            refine l_app 9 vs ([z2] : List ValX) encValX wn rfl rfl rfl (fun _ hM => (RowSl encValX hM 0 rfl)) Try.underlying111 inf77 rfl rfl (by simp only [List.length_append, List.length_cons, List.length_nil]; omega) rfl fun A2 cp2 hc5 hm5 hA5 => ?_
            refine l_opn (fun _ h => h.allSnoc 8 2 ValX.Ok.loc rfl rfl) ?_
            have hw4 : ∀ x ∈ (vs ++ ([z2] : List ValX)), ValX.Wf x := fun x hx => (List.mem_append.1 hx).elim (hwf x) fun h => by rw [List.mem_singleton.1 h]; exact hw3
            refine l_val wn (r_assign rfl) rfl ?_
            refine l_nil (e_in_n (e_go hK13 ?_))
            refine c_region ?_
            refine l_val wn (r_addn rfl rfl (by omega)) rfl ?_
            refine l_val wn (r_move rfl) rfl ?_
            refine l_nil (e_round3 (k + 1) (vs ++ ([z2] : List ValX)) (.slice A2 ((vs ++ ([z2] : List ValX)).length) cp2) (sc rfl (sc rfl (sc rfl (sc rfl (sc rfl (sc (ji (by omega)) sn)))))) (fun _ h => (h.sel [0, 10, 11, 12, 13, 14, 15] (by decide) rfl)) ?_ ?_)
            · exact ⟨by omega, hw4, Mn.evals_next hI1.2.2.1 hs1 hz2 (by have := h4; omega), by simp only [List.length_append, List.length_cons, List.length_nil]; omega⟩
            · omega
        ·
          refine c_exit (e_then_x (e_loop3_x (e_in_hit (e_go hK9 ?_))))
          refine c_seq fun K19 hK19 => ?_
          refine c_seq fun K20 hK20 => ?_
          refine c_region ?_
          have hev := Mn.evals_end hI1.2.2.1 (by omega)
          have hgs := Mn.good_of hg hev hrk
          refine l_val wn (r_move rfl) rfl ?_
          refine l_val wn (r_nilCheck rfl) rfl ?_
          refine l_val wn (r_fe rfl fld27_0) rfl ?_
          refine l_val wn (r_cel 5 rfl rfl rfl flat3) rfl ?_
          refine l_val wn (r_eql rfl rfl) rfl ?_
          refine l_nil (e_go hK20 ?_)
          refine c_cond rfl (fun h5 => ?_) (fun h5 => ?_)
          ·
            refine c_seq fun K21 hK21 => ?_
            refine c_nodes (Mem w ⟨no, P0⟩ [allP ValX.Ok vs, Row (.slice A1 vs.length cp1) 77 3 valE vs, celP vad [.int .i64 time, .func (.func f) #[] fcap], .pub C, celP ead [.int .i64 e.kind, .int .i64 e.n, .int .i64 e.range, .string e.word, .slice e.ms.A e.ms.l.length e.ms.c, .slice e.by_.A e.by_.l.length e.by_.c, .slice e.kids.A e.kids.l.length e.kids.c], okP ExprX.Ok e]) mix (fun _ h => h.drew) rfl ?_
            refine n_run (f := 5) [0, 1, 2, 3, 4, 5, 6, 7, 8, 9, 10, 11] rfl rfl (by kernel_rfl) (by kernel_rfl) (fun _ h => (h.sel [0, 1, 3, 4, 5, 6] (by decide) rfl)) fun KS hKS => ?_
            refine s_val wn (r_move rfl) rfl ?_
            refine s_val wn (r_nilCheck rfl) rfl ?_
            refine s_val wn (r_fe rfl fld27_3) rfl ?_
            refine s_val wn (r_cel 4 rfl rfl rfl flat9) rfl ?_
            refine s_val wn (r_move rfl) rfl ?_
            refine s_val wn (r_nilCheck rfl) rfl ?_
            refine s_val wn (r_fe rfl fld27_5) rfl ?_
            refine s_val wn (r_cel 4 rfl rfl rfl flat24) rfl ?_
            refine s_val wn (r_move rfl) rfl ?_
            obtain ⟨ad2, hd2⟩ := hA1 (ne_nil (i := 0) (by first | omega | (simp <;> omega)))
            refine s_val wn (r_ia (i := 0) rfl hd2 rfl (by omega) (by first | omega | (simp <;> omega)) Try.underlying111 inf77) rfl ?_
            refine s_val wn (r_fe rfl fld77_2) rfl ?_
            obtain ⟨s2, hs2⟩ : ∃ x, vs[0]? = some x := ⟨_, List.getElem?_eq_getElem (by first | omega | (simp <;> omega))⟩
            obtain ⟨hx1_s2, hx2_s2, hx3_s2, hx4_s2⟩ := (hgs _ (List.mem_of_getElem? hs2)).x
            refine s_val wn (r_rl 1 encValX rfl rfl hd2 hs2 rfl flat28) rfl ?_
            refine s_end hKS ?_
            refine n_step1 (f := 4) (i := 12) rfl (by kernel_rfl) ?_
            refine n_one (i := 12) rfl fun KN hKN => ?_
            refine l_opn (fun _ h => h.exprX 6 rfl) ?_
            obtain ⟨hc6, hm6, hA6⟩ := hwe.ms
            obtain ⟨hc7, hm7, hA7⟩ := hwe.by_
            obtain ⟨hc8, hm8, hA8⟩ := hwe.kids
            have hw5 := hwf _ (List.mem_of_getElem? hs2)
            refine l_opn (fun _ h => h.one 4 ValX.Ok.loc rfl hs2) ?_
            refine l_opn (fun _ h => h.valX 0 rfl) ?_
            obtain ⟨hc9, hm9, hA9⟩ := hw5.cells
            refine l_callE0 (β := ValX) (fun z => .tuple #[.agg (valE z).toArray, .int .i64 ((Mn.all e.word e.by_.l (s2.cells.l.map CellX.e)).2)]) (fun z => z.e = (Mn.all e.word e.by_.l (s2.cells.l.map CellX.e)).1) (fun z S => ValX.Ok S z) (fun z => ValX.Ok.loc z) wn rfl Try.call61 rfl (fun w1 Pb hM pp => c_all e.word _ e.by_.l _ s2.cells.l Pb w1 pp.lt (pp.sl 4 rfl) (pp.sl 0 rfl) (pp.at_ 1 _ rfl) (by assumption) (by assumption) (by assumption)) fun z3 hz3 => ?_
            refine l_get 0 rfl (fun S w h => ValX.Ok.wf h) fun hw6 => ?_
            refine l_nil (hKN _ _ (fun _ h => (h.sel [8, 9, 11, 12, 13, 14] (by decide) rfl)) ?_)
            refine n_run (f := 2) [13, 14] rfl rfl (by kernel_rfl) (by kernel_rfl) (fun _ h => (h.sel [8, 9, 11, 12, 13, 14] (by decide) rfl)) fun KS hKS => ?_
            refine s_val wn (r_extract rfl rfl) rfl ?_
            refine s_val wn (r_extract rfl rfl) rfl ?_
            refine s_end hKS ?_
            refine n_step1 (f := 1) (i := 15) rfl (by kernel_rfl) ?_
            refine n_one (i := 15) rfl fun KN hKN => ?_
            refine l_stn 10 wn rfl rfl rfl inf77 rfl rfl rfl ?_
            refine l_nil (hKN _ _ (fun _ h => (h.sel [8, 9, 11, 12, 13, 14] (by decide) rfl)) ?_)
            refine n_run (f := 0) [16] rfl rfl (by kernel_rfl) (by kernel_rfl) (fun _ h => (h.sel [8, 9, 11, 12, 13, 14] (by decide) rfl)) fun KS hKS => ?_
            refine s_val wn (r_assign rfl) rfl ?_
            refine s_end hKS ?_
            refine n_done (by kernel_rfl) (e_go hK21 ?_)
            refine c_ret (e_then_r (e_ret2 (.inl rfl) Try.results42 (rv_cell 10 rfl rfl agg77 inf77 rfl) (rv_tmp rfl) fun w1 hM => ?_))
            have hb9 : Mn.eval lk time e.e = Mn.all e.word e.by_.l (s2.cells.l.map CellX.e) := by rw [Mn.eval_e, if_neg h1, if_neg h2, if_neg (by rw [hev]; simp), hev, Mn.close_all h5 hs2]
            exact hM.retE z3 (by first | (rw [hb9]; done) | (rw [hb9]; rfl)) (by rw [hb9]; exact hz3) fun Pb pp => pp.at_ 0 _ rfl
          ·
            refine c_skip (e_go hK19 ?_)
            refine c_seq fun K22 hK22 => ?_
            refine c_nodes (Mem w ⟨no, P0⟩ [allP ValX.Ok vs, Row (.slice A1 vs.length cp1) 77 3 valE vs, celP vad [.int .i64 time, .func (.func f) #[] fcap], .pub C, celP ead [.int .i64 e.kind, .int .i64 e.n, .int .i64 e.range, .string e.word, .slice e.ms.A e.ms.l.length e.ms.c, .slice e.by_.A e.by_.l.length e.by_.c, .slice e.kids.A e.kids.l.length e.kids.c], okP ExprX.Ok e]) mix (fun _ h => h.drew) rfl ?_
            refine n_run (f := 5) [0, 1, 2, 3, 4, 5, 6, 7, 8, 9] rfl rfl (by kernel_rfl) (by kernel_rfl) (fun _ h => (h.sel [0, 1, 3, 4, 5, 6] (by decide) rfl)) fun KS hKS => ?_
            refine s_val wn (r_move rfl) rfl ?_
            refine s_val wn (r_nilCheck rfl) rfl ?_
            refine s_val wn (r_fe rfl fld27_3) rfl ?_
            refine s_val wn (r_cel 4 rfl rfl rfl flat9) rfl ?_
            refine s_val wn (r_move rfl) rfl ?_
            obtain ⟨ad3, hd3⟩ := hA1 (ne_nil (i := 0) (by first | omega | (simp <;> omega)))
            refine s_val wn (r_ia (i := 0) rfl hd3 rfl (by omega) (by first | omega | (simp <;> omega)) Try.underlying111 inf77) rfl ?_
            obtain ⟨s3, hs3⟩ : ∃ x, vs[0]? = some x := ⟨_, List.getElem?_eq_getElem (by first | omega | (simp <;> omega))⟩
            obtain ⟨hx1_s3, hx2_s3, hx3_s3, hx4_s3⟩ := (hgs _ (List.mem_of_getElem? hs3)).x
            refine s_val wn (r_rln 1 [.bool s3.vec, .int .i64 s3.n, .slice s3.cells.A s3.cells.l.length s3.cells.c] encValX rfl rfl hd3 hs3 rfl rfl agg77 inf77) rfl ?_
            refine s_val wn (r_move rfl) rfl ?_
            refine s_val wn (r_ia (i := 1) rfl hd3 rfl (by omega) (by first | omega | (simp <;> omega)) Try.underlying111 inf77) rfl ?_
            obtain ⟨s4, hs4⟩ : ∃ x, vs[1]? = some x := ⟨_, List.getElem?_eq_getElem (by first | omega | (simp <;> omega))⟩
            obtain ⟨hx1_s4, hx2_s4, hx3_s4, hx4_s4⟩ := (hgs _ (List.mem_of_getElem? hs4)).x
            refine s_val wn (r_rln 1 [.bool s4.vec, .int .i64 s4.n, .slice s4.cells.A s4.cells.l.length s4.cells.c] encValX rfl rfl hd3 hs4 rfl rfl agg77 inf77) rfl ?_
            refine s_end hKS ?_
            refine n_step1 (f := 4) (i := 10) rfl (by kernel_rfl) ?_
            refine n_one (i := 10) rfl fun KN hKN => ?_
            have hw7 := hwf _ (List.mem_of_getElem? hs3)
            refine l_opn (fun _ h => h.one 0 ValX.Ok.loc rfl hs3) ?_
            have hw8 := hwf _ (List.mem_of_getElem? hs4)
            refine l_opn (fun _ h => h.one 1 ValX.Ok.loc rfl hs4) ?_
            refine l_callE0 (β := ValX) (fun z => .tuple #[.agg (valE z).toArray, .int .i64 ((Mn.bin e.word s3.e s4.e).2)]) (fun z => z.e = (Mn.bin e.word s3.e s4.e).1) (fun z S => ValX.Ok S z) (fun z => ValX.Ok.loc z) wn rfl Try.call62 rfl (fun w1 Pb hM pp => c_bin e.word s3 s4 Pb w1 pp.lt (pp.at_ 1 _ rfl) (pp.at_ 0 _ rfl) (by assumption) (by assumption) (by assumption) (by assumption)) fun z4 hz4 => ?_
            refine l_get 0 rfl (fun S w h => ValX.Ok.wf h) fun hw9 => ?_
            refine l_nil (hKN _ _ (fun _ h => (h.sel [3, 4, 6, 7, 8, 9] (by decide) rfl)) ?_)
            refine n_run (f := 2) [11, 12] rfl rfl (by kernel_rfl) (by kernel_rfl) (fun _ h => (h.sel [3, 4, 6, 7, 8, 9] (by decide) rfl)) fun KS hKS => ?_
            refine s_val wn (r_extract rfl rfl) rfl ?_
            refine s_val wn (r_extract rfl rfl) rfl ?_
            refine s_end hKS ?_
            refine n_step1 (f := 1) (i := 13) rfl (by kernel_rfl) ?_
            refine n_one (i := 13) rfl fun KN hKN => ?_
            refine l_stn 5 wn rfl rfl rfl inf77 rfl rfl rfl ?_
            refine l_nil (hKN _ _ (fun _ h => (h.sel [3, 4, 6, 7, 8, 9] (by decide) rfl)) ?_)
            refine n_run (f := 0) [14] rfl rfl (by kernel_rfl) (by kernel_rfl) (fun _ h => (h.sel [3, 4, 6, 7, 8, 9] (by decide) rfl)) fun KS hKS => ?_
            refine s_val wn (r_assign rfl) rfl ?_
            refine s_end hKS ?_
            refine n_done (by kernel_rfl) (e_go hK22 ?_)
            refine c_ret (e_ret2 (.inl rfl) Try.results42 (rv_cell 5 rfl rfl agg77 inf77 rfl) (rv_tmp rfl) fun w1 hM => ?_)
            have hb9 : Mn.eval lk time e.e = Mn.bin e.word s3.e s4.e := by rw [Mn.eval_e, if_neg h1, if_neg h2, if_neg (by rw [hev]; simp), hev, Mn.close_bin h5 hs3 hs4]
            exact hM.retE z4 (by first | (rw [hb9]; done) | (rw [hb9]; rfl)) (by rw [hb9]; exact hz4) fun Pb pp => pp.at_ 0 _ rfl
theorem c_expr (e : ExprX) : c_expr_C e := recX c_expr_step e

theorem c_cloneLabel (lv : Value) (l : List Label) (w : World) (hl : FlatSl (In w) 2 labelE lv l w) (hl1 : l.length ≤ 1048576) :
    Calls Try.prog 23 #[lv] w (RetL w 51 2 labelE l) := by
 obtain ⟨lA, lc, rfl, hlc, hlm, hlA⟩ := hl.form
 refine fstart (N := 8) (vals := [.slice lA l.length lc]) (S := Mem w no [slO (In w) 2 labelE (.slice lA l.length lc) l]) Try.func23 rfl rfl rfl (Mem.ofDats (dc (dl hl) dn)) ?_
 refine c_seq fun _ hK1 => ?_
 refine c_region ?_
 refine l_val wn (r_assign rfl) rfl ?_
 refine l_nil (e_go hK1 ?_)
 refine c_seq fun _ hK2 => ?_
 refine c_seq fun _ hK3 => ?_
 refine c_region ?_
 refine l_val wn (r_move rfl) rfl ?_
 refine l_val wn (r_slnil rfl rfl Try.underlying42) rfl ?_
 refine l_nil (e_go hK3 ?_)
 refine c_condb rfl (fun h1 => ?_) (fun h1 => ?_)
 · refine c_seq fun _ hK4 => ?_
   refine c_region ?_
   refine l_val wn (r_assign rfl) rfl ?_
   refine l_nil (e_go hK4 ?_)
   refine c_ret (e_then_r (e_ret1 (.inl rfl) Try.results23 (rv_tmp rfl) fun w1 hM => ?_))
   have hM := hM.nilRow Label 51 2 labelE
   exact hM.retL' 0 rfl (Sh.isNone_nil hlA h1)
 refine c_skip (e_go hK2 ?_)
 refine c_seq fun _ hK5 => ?_
 refine c_region ?_
 refine l_bsL0 labelE wn Try.underlying42 inf51 rfl fun b5 => ?_
 refine l_val wn (r_move rfl) rfl ?_
 refine l_app 0 ([] : List Label) l encLabel wn rfl rfl rfl (fun _ hM => (hM.sl 1 rfl)) Try.underlying42 inf51 rfl rfl (by simp only [List.length_append, List.length_cons, List.length_nil]; omega) rfl fun A1 cp1 hc1 hm1 hA1 => ?_
 refine l_val wn (r_assign rfl) rfl ?_
 refine l_nil (e_go hK5 ?_)
 refine c_ret (e_ret1 (.inl rfl) Try.results23 (rv_tmp rfl) fun w1 hM => ?_)
 exact hM.retL' 0 rfl rfl

set_option maxHeartbeats 1000000 in
theorem c_ask1 (mv : Value) (m : List Match) (a : Int) (b : Int) (lad : Addr) (lv : Value) (l : List LineX) (P0 : Nat → Prop) (w : World) (hP0 : ∀ b, P0 b → b < w.heap.size) (hm : FlatSl P0 3 matchE mv m w) (hlp : CelAt P0 lad [lv] w) (hl : FlatSl P0 2 lineE lv l w) (hla : ∀ x ∈ l, LineX.Ok P0 x w) (hl8 : l.length ≤ 1048576) (hsz : ∀ x ∈ l, x.sr.l.length ≤ 1048576 ∧ x.sm.l.length ≤ 1048576) :
    Calls Try.prog 21 #[mv, .int .i64 a, .int .i64 b, .pointer (some lad)] w (RetE w P0 (winV (Mn.lookL (l.map LineX.e) m a b).2) (fun z => WinX.is z (Mn.lookL (l.map LineX.e) m a b).1) (fun z S => WinX.Ok S z)) := by
 obtain ⟨mA, mc, rfl, hmc, hmm, hmA⟩ := hm.form
 have hwl : ∀ x ∈ l, LineX.Wf x := fun x hx => (hla x hx).wf
 obtain ⟨lA, lc, rfl, hlc, hlm, hlA⟩ := hl.form
 refine fstart (N := 62) (vals := [.slice mA m.length mc, .int .i64 a, .int .i64 b, .pointer (some ((Addr.add lad 0).add 0))]) (S := Mem w ⟨no, P0⟩ [slP 3 matchE (.slice mA m.length mc) m, celP lad [.slice lA l.length lc], slP 2 lineE (.slice lA l.length lc) l, allP LineX.Ok l]) Try.func21 rfl rfl rfl (Mem.ofDatsP hP0 (dc (dlp hm) (dc (dp (CelAt.loc _ _) hlp) (dc (dlp hl) (dc (dp (all_loc LineX.Ok.loc _) hla) dn))))) ?_
 refine c_seq fun _ hK1 => ?_
 refine c_region ?_
 refine l_nilRow (serE : SerX → List Value) 42 1 ?_
 refine l_opn (fun _ h => h.all0 SerX.Ok.loc) ?_
 refine l_val wn (r_assign rfl) rfl ?_
 refine l_nilRow (sumE : Sum → List Value) 62 7 ?_
 refine l_val wn (r_assign rfl) rfl ?_
 refine l_val wn (r_assign rfl) rfl ?_
 refine l_nil (e_go hK1 ?_)
 refine c_seq fun _ hK2 => ?_
 refine c_seq fun _ hK3 => ?_
 refine c_region ?_
 refine l_val wn (r_cel 4 rfl rfl rfl flat22) rfl ?_
 refine l_val wn (r_len rfl Try.underlying22) rfl ?_
 refine l_val wn (r_move rfl) rfl ?_
 refine l_nil (e_go hK3 ?_)
 refine c_block ?_
 refine c_loop5 (fun (k : Nat) (ss : List SerX) (us : List Sum) (sv : Value) (uv : Value) => [(0, .slice mA m.length mc), (1, .int .i64 a), (2, .int .i64 b), (7, sv), (8, uv), (15, .slice lA l.length lc), (16, .int .i64 (l.length : Int)), (17, .int .i64 (k : Int))]) (fun (k : Nat) (ss : List SerX) (us : List Sum) (sv : Value) (uv : Value) => [Row uv 62 7 sumE us, allP SerX.Ok ss, Row sv 42 1 serE ss, slP 3 matchE (.slice mA m.length mc) m, celP lad [.slice lA l.length lc], slP 2 lineE (.slice lA l.length lc) l, allP LineX.Ok l]) (fun (k : Nat) (ss : List SerX) (us : List Sum) (sv : Value) (uv : Value) => k ≤ l.length ∧ (∀ x ∈ ss, SerX.Wf x) ∧ ss.map (fun x => x.sr.l) = (Mn.lookL ((l.take k).map LineX.e) m a b).1.map (·.1) ∧ us = (Mn.lookL ((l.take k).map LineX.e) m a b).1.map (·.2) ∧ ss.length ≤ k ∧ us.length ≤ k) (fun (k : Nat) (ss : List SerX) (us : List Sum) (sv : Value) (uv : Value) => l.length - k) 0 [] [] (.slice none 0 0) (.slice none 0 0) (sc rfl (sc rfl (sc rfl (sc rfl (sc rfl (sc rfl (sc rfl (sc (ji (by omega)) sn)))))))) (fun _ h => h) ?_ (fun k ss us sv uv hI1 => ?_)
 · exact ⟨Nat.zero_le _, fun x hx => (by cases hx), rfl, rfl, Nat.le_refl _, Nat.le_refl _⟩
 have hwf := hI1.2.1
 have hlen := hI1.2.2.2.2
 refine c_open 2 (l := ss) rfl fun A1 cp1 hv1 hc1 hm1 hA1 => ?_
 subst hv1
 refine c_open 0 (l := us) rfl fun A2 cp2 hv2 hc2 hm2 hA2 => ?_
 subst hv2
 refine c_seq fun _ hK4 => ?_
 refine c_region ?_
 refine l_val wn (r_lss rfl rfl) rfl ?_
 refine l_nil (e_go hK4 ?_)
 refine c_seq fun _ hK5 => ?_
 refine c_cond rfl (fun h1 => ?_) (fun h1 => ?_)
 · refine c_skip (e_go hK5 ?_)
   refine c_seq fun _ hK6 => ?_
   refine c_block ?_
   refine c_seq fun _ hK7 => ?_
   refine c_region ?_
   obtain ⟨ad1, hd1⟩ := hlA (ne_nil (i := k) (by first | omega | (simp <;> omega)))
   refine l_val wn (r_ia (i := k) rfl hd1 rfl (by omega) (by first | omega | (simp <;> omega)) Try.underlying22 inf49) rfl ?_
   obtain ⟨s1, hs1⟩ : ∃ x, l[k]? = some x := ⟨_, List.getElem?_eq_getElem (by first | omega | (simp <;> omega))⟩
   refine l_val wn (r_pln 5 [.slice s1.sr.A s1.sr.l.length s1.sr.c, .slice s1.sm.A s1.sm.l.length s1.sm.c] rfl rfl hd1 hs1 rfl rfl agg49 inf49) rfl ?_
   refine l_alloc wn inf49 rfl fun b11 => ?_
   refine l_stn 0 wn rfl rfl rfl inf49 rfl rfl rfl ?_
   refine l_nil (e_go hK7 ?_)
   refine c_seq fun _ hK8 => ?_
   refine c_seq fun _ hK9 => ?_
   refine c_region ?_
   refine l_val wn (r_fa rfl fld49_0) rfl ?_
   refine l_val wn (r_lb 0 rfl rfl rfl flat42) rfl ?_
   refine l_val wn (r_move rfl) rfl ?_
   have hw1 := hwl _ (List.mem_of_getElem? hs1)
   refine l_opn (fun _ h => h.one 7 LineX.Ok.loc rfl hs1) ?_
   refine l_opn (fun _ h => h.lineX 0 rfl) ?_
   obtain ⟨hc3, hm3, hA3⟩ := hw1.sr
   obtain ⟨hc4, hm4, hA4⟩ := hw1.sm
   refine l_callF wn rfl Try.call22 rfl (fun w1 hM => c_matches _ s1.sr.l _ m w1 (hM.slp 0 rfl) (hM.slp 7 rfl)) ?_
   refine l_val wn (r_notb rfl) rfl ?_
   refine l_nil (e_go hK9 ?_)
   refine c_condb rfl (fun h2 => ?_) (fun h2 => ?_)
   · refine c_exit (e_then_x (e_in_hit (e_go hK6 ?_)))
     refine c_region ?_
     refine l_val wn (r_addn rfl rfl (by omega)) rfl ?_
     refine l_val wn (r_move rfl) rfl ?_
     refine l_nil (e_round5 (k + 1) ss us (.slice A1 ss.length cp1) (.slice A2 us.length cp2) (sc rfl (sc rfl (sc rfl (sc rfl (sc rfl (sc rfl (sc rfl (sc (ji (by omega)) sn)))))))) (fun _ h => (h.sel [4, 5, 6, 7, 8, 9, 10] (by decide) rfl)) ?_ ?_)
     · have hm9 : ¬ Names.matches_ s1.sr.l m = true := by simpa using h2
       exact ⟨by omega, hwf, by rw [Mn.look_at hs1, if_neg hm9]; exact hI1.2.2.1, by rw [Mn.look_at hs1, if_neg hm9]; exact hI1.2.2.2.1, by omega, by omega⟩
     omega
   refine c_skip (e_go hK8 ?_)
   refine c_seq fun _ hK10 => ?_
   refine c_region ?_
   refine l_nilRow (sampleE : Sample → List Value) 54 2 ?_
   refine l_val wn (r_assign rfl) rfl ?_
   refine l_nil (e_go hK10 ?_)
   refine c_seq fun _ hK11 => ?_
   refine c_seq fun _ hK12 => ?_
   refine c_region ?_
   refine l_val wn (r_fa rfl fld49_1) rfl ?_
   refine l_val wn (r_lb 4 rfl rfl rfl flat47) rfl ?_
   refine l_val wn (r_len rfl Try.underlying47) rfl ?_
   refine l_val wn (r_move rfl) rfl ?_
   refine l_nil (e_go hK12 ?_)
   refine c_block ?_
   refine c_loop3 (fun (j : Nat) (ins : List Sample) (iv : Value) => [(0, .slice mA m.length mc), (1, .int .i64 a), (2, .int .i64 b), (7, .slice A1 ss.length cp1), (8, .slice A2 us.length cp2), (11, .pointer (some ⟨b11, 0, none⟩)), (12, iv), (15, .slice lA l.length lc), (16, .int .i64 (l.length : Int)), (17, .int .i64 (k : Int)), (27, .slice s1.sm.A s1.sm.l.length s1.sm.c), (28, .int .i64 (s1.sm.l.length : Int)), (29, .int .i64 (j : Int))]) (fun (j : Nat) (ins : List Sample) (iv : Value) => [Row iv 54 2 sampleE ins, slP 2 labelE (.slice s1.sr.A s1.sr.l.length s1.sr.c) s1.sr.l, slP 2 sampleE (.slice s1.sm.A s1.sm.l.length s1.sm.c) s1.sm.l, okP LineX.Ok s1, .blk b11 [.slice s1.sr.A s1.sr.l.length s1.sr.c, .slice s1.sm.A s1.sm.l.length s1.sm.c] 49, Row (.slice A2 us.length cp2) 62 7 sumE us, allP SerX.Ok ss, Row (.slice A1 ss.length cp1) 42 1 serE ss, slP 3 matchE (.slice mA m.length mc) m, celP lad [.slice lA l.length lc], slP 2 lineE (.slice lA l.length lc) l, allP LineX.Ok l]) (fun (j : Nat) (ins : List Sample) (iv : Value) => j ≤ s1.sm.l.length ∧ ins = (s1.sm.l.take j).filter (Mn.inWin a b)) (fun (j : Nat) (ins : List Sample) (iv : Value) => s1.sm.l.length - j) 0 [] (.slice none 0 0) (sc rfl (sc rfl (sc rfl (sc rfl (sc rfl (sc rfl (sc rfl (sc rfl (sc rfl (sc rfl (sc rfl (sc rfl (sc (ji (by omega)) sn))))))))))))) (fun _ h => h) ?_ (fun j ins iv hI2 => ?_)
   · exact ⟨Nat.zero_le _, rfl⟩
   have hin := hI2
   have hnl : ins.length ≤ s1.sm.l.length := by rw [hin.2]; exact Nat.le_trans (List.length_filter_le _ _) (by rw [List.length_take]; omega)
   have hsz1 := hsz _ (List.mem_of_getElem? hs1)
   refine c_open 0 (l := ins) rfl fun A3 cp3 hv3 hc5 hm5 hA5 => ?_
   subst hv3
   refine c_seq fun _ hK13 => ?_
   refine c_region ?_
   refine l_val wn (r_lss rfl rfl) rfl ?_
   refine l_nil (e_go hK13 ?_)
   refine c_seq fun _ hK14 => ?_
   refine c_cond rfl (fun h3 => ?_) (fun h3 => ?_)
   · refine c_skip (e_go hK14 ?_)
     refine c_seq fun _ hK15 => ?_
     refine c_block ?_
     refine c_seq fun _ hK16 => ?_
     refine c_region ?_
     obtain ⟨ad2, hd2⟩ := hA4 (ne_nil (i := j) (by first | omega | (simp <;> omega)))
     refine l_val wn (r_ia (i := j) rfl hd2 rfl (by omega) (by first | omega | (simp <;> omega)) Try.underlying47 inf54) rfl ?_
     obtain ⟨s2, hs2⟩ : ∃ x, s1.sm.l[j]? = some x := ⟨_, List.getElem?_eq_getElem (by first | omega | (simp <;> omega))⟩
     refine l_val wn (r_pln 2 [.int .i64 s2.time, .int .i64 s2.value] rfl rfl hd2 hs2 rfl rfl agg54 inf54) rfl ?_
     refine l_alloc wn inf54 rfl fun b14 => ?_
     refine l_stn 0 wn rfl rfl rfl inf54 rfl rfl rfl ?_
     refine l_nil (e_go hK16 ?_)
     refine c_seq fun _ hK17 => ?_
     refine c_region ?_
     refine l_val wn (r_fa rfl fld54_0) rfl ?_
     refine l_val wn (r_lb 0 rfl rfl rfl flat3) rfl ?_
     refine l_val wn (r_move rfl) rfl ?_
     refine l_val wn (r_geq rfl rfl) rfl ?_
     refine l_val wn (r_move rfl) rfl ?_
     refine l_case (t := 37) rfl (fun h4 => ?_) (fun h4 => ?_)
     · refine l_val (wg rfl rfl rfl) (r_fa rfl fld54_0) rfl ?_
       refine l_val (wg rfl rfl rfl) (r_lb 0 rfl rfl rfl flat3) rfl ?_
       refine l_val (wg rfl rfl rfl) (r_move rfl) rfl ?_
       refine l_val (wg rfl rfl rfl) (r_lss rfl rfl) rfl ?_
       refine l_val wn (r_pick rfl rfl) rfl ?_
       refine l_nil (e_go hK17 ?_)
       refine c_cond rfl (fun h5 => ?_) (fun h5 => ?_)
       · refine c_region ?_
         refine l_val wn (r_move rfl) rfl ?_
         refine l_val wn (r_lbn 0 [.int .i64 s2.time, .int .i64 s2.value] rfl rfl rfl rfl agg54 inf54) rfl ?_
         refine l_bsL sampleE ([s2] : List Sample) wn Try.underlying47 inf54 rfl rfl rfl rfl (by decide) (by decide) rfl fun b45 => ?_
         refine l_app 2 ins ([s2] : List Sample) encSample wn rfl rfl rfl (fun _ hM => (RowSl encSample hM 0 rfl)) Try.underlying47 inf54 rfl rfl (by simp only [List.length_append, List.length_cons, List.length_nil]; omega) rfl fun A4 cp4 hc6 hm6 hA6 => ?_
         refine l_val wn (r_assign rfl) rfl ?_
         refine l_nil (e_in_n (e_go hK15 ?_))
         refine c_region ?_
         refine l_val wn (r_addn rfl rfl (by omega)) rfl ?_
         refine l_val wn (r_move rfl) rfl ?_
         refine l_nil (e_round3 (j + 1) (ins ++ ([s2] : List Sample)) (.slice A4 ((ins ++ ([s2] : List Sample)).length) cp4) (sc rfl (sc rfl (sc rfl (sc rfl (sc rfl (sc rfl (sc rfl (sc rfl (sc rfl (sc rfl (sc rfl (sc rfl (sc (ji (by omega)) sn))))))))))))) (fun _ h => (h.sel [2, 3, 4, 5, 6, 7, 8, 9, 10, 11, 12, 13] (by decide) rfl)) ?_ ?_)
         · exact ⟨by omega, by rw [Mn.filt_at hs2, if_pos (Mn.win_t ⟨h4, h5⟩), ← hin.2]⟩
         omega
       refine c_skip (e_in_n (e_go hK15 ?_))
       refine c_region ?_
       refine l_val wn (r_addn rfl rfl (by omega)) rfl ?_
       refine l_val wn (r_move rfl) rfl ?_
       refine l_nil (e_round3 (j + 1) ins (.slice A3 ins.length cp3) (sc rfl (sc rfl (sc rfl (sc rfl (sc rfl (sc rfl (sc rfl (sc rfl (sc rfl (sc rfl (sc rfl (sc rfl (sc (ji (by omega)) sn))))))))))))) (fun _ h => (h.sel [1, 2, 3, 4, 5, 6, 7, 8, 9, 10, 11, 12] (by decide) rfl)) ?_ ?_)
       · exact ⟨by omega, by rw [Mn.filt_at hs2, if_neg (Mn.win_f (by omega))]; exact hin.2⟩
       omega
     refine l_skip (wg rfl rfl rfl) rfl ?_
     refine l_skip (wg rfl rfl rfl) rfl ?_
     refine l_skip (wg rfl rfl rfl) rfl ?_
     refine l_skip (wg rfl rfl rfl) rfl ?_
     refine l_val wn (r_pick rfl rfl) rfl ?_
     refine l_nil (e_go hK17 ?_)
     refine c_false rfl rfl ?_
     refine c_skip (e_in_n (e_go hK15 ?_))
     refine c_region ?_
     refine l_val wn (r_addn rfl rfl (by omega)) rfl ?_
     refine l_val wn (r_move rfl) rfl ?_
     refine l_nil (e_round3 (j + 1) ins (.slice A3 ins.length cp3) (sc rfl (sc rfl (sc rfl (sc rfl (sc rfl (sc rfl (sc rfl (sc rfl (sc rfl (sc rfl (sc rfl (sc rfl (sc (ji (by omega)) sn))))))))))))) (fun _ h => (h.sel [1, 2, 3, 4, 5, 6, 7, 8, 9, 10, 11, 12] (by decide) rfl)) ?_ ?_)
     · exact ⟨by omega, by rw [Mn.filt_at hs2, if_neg (Mn.win_f (by omega))]; exact hin.2⟩
     omega
   refine c_exit (e_then_x (e_loop3_x (e_in_hit (e_go hK11 ?_))))
   refine c_region ?_
   refine l_val wn (r_move rfl) rfl ?_
   refine l_val wn (r_fa rfl fld49_0) rfl ?_
   refine l_val wn (r_lb 4 rfl rfl rfl flat42) rfl ?_
   refine l_callL s1.sr.l wn rfl Try.call23 rfl (fun w1 hM => c_cloneLabel _ s1.sr.l w1 (hM.slp 1 rfl) (hsz _ (List.mem_of_getElem? (by assumption))).1) fun A5 cp5 hc7 hm7 hA7 => ?_
   refine l_bsL serE ([(SerX.mk ⟨A5, cp5, s1.sr.l⟩)] : List SerX) wn Try.underlying57 inf42 rfl rfl rfl rfl (by decide) (by decide) rfl fun b52 => ?_
   refine l_app 9 ss ([(SerX.mk ⟨A5, cp5, s1.sr.l⟩)] : List SerX) encSerX wn rfl rfl rfl (fun _ hM => (RowSl encSerX hM 0 rfl)) Try.underlying57 inf42 rfl rfl (by simp only [List.length_append, List.length_cons, List.length_nil]; omega) rfl fun A6 cp6 hc8 hm8 hA8 => ?_
   refine l_seal 1 encLabel rfl rfl ?_
   refine l_opn (fun _ h => h.allSer 8 1 rfl rfl) ?_
   have hw2 : ∀ x ∈ (ss ++ ([(SerX.mk ⟨A5, cp5, s1.sr.l⟩)] : List SerX)), SerX.Wf x := fun x hx => (List.mem_append.1 hx).elim (hwf x) fun h => by rw [List.mem_singleton.1 h]; exact ⟨⟨by omega, by omega, hA7⟩⟩
   refine l_val wn (r_move rfl) rfl ?_
   refine l_val wn (r_move rfl) rfl ?_
   refine l_callF wn rfl Try.call24 rfl (fun w1 hM => c_Of _ ins w1 (RowSl encSample hM 3 rfl)) ?_
   refine l_bsL sumE ([(Agg.of ins)] : List Sum) wn Try.underlying58 inf62 rfl rfl rfl rfl (by decide) (by decide) rfl fun b57 => ?_
   refine l_app 9 us ([(Agg.of ins)] : List Sum) encSum wn rfl rfl rfl (fun _ hM => (RowSl encSum hM 0 rfl)) Try.underlying58 inf62 rfl rfl (by simp only [List.length_append, List.length_cons, List.length_nil]; omega) rfl fun A7 cp7 hc9 hm9 hA9 => ?_
   refine l_val wn (r_assign rfl) rfl ?_
   refine l_val wn (r_assign rfl) rfl ?_
   refine l_nil (e_in_n (e_go hK6 ?_))
   refine c_region ?_
   refine l_val wn (r_addn rfl rfl (by omega)) rfl ?_
   refine l_val wn (r_move rfl) rfl ?_
   refine l_nil (e_round5 (k + 1) (ss ++ ([(SerX.mk ⟨A5, cp5, s1.sr.l⟩)] : List SerX)) (us ++ ([(Agg.of ins)] : List Sum)) (.slice A6 ((ss ++ ([(SerX.mk ⟨A5, cp5, s1.sr.l⟩)] : List SerX)).length) cp6) (.slice A7 ((us ++ ([(Agg.of ins)] : List Sum)).length) cp7) (sc rfl (sc rfl (sc rfl (sc rfl (sc rfl (sc rfl (sc rfl (sc (ji (by omega)) sn)))))))) (fun _ h => (h.sel [9, 1, 11, 12, 13, 14, 15] (by decide) rfl)) ?_ ?_)
   · have hm9 : Names.matches_ s1.sr.l m = true := by simpa using h2
     have hin9 : ins = s1.sm.l.filter (Mn.inWin a b) := by rw [hin.2, List.take_of_length_le (by omega)]
     exact ⟨by omega, hw2, by rw [Mn.look_at hs1, if_pos hm9, List.map_append, List.map_append, ← hI1.2.2.1]; rfl, by rw [Mn.look_at hs1, if_pos hm9, List.map_append, ← hI1.2.2.2.1, hin9]; rfl, by simp only [List.length_append, List.length_cons, List.length_nil]; omega, by simp only [List.length_append, List.length_cons, List.length_nil]; omega⟩
   omega
 refine c_exit (e_then_x (e_loop5_x (e_in_hit (e_go hK2 ?_))))
 refine c_seq fun _ hK18 => ?_
 refine c_region ?_
 refine l_val wn (r_move rfl) rfl ?_
 refine l_val wn (r_move rfl) rfl ?_
 refine l_val wn (r_assign rfl) rfl ?_
 refine l_val wn (r_assign rfl) rfl ?_
 refine l_val wn (r_assign rfl) rfl ?_
 refine l_nil (e_go hK18 ?_)
 refine c_ret (e_ret3 (.inl rfl) Try.results21 (rv_tmp rfl) (rv_tmp rfl) (rv_tmp rfl) fun w1 hM => ?_)
 have hM := hM.sealRow encSerX (i := 2) rfl rfl
 have hM := hM.sealRow encSum (i := 0) rfl rfl
 have h9 : (Mn.lookL ((l.take k).map LineX.e) m a b).1 = (Mn.lookL (l.map LineX.e) m a b).1 := by rw [List.take_of_length_le (by omega)]
 exact hM.retE (⟨⟨A1, cp1, ss⟩, ⟨A2, cp2, us⟩⟩ : WinX) rfl ⟨by rw [← h9]; exact hI1.2.2.1, by rw [← h9]; exact hI1.2.2.2.1⟩ fun Pb pp => ⟨pp.sl 2 rfl, pp.at_ 1 _ rfl, pp.sl 0 rfl⟩

theorem c_eval (e : ExprX) (time : Int) (f : Nat) (fcap : Array Value) (C : (Nat → Prop) → World → Prop) (lk : Look) (P0 : Nat → Prop) (w : World) (hP0 : ∀ b, P0 b → b < w.heap.size) (he : ExprX.Ok P0 e w) (hC : C P0 w) (hf : WinFn Try.prog f fcap C lk) (hg : Mn.GoodLook lk) (ht : 0 ≤ time ∧ time ≤ 1000000) (hr : Mn.right e.e) :
    Calls Try.prog 20 #[.agg (exprE e).toArray, .int .i64 time, .func (.func f) #[] fcap] w (RetE w P0 (celsV (Mn.out (Mn.eval lk time e.e)).2) (fun z => z.l.map CellX.e = (Mn.out (Mn.eval lk time e.e)).1) (fun z S => CelsX.Ok S z)) := by
 have hwe := he.wf
 refine fstart (N := 30) (vals := [.agg (exprE e).toArray, .int .i64 time, .func (.func f) #[] fcap]) (S := Mem w ⟨no, P0⟩ [okP ExprX.Ok e, .pub C]) Try.func20 rfl rfl rfl (Mem.ofDatsP hP0 (dc (dp (ExprX.Ok.loc _) he) (dc (dp hf.loc hC) dn))) ?_
 refine c_seq fun _ hK1 => ?_
 refine c_region ?_
 refine l_box wn rfl rfl fun b3 => ?_
 refine l_val wn (r_assign rfl) rfl ?_
 refine l_val wn (r_assign rfl) rfl ?_
 refine l_nil (e_go hK1 ?_)
 refine c_seq fun _ hK2 => ?_
 refine c_region ?_
 refine l_val wn (r_move rfl) rfl ?_
 refine l_val wn (r_move rfl) rfl ?_
 refine l_val wn (r_build [.int .i64 time, .func (.func f) #[] fcap] pl81 inf81 rfl rfl) rfl ?_
 refine l_box wn rfl rfl fun b14 => ?_
 refine l_sealB 0 rfl rfl ?_
 refine l_sealB 1 rfl rfl ?_
 refine l_callE0 (β := ValX) (fun z => .tuple #[.agg (valE z).toArray, .int .i64 ((Mn.eval lk time e.e).2)]) (fun z => z.e = (Mn.eval lk time e.e).1) (fun z S => ValX.Ok S z) (fun z => ValX.Ok.loc z) wn rfl Try.call42 rfl (fun w1 Pb hM pp => c_expr e ⟨b14, 0, none⟩ time f fcap C lk ⟨b3, 0, none⟩ Pb w1 pp.lt (pp.at_ 0 _ rfl) (pp.at_ 3 _ rfl) hf (pp.at_ 1 _ rfl) (pp.at_ 2 _ rfl) hg ht hr) fun z1 hz1 => ?_
 refine l_get 0 rfl (fun S w h => ValX.Ok.wf h) fun hw1 => ?_
 refine l_val wn (r_move rfl) rfl ?_
 refine l_val wn (r_extract rfl rfl) rfl ?_
 refine l_val wn (r_extract rfl rfl) rfl ?_
 refine l_alloc wn inf77 rfl fun b8 => ?_
 refine l_stn 0 wn rfl rfl rfl inf77 rfl rfl rfl ?_
 refine l_val wn (r_assign rfl) rfl ?_
 refine l_nil (e_go hK2 ?_)
 refine c_seq fun _ hK3 => ?_
 refine c_seq fun _ hK4 => ?_
 refine c_region ?_
 refine l_val wn (r_move rfl) rfl ?_
 refine l_val wn (r_neq rfl rfl) rfl ?_
 refine l_nil (e_go hK4 ?_)
 refine c_cond rfl (fun h1 => ?_) (fun h1 => ?_)
 · refine c_seq fun _ hK5 => ?_
   refine c_region ?_
   refine l_val wn (r_move rfl) rfl ?_
   refine l_val wn (r_assign rfl) rfl ?_
   refine l_val wn (r_assign rfl) rfl ?_
   refine l_nil (e_go hK5 ?_)
   refine c_ret (e_then_r (e_ret2 (.inl rfl) Try.results20 (rv_tmp rfl) (rv_tmp rfl) fun w1 hM => ?_))
   have hb9 : Mn.out (Mn.eval lk time e.e) = ([], (Mn.eval lk time e.e).2) := by rw [Mn.out, if_pos (by simpa using h1)]
   exact hM.retE (⟨none, 0, []⟩ : SlX CellX) (by first | (rw [hb9]; done) | (rw [hb9]; rfl)) (by first | (rw [hb9]; done) | (rw [hb9]; rfl)) fun Pb pp => ⟨FlatSl.nil_ _ _ _ _, fun c hc => (by cases hc)⟩
 refine c_skip (e_go hK3 ?_)
 refine c_seq fun _ hK6 => ?_
 refine c_seq fun _ hK7 => ?_
 refine c_region ?_
 refine l_val wn (r_fa rfl fld77_0) rfl ?_
 refine l_val wn (r_lb 0 rfl rfl rfl flat4) rfl ?_
 refine l_val wn (r_notb rfl) rfl ?_
 refine l_nil (e_go hK7 ?_)
 refine c_condb rfl (fun h2 => ?_) (fun h2 => ?_)
 · refine c_seq fun _ hK8 => ?_
   refine c_region ?_
   refine l_val wn (r_fa rfl fld77_1) rfl ?_
   refine l_val wn (r_lb 0 rfl rfl rfl flat3) rfl ?_
   refine l_val wn (r_build [.slice none 0 0, .int .i64 z1.n] pl44 inf44 rfl rfl) rfl ?_
   refine l_bsL cellE ([(CellX.mk ⟨none, 0, []⟩ z1.n)] : List CellX) wn Try.underlying28 inf44 rfl rfl rfl rfl (by decide) (by decide) rfl fun b27 => ?_
   refine l_val wn (r_assign rfl) rfl ?_
   refine l_val wn (r_assign rfl) rfl ?_
   refine l_nil (e_go hK8 ?_)
   refine c_ret (e_then_r (e_ret2 (.inl rfl) Try.results20 (rv_tmp rfl) (rv_tmp rfl) fun w1 hM => ?_))
   have hv9 : (Mn.eval lk time e.e).1.vec = z1.vec := by rw [← hz1]; rfl
   have hn9 : (Mn.eval lk time e.e).1.n = z1.n := by rw [← hz1]; rfl
   have hb9 : Mn.out (Mn.eval lk time e.e) = ([⟨[], z1.n⟩], 0) := by rw [Mn.out, if_neg (by simpa using h1), if_neg (by rw [hv9]; simpa using h2), hn9]
   have hM := hM.sealRow encCellX (i := 0) rfl rfl
   exact hM.retE (⟨(some ⟨b27, 0, none⟩), 1, ([(CellX.mk ⟨none, 0, []⟩ z1.n)] : List CellX)⟩ : SlX CellX) (by first | (rw [hb9]; done) | (rw [hb9]; rfl)) (by first | (rw [hb9]; done) | (rw [hb9]; rfl)) fun Pb pp => ⟨pp.sl 0 rfl, fun c hc => by obtain rfl := List.mem_singleton.1 hc; exact ⟨FlatSl.nil_ _ _ _ _⟩⟩
 refine c_skip (e_go hK6 ?_)
 refine c_seq fun _ hK9 => ?_
 refine c_region ?_
 refine l_val wn (r_fa rfl fld77_2) rfl ?_
 refine l_val wn (r_lb 0 rfl rfl rfl flat28) rfl ?_
 refine l_val wn (r_assign rfl) rfl ?_
 refine l_val wn (r_assign rfl) rfl ?_
 refine l_nil (e_go hK9 ?_)
 refine c_ret (e_ret2 (.inl rfl) Try.results20 (rv_tmp rfl) (rv_tmp rfl) fun w1 hM => ?_)
 have hv9 : (Mn.eval lk time e.e).1.vec = z1.vec := by rw [← hz1]; rfl
 have hn9 : (Mn.eval lk time e.e).1.cells = z1.cells.l.map CellX.e := by rw [← hz1]; rfl
 have hb9 : Mn.out (Mn.eval lk time e.e) = (z1.cells.l.map CellX.e, 0) := by rw [Mn.out, if_neg (by simpa using h1), if_pos (by rw [hv9]; simpa using h2), hn9]
 exact hM.retE z1.cells (by first | (rw [hb9]; done) | (rw [hb9]; rfl)) (by first | (rw [hb9]; done) | (rw [hb9]; rfl)) fun Pb pp => ⟨(pp.at_ 1 _ rfl).cells, (pp.at_ 1 _ rfl).all⟩

theorem ask_win {l : List LineX} (h8 : l.length ≤ 1048576) (hsz : ∀ x ∈ l, x.sr.l.length ≤ 1048576 ∧ x.sm.l.length ≤ 1048576) (lad : Addr) {sA : Option Addr} {sc : Nat} : WinFn Try.prog 21 #[.pointer (some lad)] (LinesAt lad sA sc l) (Mn.lookL (l.map LineX.e)) :=
  ⟨Try.call21, LinesAt.loc _ _ _ _, fun ms a b w P0 hP hms hC ha hb => by simpa using c_ask1 _ ms.l a b lad _ l P0 w hP hms hC.cel hC.sl hC.all h8 hsz⟩

theorem c_ask (lv : Value) (l : List LineX) (e : ExprX) (time : Int) (P0 : Nat → Prop) (w : World) (hP0 : ∀ b, P0 b → b < w.heap.size) (hl : FlatSl P0 2 lineE lv l w) (hla : ∀ x ∈ l, LineX.Ok P0 x w) (he : ExprX.Ok P0 e w)  :
    Calls Try.prog 8 #[lv, .agg (exprE e).toArray, .int .i64 time] w (RetE w P0 (celsV (Mn.ask l e.e time).2) (fun z => z.l.map CellX.e = (Mn.ask l e.e time).1) (fun z S => CelsX.Ok S z)) := by
 have hwl : ∀ x ∈ l, LineX.Wf x := fun x hx => (hla x hx).wf
 obtain ⟨lA, lc, rfl, hlc, hlm, hlA⟩ := hl.form
 have hwe := he.wf
 refine fstart (N := 29) (vals := [.slice lA l.length lc, .agg (exprE e).toArray, .int .i64 time]) (S := Mem w ⟨no, P0⟩ [slP 2 lineE (.slice lA l.length lc) l, allP LineX.Ok l, okP ExprX.Ok e]) Try.func8 rfl rfl rfl (Mem.ofDatsP hP0 (dc (dlp hl) (dc (dp (all_loc LineX.Ok.loc _) hla) (dc (dp (ExprX.Ok.loc _) he) dn)))) ?_
 refine c_seq fun _ hK1 => ?_
 refine c_region ?_
 refine l_box1 wn rfl rfl rfl fun b3 => ?_
 refine l_box wn rfl rfl fun b4 => ?_
 refine l_val wn (r_assign rfl) rfl ?_
 refine l_val wn (r_assign rfl) rfl ?_
 refine l_nil (e_go hK1 ?_)
 refine c_seq fun _ hK2 => ?_
 refine c_seq fun _ hK3 => ?_
 refine c_region ?_
 refine l_val wn (r_lb 1 rfl rfl rfl flat22) rfl ?_
 refine l_callF wn rfl Try.call11 rfl (fun w1 hM => c_meanWrong _ l (In w1) w1 (fun _ h => h) (hM.slp 2 rfl) (hM.pubAt (i := 3) rfl)) ?_
 refine l_alloc wn inf34 rfl fun b8 => ?_
 refine l_stn 0 wn rfl rfl rfl inf34 rfl rfl rfl ?_
 refine l_nil (e_go hK3 ?_)
 refine c_seq fun _ hK4 => ?_
 refine c_region ?_
 refine l_val wn (r_fa rfl fld34_0) rfl ?_
 refine l_val wn (r_lb 0 rfl rfl rfl flat29) rfl ?_
 refine l_val wn (r_neq rfl rfl) rfl ?_
 refine l_nil (e_go hK4 ?_)
 refine c_cond rfl (fun h1 => ?_) (fun h1 => ?_)
 · refine c_seq fun _ hK5 => ?_
   refine c_quiet mix (by kernel_rfl) (fun _ h => h.drew) ?_
   refine q_val wn (r_fa rfl fld34_0) rfl ?_
   refine q_val wn (r_lb 0 rfl rfl rfl flat29) rfl ?_
   refine q_val wn (r_assign rfl) rfl ?_
   refine q_val wn (r_assign rfl) rfl ?_
   refine q_end (e_go hK5 ?_)
   refine c_ret (e_then_r (e_ret2 (.inl rfl) Try.results8 (rv_tmp rfl) (rv_tmp rfl) fun w1 hM => ?_))
   have hb9 : Mn.ask l e.e time = ([], (Mn.lines l).err) := by rw [Mn.ask, if_pos h1]
   exact hM.retE (⟨none, 0, []⟩ : SlX CellX) (by first | (rw [hb9]; done) | (rw [hb9]; rfl)) (by first | (rw [hb9]; done) | (rw [hb9]; rfl)) fun Pb pp => ⟨FlatSl.nil_ _ _ _ _, fun c hc => (by cases hc)⟩
 refine c_skip (e_go hK2 ?_)
 refine c_seq fun _ hK6 => ?_
 refine c_seq fun _ hK7 => ?_
 refine c_region ?_
 refine l_val wn (r_lbn 1 [.int .i64 e.kind, .int .i64 e.n, .int .i64 e.range, .string e.word, .slice e.ms.A e.ms.l.length e.ms.c, .slice e.by_.A e.by_.l.length e.by_.c, .slice e.kids.A e.kids.l.length e.kids.c] rfl rfl rfl rfl agg27 inf27) rfl ?_
 refine l_val wn (r_move rfl) rfl ?_
 refine l_callF wn rfl Try.call13 rfl (fun w1 hM => c_check e time (In w1) w1 (fun _ h => h) (hM.pubAt (i := 5) rfl)) ?_
 refine l_val wn (r_assign rfl) rfl ?_
 refine l_nil (e_go hK7 ?_)
 refine c_seq fun _ hK8 => ?_
 refine c_region ?_
 refine l_val wn (r_move rfl) rfl ?_
 refine l_val wn (r_neq rfl rfl) rfl ?_
 refine l_nil (e_go hK8 ?_)
 refine c_cond rfl (fun h2 => ?_) (fun h2 => ?_)
 · refine c_seq fun _ hK9 => ?_
   refine c_region ?_
   refine l_val wn (r_move rfl) rfl ?_
   refine l_val wn (r_assign rfl) rfl ?_
   refine l_val wn (r_assign rfl) rfl ?_
   refine l_nil (e_go hK9 ?_)
   refine c_ret (e_then_r (e_ret2 (.inl rfl) Try.results8 (rv_tmp rfl) (rv_tmp rfl) fun w1 hM => ?_))
   have hb9 : Mn.ask l e.e time = ([], Mn.check e.e time) := by rw [Mn.ask, if_neg h1, if_pos h2]
   exact hM.retE (⟨none, 0, []⟩ : SlX CellX) (by first | (rw [hb9]; done) | (rw [hb9]; rfl)) (by first | (rw [hb9]; done) | (rw [hb9]; rfl)) fun Pb pp => ⟨FlatSl.nil_ _ _ _ _, fun c hc => (by cases hc)⟩
 refine c_skip (e_go hK6 ?_)
 refine c_seq fun _ hK10 => ?_
 refine c_region ?_
 have hok := Mn.lines_ok (Classical.not_not.1 h1)
 have hck := Mn.check_right (Classical.not_not.1 h2)
 refine l_val wn (r_lbn 1 [.int .i64 e.kind, .int .i64 e.n, .int .i64 e.range, .string e.word, .slice e.ms.A e.ms.l.length e.ms.c, .slice e.by_.A e.by_.l.length e.by_.c, .slice e.kids.A e.kids.l.length e.kids.c] rfl rfl rfl rfl agg27 inf27) rfl ?_
 refine l_val wn (r_move rfl) rfl ?_
 refine l_val wn (r_makeFunc rfl rfl) rfl ?_
 refine l_sealB 2 rfl rfl ?_
 refine l_callE0 (β := SlX CellX) (celsV (Mn.out (Mn.eval (Mn.lookL (l.map LineX.e)) time e.e)).2) (fun z => z.l.map CellX.e = (Mn.out (Mn.eval (Mn.lookL (l.map LineX.e)) time e.e)).1) (fun z S => CelsX.Ok S z) (fun z => CelsX.Ok.loc z) wn rfl Try.call20 rfl (fun w1 Pb hM pp => c_eval e time 21 #[.pointer (some ⟨b3, 0, none⟩)] (LinesAt ⟨b3, 0, none⟩ lA lc l) (Mn.lookL (l.map LineX.e)) Pb w1 pp.lt (pp.at_ 5 _ rfl) ⟨pp.at_ 2 _ rfl, pp.sl 3 rfl, pp.at_ 4 _ rfl⟩ (ask_win (by have := hok.len; omega) hok.sizes _) (Mn.good_lookL hok) hck.2 hck.1) fun z1 hz1 => ?_
 refine l_get 0 rfl (fun S w h => CelsX.Ok.wf h) fun hw1 => ?_
 refine l_opn (fun _ h => h.celsX 0 rfl) ?_
 obtain ⟨hc1, hm1, hA1⟩ := hw1.cells
 refine l_val wn (r_extract rfl rfl) rfl ?_
 refine l_val wn (r_extract rfl rfl) rfl ?_
 refine l_val wn (r_assign rfl) rfl ?_
 refine l_val wn (r_assign rfl) rfl ?_
 refine l_nil (e_go hK10 ?_)
 refine c_ret (e_ret2 (.inl rfl) Try.results8 (rv_tmp rfl) (rv_tmp rfl) fun w1 hM => ?_)
 have hb9 : Mn.ask l e.e time = Mn.out (Mn.eval (Mn.lookL (l.map LineX.e)) time e.e) := by rw [Mn.ask, if_neg h1, if_neg h2]
 exact hM.retE z1 (by first | (rw [hb9]; done) | (rw [hb9]; rfl)) (by rw [hb9]; exact hz1) fun Pb pp => pp.at_ 2 _ rfl

theorem c_law6sum  (w : World)   :
    Calls Try.prog 41 #[] w (Ret w (.agg (exprE sumX).toArray)) := by
 refine fstart (N := 2) (vals := []) (S := Mem w no []) Try.func41 rfl rfl rfl (Mem.ofDats dn) ?_
 refine c_seq fun _ hK1 => ?_
 refine c_region ?_
 refine l_alloc wn inf27 rfl fun b0 => ?_
 refine l_nil (e_go hK1 ?_)
 refine c_seq fun _ hK2 => ?_
 refine c_region ?_
 refine l_val wn (r_build [.int .i64 2, .int .i64 0, .int .i64 100, .string ⟨#[115, 117, 109]⟩, .slice none 0 0, .slice none 0 0, .slice none 0 0] pl27 inf27 rfl rfl) rfl ?_
 refine l_stn 0 wn rfl rfl rfl inf27 rfl rfl rfl ?_
 refine l_nil (e_go hK2 ?_)
 refine c_ret (e_ret1 (.inl rfl) Try.results41 (rv_cell 0 rfl rfl agg27 inf27 rfl) fun w1 hM => ?_)
 exact ret_agg (l1 := [.int .i64 2, .int .i64 0, .int .i64 100, .string ⟨#[115, 117, 109]⟩, .slice none 0 0, .slice none 0 0, .slice none 0 0]) rfl hM

theorem c_law6lines (P0 : Nat → Prop) (w : World) (hP0 : ∀ b, P0 b → b < w.heap.size)  :
    Calls Try.prog 40 #[] w (RetE w P0 (fun z : SlX LineX => .slice z.A z.l.length z.c) (fun z => z.l.map LineX.e = Mn.aliveL) (fun z S => LinesX.Ok S z)) := by
 refine fstart (N := 13) (vals := []) (S := Mem w ⟨no, P0⟩ []) Try.func40 rfl rfl rfl (Mem.ofDatsP hP0 dn) ?_
 refine c_seq fun _ hK1 => ?_
 refine c_region ?_
 refine l_val wn (r_assign rfl) rfl ?_
 refine l_nil (e_go hK1 ?_)
 refine c_seq fun _ hK2 => ?_
 refine c_region ?_
 refine l_val wn (r_build [.string ⟨#[104, 111, 115, 116]⟩, .string ⟨#[97]⟩] pl51 inf51 rfl rfl) rfl ?_
 refine l_bsL labelE ([(⟨⟨#[104, 111, 115, 116]⟩, ⟨#[97]⟩⟩ : Label)] : List Label) wn Try.underlying42 inf51 rfl rfl rfl rfl (by decide) (by decide) rfl fun b2 => ?_
 refine l_val wn (r_build [.int .i64 5, .int .i64 7] pl54 inf54 rfl rfl) rfl ?_
 refine l_val wn (r_build [.int .i64 15, .int .i64 9] pl54 inf54 rfl rfl) rfl ?_
 refine l_bsL sampleE ([(⟨5, 7⟩ : Sample), (⟨15, 9⟩ : Sample)] : List Sample) wn Try.underlying47 inf54 rfl rfl rfl rfl (by decide) (by decide) rfl fun b5 => ?_
 refine l_val wn (r_build [.slice (some ⟨b2, 0, none⟩) 1 1, .slice (some ⟨b5, 0, none⟩) 2 2] pl49 inf49 rfl rfl) rfl ?_
 refine l_val wn (r_build [.string ⟨#[104, 111, 115, 116]⟩, .string ⟨#[98]⟩] pl51 inf51 rfl rfl) rfl ?_
 refine l_bsL labelE ([(⟨⟨#[104, 111, 115, 116]⟩, ⟨#[98]⟩⟩ : Label)] : List Label) wn Try.underlying42 inf51 rfl rfl rfl rfl (by decide) (by decide) rfl fun b8 => ?_
 refine l_val wn (r_build [.int .i64 8, .int .i64 1] pl54 inf54 rfl rfl) rfl ?_
 refine l_bsL sampleE ([(⟨8, 1⟩ : Sample)] : List Sample) wn Try.underlying47 inf54 rfl rfl rfl rfl (by decide) (by decide) rfl fun b10 => ?_
 refine l_val wn (r_build [.slice (some ⟨b8, 0, none⟩) 1 1, .slice (some ⟨b10, 0, none⟩) 1 1] pl49 inf49 rfl rfl) rfl ?_
 refine l_bsL lineE ([(LineX.mk ⟨(some ⟨b2, 0, none⟩), 1, ([(⟨⟨#[104, 111, 115, 116]⟩, ⟨#[97]⟩⟩ : Label)] : List Label)⟩ ⟨(some ⟨b5, 0, none⟩), 2, ([(⟨5, 7⟩ : Sample), (⟨15, 9⟩ : Sample)] : List Sample)⟩), (LineX.mk ⟨(some ⟨b8, 0, none⟩), 1, ([(⟨⟨#[104, 111, 115, 116]⟩, ⟨#[98]⟩⟩ : Label)] : List Label)⟩ ⟨(some ⟨b10, 0, none⟩), 1, ([(⟨8, 1⟩ : Sample)] : List Sample)⟩)] : List LineX) wn Try.underlying22 inf49 rfl rfl rfl rfl (by decide) (by decide) rfl fun b12 => ?_
 refine l_val wn (r_assign rfl) rfl ?_
 refine l_nil (e_go hK2 ?_)
 refine c_ret (e_ret1 (.inl rfl) Try.results40 (rv_tmp rfl) fun w1 hM => ?_)
 have hM := hM.sealRow encLineX (i := 0) rfl rfl
 have hM := hM.sealRow encLabel (i := 4) rfl rfl
 have hM := hM.sealRow encSample (i := 3) rfl rfl
 have hM := hM.sealRow encLabel (i := 2) rfl rfl
 have hM := hM.sealRow encSample (i := 1) rfl rfl
 exact hM.retE (⟨(some ⟨b12, 0, none⟩), 2, ([(LineX.mk ⟨(some ⟨b2, 0, none⟩), 1, ([(⟨⟨#[104, 111, 115, 116]⟩, ⟨#[97]⟩⟩ : Label)] : List Label)⟩ ⟨(some ⟨b5, 0, none⟩), 2, ([(⟨5, 7⟩ : Sample), (⟨15, 9⟩ : Sample)] : List Sample)⟩), (LineX.mk ⟨(some ⟨b8, 0, none⟩), 1, ([(⟨⟨#[104, 111, 115, 116]⟩, ⟨#[98]⟩⟩ : Label)] : List Label)⟩ ⟨(some ⟨b10, 0, none⟩), 1, ([(⟨8, 1⟩ : Sample)] : List Sample)⟩)] : List LineX)⟩ : SlX LineX) rfl rfl fun Pb pp => ⟨pp.sl 0 rfl, fun x hx => by
   rcases List.mem_cons.1 hx with rfl | hx
   · exact ⟨fun y hy => by obtain rfl := List.mem_singleton.1 hy; decide, pp.sl 4 rfl, pp.sl 3 rfl⟩
   · rcases List.mem_cons.1 hx with rfl | hx
     · exact ⟨fun y hy => by obtain rfl := List.mem_singleton.1 hy; decide, pp.sl 2 rfl, pp.sl 1 rfl⟩
     · cases hx⟩

theorem c_alive  (w : World)   :
    Calls Try.prog 15 #[] w (Ret w (.bool true)) := by
 refine fstart (N := 33) (vals := []) (S := Mem w no []) Try.func15 rfl rfl rfl (Mem.ofDats dn) ?_
 refine c_seq fun _ hK1 => ?_
 refine c_region ?_
 refine l_val wn (r_assign rfl) rfl ?_
 refine l_nil (e_go hK1 ?_)
 refine c_seq fun _ hK2 => ?_
 refine c_region ?_
 refine l_callE0 (β := SlX LineX) (fun z : SlX LineX => .slice z.A z.l.length z.c) (fun z => z.l.map LineX.e = Mn.aliveL) (fun z S => LinesX.Ok S z) (fun z => LinesX.Ok.loc z) wn rfl Try.call40 rfl (fun w1 Pb hM pp => c_law6lines Pb w1 pp.lt) fun z1 hz1 => ?_
 refine l_get 0 rfl (fun S w h => LinesX.Ok.wf h) fun hw1 => ?_
 refine l_opn (fun _ h => h.linesX 0 rfl) ?_
 obtain ⟨hc1, hm1, hA1⟩ := hw1.sl
 refine l_callF wn rfl Try.call41 rfl (fun w1 hM => c_law6sum w1) ?_
 refine l_opn (fun _ h => h.okAny (ok := ExprX.Ok) (x := sumX) ExprX.Ok.loc sumX_ok) ?_
 refine l_get 0 rfl (fun S w h => ExprX.Ok.wf h) fun hw2 => ?_
 refine l_bsL exprE ([sumX] : List ExprX) wn Try.underlying25 inf27 rfl rfl rfl rfl (by decide) (by decide) rfl fun b6 => ?_
 refine l_val wn (r_build [.int .i64 3, .int .i64 0, .int .i64 0, .string ⟨#[115, 117, 109]⟩, .slice none 0 0, .slice none 0 0, .slice (some ⟨b6, 0, none⟩) 1 1] pl27 inf27 rfl rfl) rfl ?_
 refine l_seal 0 encExprX rfl rfl ?_
 refine l_opn (fun _ h => h.all0 ExprX.Ok.loc) ?_
 refine l_opn (fun _ h => h.allSnoc 0 2 ExprX.Ok.loc rfl rfl) ?_
 refine l_nilSl 1 strE ?_
 refine l_opn (fun _ h => h.exprK (bs := ([] : List ByteArray)) (k := 3) (n := 0) (r := 0) (wd := ⟨#[115, 117, 109]⟩) 3 1 0 (by first | decide | omega | assumption) (fun x hx => by cases hx) rfl rfl rfl) ?_
 refine l_get 0 rfl (fun S w h => ExprX.Ok.wf h) fun hw3 => ?_
 refine l_callE0 (β := SlX CellX) (celsV (Mn.ask z1.l (ExprX.mk 3 0 0 ⟨#[115, 117, 109]⟩ ⟨none, 0, []⟩ ⟨none, 0, []⟩ ⟨(some ⟨b6, 0, none⟩), 1, ([sumX] : List ExprX)⟩).e 20).2) (fun z => z.l.map CellX.e = (Mn.ask z1.l (ExprX.mk 3 0 0 ⟨#[115, 117, 109]⟩ ⟨none, 0, []⟩ ⟨none, 0, []⟩ ⟨(some ⟨b6, 0, none⟩), 1, ([sumX] : List ExprX)⟩).e 20).1) (fun z S => CelsX.Ok S z) (fun z => CelsX.Ok.loc z) wn rfl Try.call8 rfl (fun w1 Pb hM pp => c_ask _ z1.l (ExprX.mk 3 0 0 ⟨#[115, 117, 109]⟩ ⟨none, 0, []⟩ ⟨none, 0, []⟩ ⟨(some ⟨b6, 0, none⟩), 1, ([sumX] : List ExprX)⟩) 20 Pb w1 pp.lt (pp.sl 6 rfl) (pp.at_ 7 _ rfl) (pp.at_ 0 _ rfl)) fun z2 hz2 => ?_
 refine l_get 0 rfl (fun S w h => CelsX.Ok.wf h) fun hw4 => ?_
 refine l_opn (fun _ h => h.celsX 0 rfl) ?_
 obtain ⟨hc2, hm2, hA2⟩ := hw4.cells
 refine l_val wn (r_move rfl) rfl ?_
 refine l_val wn (r_extract rfl rfl) rfl ?_
 refine l_val wn (r_extract rfl rfl) rfl ?_
 refine l_val wn (r_assign rfl) rfl ?_
 refine l_val wn (r_assign rfl) rfl ?_
 refine l_nil (e_go hK2 ?_)
 refine c_seq fun _ hK3 => ?_
 refine c_region ?_
 have ha9 : Mn.ask z1.l (ExprX.e (ExprX.mk 3 0 0 ⟨#[115, 117, 109]⟩ ⟨none, 0, []⟩ ⟨none, 0, []⟩ ⟨(some ⟨b6, 0, none⟩), 1, ([sumX] : List ExprX)⟩)) 20 = ([⟨[], 17⟩], 0) := by rw [Mn.ask_e, hz1]; exact Mn.alive_is
 have hb9 : z2.l.map CellX.e = [⟨[], 17⟩] := by rw [hz2, ha9]
 have hl9 : z2.l.length = 1 := by have := congrArg List.length hb9; simpa using this
 refine l_val wn (r_move rfl) rfl ?_
 refine l_val wn (r_eql rfl rfl) rfl ?_
 refine l_val wn (r_move rfl) rfl ?_
 refine l_litt (t := 13) rfl (show (Mn.ask z1.l (ExprX.mk 3 0 0 ⟨#[115, 117, 109]⟩ ⟨none, 0, []⟩ ⟨none, 0, []⟩ ⟨(some ⟨b6, 0, none⟩), 1, ([sumX] : List ExprX)⟩).e 20).2 = 0 from by rw [ha9]) ?_
 refine l_val (wg rfl rfl rfl) (r_move rfl) rfl ?_
 refine l_val (wg rfl rfl rfl) (r_len rfl Try.underlying28) rfl ?_
 refine l_val (wg rfl rfl rfl) (r_eql rfl rfl) rfl ?_
 refine l_val wn (r_pick rfl rfl) rfl ?_
 refine l_val wn (r_move rfl) rfl ?_
 refine l_litt (t := 18) rfl (by omega) ?_
 refine l_val (wg rfl rfl rfl) (r_move rfl) rfl ?_
 obtain ⟨ad1, hd1⟩ := hA2 (ne_nil (i := 0) (by omega))
 refine l_val (wg rfl rfl rfl) (r_ia (i := 0) rfl hd1 rfl (by omega) (by omega) Try.underlying28 inf44) rfl ?_
 refine l_val (wg rfl rfl rfl) (r_fe rfl fld44_1) rfl ?_
 obtain ⟨s1, hs1⟩ : ∃ x, z2.l[0]? = some x := ⟨_, List.getElem?_eq_getElem (by omega)⟩
 have he9 : CellX.e s1 = ⟨[], 17⟩ := by have h := congrArg (·[0]?) hb9; rw [List.getElem?_map, hs1] at h; simpa using h
 have hv9 : s1.value = 17 := congrArg Cell.value he9
 have hs9 : s1.sr.l.length = 0 := by have := congrArg (fun c => c.sr.length) he9; exact this
 refine l_val (wg rfl rfl rfl) (r_pl 0 rfl rfl hd1 hs1 rfl flat3) rfl ?_
 refine l_val (wg rfl rfl rfl) (r_eql rfl rfl) rfl ?_
 refine l_val wn (r_pick rfl rfl) rfl ?_
 refine l_val wn (r_move rfl) rfl ?_
 refine l_litt (t := 25) rfl (by omega) ?_
 refine l_val (wg rfl rfl rfl) (r_move rfl) rfl ?_
 refine l_val (wg rfl rfl rfl) (r_ia (i := 0) rfl hd1 rfl (by omega) (by omega) Try.underlying28 inf44) rfl ?_
 refine l_val (wg rfl rfl rfl) (r_fe rfl fld44_0) rfl ?_
 refine l_val (wg rfl rfl rfl) (r_pl 0 rfl rfl hd1 hs1 rfl flat42) rfl ?_
 refine l_val (wg rfl rfl rfl) (r_len rfl Try.underlying42) rfl ?_
 refine l_val (wg rfl rfl rfl) (r_eql rfl rfl) rfl ?_
 refine l_val wn (r_pick rfl rfl) rfl ?_
 refine l_val wn (r_assign rfl) rfl ?_
 refine l_nil (e_go hK3 ?_)
 refine c_ret (e_ret1 (.inl rfl) Try.results15 (rv_tmp rfl) fun w1 hM => ?_)
 exact ret_ok (congrArg Value.bool (decide_eq_true (by omega))) hM

end Go.Proofs.Ytldecdningjkoaa
