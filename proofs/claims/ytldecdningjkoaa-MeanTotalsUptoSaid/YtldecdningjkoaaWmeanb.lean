/-
  Walks: what each function hands back.
-/
import Derived.Test.YtldecdningjkoaaWmean
import Derived.Test.YtldecdningjkoaaPEval
namespace Go.Proofs.Ytldecdningjkoaa
open Ex
set_option linter.unusedVariables false
set_option linter.unusedSimpArgs false
set_option maxHeartbeats 2000000 in
theorem c_bin (wd : ByteArray) (a : ValX) (b : ValX) (P0 : Nat → Prop) (w : World) (hP0 : ∀ b, P0 b → b < w.heap.size) (ha : ValX.Ok P0 a w) (hb : ValX.Ok P0 b w) (hba : Mn.Bnd a.e) (hbb : Mn.Bnd b.e) (hla : a.cells.l.length ≤ 1048576) (hlb : b.cells.l.length ≤ 1048576) :
    Calls Try.prog 62 #[.string wd, .agg (valE a).toArray, .agg (valE b).toArray] w (RetE w P0 (fun z : ValX => .tuple #[.agg (valE z).toArray, .int .i64 (Mn.bin wd a.e b.e).2]) (fun z => z.e = (Mn.bin wd a.e b.e).1) (fun z S => ValX.Ok S z)) := by
 have hwa := ha.wf
 have hwb := hb.wf
 have hna := hba.1
 have hnb := hbb.1
 have hna2 : -1125899906842624 ≤ a.n ∧ a.n ≤ 1125899906842624 := hba.1
 have hnb2 : -1125899906842624 ≤ b.n ∧ b.n ≤ 1125899906842624 := hbb.1
 refine fstart (N := 119) (vals := [.string wd, .agg (valE a).toArray, .agg (valE b).toArray]) (S := Mem w ⟨no, P0⟩ [okP ValX.Ok a, okP ValX.Ok b]) Try.func62 rfl rfl rfl (Mem.ofDatsP hP0 (dc (dp (ValX.Ok.loc _) ha) (dc (dp (ValX.Ok.loc _) hb) dn))) ?_
 refine c_seq fun _ hK1 => ?_
 refine c_region ?_
 refine l_box1 wn rfl rfl rfl fun b3 => ?_
 refine l_box wn rfl rfl fun b4 => ?_
 refine l_box wn rfl rfl fun b5 => ?_
 refine l_alloc wn inf77 rfl fun b6 => ?_
 refine l_val wn (r_assign rfl) rfl ?_
 refine l_nil (e_go hK1 ?_)
 refine c_seq fun _ hK2 => ?_
 refine c_region ?_
 refine l_val wn (r_fa rfl fld77_0) rfl ?_
 refine l_val wn (r_lb 2 rfl rfl rfl flat4) rfl ?_
 refine l_val wn (r_move rfl) rfl ?_
 refine l_caseb (t := 20) rfl (fun h1 => ?_) (fun h1 => ?_)
 · refine l_skip (wg rfl rfl rfl) rfl ?_
   refine l_skip (wg rfl rfl rfl) rfl ?_
   refine l_val wn (r_pick rfl rfl) rfl ?_
   refine l_val wn (r_build [.bool true, .int .i64 0, .slice none 0 0] pl77 inf77 rfl rfl) rfl ?_
   refine l_alloc wn inf77 rfl fun b8 => ?_
   refine l_stn 0 wn rfl rfl rfl inf77 rfl rfl rfl ?_
   refine l_nil (e_go hK2 ?_)
   refine c_seq fun _ hK3 => ?_
   refine c_region ?_
   refine l_val wn (r_makeFunc rfl rfl) rfl ?_
   refine l_val wn (r_assign rfl) rfl ?_
   refine l_nil (e_go hK3 ?_)
   refine c_seq fun _ hK4 => ?_
   refine c_region ?_
   refine l_val wn (r_assign rfl) rfl ?_
   refine l_nil (e_go hK4 ?_)
   refine c_seq fun _ hK5 => ?_
   refine c_block ?_
   refine c_seq fun _ hK6 => ?_
   refine c_region ?_
   refine l_val wn (r_fa rfl fld77_0) rfl ?_
   refine l_val wn (r_lb 0 rfl rfl rfl flat4) rfl ?_
   refine l_val wn (r_notb rfl) rfl ?_
   refine l_val wn (r_assign rfl) rfl ?_
   refine l_nil (e_go hK6 ?_)
   refine c_false rfl rfl ?_
   refine c_seq fun _ hK7 => ?_
   refine c_region ?_
   refine l_val wn (r_fa rfl fld77_0) rfl ?_
   refine l_val wn (r_lb 2 rfl rfl rfl flat4) rfl ?_
   refine l_val wn (r_notb rfl) rfl ?_
   refine l_val wn (r_assign rfl) rfl ?_
   refine l_nil (e_go hK7 ?_)
   refine c_condb rfl (fun h2 => ?_) (fun h2 => ?_)
   · refine c_seq fun _ hK8 => ?_
     refine c_region ?_
     refine l_val wn (r_fa rfl fld77_2) rfl ?_
     refine l_val wn (r_lb 3 rfl rfl rfl flat28) rfl ?_
     refine l_val wn (r_len rfl Try.underlying28) rfl ?_
     refine l_val wn (r_move rfl) rfl ?_
     refine l_nil (e_go hK8 ?_)
     refine c_block ?_
     refine c_mem (fun _ h => h.nilRow CellX 44 2 cellE) ?_
     refine c_opn (fun _ h => h.all0 CellX.Ok.loc) ?_
     refine c_loop4 (fun (k : Nat) (cs : List CellX) (ok : Bool) (ov : Value) => [(5, .pointer (some ⟨b5, 0, none⟩)), (6, .pointer (some ⟨b6, 0, none⟩)), (8, .pointer (some ⟨b8, 0, none⟩)), (9, .func (.func 79) #[] #[.pointer (some ⟨b3, 0, none⟩), .pointer (some ⟨b8, 0, none⟩)]), (10, .bool ok), (74, .slice a.cells.A a.cells.l.length a.cells.c), (75, .int .i64 (a.cells.l.length : Int)), (76, .int .i64 (k : Int))]) (fun (k : Nat) (cs : List CellX) (ok : Bool) (ov : Value) => [allP CellX.Ok cs, Row ov 44 2 cellE cs, .blk b8 [.bool true, .int .i64 0, ov] 77, .blk b6 [.bool false, .int .i64 0, .slice none 0 0] 77, .blk b5 [.bool b.vec, .int .i64 b.n, .slice b.cells.A b.cells.l.length b.cells.c] 77, .blk b4 [.bool a.vec, .int .i64 a.n, .slice a.cells.A a.cells.l.length a.cells.c] 77, .blk b3 [.string wd] 9, okP ValX.Ok a, okP ValX.Ok b]) (fun (k : Nat) (cs : List CellX) (ok : Bool) (ov : Value) => k ≤ a.cells.l.length ∧ (∀ x ∈ cs, CellX.Wf x) ∧ cs.map CellX.e = Mn.done wd (Mn.p1 a b k) ∧ ok = Mn.fine wd (Mn.p1 a b k) ∧ cs.length ≤ k) (fun (k : Nat) (cs : List CellX) (ok : Bool) (ov : Value) => a.cells.l.length - k) 0 [] true (.slice none 0 0) (sc rfl (sc rfl (sc rfl (sc rfl (sc rfl (sc rfl (sc rfl (sc (ji (by omega)) sn)))))))) (fun _ h => h) ?_ (fun k cs ok ov hI1 => ?_)
     · exact ⟨Nat.zero_le _, fun x hx => (by cases hx), rfl, rfl, Nat.le_refl _⟩
     have hwf := hI1.2.1
     have hlen := hI1.2.2.2.2
     refine c_open 1 (l := cs) rfl fun A1 cp1 hv1 hc1 hm1 hA1 => ?_
     subst hv1
     refine c_seq fun _ hK9 => ?_
     refine c_region ?_
     refine l_val wn (r_lss rfl rfl) rfl ?_
     refine l_nil (e_go hK9 ?_)
     refine c_seq fun _ hK10 => ?_
     refine c_cond rfl (fun h3 => ?_) (fun h3 => ?_)
     · refine c_skip (e_go hK10 ?_)
       refine c_seq fun _ hK11 => ?_
       refine c_block ?_
       refine c_seq fun _ hK12 => ?_
       refine c_region ?_
       refine l_opn (fun _ h => h.valX 7 rfl) ?_
       obtain ⟨hc2, hm2, hA2⟩ := hwa.cells
       obtain ⟨ad1, hd1⟩ := hA2 (ne_nil (i := k) (by first | omega | (simp <;> omega)))
       refine l_val wn (r_ia (i := k) rfl hd1 rfl (by omega) (by first | omega | (simp <;> omega)) Try.underlying28 inf44) rfl ?_
       obtain ⟨s1, hs1⟩ : ∃ x, a.cells.l[k]? = some x := ⟨_, List.getElem?_eq_getElem (by first | omega | (simp <;> omega))⟩
       have hb_s1 := Mn.Bnd.at_ hba hs1
       refine l_val wn (r_pln 0 [.slice s1.sr.A s1.sr.l.length s1.sr.c, .int .i64 s1.value] rfl rfl hd1 hs1 rfl rfl agg44 inf44) rfl ?_
       refine l_alloc wn inf44 rfl fun b12 => ?_
       refine l_stn 0 wn rfl rfl rfl inf44 rfl rfl rfl ?_
       refine l_nil (e_go hK12 ?_)
       refine c_region ?_
       refine l_val wn (r_move rfl) rfl ?_
       refine l_val wn (r_fa rfl fld44_0) rfl ?_
       refine l_val wn (r_lb 0 rfl rfl rfl flat42) rfl ?_
       refine l_val wn (r_fa rfl fld44_1) rfl ?_
       refine l_val wn (r_lb 0 rfl rfl rfl flat3) rfl ?_
       refine l_val wn (r_fa rfl fld77_1) rfl ?_
       refine l_val wn (r_lb 7 rfl rfl rfl flat3) rfl ?_
       have hw1 := hwa.all _ (List.mem_of_getElem? hs1)
       refine l_opn (fun _ h => h.one 2 CellX.Ok.loc rfl hs1) ?_
       refine l_opn (fun _ h => h.cellX 0 rfl) ?_
       obtain ⟨hc3, hm3, hA3⟩ := hw1.sr
       refine l_give (α := Value) [.blk b3 [.string wd] 9, .blk b8 [.bool true, .int .i64 0, .slice A1 cs.length cp1] 77, Row (.slice A1 cs.length cp1) 44 2 cellE cs, allP CellX.Ok cs, slP 2 labelE (.slice s1.sr.A s1.sr.l.length s1.sr.c) s1.sr.l] [okP CellX.Ok s1, .blk b12 [.slice s1.sr.A s1.sr.l.length s1.sr.c, .int .i64 s1.value] 44, slP 2 cellE (.slice a.cells.A a.cells.l.length a.cells.c) a.cells.l, allP CellX.Ok a.cells.l, .blk b6 [.bool false, .int .i64 0, .slice none 0 0] 77, .blk b5 [.bool b.vec, .int .i64 b.n, .slice b.cells.A b.cells.l.length b.cells.c] 77, .blk b4 [.bool a.vec, .int .i64 a.n, .slice a.cells.A a.cells.l.length a.cells.c] 77, okP ValX.Ok a, okP ValX.Ok b] (fun _ => .bool (Mn.op wd s1.value b.n).2) (fun z1 => True) (fun z1 => [.blk b3 [.string wd] 9, .blk b8 [.bool true, .int .i64 0, z1] 77, Row z1 44 2 cellE (cs ++ [CellX.mk s1.sr (Mn.op wd s1.value b.n).1]), allP CellX.Ok (cs ++ [CellX.mk s1.sr (Mn.op wd s1.value b.n).1]), slP 2 labelE (.slice s1.sr.A s1.sr.l.length s1.sr.c) s1.sr.l]) (fun z1 => [.blk b3 [.string wd] 9, .blk b8 [.bool true, .int .i64 0, z1] 77, Row z1 44 2 cellE (cs ++ [CellX.mk s1.sr (Mn.op wd s1.value b.n).1]), allP CellX.Ok (cs ++ [CellX.mk s1.sr (Mn.op wd s1.value b.n).1]), slP 2 labelE (.slice s1.sr.A s1.sr.l.length s1.sr.c) s1.sr.l, okP CellX.Ok s1, .blk b12 [.slice s1.sr.A s1.sr.l.length s1.sr.c, .int .i64 s1.value] 44, slP 2 cellE (.slice a.cells.A a.cells.l.length a.cells.c) a.cells.l, allP CellX.Ok a.cells.l, .blk b6 [.bool false, .int .i64 0, .slice none 0 0] 77, .blk b5 [.bool b.vec, .int .i64 b.n, .slice b.cells.A b.cells.l.length b.cells.c] 77, .blk b4 [.bool a.vec, .int .i64 a.n, .slice a.cells.A a.cells.l.length a.cells.c] 77, okP ValX.Ok a, okP ValX.Ok b]) (fun _ => rfl) (fun _ h => h.sel [11, 7, 6, 5, 0, 1, 2, 3, 4, 8, 9, 10, 12, 13] (by decide) rfl) (fun _ => rfl) wn rfl rfl Try.call79 rfl (fun w1 Pb hG => c_put wd true 0 _ _ s1.sr s1.value b.n _ _ Pb w1 hG (by first | omega | assumption) (by first | omega | assumption) (by omega)) fun z1 hz1 => ?_
       refine l_open 2 (l := (cs ++ [CellX.mk s1.sr (Mn.op wd s1.value b.n).1])) rfl fun A2 cp2 hv2 hc4 hm4 hA4 => ?_
       subst hv2
       have hw2 : ∀ x ∈ (cs ++ [CellX.mk s1.sr (Mn.op wd s1.value b.n).1]), CellX.Wf x := fun x hx => (List.mem_append.1 hx).elim (hwf x) fun h => by rw [List.mem_singleton.1 h]; exact ⟨hw1.sr⟩
       refine l_val wn (r_move rfl) rfl ?_
       refine l_caseb (t := 88) rfl (fun h4 => ?_) (fun h4 => ?_)
       · refine l_val (wg rfl rfl rfl) (r_move rfl) rfl ?_
         refine l_val wn (r_pick rfl rfl) rfl ?_
         refine l_val wn (r_assign rfl) rfl ?_
         refine l_nil (e_in_n (e_go hK11 ?_))
         refine c_region ?_
         refine l_val wn (r_addn rfl rfl (by omega)) rfl ?_
         refine l_val wn (r_move rfl) rfl ?_
         refine l_nil (e_round4 (k + 1) (cs ++ [CellX.mk s1.sr (Mn.op wd s1.value b.n).1]) ok (.slice A2 ((cs ++ [CellX.mk s1.sr (Mn.op wd s1.value b.n).1]).length) cp2) (sc rfl (sc rfl (sc rfl (sc rfl (sc rfl (sc rfl (sc rfl (sc (ji (by omega)) sn)))))))) (fun _ h => (h.sel [3, 2, 1, 9, 10, 11, 0, 12, 13] (by decide) rfl)) ?_ ?_)
         · exact ⟨by omega, hw2, Mn.done_at hI1.2.2.1 (Mn.p1_at hs1), Mn.fine_t hI1.2.2.2.1 (Mn.p1_at hs1) h4, by simp only [List.length_append, List.length_cons, List.length_nil]; omega⟩
         omega
       refine l_skip (wg rfl rfl rfl) rfl ?_
       refine l_val wn (r_pick rfl rfl) rfl ?_
       refine l_val wn (r_assign rfl) rfl ?_
       refine l_nil (e_in_n (e_go hK11 ?_))
       refine c_region ?_
       refine l_val wn (r_addn rfl rfl (by omega)) rfl ?_
       refine l_val wn (r_move rfl) rfl ?_
       refine l_nil (e_round4 (k + 1) (cs ++ [CellX.mk s1.sr (Mn.op wd s1.value b.n).1]) false (.slice A2 ((cs ++ [CellX.mk s1.sr (Mn.op wd s1.value b.n).1]).length) cp2) (sc rfl (sc rfl (sc rfl (sc rfl (sc rfl (sc rfl (sc rfl (sc (ji (by omega)) sn)))))))) (fun _ h => (h.sel [3, 2, 1, 9, 10, 11, 0, 12, 13] (by decide) rfl)) ?_ ?_)
       · exact ⟨by omega, hw2, Mn.done_at hI1.2.2.1 (Mn.p1_at hs1), Mn.fine_f (Mn.p1_at hs1) h4, by simp only [List.length_append, List.length_cons, List.length_nil]; omega⟩
       omega
     refine c_exit (e_then_x (e_loop4_x (e_in_hit (e_in_n (e_go hK5 ?_)))))
     refine c_seq fun _ hK13 => ?_
     refine c_seq fun _ hK14 => ?_
     refine c_region ?_
     refine l_val wn (r_move rfl) rfl ?_
     refine l_val wn (r_notb rfl) rfl ?_
     refine l_nil (e_go hK14 ?_)
     refine c_condb rfl (fun h5 => ?_) (fun h5 => ?_)
     · refine c_seq fun _ hK15 => ?_
       refine c_region ?_
       refine l_val wn (r_build [.bool false, .int .i64 0, .slice none 0 0] pl77 inf77 rfl rfl) rfl ?_
       refine l_stn 3 wn rfl rfl rfl inf77 rfl rfl rfl ?_
       refine l_val wn (r_assign rfl) rfl ?_
       refine l_nil (e_go hK15 ?_)
       refine c_ret (e_then_r (e_ret2 (.inl rfl) Try.results62 (rv_cell 3 rfl rfl agg77 inf77 rfl) (rv_tmp rfl) fun w1 hM => ?_))
       have hb9 := Mn.bin_vec (w := wd) (.inl (by simpa using h1)) (Mn.p1_end (by simpa using h2) (by omega)) hI1.2.2.1 hI1.2.2.2.1
       rw [if_neg (by simpa using h5)] at hb9
       exact hM.retE (⟨false, 0, ⟨none, 0, []⟩⟩ : ValX) (by first | (rw [hb9]; done) | (rw [hb9]; rfl)) (by first | (rw [hb9]; done) | (rw [hb9]; rfl) | (have e9 := h1; rw [hb9]; simp [ValX.e] at e9 ⊢; exact e9) | (have e9 := h2; rw [hb9]; simp [ValX.e] at e9 ⊢; exact e9)) fun Pb pp => ⟨FlatSl.nil_ _ _ _ _, fun c hc => by cases hc⟩
     refine c_skip (e_go hK13 ?_)
     refine c_seq fun _ hK16 => ?_
     refine c_region ?_
     refine l_val wn (r_lbn 2 [.bool true, .int .i64 0, .slice A1 cs.length cp1] rfl rfl rfl rfl agg77 inf77) rfl ?_
     refine l_stn 3 wn rfl rfl rfl inf77 rfl rfl rfl ?_
     refine l_val wn (r_assign rfl) rfl ?_
     refine l_nil (e_go hK16 ?_)
     refine c_ret (e_ret2 (.inl rfl) Try.results62 (rv_cell 3 rfl rfl agg77 inf77 rfl) (rv_tmp rfl) fun w1 hM => ?_)
     have hb9 := Mn.bin_vec (w := wd) (.inl (by simpa using h1)) (Mn.p1_end (by simpa using h2) (by omega)) hI1.2.2.1 hI1.2.2.2.1
     rw [if_pos (by simpa using h5)] at hb9
     have hM := hM.sealRow encCellX (i := 1) rfl rfl
     exact hM.retE (⟨true, 0, ⟨A1, cp1, cs⟩⟩ : ValX) (by first | (rw [hb9]; done) | (rw [hb9]; rfl)) (by first | (rw [hb9]; done) | (rw [hb9]; rfl) | (have e9 := h1; rw [hb9]; simp [ValX.e] at e9 ⊢; exact e9) | (have e9 := h2; rw [hb9]; simp [ValX.e] at e9 ⊢; exact e9)) fun Pb pp => ⟨pp.sl 1 rfl, pp.at_ 0 _ rfl⟩
   refine c_seq fun _ hK17 => ?_
   refine c_region ?_
   refine l_val wn (r_fa rfl fld77_0) rfl ?_
   refine l_val wn (r_lb 3 rfl rfl rfl flat4) rfl ?_
   refine l_val wn (r_notb rfl) rfl ?_
   refine l_val wn (r_assign rfl) rfl ?_
   refine l_nil (e_go hK17 ?_)
   refine c_false rfl (by simpa using h1) ?_
   refine c_seq fun _ hK18 => ?_
   refine c_region ?_
   refine l_val wn (r_fa rfl fld77_2) rfl ?_
   refine l_val wn (r_lb 3 rfl rfl rfl flat28) rfl ?_
   refine l_val wn (r_len rfl Try.underlying28) rfl ?_
   refine l_val wn (r_move rfl) rfl ?_
   refine l_nil (e_go hK18 ?_)
   refine c_block ?_
   refine c_mem (fun _ h => h.nilRow CellX 44 2 cellE) ?_
   refine c_opn (fun _ h => h.all0 CellX.Ok.loc) ?_
   refine c_loop4 (fun (k : Nat) (cs : List CellX) (ok : Bool) (ov : Value) => [(5, .pointer (some ⟨b5, 0, none⟩)), (6, .pointer (some ⟨b6, 0, none⟩)), (8, .pointer (some ⟨b8, 0, none⟩)), (9, .func (.func 79) #[] #[.pointer (some ⟨b3, 0, none⟩), .pointer (some ⟨b8, 0, none⟩)]), (10, .bool ok), (27, .slice a.cells.A a.cells.l.length a.cells.c), (28, .int .i64 (a.cells.l.length : Int)), (29, .int .i64 (k : Int))]) (fun (k : Nat) (cs : List CellX) (ok : Bool) (ov : Value) => [allP CellX.Ok cs, Row ov 44 2 cellE cs, .blk b8 [.bool true, .int .i64 0, ov] 77, .blk b6 [.bool false, .int .i64 0, .slice none 0 0] 77, .blk b5 [.bool b.vec, .int .i64 b.n, .slice b.cells.A b.cells.l.length b.cells.c] 77, .blk b4 [.bool a.vec, .int .i64 a.n, .slice a.cells.A a.cells.l.length a.cells.c] 77, .blk b3 [.string wd] 9, okP ValX.Ok a, okP ValX.Ok b]) (fun (k : Nat) (cs : List CellX) (ok : Bool) (ov : Value) => k ≤ a.cells.l.length ∧ (∀ x ∈ cs, CellX.Wf x) ∧ cs.map CellX.e = Mn.done wd (Mn.p3 a b k) ∧ ok = Mn.fine wd (Mn.p3 a b k) ∧ cs.length ≤ k) (fun (k : Nat) (cs : List CellX) (ok : Bool) (ov : Value) => a.cells.l.length - k) 0 [] true (.slice none 0 0) (sc rfl (sc rfl (sc rfl (sc rfl (sc rfl (sc rfl (sc rfl (sc (ji (by omega)) sn)))))))) (fun _ h => h) ?_ (fun k cs ok ov hI2 => ?_)
   · exact ⟨Nat.zero_le _, fun x hx => (by cases hx), rfl, rfl, Nat.le_refl _⟩
   have hwf := hI2.2.1
   have hlen := hI2.2.2.2.2
   refine c_open 1 (l := cs) rfl fun A3 cp3 hv3 hc5 hm5 hA5 => ?_
   subst hv3
   refine c_seq fun _ hK19 => ?_
   refine c_region ?_
   refine l_val wn (r_lss rfl rfl) rfl ?_
   refine l_nil (e_go hK19 ?_)
   refine c_seq fun _ hK20 => ?_
   refine c_cond rfl (fun h6 => ?_) (fun h6 => ?_)
   · refine c_skip (e_go hK20 ?_)
     refine c_seq fun _ hK21 => ?_
     refine c_block ?_
     refine c_seq fun _ hK22 => ?_
     refine c_region ?_
     refine l_opn (fun _ h => h.valX 7 rfl) ?_
     obtain ⟨hc6, hm6, hA6⟩ := hwa.cells
     obtain ⟨ad2, hd2⟩ := hA6 (ne_nil (i := k) (by first | omega | (simp <;> omega)))
     refine l_val wn (r_ia (i := k) rfl hd2 rfl (by omega) (by first | omega | (simp <;> omega)) Try.underlying28 inf44) rfl ?_
     obtain ⟨s2, hs2⟩ : ∃ x, a.cells.l[k]? = some x := ⟨_, List.getElem?_eq_getElem (by first | omega | (simp <;> omega))⟩
     have hb_s2 := Mn.Bnd.at_ hba hs2
     refine l_val wn (r_pln 0 [.slice s2.sr.A s2.sr.l.length s2.sr.c, .int .i64 s2.value] rfl rfl hd2 hs2 rfl rfl agg44 inf44) rfl ?_
     refine l_alloc wn inf44 rfl fun b16 => ?_
     refine l_stn 0 wn rfl rfl rfl inf44 rfl rfl rfl ?_
     refine l_nil (e_go hK22 ?_)
     refine c_seq fun _ hK23 => ?_
     refine c_region ?_
     refine l_val wn (r_fa rfl fld77_2) rfl ?_
     refine l_val wn (r_lb 7 rfl rfl rfl flat28) rfl ?_
     refine l_val wn (r_makeFunc rfl rfl) rfl ?_
     have hw3 := hwa.all _ (List.mem_of_getElem? hs2)
     refine l_opn (fun _ h => h.one 2 CellX.Ok.loc rfl hs2) ?_
     refine l_sealB 1 rfl rfl ?_
     refine l_opn (fun _ h => h.valX 12 rfl) ?_
     obtain ⟨hc7, hm7, hA7⟩ := hwb.cells
     refine l_callF wn rfl Try.call81 rfl (fun w1 hM => c_idxC _ b.cells.l 82 #[.pointer (some ⟨b16, 0, none⟩)] (fun d : CellX => decide (s2.sr.l = d.sr.l)) (In w1) w1 (fun _ h => h) (hM.slp 0 rfl) (hM.pubAt (i := 1) rfl) Try.call82 (fun d hd w2 hf => by simpa using c_bin2 d _ s2 (In w2) w2 (fun _ h => h) (CellX.Ok.loc d (In w1) (In w2) w1 w2 (fun b hb => Nat.lt_of_lt_of_le hb hf.size) (fun b hb => hf.block b hb id) (hM.pubAt (i := 1) rfl d hd)) (CelAt.loc _ _ (In w1) (In w2) w1 w2 (fun b hb => Nat.lt_of_lt_of_le hb hf.size) (fun b hb => hf.block b hb id) (hM.pubAt (i := 3) rfl)) (CellX.Ok.loc s2 (In w1) (In w2) w1 w2 (fun b hb => Nat.lt_of_lt_of_le hb hf.size) (fun b hb => hf.block b hb id) (hM.pubAt (i := 2) rfl)))) ?_
     refine l_val wn (r_assign rfl) rfl ?_
     refine l_nil (e_go hK23 ?_)
     refine c_seq fun _ hK24 => ?_
     refine c_region ?_
     refine l_val wn (r_move rfl) rfl ?_
     refine l_val wn (r_geq rfl rfl) rfl ?_
     refine l_nil (e_go hK24 ?_)
     refine c_cond rfl (fun h7 => ?_) (fun h7 => ?_)
     · obtain ⟨j, y, hj1, hy1, hpy1, hbe1⟩ := (Sh.idx_cases (fun d : CellX => decide (s2.sr.l = d.sr.l)) b.cells.l).resolve_left (fun h => by have := h.1; omega)
       have hjl := (List.getElem?_eq_some_iff.1 hy1).1
       have hb_y := Mn.Bnd.at_ hbb hy1
       refine c_quietT 11 mix (by kernel_rfl) (fun _ h => h.drew) fun _ hT1 => ?_
       refine q_val wn (r_move rfl) rfl ?_
       refine q_val wn (r_fe (ad := ⟨b16, 0, none⟩) (i := 0) (o := 0) rfl fld44_0) rfl ?_
       refine q_val wn (r_cel 3 rfl rfl rfl flat42) rfl ?_
       refine q_val wn (r_fe (ad := ⟨b16, 0, none⟩) (i := 0) (o := 0) rfl fld44_1) rfl ?_
       refine q_val wn (r_cel 3 rfl rfl rfl flat3) rfl ?_
       refine q_val wn (r_fa rfl fld77_2) rfl ?_
       refine q_val wn (r_lb 10 rfl rfl rfl flat28) rfl ?_
       refine q_val wn (r_move rfl) rfl ?_
       obtain ⟨ad3, hd3⟩ := hA7 (ne_nil (i := j) (by first | omega | (simp <;> omega)))
       refine q_val wn (r_ia (i := j) rfl hd3 rfl (by omega) (by first | omega | (simp <;> omega)) Try.underlying28 inf44) rfl ?_
       refine q_val wn (r_fe rfl fld44_1) rfl ?_
       refine q_val wn (r_pl 0 rfl rfl hd3 hy1 rfl flat3) rfl ?_
       refine q_tail hT1 ?_
       refine l_opn (fun _ h => h.cellX 2 rfl) ?_
       obtain ⟨hc8, hm8, hA8⟩ := hw3.sr
       refine l_give (α := Value) [.blk b3 [.string wd] 9, .blk b8 [.bool true, .int .i64 0, .slice A3 cs.length cp3] 77, Row (.slice A3 cs.length cp3) 44 2 cellE cs, allP CellX.Ok cs, slP 2 labelE (.slice s2.sr.A s2.sr.l.length s2.sr.c) s2.sr.l] [slP 2 cellE (.slice b.cells.A b.cells.l.length b.cells.c) b.cells.l, allP CellX.Ok b.cells.l, okP CellX.Ok s2, celP ⟨b16, 0, none⟩ [.slice s2.sr.A s2.sr.l.length s2.sr.c, .int .i64 s2.value], slP 2 cellE (.slice a.cells.A a.cells.l.length a.cells.c) a.cells.l, allP CellX.Ok a.cells.l, .blk b6 [.bool false, .int .i64 0, .slice none 0 0] 77, .blk b5 [.bool b.vec, .int .i64 b.n, .slice b.cells.A b.cells.l.length b.cells.c] 77, .blk b4 [.bool a.vec, .int .i64 a.n, .slice a.cells.A a.cells.l.length a.cells.c] 77, okP ValX.Ok a, okP ValX.Ok b] (fun _ => .bool (Mn.op wd s2.value y.value).2) (fun z2 => True) (fun z2 => [.blk b3 [.string wd] 9, .blk b8 [.bool true, .int .i64 0, z2] 77, Row z2 44 2 cellE (cs ++ [CellX.mk s2.sr (Mn.op wd s2.value y.value).1]), allP CellX.Ok (cs ++ [CellX.mk s2.sr (Mn.op wd s2.value y.value).1]), slP 2 labelE (.slice s2.sr.A s2.sr.l.length s2.sr.c) s2.sr.l]) (fun z2 => [.blk b3 [.string wd] 9, .blk b8 [.bool true, .int .i64 0, z2] 77, Row z2 44 2 cellE (cs ++ [CellX.mk s2.sr (Mn.op wd s2.value y.value).1]), allP CellX.Ok (cs ++ [CellX.mk s2.sr (Mn.op wd s2.value y.value).1]), slP 2 labelE (.slice s2.sr.A s2.sr.l.length s2.sr.c) s2.sr.l, slP 2 cellE (.slice b.cells.A b.cells.l.length b.cells.c) b.cells.l, allP CellX.Ok b.cells.l, okP CellX.Ok s2, celP ⟨b16, 0, none⟩ [.slice s2.sr.A s2.sr.l.length s2.sr.c, .int .i64 s2.value], slP 2 cellE (.slice a.cells.A a.cells.l.length a.cells.c) a.cells.l, allP CellX.Ok a.cells.l, .blk b6 [.bool false, .int .i64 0, .slice none 0 0] 77, .blk b5 [.bool b.vec, .int .i64 b.n, .slice b.cells.A b.cells.l.length b.cells.c] 77, .blk b4 [.bool a.vec, .int .i64 a.n, .slice a.cells.A a.cells.l.length a.cells.c] 77, okP ValX.Ok a, okP ValX.Ok b]) (fun _ => rfl) (fun _ h => h.sel [13, 9, 8, 7, 0, 1, 2, 3, 4, 5, 6, 10, 11, 12, 14, 15] (by decide) rfl) (fun _ => rfl) wn rfl rfl Try.call79 rfl (fun w1 Pb hG => c_put wd true 0 _ _ s2.sr s2.value y.value _ _ Pb w1 hG (by first | omega | assumption) (by first | omega | assumption) (by omega)) fun z2 hz2 => ?_
       refine l_open 2 (l := (cs ++ [CellX.mk s2.sr (Mn.op wd s2.value y.value).1])) rfl fun A4 cp4 hv4 hc9 hm9 hA9 => ?_
       subst hv4
       have hw4 : ∀ x ∈ (cs ++ [CellX.mk s2.sr (Mn.op wd s2.value y.value).1]), CellX.Wf x := fun x hx => (List.mem_append.1 hx).elim (hwf x) fun h => by rw [List.mem_singleton.1 h]; exact ⟨hw3.sr⟩
       refine l_val wn (r_move rfl) rfl ?_
       refine l_caseb (t := 51) rfl (fun h8 => ?_) (fun h8 => ?_)
       · refine l_val (wg rfl rfl rfl) (r_move rfl) rfl ?_
         refine l_val wn (r_pick rfl rfl) rfl ?_
         refine l_val wn (r_assign rfl) rfl ?_
         refine l_nil (e_in_n (e_go hK21 ?_))
         refine c_region ?_
         refine l_val wn (r_addn rfl rfl (by omega)) rfl ?_
         refine l_val wn (r_move rfl) rfl ?_
         refine l_nil (e_round4 (k + 1) (cs ++ [CellX.mk s2.sr (Mn.op wd s2.value y.value).1]) ok (.slice A4 ((cs ++ [CellX.mk s2.sr (Mn.op wd s2.value y.value).1]).length) cp4) (sc rfl (sc rfl (sc rfl (sc rfl (sc rfl (sc rfl (sc rfl (sc (ji (by omega)) sn)))))))) (fun _ h => (h.sel [3, 2, 1, 11, 12, 13, 0, 14, 15] (by decide) rfl)) ?_ ?_)
         · exact ⟨by omega, hw4, Mn.done_at hI2.2.2.1 (Mn.p3_at hs2 hy1 hpy1 hbe1), Mn.fine_t hI2.2.2.2.1 (Mn.p3_at hs2 hy1 hpy1 hbe1) h8, by simp only [List.length_append, List.length_cons, List.length_nil]; omega⟩
         omega
       refine l_skip (wg rfl rfl rfl) rfl ?_
       refine l_val wn (r_pick rfl rfl) rfl ?_
       refine l_val wn (r_assign rfl) rfl ?_
       refine l_nil (e_in_n (e_go hK21 ?_))
       refine c_region ?_
       refine l_val wn (r_addn rfl rfl (by omega)) rfl ?_
       refine l_val wn (r_move rfl) rfl ?_
       refine l_nil (e_round4 (k + 1) (cs ++ [CellX.mk s2.sr (Mn.op wd s2.value y.value).1]) false (.slice A4 ((cs ++ [CellX.mk s2.sr (Mn.op wd s2.value y.value).1]).length) cp4) (sc rfl (sc rfl (sc rfl (sc rfl (sc rfl (sc rfl (sc rfl (sc (ji (by omega)) sn)))))))) (fun _ h => (h.sel [3, 2, 1, 11, 12, 13, 0, 14, 15] (by decide) rfl)) ?_ ?_)
       · exact ⟨by omega, hw4, Mn.done_at hI2.2.2.1 (Mn.p3_at hs2 hy1 hpy1 hbe1), Mn.fine_f (Mn.p3_at hs2 hy1 hpy1 hbe1) h8, by simp only [List.length_append, List.length_cons, List.length_nil]; omega⟩
       omega
     have hno1 := ((Sh.idx_cases (fun d : CellX => decide (s2.sr.l = d.sr.l)) b.cells.l).resolve_right (fun h => by obtain ⟨j, y, hj, _⟩ := h; omega)).2
     refine c_skip (e_in_n (e_go hK21 ?_))
     refine c_region ?_
     refine l_val wn (r_addn rfl rfl (by omega)) rfl ?_
     refine l_val wn (r_move rfl) rfl ?_
     refine l_nil (e_round4 (k + 1) cs ok (.slice A3 cs.length cp3) (sc rfl (sc rfl (sc rfl (sc rfl (sc rfl (sc rfl (sc rfl (sc (ji (by omega)) sn)))))))) (fun _ h => (h.sel [6, 7, 8, 9, 10, 11, 12, 13, 14] (by decide) rfl)) ?_ ?_)
     · exact ⟨by omega, hI2.2.1, by rw [Mn.p3_no hs2 hno1]; exact hI2.2.2.1, by rw [Mn.p3_no hs2 hno1]; exact hI2.2.2.2.1, by omega⟩
     omega
   refine c_exit (e_then_x (e_loop4_x (e_in_hit (e_in_n (e_go hK5 ?_)))))
   refine c_seq fun _ hK25 => ?_
   refine c_seq fun _ hK26 => ?_
   refine c_region ?_
   refine l_val wn (r_move rfl) rfl ?_
   refine l_val wn (r_notb rfl) rfl ?_
   refine l_nil (e_go hK26 ?_)
   refine c_condb rfl (fun h9 => ?_) (fun h9 => ?_)
   · refine c_seq fun _ hK27 => ?_
     refine c_region ?_
     refine l_val wn (r_build [.bool false, .int .i64 0, .slice none 0 0] pl77 inf77 rfl rfl) rfl ?_
     refine l_stn 3 wn rfl rfl rfl inf77 rfl rfl rfl ?_
     refine l_val wn (r_assign rfl) rfl ?_
     refine l_nil (e_go hK27 ?_)
     refine c_ret (e_then_r (e_ret2 (.inl rfl) Try.results62 (rv_cell 3 rfl rfl agg77 inf77 rfl) (rv_tmp rfl) fun w1 hM => ?_))
     have hb9 := Mn.bin_vec (w := wd) (.inl (by simpa using h1)) (Mn.p3_end (by simpa using h2) (by simpa using h1) (by omega)) hI2.2.2.1 hI2.2.2.2.1
     rw [if_neg (by simpa using h9)] at hb9
     exact hM.retE (⟨false, 0, ⟨none, 0, []⟩⟩ : ValX) (by first | (rw [hb9]; done) | (rw [hb9]; rfl)) (by first | (rw [hb9]; done) | (rw [hb9]; rfl) | (have e9 := h1; rw [hb9]; simp [ValX.e] at e9 ⊢; exact e9) | (have e9 := h2; rw [hb9]; simp [ValX.e] at e9 ⊢; exact e9)) fun Pb pp => ⟨FlatSl.nil_ _ _ _ _, fun c hc => by cases hc⟩
   refine c_skip (e_go hK25 ?_)
   refine c_seq fun _ hK28 => ?_
   refine c_region ?_
   refine l_val wn (r_lbn 2 [.bool true, .int .i64 0, .slice A3 cs.length cp3] rfl rfl rfl rfl agg77 inf77) rfl ?_
   refine l_stn 3 wn rfl rfl rfl inf77 rfl rfl rfl ?_
   refine l_val wn (r_assign rfl) rfl ?_
   refine l_nil (e_go hK28 ?_)
   refine c_ret (e_ret2 (.inl rfl) Try.results62 (rv_cell 3 rfl rfl agg77 inf77 rfl) (rv_tmp rfl) fun w1 hM => ?_)
   have hb9 := Mn.bin_vec (w := wd) (.inl (by simpa using h1)) (Mn.p3_end (by simpa using h2) (by simpa using h1) (by omega)) hI2.2.2.1 hI2.2.2.2.1
   rw [if_pos (by simpa using h9)] at hb9
   have hM := hM.sealRow encCellX (i := 1) rfl rfl
   exact hM.retE (⟨true, 0, ⟨A3, cp3, cs⟩⟩ : ValX) (by first | (rw [hb9]; done) | (rw [hb9]; rfl)) (by first | (rw [hb9]; done) | (rw [hb9]; rfl) | (have e9 := h1; rw [hb9]; simp [ValX.e] at e9 ⊢; exact e9) | (have e9 := h2; rw [hb9]; simp [ValX.e] at e9 ⊢; exact e9)) fun Pb pp => ⟨pp.sl 1 rfl, pp.at_ 0 _ rfl⟩
 refine l_val (wg rfl rfl rfl) (r_fa rfl fld77_0) rfl ?_
 refine l_val (wg rfl rfl rfl) (r_lb 1 rfl rfl rfl flat4) rfl ?_
 refine l_val wn (r_pick rfl rfl) rfl ?_
 refine l_val wn (r_build [.bool b.vec, .int .i64 0, .slice none 0 0] pl77 inf77 rfl rfl) rfl ?_
 refine l_alloc wn inf77 rfl fun b8 => ?_
 refine l_stn 0 wn rfl rfl rfl inf77 rfl rfl rfl ?_
 refine l_nil (e_go hK2 ?_)
 refine c_seq fun _ hK29 => ?_
 refine c_region ?_
 refine l_val wn (r_makeFunc rfl rfl) rfl ?_
 refine l_val wn (r_assign rfl) rfl ?_
 refine l_nil (e_go hK29 ?_)
 refine c_seq fun _ hK30 => ?_
 refine c_region ?_
 refine l_val wn (r_assign rfl) rfl ?_
 refine l_nil (e_go hK30 ?_)
 refine c_seq fun _ hK31 => ?_
 refine c_block ?_
 refine c_seq fun _ hK32 => ?_
 refine c_region ?_
 refine l_val wn (r_fa rfl fld77_0) rfl ?_
 refine l_val wn (r_lb 0 rfl rfl rfl flat4) rfl ?_
 refine l_val wn (r_notb rfl) rfl ?_
 refine l_val wn (r_assign rfl) rfl ?_
 refine l_nil (e_go hK32 ?_)
 refine c_condb rfl (fun h10 => ?_) (fun h10 => ?_)
 · refine c_region ?_
   refine l_val wn (r_lb 4 rfl rfl rfl flat9) rfl ?_
   refine l_val wn (r_fa rfl fld77_1) rfl ?_
   refine l_val wn (r_lb 3 rfl rfl rfl flat3) rfl ?_
   refine l_val wn (r_fa rfl fld77_1) rfl ?_
   refine l_val wn (r_lb 2 rfl rfl rfl flat3) rfl ?_
   refine l_callF wn rfl Try.call80 rfl (fun w1 hM => c_op wd a.n b.n w1 (by first | assumption | omega) (by first | assumption | omega)) ?_
   refine l_val wn (r_move rfl) rfl ?_
   refine l_val wn (r_extract rfl rfl) rfl ?_
   refine l_val wn (r_extract rfl rfl) rfl ?_
   refine l_val wn (r_fa rfl fld77_1) rfl ?_
   refine l_st1 0 wn rfl rfl rfl rfl inf3 rfl rfl ?_
   refine l_val wn (r_assign rfl) rfl ?_
   refine l_nil (e_in_n (e_go hK31 ?_))
   refine c_seq fun _ hK33 => ?_
   refine c_seq fun _ hK34 => ?_
   refine c_region ?_
   refine l_val wn (r_move rfl) rfl ?_
   refine l_val wn (r_notb rfl) rfl ?_
   refine l_nil (e_go hK34 ?_)
   refine c_condb rfl (fun h11 => ?_) (fun h11 => ?_)
   · refine c_seq fun _ hK35 => ?_
     refine c_region ?_
     refine l_val wn (r_build [.bool false, .int .i64 0, .slice none 0 0] pl77 inf77 rfl rfl) rfl ?_
     refine l_stn 1 wn rfl rfl rfl inf77 rfl rfl rfl ?_
     refine l_val wn (r_assign rfl) rfl ?_
     refine l_nil (e_go hK35 ?_)
     refine c_ret (e_then_r (e_ret2 (.inl rfl) Try.results62 (rv_cell 1 rfl rfl agg77 inf77 rfl) (rv_tmp rfl) fun w1 hM => ?_))
     have hb9 := Mn.bin_num (w := wd) (a := a) (b := b) (by simpa using h1) (by simpa using h10)
     rw [if_neg (by simpa using h11)] at hb9
     exact hM.retE (⟨false, 0, ⟨none, 0, []⟩⟩ : ValX) (by first | (rw [hb9]; done) | (rw [hb9]; rfl)) (by first | (rw [hb9]; done) | (rw [hb9]; rfl) | (have e9 := h1; rw [hb9]; simp [ValX.e] at e9 ⊢; exact e9) | (have e9 := h10; rw [hb9]; simp [ValX.e] at e9 ⊢; exact e9)) fun Pb pp => ⟨FlatSl.nil_ _ _ _ _, fun c hc => by cases hc⟩
   refine c_skip (e_go hK33 ?_)
   refine c_seq fun _ hK36 => ?_
   refine c_region ?_
   refine l_val wn (r_lbn 0 [.bool b.vec, .int .i64 ((Mn.op wd a.n b.n).1), .slice none 0 0] rfl rfl rfl rfl agg77 inf77) rfl ?_
   refine l_stn 1 wn rfl rfl rfl inf77 rfl rfl rfl ?_
   refine l_val wn (r_assign rfl) rfl ?_
   refine l_nil (e_go hK36 ?_)
   refine c_ret (e_ret2 (.inl rfl) Try.results62 (rv_cell 1 rfl rfl agg77 inf77 rfl) (rv_tmp rfl) fun w1 hM => ?_)
   have hb9 := Mn.bin_num (w := wd) (a := a) (b := b) (by simpa using h1) (by simpa using h10)
   rw [if_pos (by simpa using h11)] at hb9
   exact hM.retE (⟨b.vec, (Mn.op wd a.n b.n).1, ⟨none, 0, []⟩⟩ : ValX) (by first | (rw [hb9]; done) | (rw [hb9]; rfl)) (by first | (rw [hb9]; done) | (rw [hb9]; rfl) | (have e9 := h1; rw [hb9]; simp [ValX.e] at e9 ⊢; exact e9) | (have e9 := h10; rw [hb9]; simp [ValX.e] at e9 ⊢; exact e9)) fun Pb pp => ⟨FlatSl.nil_ _ _ _ _, fun c hc => by cases hc⟩
 refine c_seq fun _ hK37 => ?_
 refine c_region ?_
 refine l_val wn (r_fa rfl fld77_0) rfl ?_
 refine l_val wn (r_lb 2 rfl rfl rfl flat4) rfl ?_
 refine l_val wn (r_notb rfl) rfl ?_
 refine l_val wn (r_assign rfl) rfl ?_
 refine l_nil (e_go hK37 ?_)
 refine c_false rfl (by simpa using h10) ?_
 refine c_seq fun _ hK38 => ?_
 refine c_region ?_
 refine l_val wn (r_fa rfl fld77_0) rfl ?_
 refine l_val wn (r_lb 3 rfl rfl rfl flat4) rfl ?_
 refine l_val wn (r_notb rfl) rfl ?_
 refine l_val wn (r_assign rfl) rfl ?_
 refine l_nil (e_go hK38 ?_)
 refine c_true rfl (by simpa using h1) ?_
 refine c_seq fun _ hK39 => ?_
 refine c_region ?_
 refine l_val wn (r_fa rfl fld77_2) rfl ?_
 refine l_val wn (r_lb 2 rfl rfl rfl flat28) rfl ?_
 refine l_val wn (r_len rfl Try.underlying28) rfl ?_
 refine l_val wn (r_move rfl) rfl ?_
 refine l_nil (e_go hK39 ?_)
 refine c_block ?_
 refine c_mem (fun _ h => h.nilRow CellX 44 2 cellE) ?_
 refine c_opn (fun _ h => h.all0 CellX.Ok.loc) ?_
 refine c_loop4 (fun (k : Nat) (cs : List CellX) (ok : Bool) (ov : Value) => [(4, .pointer (some ⟨b4, 0, none⟩)), (6, .pointer (some ⟨b6, 0, none⟩)), (8, .pointer (some ⟨b8, 0, none⟩)), (9, .func (.func 79) #[] #[.pointer (some ⟨b3, 0, none⟩), .pointer (some ⟨b8, 0, none⟩)]), (10, .bool ok), (97, .slice b.cells.A b.cells.l.length b.cells.c), (98, .int .i64 (b.cells.l.length : Int)), (99, .int .i64 (k : Int))]) (fun (k : Nat) (cs : List CellX) (ok : Bool) (ov : Value) => [allP CellX.Ok cs, Row ov 44 2 cellE cs, .blk b8 [.bool b.vec, .int .i64 0, ov] 77, .blk b6 [.bool false, .int .i64 0, .slice none 0 0] 77, .blk b5 [.bool b.vec, .int .i64 b.n, .slice b.cells.A b.cells.l.length b.cells.c] 77, .blk b4 [.bool a.vec, .int .i64 a.n, .slice a.cells.A a.cells.l.length a.cells.c] 77, .blk b3 [.string wd] 9, okP ValX.Ok a, okP ValX.Ok b]) (fun (k : Nat) (cs : List CellX) (ok : Bool) (ov : Value) => k ≤ b.cells.l.length ∧ (∀ x ∈ cs, CellX.Wf x) ∧ cs.map CellX.e = Mn.done wd (Mn.p2 a b k) ∧ ok = Mn.fine wd (Mn.p2 a b k) ∧ cs.length ≤ k) (fun (k : Nat) (cs : List CellX) (ok : Bool) (ov : Value) => b.cells.l.length - k) 0 [] true (.slice none 0 0) (sc rfl (sc rfl (sc rfl (sc rfl (sc rfl (sc rfl (sc rfl (sc (ji (by omega)) sn)))))))) (fun _ h => h) ?_ (fun k cs ok ov hI3 => ?_)
 · exact ⟨Nat.zero_le _, fun x hx => (by cases hx), rfl, rfl, Nat.le_refl _⟩
 have hwf := hI3.2.1
 have hlen := hI3.2.2.2.2
 refine c_open 1 (l := cs) rfl fun A5 cp5 hv5 hc10 hm10 hA10 => ?_
 subst hv5
 refine c_seq fun _ hK40 => ?_
 refine c_region ?_
 refine l_val wn (r_lss rfl rfl) rfl ?_
 refine l_nil (e_go hK40 ?_)
 refine c_seq fun _ hK41 => ?_
 refine c_cond rfl (fun h12 => ?_) (fun h12 => ?_)
 · refine c_skip (e_go hK41 ?_)
   refine c_seq fun _ hK42 => ?_
   refine c_block ?_
   refine c_seq fun _ hK43 => ?_
   refine c_region ?_
   refine l_opn (fun _ h => h.valX 8 rfl) ?_
   obtain ⟨hc11, hm11, hA11⟩ := hwb.cells
   obtain ⟨ad4, hd4⟩ := hA11 (ne_nil (i := k) (by first | omega | (simp <;> omega)))
   refine l_val wn (r_ia (i := k) rfl hd4 rfl (by omega) (by first | omega | (simp <;> omega)) Try.underlying28 inf44) rfl ?_
   obtain ⟨s3, hs3⟩ : ∃ x, b.cells.l[k]? = some x := ⟨_, List.getElem?_eq_getElem (by first | omega | (simp <;> omega))⟩
   have hb_s3 := Mn.Bnd.at_ hbb hs3
   refine l_val wn (r_pln 0 [.slice s3.sr.A s3.sr.l.length s3.sr.c, .int .i64 s3.value] rfl rfl hd4 hs3 rfl rfl agg44 inf44) rfl ?_
   refine l_alloc wn inf44 rfl fun b14 => ?_
   refine l_stn 0 wn rfl rfl rfl inf44 rfl rfl rfl ?_
   refine l_nil (e_go hK43 ?_)
   refine c_region ?_
   refine l_val wn (r_move rfl) rfl ?_
   refine l_val wn (r_fa rfl fld44_0) rfl ?_
   refine l_val wn (r_lb 0 rfl rfl rfl flat42) rfl ?_
   refine l_val wn (r_fa rfl fld77_1) rfl ?_
   refine l_val wn (r_lb 8 rfl rfl rfl flat3) rfl ?_
   refine l_val wn (r_fa rfl fld44_1) rfl ?_
   refine l_val wn (r_lb 0 rfl rfl rfl flat3) rfl ?_
   have hw5 := hwb.all _ (List.mem_of_getElem? hs3)
   refine l_opn (fun _ h => h.one 2 CellX.Ok.loc rfl hs3) ?_
   refine l_opn (fun _ h => h.cellX 0 rfl) ?_
   obtain ⟨hc12, hm12, hA12⟩ := hw5.sr
   refine l_give (α := Value) [.blk b3 [.string wd] 9, .blk b8 [.bool b.vec, .int .i64 0, .slice A5 cs.length cp5] 77, Row (.slice A5 cs.length cp5) 44 2 cellE cs, allP CellX.Ok cs, slP 2 labelE (.slice s3.sr.A s3.sr.l.length s3.sr.c) s3.sr.l] [okP CellX.Ok s3, .blk b14 [.slice s3.sr.A s3.sr.l.length s3.sr.c, .int .i64 s3.value] 44, slP 2 cellE (.slice b.cells.A b.cells.l.length b.cells.c) b.cells.l, allP CellX.Ok b.cells.l, .blk b6 [.bool false, .int .i64 0, .slice none 0 0] 77, .blk b5 [.bool b.vec, .int .i64 b.n, .slice b.cells.A b.cells.l.length b.cells.c] 77, .blk b4 [.bool a.vec, .int .i64 a.n, .slice a.cells.A a.cells.l.length a.cells.c] 77, okP ValX.Ok a, okP ValX.Ok b] (fun _ => .bool (Mn.op wd a.n s3.value).2) (fun z3 => True) (fun z3 => [.blk b3 [.string wd] 9, .blk b8 [.bool b.vec, .int .i64 0, z3] 77, Row z3 44 2 cellE (cs ++ [CellX.mk s3.sr (Mn.op wd a.n s3.value).1]), allP CellX.Ok (cs ++ [CellX.mk s3.sr (Mn.op wd a.n s3.value).1]), slP 2 labelE (.slice s3.sr.A s3.sr.l.length s3.sr.c) s3.sr.l]) (fun z3 => [.blk b3 [.string wd] 9, .blk b8 [.bool b.vec, .int .i64 0, z3] 77, Row z3 44 2 cellE (cs ++ [CellX.mk s3.sr (Mn.op wd a.n s3.value).1]), allP CellX.Ok (cs ++ [CellX.mk s3.sr (Mn.op wd a.n s3.value).1]), slP 2 labelE (.slice s3.sr.A s3.sr.l.length s3.sr.c) s3.sr.l, okP CellX.Ok s3, .blk b14 [.slice s3.sr.A s3.sr.l.length s3.sr.c, .int .i64 s3.value] 44, slP 2 cellE (.slice b.cells.A b.cells.l.length b.cells.c) b.cells.l, allP CellX.Ok b.cells.l, .blk b6 [.bool false, .int .i64 0, .slice none 0 0] 77, .blk b5 [.bool b.vec, .int .i64 b.n, .slice b.cells.A b.cells.l.length b.cells.c] 77, .blk b4 [.bool a.vec, .int .i64 a.n, .slice a.cells.A a.cells.l.length a.cells.c] 77, okP ValX.Ok a, okP ValX.Ok b]) (fun _ => rfl) (fun _ h => h.sel [11, 7, 6, 5, 0, 1, 2, 3, 4, 8, 9, 10, 12, 13] (by decide) rfl) (fun _ => rfl) wn rfl rfl Try.call79 rfl (fun w1 Pb hG => c_put wd b.vec 0 _ _ s3.sr a.n s3.value _ _ Pb w1 hG (by first | omega | assumption) (by first | omega | assumption) (by omega)) fun z3 hz3 => ?_
   refine l_open 2 (l := (cs ++ [CellX.mk s3.sr (Mn.op wd a.n s3.value).1])) rfl fun A6 cp6 hv6 hc13 hm13 hA13 => ?_
   subst hv6
   have hw6 : ∀ x ∈ (cs ++ [CellX.mk s3.sr (Mn.op wd a.n s3.value).1]), CellX.Wf x := fun x hx => (List.mem_append.1 hx).elim (hwf x) fun h => by rw [List.mem_singleton.1 h]; exact ⟨hw5.sr⟩
   refine l_val wn (r_move rfl) rfl ?_
   refine l_caseb (t := 111) rfl (fun h13 => ?_) (fun h13 => ?_)
   · refine l_val (wg rfl rfl rfl) (r_move rfl) rfl ?_
     refine l_val wn (r_pick rfl rfl) rfl ?_
     refine l_val wn (r_assign rfl) rfl ?_
     refine l_nil (e_in_n (e_go hK42 ?_))
     refine c_region ?_
     refine l_val wn (r_addn rfl rfl (by omega)) rfl ?_
     refine l_val wn (r_move rfl) rfl ?_
     refine l_nil (e_round4 (k + 1) (cs ++ [CellX.mk s3.sr (Mn.op wd a.n s3.value).1]) ok (.slice A6 ((cs ++ [CellX.mk s3.sr (Mn.op wd a.n s3.value).1]).length) cp6) (sc rfl (sc rfl (sc rfl (sc rfl (sc rfl (sc rfl (sc rfl (sc (ji (by omega)) sn)))))))) (fun _ h => (h.sel [3, 2, 1, 9, 10, 11, 0, 12, 13] (by decide) rfl)) ?_ ?_)
     · exact ⟨by omega, hw6, Mn.done_at hI3.2.2.1 (Mn.p2_at hs3), Mn.fine_t hI3.2.2.2.1 (Mn.p2_at hs3) h13, by simp only [List.length_append, List.length_cons, List.length_nil]; omega⟩
     omega
   refine l_skip (wg rfl rfl rfl) rfl ?_
   refine l_val wn (r_pick rfl rfl) rfl ?_
   refine l_val wn (r_assign rfl) rfl ?_
   refine l_nil (e_in_n (e_go hK42 ?_))
   refine c_region ?_
   refine l_val wn (r_addn rfl rfl (by omega)) rfl ?_
   refine l_val wn (r_move rfl) rfl ?_
   refine l_nil (e_round4 (k + 1) (cs ++ [CellX.mk s3.sr (Mn.op wd a.n s3.value).1]) false (.slice A6 ((cs ++ [CellX.mk s3.sr (Mn.op wd a.n s3.value).1]).length) cp6) (sc rfl (sc rfl (sc rfl (sc rfl (sc rfl (sc rfl (sc rfl (sc (ji (by omega)) sn)))))))) (fun _ h => (h.sel [3, 2, 1, 9, 10, 11, 0, 12, 13] (by decide) rfl)) ?_ ?_)
   · exact ⟨by omega, hw6, Mn.done_at hI3.2.2.1 (Mn.p2_at hs3), Mn.fine_f (Mn.p2_at hs3) h13, by simp only [List.length_append, List.length_cons, List.length_nil]; omega⟩
   omega
 refine c_exit (e_then_x (e_loop4_x (e_in_hit (e_in_n (e_go hK31 ?_)))))
 refine c_seq fun _ hK44 => ?_
 refine c_seq fun _ hK45 => ?_
 refine c_region ?_
 refine l_val wn (r_move rfl) rfl ?_
 refine l_val wn (r_notb rfl) rfl ?_
 refine l_nil (e_go hK45 ?_)
 refine c_condb rfl (fun h14 => ?_) (fun h14 => ?_)
 · refine c_seq fun _ hK46 => ?_
   refine c_region ?_
   refine l_val wn (r_build [.bool false, .int .i64 0, .slice none 0 0] pl77 inf77 rfl rfl) rfl ?_
   refine l_stn 3 wn rfl rfl rfl inf77 rfl rfl rfl ?_
   refine l_val wn (r_assign rfl) rfl ?_
   refine l_nil (e_go hK46 ?_)
   refine c_ret (e_then_r (e_ret2 (.inl rfl) Try.results62 (rv_cell 3 rfl rfl agg77 inf77 rfl) (rv_tmp rfl) fun w1 hM => ?_))
   have hb9 := Mn.bin_vec (w := wd) (.inr (by simpa using h10)) (Mn.p2_end (by simpa using h10) (by simpa using h1) (by omega)) hI3.2.2.1 hI3.2.2.2.1
   rw [if_neg (by simpa using h14)] at hb9
   exact hM.retE (⟨false, 0, ⟨none, 0, []⟩⟩ : ValX) (by first | (rw [hb9]; done) | (rw [hb9]; rfl)) (by first | (rw [hb9]; done) | (rw [hb9]; rfl) | (have e9 := h1; rw [hb9]; simp [ValX.e] at e9 ⊢; exact e9) | (have e9 := h10; rw [hb9]; simp [ValX.e] at e9 ⊢; exact e9)) fun Pb pp => ⟨FlatSl.nil_ _ _ _ _, fun c hc => by cases hc⟩
 refine c_skip (e_go hK44 ?_)
 refine c_seq fun _ hK47 => ?_
 refine c_region ?_
 refine l_val wn (r_lbn 2 [.bool b.vec, .int .i64 0, .slice A5 cs.length cp5] rfl rfl rfl rfl agg77 inf77) rfl ?_
 refine l_stn 3 wn rfl rfl rfl inf77 rfl rfl rfl ?_
 refine l_val wn (r_assign rfl) rfl ?_
 refine l_nil (e_go hK47 ?_)
 refine c_ret (e_ret2 (.inl rfl) Try.results62 (rv_cell 3 rfl rfl agg77 inf77 rfl) (rv_tmp rfl) fun w1 hM => ?_)
 have hb9 := Mn.bin_vec (w := wd) (.inr (by simpa using h10)) (Mn.p2_end (by simpa using h10) (by simpa using h1) (by omega)) hI3.2.2.1 hI3.2.2.2.1
 rw [if_pos (by simpa using h14)] at hb9
 have hM := hM.sealRow encCellX (i := 1) rfl rfl
 exact hM.retE (⟨b.vec, 0, ⟨A5, cp5, cs⟩⟩ : ValX) (by first | (rw [hb9]; done) | (rw [hb9]; rfl)) (by first | (rw [hb9]; done) | (rw [hb9]; rfl) | (have e9 := h1; rw [hb9]; simp [ValX.e] at e9 ⊢; exact e9) | (have e9 := h10; rw [hb9]; simp [ValX.e] at e9 ⊢; exact e9)) fun Pb pp => ⟨pp.sl 1 rfl, pp.at_ 0 _ rfl⟩

set_option maxHeartbeats 1000000 in
theorem c_insertC (sv vv : Value) (l : List CellX) (x : CellX) (i : Nat) (Pb : Nat → Prop) (w : World) (hG : Mem w ⟨fpOf [Row sv 44 2 cellE l, Row vv 44 2 cellE [x]], Pb⟩ [Row sv 44 2 cellE l, Row vv 44 2 cellE [x]] w) (hil : i ≤ l.length) (hl1 : l.length ≤ 1048576) :
    Calls Try.prog 77 #[sv, .int .i64 (i : Int), vv] w (RetA w [Row sv 44 2 cellE l, Row vv 44 2 cellE [x]] Pb (fun z : Value => z) (fun _ => True) (fun z => [Row z 44 2 cellE (l.take i ++ x :: l.drop i)])) := by
 obtain ⟨sA, sc, rfl, hsc, hsm, hsA⟩ := row_form' (hG.row (i := 0) rfl)
 obtain ⟨vA, vc, hv0, hvc, hvm, hvA⟩ := row_form' (hG.row (i := 1) rfl)
 have hv0 : vv = .slice vA 1 vc := hv0
 have hvc : 1 ≤ vc := hvc
 subst hv0
 refine fstart (N := 95) (vals := [.slice sA l.length sc, .int .i64 (i : Int), .slice vA 1 vc]) (S := Mem w ⟨fpOf [Row (.slice sA l.length sc) 44 2 cellE l, Row (.slice vA 1 vc) 44 2 cellE [x]], Pb⟩ [Row (.slice sA l.length sc) 44 2 cellE l, Row (.slice vA 1 vc) 44 2 cellE [x]]) Try.func77 rfl rfl rfl hG ?_
 refine c_seq fun _ hK1 => ?_
 refine c_region ?_
 refine l_val wn (r_assign rfl) rfl ?_
 refine l_nil (e_go hK1 ?_)
 refine c_seq fun _ hK2 => ?_
 refine c_region ?_
 refine l_val wn (r_move rfl) rfl ?_
 refine l_val wn (r_move rfl) rfl ?_
 refine l_val wn (r_dsl (lo := i) (hi := l.length) rfl (lo1 rfl (by omega)) hi0 (by first | omega | (simp <;> omega)) (by first | omega | (simp <;> omega)) (by first | omega | (simp <;> omega)) Try.underlying28 inf44) rfl ?_
 refine l_nil (e_go hK2 ?_)
 refine c_seq fun _ hK3 => ?_
 refine c_region ?_
 refine l_val wn (r_move rfl) rfl ?_
 refine l_val wn (r_len rfl Try.underlying28) rfl ?_
 refine l_val wn (r_assign rfl) rfl ?_
 refine l_nil (e_go hK3 ?_)
 refine c_seq fun _ hK4 => ?_
 refine c_seq fun _ hK5 => ?_
 refine c_region ?_
 refine l_val wn (r_move rfl) rfl ?_
 refine l_val wn (r_eql rfl rfl) rfl ?_
 refine l_nil (e_go hK5 ?_)
 refine c_false rfl (decide_eq_false (by decide)) ?_
 refine c_skip (e_go hK4 ?_)
 refine c_seq fun _ hK6 => ?_
 refine c_region ?_
 refine l_val wn (r_move rfl) rfl ?_
 refine l_val wn (r_len rfl Try.underlying28) rfl ?_
 refine l_val wn (r_assign rfl) rfl ?_
 refine l_nil (e_go hK6 ?_)
 refine c_seq fun _ hK7 => ?_
 refine c_seq fun _ hK8 => ?_
 refine c_region ?_
 refine l_val wn (r_move rfl) rfl ?_
 refine l_val wn (r_move rfl) rfl ?_
 refine l_val wn (r_eql rfl rfl) rfl ?_
 refine l_nil (e_go hK8 ?_)
 refine c_cond rfl (fun h1 => ?_) (fun h1 => ?_)
 · refine c_seq fun _ hK9 => ?_
   refine c_region ?_
   refine l_val wn (r_move rfl) rfl ?_
   refine l_val wn (r_move rfl) rfl ?_
   refine l_app 0 l [x] encCellX wn rfl rfl rfl (fun _ hM => (RowSl encCellX hM 1 rfl)) Try.underlying28 inf44 rfl rfl (by simp only [List.length_append, List.length_cons, List.length_nil]; omega) rfl fun A1 cp1 hc1 hm1 hA1 => ?_
   refine l_val wn (r_assign rfl) rfl ?_
   refine l_nil (e_go hK9 ?_)
   refine c_ret (e_then_r (e_ret1 (.inl rfl) Try.results77 (rv_tmp rfl) fun w1 hM => ?_))
   exact hM.retA (.slice A1 ((l ++ [x]).length) cp1) rfl trivial (fun h => row_as (v := .slice A1 ((l ++ [x]).length) cp1) (n := (l ++ [x]).length) (by rw [ins_len hil, List.length_append]; rfl) (ins_end (by omega)) (h.sel [0] (by decide) rfl))
 refine c_skip (e_go hK7 ?_)
 refine c_seq fun _ hK10 => ?_
 refine c_seq fun _ hK11 => ?_
 refine c_region ?_
 obtain ⟨sad, hsd⟩ := hsA (ne_nil (i := i) (by omega))
 obtain ⟨vad, hvd⟩ := hvA (by simp)
 refine l_val wn (r_move rfl) rfl ?_
 refine l_val wn (r_move rfl) rfl ?_
 refine l_val wn (r_addn rfl rfl (by omega)) rfl ?_
 refine l_val wn (r_move rfl) rfl ?_
 refine l_val wn (r_cap rfl Try.underlying28) rfl ?_
 refine l_val wn (r_gtr rfl rfl) rfl ?_
 refine l_nil (e_go hK11 ?_)
 refine c_cond rfl (fun h2 => ?_) (fun h2 => ?_)
 · refine c_seq fun _ hK12 => ?_
   refine c_region ?_
   refine l_val wn (r_move rfl) rfl ?_
   refine l_val wn (r_move rfl) rfl ?_
   refine l_val wn (rv_v (by rw [subA_zero, Nat.sub_zero, Nat.sub_zero]) (r_dslc (lo := 0) (hi := i) rfl lo0 (hi1 rfl (by omega)) (by omega) (by omega) Try.underlying28 inf44)) rfl ?_
   refine l_val wn (r_move rfl) rfl ?_
   refine l_val wn (r_move rfl) rfl ?_
   refine l_val wn (r_addn rfl rfl (by omega)) rfl ?_
   refine l_val wn (r_move rfl) rfl ?_
   refine l_val wn (r_subn rfl rfl (by omega)) rfl ?_
   refine l_appZ (enc := cellE) (l.take i ++ List.replicate (l.length + 1 - i) (CellX.mk ⟨none, 0, []⟩ 0)) (l.length + 1) (kk := l.length + 1 - i) (olds := (l.take i).flatMap cellE) wn rfl rfl (by omega) (by omega) (by rw [flat_len encCellX.len, List.length_take]; omega) (fun h => by rw [hsd] at h; cases h) (fun ad h => by rw [hsd] at h; injection h with h; subst h; exact fun w hS p u hu => rowCells 0 rfl hsd w hS p u (by have := flat_pre (k := 2) hu; rwa [Nat.zero_mul, Nat.zero_add] at this)) (by omega) (by omega) rfl (by decide) Try.underlying28 Try.underlying3 inf44 rfl (by rw [List.flatMap_append]; exact congrArg _ (zero_cells _)) (by omega) rfl fun b1 C1 hc2 hm2 => ?_
   refine l_val wn (r_assign rfl) rfl ?_
   refine l_nil (e_go hK12 ?_)
   refine c_seq fun _ hK13 => ?_
   refine c_region ?_
   refine l_val wn (r_move rfl) rfl ?_
   refine l_val wn (r_move rfl) rfl ?_
   refine l_val wn (r_dslc (lo := i) (hi := (l.length + 1)) rfl (lo1 rfl (by omega)) hi0 (by omega) (by omega) Try.underlying28 inf44) rfl ?_
   refine l_val wn (r_move rfl) rfl ?_
   refine l_copyL 0 (j := i) (l.take i ++ List.replicate (l.length + 1 - i) (CellX.mk ⟨none, 0, []⟩ 0)) [x] encCellX wn rfl (subA_some rfl (by omega)) rfl hvd rfl rfl Try.underlying28 inf44 (by simp only [List.length_drop, List.length_cons, List.length_nil]; show _ = min _ _; omega) (by simp only [List.length_append, List.length_take, List.length_drop, List.length_replicate, List.length_cons, List.length_nil]; omega) (by simp only [List.length_append, List.length_take, List.length_drop, List.length_replicate, List.length_cons, List.length_nil]; omega) (rowCells 2 rfl hvd) rfl ?_
   refine l_nil (e_go hK13 ?_)
   refine c_seq fun _ hK14 => ?_
   refine c_quietT 8 mix (by kernel_rfl) (fun _ h => h.drew) fun _ hT1 => ?_
   refine q_val wn (r_move rfl) rfl ?_
   refine q_val wn (r_move rfl) rfl ?_
   refine q_val wn (r_move rfl) rfl ?_
   refine q_val wn (r_addn rfl rfl (by omega)) rfl ?_
   refine q_val wn (r_dslc (lo := (i + 1)) (hi := (l.length + 1)) rfl (lo1 rfl (by omega)) hi0 (by omega) (by omega) Try.underlying28 inf44) rfl ?_
   refine q_val wn (r_move rfl) rfl ?_
   refine q_val wn (r_move rfl) rfl ?_
   refine q_val wn (r_dslc (lo := i) (hi := l.length) rfl (lo1 rfl (by omega)) hi0 (by omega) (by omega) Try.underlying28 inf44) rfl ?_
   refine q_tail hT1 ?_
   refine l_copyL 0 (j := (i + 1)) ((l.take i ++ List.replicate (l.length + 1 - i) (CellX.mk ⟨none, 0, []⟩ 0)).take i ++ [x] ++ (l.take i ++ List.replicate (l.length + 1 - i) (CellX.mk ⟨none, 0, []⟩ 0)).drop (i + [x].length)) (l.drop i) encCellX wn rfl (subA_some rfl (by omega)) rfl (subA_some hsd (by omega)) rfl rfl Try.underlying28 inf44 (by simp only [List.length_drop, List.length_cons, List.length_nil]; show _ = min _ _; omega) (by simp only [List.length_append, List.length_take, List.length_drop, List.length_replicate, List.length_cons, List.length_nil]; omega) (by simp only [List.length_append, List.length_take, List.length_drop, List.length_replicate, List.length_cons, List.length_nil]; omega) (subCells (rowCells 1 rfl hsd) fun p u hu => flat_suf encCellX.len (by omega) hu) rfl ?_
   refine l_nil (e_go hK14 ?_)
   refine c_seq fun _ hK15 => ?_
   refine c_region ?_
   refine l_val wn (r_move rfl) rfl ?_
   refine l_val wn (r_assign rfl) rfl ?_
   refine l_nil (e_go hK15 ?_)
   refine c_ret (e_then_r (e_ret1 (.inl rfl) Try.results77 (rv_tmp rfl) fun w1 hM => ?_))
   exact hM.retA (.slice (some ⟨b1, 0, none⟩) (l.length + 1) C1) rfl trivial (fun h => row_as (ins_len (by omega)) (ins_grow (by omega) (List.length_replicate)) (h.sel [0] (by decide) rfl))
 refine c_skip (e_go hK10 ?_)
 refine c_seq fun _ hK16 => ?_
 refine c_region ?_
 refine l_val wn (r_move rfl) rfl ?_
 refine l_val wn (r_move rfl) rfl ?_
 refine l_val wn (r_move rfl) rfl ?_
 refine l_val wn (r_addn rfl rfl (by omega)) rfl ?_
 refine l_val wn (rv_v (by rw [subA_zero, Nat.sub_zero, Nat.sub_zero]) (r_dslc (lo := 0) (hi := (l.length + 1)) rfl lo0 (hi1 rfl (by omega)) (by omega) (by omega) Try.underlying28 inf44)) rfl ?_
 refine l_more 0 1 rfl hsd (by omega) fun ys hys => ?_
 refine l_val wn (r_assign rfl) rfl ?_
 refine l_nil (e_go hK16 ?_)
 refine c_seq fun _ hK17 => ?_
 refine c_seq fun _ hK18 => ?_
 refine c_region ?_
 refine l_val wn (r_move rfl) rfl ?_
 refine l_val wn (r_move rfl) rfl ?_
 refine l_val wn (r_move rfl) rfl ?_
 refine l_val wn (r_move rfl) rfl ?_
 refine l_val wn (r_addn rfl rfl (by omega)) rfl ?_
 refine l_val wn (r_dslc (lo := (i + 1)) (hi := (l.length + 1)) rfl (lo1 rfl (by omega)) hi0 (by omega) (by omega) Try.underlying28 inf44) rfl ?_
 refine l_val wn (r_ext rfl (over_apart (T' := 4) (fn := Try.f90) (qa := 1) (qb := 0) (by decide) rfl rfl (by omega) (by omega) (by decide) sad hsd (subA_some hsd (by omega)) Try.func90 (by kernel_rfl) (by kernel_rfl) (by kernel_rfl) (by kernel_rfl) Try.underlying28 inf44)) rfl ?_
 refine l_val wn (r_notb rfl) rfl ?_
 refine l_nil (e_go hK18 ?_)
 refine c_true rfl rfl ?_
 refine c_seq fun _ hK19 => ?_
 refine c_quietT 8 mix (by kernel_rfl) (fun _ h => h.drew) fun _ hT2 => ?_
 refine q_val wn (r_move rfl) rfl ?_
 refine q_val wn (r_move rfl) rfl ?_
 refine q_val wn (r_move rfl) rfl ?_
 refine q_val wn (r_addn rfl rfl (by omega)) rfl ?_
 refine q_val wn (r_dslc (lo := (i + 1)) (hi := (l.length + 1)) rfl (lo1 rfl (by omega)) hi0 (by omega) (by omega) Try.underlying28 inf44) rfl ?_
 refine q_val wn (r_move rfl) rfl ?_
 refine q_val wn (r_move rfl) rfl ?_
 refine q_val wn (r_dslc (lo := i) (hi := (l.length + 1)) rfl (lo1 rfl (by omega)) hi0 (by omega) (by omega) Try.underlying28 inf44) rfl ?_
 refine q_tail hT2 ?_
 refine l_copy 0 (ad := sad) (j := i + 1) (cs := (l.drop i).flatMap cellE) _ wn rfl (subA_some hsd (by omega)) rfl (subA_some hsd (by omega)) rfl hsd Try.underlying28 inf44 (by rw [flat_len encCellX.len, List.length_drop]; show _ = min _ _ * 2; omega) (by rw [flat_len encCellX.len, List.length_drop]; omega) (subCells (rowCells 0 rfl hsd) fun p u hu => by have := flat_suf encCellX.len (by omega) hu; rw [List.getElem?_append_left (List.getElem?_eq_some_iff.1 this).1]; exact this) (fun u hu => by obtain ⟨a, _, ha⟩ := List.mem_flatMap.1 hu; exact encCellX.one a u ha) (ins_shift encCellX.len (by omega) hys) rfl ?_
 refine l_nil (e_go hK19 ?_)
 refine c_seq fun _ hK20 => ?_
 refine c_region ?_
 refine l_val wn (r_move rfl) rfl ?_
 refine l_val wn (r_move rfl) rfl ?_
 refine l_val wn (r_dslc (lo := i) (hi := (l.length + 1)) rfl (lo1 rfl (by omega)) hi0 (by omega) (by omega) Try.underlying28 inf44) rfl ?_
 refine l_val wn (r_move rfl) rfl ?_
 refine l_copyL 0 (j := i) (l.take (i + 1) ++ l.drop i) [x] encCellX wn rfl (subA_some hsd (by omega)) rfl hvd rfl hsd Try.underlying28 inf44 (by simp only [List.length_drop, List.length_cons, List.length_nil]; show _ = min _ _; omega) (by simp only [List.length_append, List.length_take, List.length_drop, List.length_replicate, List.length_cons, List.length_nil]; omega) (by simp only [List.length_append, List.length_take, List.length_drop, List.length_replicate, List.length_cons, List.length_nil]; omega) (rowCells 1 rfl hvd) rfl ?_
 refine l_nil (e_go hK20 ?_)
 refine c_seq fun _ hK21 => ?_
 refine c_region ?_
 refine l_val wn (r_move rfl) rfl ?_
 refine l_val wn (r_assign rfl) rfl ?_
 refine l_nil (e_go hK21 ?_)
 refine c_ret (e_then_r (e_ret1 (.inl rfl) Try.results77 (rv_tmp rfl) fun w1 hM => ?_))
 exact hM.retA (.slice sA (l.length + 1) sc) rfl trivial (fun h => row_as (ins_len (by omega)) (ins_place (by omega)) (h.sel [0] (by decide) rfl))

theorem c_all1 (d : CellX) (tv : Value) (t : List Label) (P0 : Nat → Prop) (w : World) (hP0 : ∀ b, P0 b → b < w.heap.size) (hd : CellX.Ok P0 d w) (ht : FlatSl P0 2 labelE tv t w)  :
    Calls Try.prog 76 #[.agg (cellE d).toArray, tv] w (Ret w (.int .i64 (Names.compare d.sr.l t))) := by
 have hwd := hd.wf
 obtain ⟨tA, tc, rfl, htc, htm, htA⟩ := ht.form
 refine fstart (N := 9) (vals := [.agg (cellE d).toArray, .slice tA t.length tc]) (S := Mem w ⟨no, P0⟩ [okP CellX.Ok d, slP 2 labelE (.slice tA t.length tc) t]) Try.func76 rfl rfl rfl (Mem.ofDatsP hP0 (dc (dp (CellX.Ok.loc _) hd) (dc (dlp ht) dn))) ?_
 refine c_seq fun _ hK1 => ?_
 refine c_region ?_
 refine l_box wn rfl rfl fun b2 => ?_
 refine l_val wn (r_assign rfl) rfl ?_
 refine l_nil (e_go hK1 ?_)
 refine c_seq fun _ hK2 => ?_
 refine c_region ?_
 refine l_val wn (r_fa rfl fld44_0) rfl ?_
 refine l_val wn (r_lb 0 rfl rfl rfl flat42) rfl ?_
 refine l_val wn (r_move rfl) rfl ?_
 refine l_opn (fun _ h => h.cellX 1 rfl) ?_
 obtain ⟨hc1, hm1, hA1⟩ := hwd.sr
 refine l_callF wn rfl Try.call31 rfl (fun w1 hM => c_compare _ d.sr.l _ t w1 (hM.slp 0 rfl) (hM.slp 3 rfl)) ?_
 refine l_val wn (r_assign rfl) rfl ?_
 refine l_nil (e_go hK2 ?_)
 refine c_ret (e_ret1 (.inl rfl) Try.results76 (rv_tmp rfl) fun w1 hM => ?_)
 exact ret_ok rfl hM

theorem c_bsC (clv : Value) (cl : List CellX) (tv : Value) (t : List Label) (P0 : Nat → Prop) (w : World) (hP0 : ∀ b, P0 b → b < w.heap.size) (hcl : FlatSl P0 2 cellE clv cl w) (hcla : ∀ x ∈ cl, CellX.Ok P0 x w) (ht : FlatSl P0 2 labelE tv t w) (has : Mn.Asc (cl.map CellX.e)) (hl1 : cl.length ≤ 1048576) :
    Calls Try.prog 75 #[clv, tv, .func (.func 76) #[] #[]] w (Ret w (.tuple #[.int .i64 (Mn.pos (cl.map CellX.e) t : Nat), .bool (Mn.has (cl.map CellX.e) t)])) := by
 have hwcl : ∀ x ∈ cl, CellX.Wf x := fun x hx => (hcla x hx).wf
 obtain ⟨clA, clc, rfl, hclc, hclm, hclA⟩ := hcl.form
 obtain ⟨tA, tc, rfl, htc, htm, htA⟩ := ht.form
 refine fstart (N := 49) (vals := [.slice clA cl.length clc, .slice tA t.length tc, .func (.func 76) #[] #[]]) (S := Mem w ⟨no, P0⟩ [slP 2 cellE (.slice clA cl.length clc) cl, allP CellX.Ok cl, slP 2 labelE (.slice tA t.length tc) t]) Try.func75 rfl rfl rfl (Mem.ofDatsP hP0 (dc (dlp hcl) (dc (dp (all_loc CellX.Ok.loc _) hcla) (dc (dlp ht) dn)))) ?_
 refine c_seq fun _ hK1 => ?_
 refine c_region ?_
 refine l_val wn (r_assign rfl) rfl ?_
 refine l_val wn (r_assign rfl) rfl ?_
 refine l_nil (e_go hK1 ?_)
 refine c_seq fun _ hK2 => ?_
 refine c_region ?_
 refine l_val wn (r_move rfl) rfl ?_
 refine l_val wn (r_len rfl Try.underlying28) rfl ?_
 refine l_val wn (r_assign rfl) rfl ?_
 refine l_nil (e_go hK2 ?_)
 refine c_seq fun _ hK3 => ?_
 refine c_region ?_
 refine l_val wn (r_move rfl) rfl ?_
 refine l_val wn (r_assign rfl) rfl ?_
 refine l_val wn (r_assign rfl) rfl ?_
 refine l_nil (e_go hK3 ?_)
 refine c_seq fun _ hK4 => ?_
 refine c_block ?_
 refine c_loop2 (fun (i : Nat) (j : Nat) => [(0, .slice clA cl.length clc), (1, .slice tA t.length tc), (2, .func (.func 76) #[] #[]), (8, .int .i64 (cl.length : Int)), (9, .int .i64 (i : Int)), (10, .int .i64 (j : Int))]) (fun (i : Nat) (j : Nat) => [slP 2 cellE (.slice clA cl.length clc) cl, allP CellX.Ok cl, slP 2 labelE (.slice tA t.length tc) t]) (fun (i : Nat) (j : Nat) => i ≤ j ∧ j ≤ cl.length ∧ (∀ (q : Nat) (y : Cell), (cl.map CellX.e)[q]? = some y → q < i → Names.compare y.sr t < 0) ∧ (∀ (q : Nat) (y : Cell), (cl.map CellX.e)[q]? = some y → j ≤ q → ¬ Names.compare y.sr t < 0)) (fun (i : Nat) (j : Nat) => j - i) 0 cl.length (sc rfl (sc rfl (sc rfl (sc rfl (sc (ji (by omega)) (sc rfl sn)))))) (fun _ h => h) ?_ (fun i j hI1 => ?_)
 · exact ⟨Nat.zero_le _, Nat.le_refl _, fun q y _ h => absurd h (Nat.not_lt_zero _), fun q y h h2 => by have := (List.getElem?_eq_some_iff.1 h).1; simp only [List.length_map] at this; omega⟩
 refine c_seq fun _ hK5 => ?_
 refine c_seq fun _ hK6 => ?_
 refine c_region ?_
 refine l_val wn (r_move rfl) rfl ?_
 refine l_val wn (r_move rfl) rfl ?_
 refine l_val wn (r_lss rfl rfl) rfl ?_
 refine l_nil (e_go hK6 ?_)
 refine c_cond rfl (fun h1 => ?_) (fun h1 => ?_)
 · refine c_skip (e_go hK5 ?_)
   refine c_block ?_
   refine c_seq fun _ hK7 => ?_
   refine c_region ?_
   refine l_val wn (r_move rfl) rfl ?_
   refine l_val wn (r_move rfl) rfl ?_
   refine l_val wn (r_addn rfl rfl (by omega)) rfl ?_
   refine l_val wn (r_natu64 (a := (i + j)) rfl (by omega) (by omega) (by rw [Try.underlying3]; rfl) Try.underlying136) rfl ?_
   refine l_val wn (r_shr (u := (i + j)) (j := 1) rfl rfl (by omega) (by omega)) rfl ?_
   refine l_val wn (r_int64 (a := ((i + j) / 2 ^ 1)) rfl (by omega) (by rw [Try.underlying136]; rfl) Try.underlying3) rfl ?_
   refine l_val wn (r_assign rfl) rfl ?_
   refine l_nil (e_go hK7 ?_)
   refine c_seq fun _ hK8 => ?_
   refine c_region ?_
   refine l_val wn (r_move rfl) rfl ?_
   refine l_val wn (r_move rfl) rfl ?_
   refine l_val wn (r_move rfl) rfl ?_
   obtain ⟨ad1, hd1⟩ := hclA (ne_nil (i := ((i + j) / 2 ^ 1)) (by first | omega | (simp <;> omega)))
   refine l_val wn (r_ia (i := ((i + j) / 2 ^ 1)) rfl hd1 rfl (by omega) (by first | omega | (simp <;> omega)) Try.underlying28 inf44) rfl ?_
   obtain ⟨s1, hs1⟩ : ∃ x, cl[((i + j) / 2 ^ 1)]? = some x := ⟨_, List.getElem?_eq_getElem (by first | omega | (simp <;> omega))⟩
   refine l_val wn (r_pln 0 [.slice s1.sr.A s1.sr.l.length s1.sr.c, .int .i64 s1.value] rfl rfl hd1 hs1 rfl rfl agg44 inf44) rfl ?_
   refine l_val wn (r_move rfl) rfl ?_
   have hw1 := hwcl _ (List.mem_of_getElem? hs1)
   refine l_opn (fun _ h => h.one 1 CellX.Ok.loc rfl hs1) ?_
   refine l_callV wn rfl rfl Try.call76 rfl (fun w1 hM => c_all1 s1 _ t (In w1) w1 (fun _ h => h) (hM.pubAt (i := 0) rfl) (hM.slp 3 rfl)) ?_
   refine l_val wn (r_lss rfl rfl) rfl ?_
   refine l_nil (e_go hK8 ?_)
   refine c_cond rfl (fun h2 => ?_) (fun h2 => ?_)
   · refine c_region ?_
     refine l_val wn (r_move rfl) rfl ?_
     refine l_val wn (r_addn rfl rfl (by omega)) rfl ?_
     refine l_val wn (r_assign rfl) rfl ?_
     refine l_nil (e_in_n (e_round2 (((i + j) / 2 ^ 1) + 1) j (sc rfl (sc rfl (sc rfl (sc rfl (sc (ji (by omega)) (sc rfl sn)))))) (fun _ h => (h.sel [1, 2, 3] (by decide) rfl)) ?_ ?_))
     · exact ⟨by omega, by omega, Mn.asc_lt (x := CellX.e s1) has (by rw [List.getElem?_map, hs1]; rfl) h2, hI1.2.2.2⟩
     omega
   refine c_region ?_
   refine l_val wn (r_move rfl) rfl ?_
   refine l_val wn (r_assign rfl) rfl ?_
   refine l_nil (e_in_n (e_round2 i ((i + j) / 2 ^ 1) (sc rfl (sc rfl (sc rfl (sc rfl (sc rfl (sc (ji (by omega)) sn)))))) (fun _ h => (h.sel [1, 2, 3] (by decide) rfl)) ?_ ?_))
   · exact ⟨by omega, by omega, hI1.2.2.1, Mn.asc_ge (x := CellX.e s1) has (by rw [List.getElem?_map, hs1]; rfl) h2⟩
   omega
 refine c_exit (e_then_x (e_loop2_x (e_in_hit (e_go hK4 ?_))))
 refine c_seq fun _ hK9 => ?_
 refine c_region ?_
 refine l_val wn (r_move rfl) rfl ?_
 refine l_val wn (r_move rfl) rfl ?_
 refine l_val wn (r_move rfl) rfl ?_
 refine l_val wn (r_lss rfl rfl) rfl ?_
 refine l_val wn (r_move rfl) rfl ?_
 refine l_case (t := 39) rfl (fun h3 => ?_) (fun h3 => ?_)
 · refine l_val (wg rfl rfl rfl) (r_move rfl) rfl ?_
   refine l_val (wg rfl rfl rfl) (r_move rfl) rfl ?_
   refine l_val (wg rfl rfl rfl) (r_move rfl) rfl ?_
   obtain ⟨ad2, hd2⟩ := hclA (ne_nil (i := i) (by first | omega | (simp <;> omega)))
   refine l_val (wg rfl rfl rfl) (r_ia (i := i) rfl hd2 rfl (by omega) (by first | omega | (simp <;> omega)) Try.underlying28 inf44) rfl ?_
   obtain ⟨s2, hs2⟩ : ∃ x, cl[i]? = some x := ⟨_, List.getElem?_eq_getElem (by first | omega | (simp <;> omega))⟩
   refine l_val (wg rfl rfl rfl) (r_pln 0 [.slice s2.sr.A s2.sr.l.length s2.sr.c, .int .i64 s2.value] rfl rfl hd2 hs2 rfl rfl agg44 inf44) rfl ?_
   refine l_val (wg rfl rfl rfl) (r_move rfl) rfl ?_
   have hw2 := hwcl _ (List.mem_of_getElem? hs2)
   refine l_opn (fun _ h => h.one 1 CellX.Ok.loc rfl hs2) ?_
   refine l_callV (wg rfl rfl rfl) rfl rfl Try.call76 rfl (fun w1 hM => c_all1 s2 _ t (In w1) w1 (fun _ h => h) (hM.pubAt (i := 0) rfl) (hM.slp 3 rfl)) ?_
   refine l_val (wg rfl rfl rfl) (r_eql rfl rfl) rfl ?_
   refine l_val wn (r_pick rfl rfl) rfl ?_
   refine l_val wn (r_assign rfl) rfl ?_
   refine l_val wn (r_assign rfl) rfl ?_
   refine l_nil (e_go hK9 ?_)
   refine c_ret (e_ret2 (.inl rfl) Try.results75 (rv_tmp rfl) (rv_tmp rfl) fun w1 hM => ?_)
   have hp9 : Mn.pos (cl.map CellX.e) t = i := Mn.pos_eq (by simp only [List.length_map]; omega) hI1.2.2.1 (by have : i = j := (by omega); rw [this]; exact hI1.2.2.2)
   have hh9 : Mn.has (cl.map CellX.e) t = decide (Names.compare s2.sr.l t = 0) := Mn.bs_has (x := CellX.e s2) has (by rw [List.getElem?_map, hs2]; rfl) hI1.2.2.1 (by have : j = i := (by omega); exact hI1.2.2.2 i _ (by rw [List.getElem?_map, hs2]; rfl) (by omega))
   exact ret_ok (by rw [hp9, hh9]) hM
 refine l_skip (wg rfl rfl rfl) rfl ?_
 refine l_skip (wg rfl rfl rfl) rfl ?_
 refine l_skip (wg rfl rfl rfl) rfl ?_
 refine l_skip (wg rfl rfl rfl) rfl ?_
 refine l_skip (wg rfl rfl rfl) rfl ?_
 refine l_skip (wg rfl rfl rfl) rfl ?_
 refine l_skip (wg rfl rfl rfl) rfl ?_
 refine l_skip (wg rfl rfl rfl) rfl ?_
 refine l_val wn (r_pick rfl rfl) rfl ?_
 refine l_val wn (r_assign rfl) rfl ?_
 refine l_val wn (r_assign rfl) rfl ?_
 refine l_nil (e_go hK9 ?_)
 refine c_ret (e_ret2 (.inl rfl) Try.results75 (rv_tmp rfl) (rv_tmp rfl) fun w1 hM => ?_)
 have hp9 : Mn.pos (cl.map CellX.e) t = i := Mn.pos_eq (by simp only [List.length_map]; omega) hI1.2.2.1 (by have : i = j := (by omega); rw [this]; exact hI1.2.2.2)
 have hh9 : Mn.has (cl.map CellX.e) t = false := Mn.bs_no (i := i) (by simp only [List.length_map]; omega) hI1.2.2.1
 exact ret_ok (by rw [hp9, hh9]) hM

set_option maxHeartbeats 2000000 in
theorem c_all (wd : ByteArray) (by_v : Value) (by_ : List ByteArray) (lv : Value) (l : List CellX) (P0 : Nat → Prop) (w : World) (hP0 : ∀ b, P0 b → b < w.heap.size) (hby_ : FlatSl P0 1 strE by_v by_ w) (hl : FlatSl P0 2 cellE lv l w) (hla : ∀ x ∈ l, CellX.Ok P0 x w) (hbl : ∀ c ∈ l, -1125899906842624 ≤ c.value ∧ c.value ≤ 1125899906842624) (hsm : ∀ c ∈ l, c.sr.l.length ≤ 1048576) (hll : l.length ≤ 1048576) :
    Calls Try.prog 61 #[.string wd, by_v, lv] w (RetE w P0 (fun z : ValX => .tuple #[.agg (valE z).toArray, .int .i64 (Mn.all wd by_ (l.map CellX.e)).2]) (fun z => z.e = (Mn.all wd by_ (l.map CellX.e)).1) (fun z S => ValX.Ok S z)) := by
 obtain ⟨by_A, by_c, rfl, hby_c, hby_m, hby_A⟩ := hby_.form
 have hwl : ∀ x ∈ l, CellX.Wf x := fun x hx => (hla x hx).wf
 obtain ⟨lA, lc, rfl, hlc, hlm, hlA⟩ := hl.form
 refine fstart (N := 93) (vals := [.string wd, .slice by_A by_.length by_c, .slice lA l.length lc]) (S := Mem w ⟨no, P0⟩ [slP 1 strE (.slice by_A by_.length by_c) by_, slP 2 cellE (.slice lA l.length lc) l, allP CellX.Ok l]) Try.func61 rfl rfl rfl (Mem.ofDatsP hP0 (dc (dlp hby_) (dc (dlp hl) (dc (dp (all_loc CellX.Ok.loc _) hla) dn)))) ?_
 refine c_seq fun _ hK1 => ?_
 refine c_region ?_
 refine l_alloc wn inf77 rfl fun b6 => ?_
 refine l_val wn (r_assign rfl) rfl ?_
 refine l_nil (e_go hK1 ?_)
 refine c_seq fun _ hK2 => ?_
 refine c_region ?_
 refine l_val wn (r_build [.bool true, .int .i64 0, .slice none 0 0] pl77 inf77 rfl rfl) rfl ?_
 refine l_alloc wn inf77 rfl fun b8 => ?_
 refine l_stn 0 wn rfl rfl rfl inf77 rfl rfl rfl ?_
 refine l_nil (e_go hK2 ?_)
 refine c_seq fun _ hK3 => ?_
 refine c_seq fun _ hK4 => ?_
 refine c_region ?_
 refine l_val wn (r_move rfl) rfl ?_
 refine l_val wn (r_len rfl Try.underlying28) rfl ?_
 refine l_val wn (r_move rfl) rfl ?_
 refine l_nil (e_go hK4 ?_)
 refine c_block ?_
 refine c_mem (fun _ h => h.nilRow CellX 44 2 cellE) ?_
 refine c_opn (fun _ h => h.all0 CellX.Ok.loc) ?_
 refine c_loop3 (fun (k : Nat) (cs : List CellX) (ov : Value) => [(0, .string wd), (1, .slice by_A by_.length by_c), (6, .pointer (some ⟨b6, 0, none⟩)), (8, .pointer (some ⟨b8, 0, none⟩)), (17, .slice lA l.length lc), (18, .int .i64 (l.length : Int)), (19, .int .i64 (k : Int))]) (fun (k : Nat) (cs : List CellX) (ov : Value) => [allP CellX.Ok cs, Row ov 44 2 cellE cs, .blk b8 [.bool true, .int .i64 0, ov] 77, .blk b6 [.bool false, .int .i64 0, .slice none 0 0] 77, slP 1 strE (.slice by_A by_.length by_c) by_, slP 2 cellE (.slice lA l.length lc) l, allP CellX.Ok l]) (fun (k : Nat) (cs : List CellX) (ov : Value) => k ≤ l.length ∧ (∀ x ∈ cs, CellX.Wf x) ∧ Mn.allFrom wd by_ [] (l.map CellX.e) = Mn.allFrom wd by_ (cs.map CellX.e) ((l.drop k).map CellX.e) ∧ Mn.Asc (cs.map CellX.e) ∧ Mn.Fit (cs.map CellX.e) ∧ cs.length ≤ k) (fun (k : Nat) (cs : List CellX) (ov : Value) => l.length - k) 0 [] (.slice none 0 0) (sc rfl (sc rfl (sc rfl (sc rfl (sc rfl (sc rfl (sc (ji (by omega)) sn))))))) (fun _ h => h) ?_ (fun k cs ov hI1 => ?_)
 · exact ⟨Nat.zero_le _, fun x hx => (by cases hx), by rw [List.drop_zero]; rfl, List.Pairwise.nil, fun x hx => (by cases hx), Nat.le_refl _⟩
 have hwf := hI1.2.1
 have hasc := hI1.2.2.2.1
 have hfit := hI1.2.2.2.2.1
 have hlen := hI1.2.2.2.2.2
 refine c_open 1 (l := cs) rfl fun A1 cp1 hv1 hc1 hm1 hA1 => ?_
 subst hv1
 refine c_seq fun _ hK5 => ?_
 refine c_region ?_
 refine l_val wn (r_lss rfl rfl) rfl ?_
 refine l_nil (e_go hK5 ?_)
 refine c_seq fun _ hK6 => ?_
 refine c_cond rfl (fun h1 => ?_) (fun h1 => ?_)
 · refine c_skip (e_go hK6 ?_)
   refine c_seq fun _ hK7 => ?_
   refine c_block ?_
   refine c_seq fun _ hK8 => ?_
   refine c_region ?_
   obtain ⟨ad1, hd1⟩ := hlA (ne_nil (i := k) (by first | omega | (simp <;> omega)))
   refine l_val wn (r_ia (i := k) rfl hd1 rfl (by omega) (by first | omega | (simp <;> omega)) Try.underlying28 inf44) rfl ?_
   obtain ⟨s1, hs1⟩ : ∃ x, l[k]? = some x := ⟨_, List.getElem?_eq_getElem (by first | omega | (simp <;> omega))⟩
   have hb_s1 := hbl _ (List.mem_of_getElem? hs1)
   have hs_s1 := hsm _ (List.mem_of_getElem? hs1)
   refine l_val wn (r_pln 5 [.slice s1.sr.A s1.sr.l.length s1.sr.c, .int .i64 s1.value] rfl rfl hd1 hs1 rfl rfl agg44 inf44) rfl ?_
   refine l_alloc wn inf44 rfl fun b10 => ?_
   refine l_stn 0 wn rfl rfl rfl inf44 rfl rfl rfl ?_
   refine l_nil (e_go hK8 ?_)
   refine c_seq fun _ hK9 => ?_
   refine c_region ?_
   refine l_val wn (r_fa rfl fld44_0) rfl ?_
   refine l_val wn (r_lb 0 rfl rfl rfl flat42) rfl ?_
   refine l_val wn (r_move rfl) rfl ?_
   have hw1 := hwl _ (List.mem_of_getElem? hs1)
   refine l_opn (fun _ h => h.one 7 CellX.Ok.loc rfl hs1) ?_
   refine l_opn (fun _ h => h.cellX 0 rfl) ?_
   obtain ⟨hc2, hm2, hA2⟩ := hw1.sr
   refine l_callL (Names.only s1.sr.l by_) wn rfl Try.call74 rfl (fun w1 hM => c_only _ s1.sr.l _ by_ w1 (hM.slp 0 rfl) (hM.slp 7 rfl) (by first | assumption | omega)) fun A2 cp2 hc3 hm3 hA3 => ?_
   refine l_val wn (r_assign rfl) rfl ?_
   refine l_nil (e_go hK9 ?_)
   refine c_seq fun _ hK10 => ?_
   refine c_region ?_
   refine l_val wn (r_fa rfl fld44_1) rfl ?_
   refine l_val wn (r_lb 3 rfl rfl rfl flat3) rfl ?_
   refine l_val wn (r_assign rfl) rfl ?_
   refine l_nil (e_go hK10 ?_)
   refine c_cut [(0, .string wd), (1, .slice by_A by_.length by_c), (6, .pointer (some ⟨b6, 0, none⟩)), (8, .pointer (some ⟨b8, 0, none⟩)), (11, .slice A2 ((Names.only s1.sr.l by_).length) cp2), (12, .int .i64 (if wd = ⟨#[99, 111, 117, 110, 116]⟩ then 1 else s1.value)), (17, .slice lA l.length lc), (18, .int .i64 (l.length : Int)), (19, .int .i64 (k : Int))] (Mem w ⟨no, P0⟩ [Row (.slice A2 ((Names.only s1.sr.l by_).length) cp2) 51 2 labelE (Names.only s1.sr.l by_), slP 2 labelE (.slice s1.sr.A s1.sr.l.length s1.sr.c) s1.sr.l, okP CellX.Ok s1, .blk b10 [.slice s1.sr.A s1.sr.l.length s1.sr.c, .int .i64 s1.value] 44, allP CellX.Ok cs, Row (.slice A1 cs.length cp1) 44 2 cellE cs, .blk b8 [.bool true, .int .i64 0, .slice A1 cs.length cp1] 77, .blk b6 [.bool false, .int .i64 0, .slice none 0 0] 77, slP 1 strE (.slice by_A by_.length by_c) by_, slP 2 cellE (.slice lA l.length lc) l, allP CellX.Ok l]) (fun _ hK11 => ?_) ?_
   · refine c_seq fun _ hK12 => ?_
     refine c_region ?_
     refine l_val wn (r_move rfl) rfl ?_
     refine l_val wn (r_seql rfl rfl) rfl ?_
     refine l_nil (e_go hK12 ?_)
     refine c_cond rfl (fun h2 => ?_) (fun h2 => ?_)
     · refine c_region ?_
       refine l_val wn (r_assign rfl) rfl ?_
       refine l_nil (e_cut hK11 (sc rfl (sc rfl (sc rfl (sc rfl (sc rfl (sc (by first | (simp only [if_pos h2]; done) | (simp only [if_pos h2]; rfl)) (sc rfl (sc rfl (sc rfl sn))))))))) (fun _ h => h))
     refine c_skip (e_cut hK11 (sc rfl (sc rfl (sc rfl (sc rfl (sc rfl (sc (by first | (simp only [if_neg h2]; done) | (simp only [if_neg h2]; rfl)) (sc rfl (sc rfl (sc rfl sn))))))))) (fun _ h => h))
   refine c_seq fun _ hK13 => ?_
   refine c_region ?_
   have hux : -1125899906842624 ≤ (if wd = ⟨#[99, 111, 117, 110, 116]⟩ then 1 else s1.value) ∧ (if wd = ⟨#[99, 111, 117, 110, 116]⟩ then 1 else s1.value) ≤ 1125899906842624 := Mn.unit_rng (w := wd) hb_s1
   refine l_val wn (r_fa rfl fld77_2) rfl ?_
   refine l_val wn (r_lb 6 rfl rfl rfl flat28) rfl ?_
   refine l_val wn (r_move rfl) rfl ?_
   refine l_callF wn rfl Try.call75 rfl (fun w1 hM => c_bsC _ cs _ (Names.only s1.sr.l by_) (In w1) w1 (fun _ h => h) (RowSl encCellX hM 5 rfl) (hM.pubAt (i := 4) rfl) (RowSl encLabel hM 0 rfl) hasc (by omega)) ?_
   refine l_val wn (r_move rfl) rfl ?_
   refine l_val wn (r_extract rfl rfl) rfl ?_
   refine l_val wn (r_extract rfl rfl) rfl ?_
   refine l_val wn (r_assign rfl) rfl ?_
   refine l_val wn (r_assign rfl) rfl ?_
   refine l_nil (e_go hK13 ?_)
   refine c_seq fun _ hK14 => ?_
   refine c_seq fun _ hK15 => ?_
   refine c_region ?_
   refine l_val wn (r_move rfl) rfl ?_
   refine l_val wn (r_notb rfl) rfl ?_
   refine l_nil (e_go hK15 ?_)
   refine c_condb rfl (fun h3 => ?_) (fun h3 => ?_)
   · have hhas : Mn.has (cs.map CellX.e) (Names.only s1.sr.l by_) = false := by simpa using h3
     refine c_seq fun _ hK16 => ?_
     refine c_region ?_
     refine l_val wn (r_fa rfl fld77_2) rfl ?_
     refine l_val wn (r_lb 6 rfl rfl rfl flat28) rfl ?_
     refine l_val wn (r_move rfl) rfl ?_
     refine l_val wn (r_move rfl) rfl ?_
     refine l_val wn (r_move rfl) rfl ?_
     refine l_val wn (r_build [.slice A2 ((Names.only s1.sr.l by_).length) cp2, .int .i64 (if wd = ⟨#[99, 111, 117, 110, 116]⟩ then 1 else s1.value)] pl44 inf44 rfl rfl) rfl ?_
     refine l_bsL cellE ([(CellX.mk ⟨A2, cp2, (Names.only s1.sr.l by_)⟩ (if wd = ⟨#[99, 111, 117, 110, 116]⟩ then 1 else s1.value))] : List CellX) wn Try.underlying28 inf44 rfl rfl rfl rfl (by decide) (by decide) rfl fun b46 => ?_
     refine l_seal 1 encLabel rfl rfl ?_
     refine l_give (α := Value) [Row (.slice A1 cs.length cp1) 44 2 cellE cs, Row (.slice (some ⟨b46, 0, none⟩) 1 1) 44 2 cellE ([(CellX.mk ⟨A2, cp2, (Names.only s1.sr.l by_)⟩ (if wd = ⟨#[99, 111, 117, 110, 116]⟩ then 1 else s1.value))] : List CellX)] [slP 2 labelE (.slice A2 ((Names.only s1.sr.l by_).length) cp2) (Names.only s1.sr.l by_), slP 2 labelE (.slice s1.sr.A s1.sr.l.length s1.sr.c) s1.sr.l, okP CellX.Ok s1, .blk b10 [.slice s1.sr.A s1.sr.l.length s1.sr.c, .int .i64 s1.value] 44, allP CellX.Ok cs, .blk b8 [.bool true, .int .i64 0, .slice A1 cs.length cp1] 77, .blk b6 [.bool false, .int .i64 0, .slice none 0 0] 77, slP 1 strE (.slice by_A by_.length by_c) by_, slP 2 cellE (.slice lA l.length lc) l, allP CellX.Ok l] (fun z => z) (fun z1 => True) (fun z1 => [Row z1 44 2 cellE (cs.take (Mn.pos (cs.map CellX.e) (Names.only s1.sr.l by_)) ++ (CellX.mk ⟨A2, cp2, (Names.only s1.sr.l by_)⟩ (if wd = ⟨#[99, 111, 117, 110, 116]⟩ then 1 else s1.value)) :: cs.drop (Mn.pos (cs.map CellX.e) (Names.only s1.sr.l by_)))]) (fun z1 => [Row z1 44 2 cellE (cs.take (Mn.pos (cs.map CellX.e) (Names.only s1.sr.l by_)) ++ (CellX.mk ⟨A2, cp2, (Names.only s1.sr.l by_)⟩ (if wd = ⟨#[99, 111, 117, 110, 116]⟩ then 1 else s1.value)) :: cs.drop (Mn.pos (cs.map CellX.e) (Names.only s1.sr.l by_))), slP 2 labelE (.slice A2 ((Names.only s1.sr.l by_).length) cp2) (Names.only s1.sr.l by_), slP 2 labelE (.slice s1.sr.A s1.sr.l.length s1.sr.c) s1.sr.l, okP CellX.Ok s1, .blk b10 [.slice s1.sr.A s1.sr.l.length s1.sr.c, .int .i64 s1.value] 44, allP CellX.Ok cs, .blk b8 [.bool true, .int .i64 0, .slice A1 cs.length cp1] 77, .blk b6 [.bool false, .int .i64 0, .slice none 0 0] 77, slP 1 strE (.slice by_A by_.length by_c) by_, slP 2 cellE (.slice lA l.length lc) l, allP CellX.Ok l]) (fun _ => rfl) (fun _ h => h.sel [6, 0, 1, 2, 3, 4, 5, 7, 8, 9, 10, 11] (by decide) rfl) (fun _ => rfl) wn rfl rfl Try.call77 rfl (fun w1 Pb hG => c_insertC _ _ cs (CellX.mk ⟨A2, cp2, (Names.only s1.sr.l by_)⟩ (if wd = ⟨#[99, 111, 117, 110, 116]⟩ then 1 else s1.value)) (Mn.pos (cs.map CellX.e) (Names.only s1.sr.l by_)) Pb w1 hG Mn.pos_le' (by omega)) fun z1 hz1 => ?_
     refine l_open 0 (l := (cs.take (Mn.pos (cs.map CellX.e) (Names.only s1.sr.l by_)) ++ (CellX.mk ⟨A2, cp2, (Names.only s1.sr.l by_)⟩ (if wd = ⟨#[99, 111, 117, 110, 116]⟩ then 1 else s1.value)) :: cs.drop (Mn.pos (cs.map CellX.e) (Names.only s1.sr.l by_)))) rfl fun A3 cp3 hv2 hc4 hm4 hA4 => ?_
     subst hv2
     refine l_opn (fun _ h => h.allIns (l' := (cs.take (Mn.pos (cs.map CellX.e) (Names.only s1.sr.l by_)) ++ (CellX.mk ⟨A2, cp2, (Names.only s1.sr.l by_)⟩ (if wd = ⟨#[99, 111, 117, 110, 116]⟩ then 1 else s1.value)) :: cs.drop (Mn.pos (cs.map CellX.e) (Names.only s1.sr.l by_)))) 5 1 rfl rfl ins_of) ?_
     have hw2 : ∀ y ∈ (cs.take (Mn.pos (cs.map CellX.e) (Names.only s1.sr.l by_)) ++ (CellX.mk ⟨A2, cp2, (Names.only s1.sr.l by_)⟩ (if wd = ⟨#[99, 111, 117, 110, 116]⟩ then 1 else s1.value)) :: cs.drop (Mn.pos (cs.map CellX.e) (Names.only s1.sr.l by_))), CellX.Wf y := fun y hy => (ins_of y hy).elim (hwf y) fun e => ⟨by rw [e]; exact (show Ex.Wf ⟨A2, cp2, (Names.only s1.sr.l by_)⟩ from ⟨by omega, by omega, hA3⟩)⟩
     refine l_val wn (r_fa rfl fld77_2) rfl ?_
     refine l_st1 7 wn rfl rfl rfl rfl inf28 rfl rfl ?_
     refine l_nil (e_go hK16 ?_)
     refine c_exit (e_then_x (e_in_hit (e_go hK7 ?_)))
     refine c_region ?_
     refine l_val wn (r_addn rfl rfl (by omega)) rfl ?_
     refine l_val wn (r_move rfl) rfl ?_
     refine l_nil (e_round3 (k + 1) (cs.take (Mn.pos (cs.map CellX.e) (Names.only s1.sr.l by_)) ++ (CellX.mk ⟨A2, cp2, (Names.only s1.sr.l by_)⟩ (if wd = ⟨#[99, 111, 117, 110, 116]⟩ then 1 else s1.value)) :: cs.drop (Mn.pos (cs.map CellX.e) (Names.only s1.sr.l by_))) (.slice A3 ((cs.take (Mn.pos (cs.map CellX.e) (Names.only s1.sr.l by_)) ++ (CellX.mk ⟨A2, cp2, (Names.only s1.sr.l by_)⟩ (if wd = ⟨#[99, 111, 117, 110, 116]⟩ then 1 else s1.value)) :: cs.drop (Mn.pos (cs.map CellX.e) (Names.only s1.sr.l by_))).length) cp3) (sc rfl (sc rfl (sc rfl (sc rfl (sc rfl (sc rfl (sc (ji (by omega)) sn))))))) (fun _ h => (h.sel [0, 1, 7, 8, 9, 10, 11] (by decide) rfl)) ?_ ?_)
     · obtain ⟨g1, g2, g3⟩ := Mn.all_ins (w := wd) (by_ := by_) (s := Names.only s1.sr.l by_) (c := CellX.e s1) (r := (l.drop (k + 1)).map CellX.e) (x := (if wd = ⟨#[99, 111, 117, 110, 116]⟩ then 1 else s1.value)) (z := (CellX.mk ⟨A2, cp2, (Names.only s1.sr.l by_)⟩ (if wd = ⟨#[99, 111, 117, 110, 116]⟩ then 1 else s1.value))) rfl rfl rfl hhas hfit hb_s1
       exact ⟨by omega, hw2, by rw [hI1.2.2.1, Mn.drop_map hs1, g3, ← g1], by rw [g1]; exact Mn.put_asc hasc, by rw [g1]; exact g2, by rw [ins_len Mn.pos_le']; omega⟩
     omega
   have hhas : Mn.has (cs.map CellX.e) (Names.only s1.sr.l by_) = true := by simpa using h3
   have hpl := Mn.pos_lt hasc hhas
   refine c_skip (e_go hK14 ?_)
   refine c_seq fun _ hK17 => ?_
   refine c_region ?_
   refine l_val wn (r_fa rfl fld77_2) rfl ?_
   refine l_val wn (r_lb 6 rfl rfl rfl flat28) rfl ?_
   refine l_val wn (r_move rfl) rfl ?_
   obtain ⟨ad2, hd2⟩ := hA1 (ne_nil (i := (Mn.pos (cs.map CellX.e) (Names.only s1.sr.l by_))) (by first | omega | (simp <;> omega)))
   refine l_val wn (r_ia (i := (Mn.pos (cs.map CellX.e) (Names.only s1.sr.l by_))) rfl hd2 rfl (by omega) (by first | omega | (simp <;> omega)) Try.underlying28 inf44) rfl ?_
   refine l_val wn (r_assign rfl) rfl ?_
   refine l_nil (e_go hK17 ?_)
   refine c_seq fun _ hK18 => ?_
   refine c_seq fun _ hK19 => ?_
   refine c_region ?_
   refine l_val wn (r_move rfl) rfl ?_
   refine l_nil (e_go hK19 ?_)
   refine c_block ?_
   refine c_seq fun _ hK20 => ?_
   refine c_region ?_
   refine l_val wn (r_seql rfl rfl) rfl ?_
   refine l_val wn (r_assign rfl) rfl ?_
   refine l_nil (e_go hK20 ?_)
   refine c_cond rfl (fun h4 => ?_) (fun h4 => ?_)
   · refine c_region ?_
     refine l_val wn (r_move rfl) rfl ?_
     refine l_val wn (r_move rfl) rfl ?_
     refine l_val wn (r_nilCheck rfl) rfl ?_
     refine l_val wn (r_fe rfl fld44_1) rfl ?_
     obtain ⟨s2, hs2⟩ : ∃ x, cs[(Mn.pos (cs.map CellX.e) (Names.only s1.sr.l by_))]? = some x := ⟨_, List.getElem?_eq_getElem (by first | omega | (simp <;> omega))⟩
     have hb_s2 := Mn.Fit.at_ hfit hs2
     refine l_val wn (r_rl 5 encCellX rfl rfl hd2 hs2 rfl flat3) rfl ?_
     refine l_val wn (r_move rfl) rfl ?_
     refine l_val wn (r_max rfl rfl) rfl ?_
     refine l_val wn (r_nilCheck rfl) rfl ?_
     refine l_val wn (r_fe rfl fld44_1) rfl ?_
     refine l_rst 5 (vs := [.int .i64 (if s2.value < (if wd = ⟨#[99, 111, 117, 110, 116]⟩ then 1 else s1.value) then (if wd = ⟨#[99, 111, 117, 110, 116]⟩ then 1 else s1.value) else s2.value)]) (CellX.mk ⟨s2.sr.A, s2.sr.c, s2.sr.l⟩ (if s2.value < (if wd = ⟨#[99, 111, 117, 110, 116]⟩ then 1 else s1.value) then (if wd = ⟨#[99, 111, 117, 110, 116]⟩ then 1 else s1.value) else s2.value)) encCellX wn rfl rfl rfl rfl hd2 hs2 inf3 rfl rfl rfl rfl ?_
     refine l_opn (fun _ h => h.allOf (l' := (cs.set (Mn.pos (cs.map CellX.e) (Names.only s1.sr.l by_)) (CellX.mk ⟨s2.sr.A, s2.sr.c, s2.sr.l⟩ (if s2.value < (if wd = ⟨#[99, 111, 117, 110, 116]⟩ then 1 else s1.value) then (if wd = ⟨#[99, 111, 117, 110, 116]⟩ then 1 else s1.value) else s2.value)))) 4 rfl (set_of hs2 rfl)) ?_
     have hw3 : ∀ x ∈ (cs.set (Mn.pos (cs.map CellX.e) (Names.only s1.sr.l by_)) (CellX.mk ⟨s2.sr.A, s2.sr.c, s2.sr.l⟩ (if s2.value < (if wd = ⟨#[99, 111, 117, 110, 116]⟩ then 1 else s1.value) then (if wd = ⟨#[99, 111, 117, 110, 116]⟩ then 1 else s1.value) else s2.value))), CellX.Wf x := fun x hx => by obtain ⟨y, hy, e⟩ := set_of (z := (CellX.mk ⟨s2.sr.A, s2.sr.c, s2.sr.l⟩ (if s2.value < (if wd = ⟨#[99, 111, 117, 110, 116]⟩ then 1 else s1.value) then (if wd = ⟨#[99, 111, 117, 110, 116]⟩ then 1 else s1.value) else s2.value))) hs2 rfl x hx; exact ⟨by rw [e]; exact (hwf y hy).sr⟩
     refine l_nil (e_in_n (e_go hK18 ?_))
     refine c_seq fun _ hK21 => ?_
     refine c_region ?_
     refine l_val wn (r_move rfl) rfl ?_
     refine l_val wn (r_nilCheck rfl) rfl ?_
     refine l_val wn (r_fe rfl fld44_1) rfl ?_
     refine l_val wn (r_rl 6 encCellX rfl rfl hd2 (set_at hs2) rfl flat3) rfl ?_
     refine l_callF wn rfl Try.call78 rfl (fun w1 hM => c_fits ((CellX.mk ⟨s2.sr.A, s2.sr.c, s2.sr.l⟩ (if s2.value < (if wd = ⟨#[99, 111, 117, 110, 116]⟩ then 1 else s1.value) then (if wd = ⟨#[99, 111, 117, 110, 116]⟩ then 1 else s1.value) else s2.value)).value) w1) ?_
     refine l_val wn (r_notb rfl) rfl ?_
     refine l_nil (e_go hK21 ?_)
     refine c_condb rfl (fun h5 => ?_) (fun h5 => ?_)
     · refine c_seq fun _ hK22 => ?_
       refine c_region ?_
       refine l_val wn (r_build [.bool false, .int .i64 0, .slice none 0 0] pl77 inf77 rfl rfl) rfl ?_
       refine l_stn 8 wn rfl rfl rfl inf77 rfl rfl rfl ?_
       refine l_val wn (r_assign rfl) rfl ?_
       refine l_nil (e_go hK22 ?_)
       refine c_ret (e_in_r (e_then_r (e_loop3_r (e_in_r (e_then_r (e_ret2 (.inl rfl) Try.results61 (rv_cell 8 rfl rfl agg77 inf77 rfl) (rv_tmp rfl) fun w1 hM => ?_))))))
       obtain ⟨g1, _, g2⟩ := Mn.all_set (w := wd) (by_ := by_) (s := Names.only s1.sr.l by_) (c := CellX.e s1) (r := (l.drop (k + 1)).map CellX.e) (x := (if wd = ⟨#[99, 111, 117, 110, 116]⟩ then 1 else s1.value)) (z := (CellX.mk ⟨s2.sr.A, s2.sr.c, s2.sr.l⟩ (if s2.value < (if wd = ⟨#[99, 111, 117, 110, 116]⟩ then 1 else s1.value) then (if wd = ⟨#[99, 111, 117, 110, 116]⟩ then 1 else s1.value) else s2.value))) rfl rfl hasc hhas hfit hs2 rfl (by show _ = Mn.comb wd s2.value (if wd = ⟨#[99, 111, 117, 110, 116]⟩ then 1 else s1.value); unfold Mn.comb; grind)
       have hb9 : Mn.all wd by_ (l.map CellX.e) = (Mn.zero, 3) := by rw [Mn.all, hI1.2.2.1, Mn.drop_map hs1, g2 (by simpa using h5)]
       exact hM.retE (⟨false, 0, ⟨none, 0, []⟩⟩ : ValX) (by first | (rw [hb9]; done) | (rw [hb9]; rfl)) (by first | (rw [hb9]; done) | (rw [hb9]; rfl)) fun Pb pp => ⟨FlatSl.nil_ _ _ _ _, fun c hc => by cases hc⟩
     refine c_skip (e_in_n (e_go hK7 ?_))
     refine c_region ?_
     refine l_val wn (r_addn rfl rfl (by omega)) rfl ?_
     refine l_val wn (r_move rfl) rfl ?_
     refine l_nil (e_round3 (k + 1) (cs.set (Mn.pos (cs.map CellX.e) (Names.only s1.sr.l by_)) (CellX.mk ⟨s2.sr.A, s2.sr.c, s2.sr.l⟩ (if s2.value < (if wd = ⟨#[99, 111, 117, 110, 116]⟩ then 1 else s1.value) then (if wd = ⟨#[99, 111, 117, 110, 116]⟩ then 1 else s1.value) else s2.value))) (.slice A1 cs.length cp1) (sc rfl (sc rfl (sc rfl (sc rfl (sc rfl (sc rfl (sc (ji (by omega)) sn))))))) (fun _ h => (h.sel [0, 6, 7, 8, 9, 10, 11] (by decide) rfl)) ?_ ?_)
     · obtain ⟨g1, g2, _⟩ := Mn.all_set (w := wd) (by_ := by_) (s := Names.only s1.sr.l by_) (c := CellX.e s1) (r := (l.drop (k + 1)).map CellX.e) (x := (if wd = ⟨#[99, 111, 117, 110, 116]⟩ then 1 else s1.value)) (z := (CellX.mk ⟨s2.sr.A, s2.sr.c, s2.sr.l⟩ (if s2.value < (if wd = ⟨#[99, 111, 117, 110, 116]⟩ then 1 else s1.value) then (if wd = ⟨#[99, 111, 117, 110, 116]⟩ then 1 else s1.value) else s2.value))) rfl rfl hasc hhas hfit hs2 rfl (by show _ = Mn.comb wd s2.value (if wd = ⟨#[99, 111, 117, 110, 116]⟩ then 1 else s1.value); unfold Mn.comb; grind)
       obtain ⟨g3, g4⟩ := g2 (by simpa using h5)
       exact ⟨by omega, hw3, by rw [hI1.2.2.1, Mn.drop_map hs1, g4, ← g1], by rw [g1]; exact Mn.put_asc hasc, by rw [g1]; exact g3, by rw [List.length_set]; omega⟩
     omega
   refine c_seq fun _ hK23 => ?_
   refine c_region ?_
   refine l_val wn (r_seql rfl rfl) rfl ?_
   refine l_val wn (r_assign rfl) rfl ?_
   refine l_nil (e_go hK23 ?_)
   refine c_cond rfl (fun h6 => ?_) (fun h6 => ?_)
   · refine c_region ?_
     refine l_val wn (r_move rfl) rfl ?_
     refine l_val wn (r_move rfl) rfl ?_
     refine l_val wn (r_nilCheck rfl) rfl ?_
     refine l_val wn (r_fe rfl fld44_1) rfl ?_
     obtain ⟨s3, hs3⟩ : ∃ x, cs[(Mn.pos (cs.map CellX.e) (Names.only s1.sr.l by_))]? = some x := ⟨_, List.getElem?_eq_getElem (by first | omega | (simp <;> omega))⟩
     have hb_s3 := Mn.Fit.at_ hfit hs3
     refine l_val wn (r_rl 5 encCellX rfl rfl hd2 hs3 rfl flat3) rfl ?_
     refine l_val wn (r_move rfl) rfl ?_
     refine l_val wn (r_min rfl rfl) rfl ?_
     refine l_val wn (r_nilCheck rfl) rfl ?_
     refine l_val wn (r_fe rfl fld44_1) rfl ?_
     refine l_rst 5 (vs := [.int .i64 (if (if wd = ⟨#[99, 111, 117, 110, 116]⟩ then 1 else s1.value) < s3.value then (if wd = ⟨#[99, 111, 117, 110, 116]⟩ then 1 else s1.value) else s3.value)]) (CellX.mk ⟨s3.sr.A, s3.sr.c, s3.sr.l⟩ (if (if wd = ⟨#[99, 111, 117, 110, 116]⟩ then 1 else s1.value) < s3.value then (if wd = ⟨#[99, 111, 117, 110, 116]⟩ then 1 else s1.value) else s3.value)) encCellX wn rfl rfl rfl rfl hd2 hs3 inf3 rfl rfl rfl rfl ?_
     refine l_opn (fun _ h => h.allOf (l' := (cs.set (Mn.pos (cs.map CellX.e) (Names.only s1.sr.l by_)) (CellX.mk ⟨s3.sr.A, s3.sr.c, s3.sr.l⟩ (if (if wd = ⟨#[99, 111, 117, 110, 116]⟩ then 1 else s1.value) < s3.value then (if wd = ⟨#[99, 111, 117, 110, 116]⟩ then 1 else s1.value) else s3.value)))) 4 rfl (set_of hs3 rfl)) ?_
     have hw4 : ∀ x ∈ (cs.set (Mn.pos (cs.map CellX.e) (Names.only s1.sr.l by_)) (CellX.mk ⟨s3.sr.A, s3.sr.c, s3.sr.l⟩ (if (if wd = ⟨#[99, 111, 117, 110, 116]⟩ then 1 else s1.value) < s3.value then (if wd = ⟨#[99, 111, 117, 110, 116]⟩ then 1 else s1.value) else s3.value))), CellX.Wf x := fun x hx => by obtain ⟨y, hy, e⟩ := set_of (z := (CellX.mk ⟨s3.sr.A, s3.sr.c, s3.sr.l⟩ (if (if wd = ⟨#[99, 111, 117, 110, 116]⟩ then 1 else s1.value) < s3.value then (if wd = ⟨#[99, 111, 117, 110, 116]⟩ then 1 else s1.value) else s3.value))) hs3 rfl x hx; exact ⟨by rw [e]; exact (hwf y hy).sr⟩
     refine l_nil (e_in_n (e_go hK18 ?_))
     refine c_seq fun _ hK24 => ?_
     refine c_region ?_
     refine l_val wn (r_move rfl) rfl ?_
     refine l_val wn (r_nilCheck rfl) rfl ?_
     refine l_val wn (r_fe rfl fld44_1) rfl ?_
     refine l_val wn (r_rl 6 encCellX rfl rfl hd2 (set_at hs3) rfl flat3) rfl ?_
     refine l_callF wn rfl Try.call78 rfl (fun w1 hM => c_fits ((CellX.mk ⟨s3.sr.A, s3.sr.c, s3.sr.l⟩ (if (if wd = ⟨#[99, 111, 117, 110, 116]⟩ then 1 else s1.value) < s3.value then (if wd = ⟨#[99, 111, 117, 110, 116]⟩ then 1 else s1.value) else s3.value)).value) w1) ?_
     refine l_val wn (r_notb rfl) rfl ?_
     refine l_nil (e_go hK24 ?_)
     refine c_condb rfl (fun h7 => ?_) (fun h7 => ?_)
     · refine c_seq fun _ hK25 => ?_
       refine c_region ?_
       refine l_val wn (r_build [.bool false, .int .i64 0, .slice none 0 0] pl77 inf77 rfl rfl) rfl ?_
       refine l_stn 8 wn rfl rfl rfl inf77 rfl rfl rfl ?_
       refine l_val wn (r_assign rfl) rfl ?_
       refine l_nil (e_go hK25 ?_)
       refine c_ret (e_in_r (e_then_r (e_loop3_r (e_in_r (e_then_r (e_ret2 (.inl rfl) Try.results61 (rv_cell 8 rfl rfl agg77 inf77 rfl) (rv_tmp rfl) fun w1 hM => ?_))))))
       obtain ⟨g1, _, g2⟩ := Mn.all_set (w := wd) (by_ := by_) (s := Names.only s1.sr.l by_) (c := CellX.e s1) (r := (l.drop (k + 1)).map CellX.e) (x := (if wd = ⟨#[99, 111, 117, 110, 116]⟩ then 1 else s1.value)) (z := (CellX.mk ⟨s3.sr.A, s3.sr.c, s3.sr.l⟩ (if (if wd = ⟨#[99, 111, 117, 110, 116]⟩ then 1 else s1.value) < s3.value then (if wd = ⟨#[99, 111, 117, 110, 116]⟩ then 1 else s1.value) else s3.value))) rfl rfl hasc hhas hfit hs3 rfl (by show _ = Mn.comb wd s3.value (if wd = ⟨#[99, 111, 117, 110, 116]⟩ then 1 else s1.value); unfold Mn.comb; grind)
       have hb9 : Mn.all wd by_ (l.map CellX.e) = (Mn.zero, 3) := by rw [Mn.all, hI1.2.2.1, Mn.drop_map hs1, g2 (by simpa using h7)]
       exact hM.retE (⟨false, 0, ⟨none, 0, []⟩⟩ : ValX) (by first | (rw [hb9]; done) | (rw [hb9]; rfl)) (by first | (rw [hb9]; done) | (rw [hb9]; rfl)) fun Pb pp => ⟨FlatSl.nil_ _ _ _ _, fun c hc => by cases hc⟩
     refine c_skip (e_in_n (e_go hK7 ?_))
     refine c_region ?_
     refine l_val wn (r_addn rfl rfl (by omega)) rfl ?_
     refine l_val wn (r_move rfl) rfl ?_
     refine l_nil (e_round3 (k + 1) (cs.set (Mn.pos (cs.map CellX.e) (Names.only s1.sr.l by_)) (CellX.mk ⟨s3.sr.A, s3.sr.c, s3.sr.l⟩ (if (if wd = ⟨#[99, 111, 117, 110, 116]⟩ then 1 else s1.value) < s3.value then (if wd = ⟨#[99, 111, 117, 110, 116]⟩ then 1 else s1.value) else s3.value))) (.slice A1 cs.length cp1) (sc rfl (sc rfl (sc rfl (sc rfl (sc rfl (sc rfl (sc (ji (by omega)) sn))))))) (fun _ h => (h.sel [0, 6, 7, 8, 9, 10, 11] (by decide) rfl)) ?_ ?_)
     · obtain ⟨g1, g2, _⟩ := Mn.all_set (w := wd) (by_ := by_) (s := Names.only s1.sr.l by_) (c := CellX.e s1) (r := (l.drop (k + 1)).map CellX.e) (x := (if wd = ⟨#[99, 111, 117, 110, 116]⟩ then 1 else s1.value)) (z := (CellX.mk ⟨s3.sr.A, s3.sr.c, s3.sr.l⟩ (if (if wd = ⟨#[99, 111, 117, 110, 116]⟩ then 1 else s1.value) < s3.value then (if wd = ⟨#[99, 111, 117, 110, 116]⟩ then 1 else s1.value) else s3.value))) rfl rfl hasc hhas hfit hs3 rfl (by show _ = Mn.comb wd s3.value (if wd = ⟨#[99, 111, 117, 110, 116]⟩ then 1 else s1.value); unfold Mn.comb; grind)
       obtain ⟨g3, g4⟩ := g2 (by simpa using h7)
       exact ⟨by omega, hw4, by rw [hI1.2.2.1, Mn.drop_map hs1, g4, ← g1], by rw [g1]; exact Mn.put_asc hasc, by rw [g1]; exact g3, by rw [List.length_set]; omega⟩
     omega
   refine c_region ?_
   refine l_val wn (r_move rfl) rfl ?_
   refine l_val wn (r_nilCheck rfl) rfl ?_
   refine l_val wn (r_fe rfl fld44_1) rfl ?_
   obtain ⟨s4, hs4⟩ : ∃ x, cs[(Mn.pos (cs.map CellX.e) (Names.only s1.sr.l by_))]? = some x := ⟨_, List.getElem?_eq_getElem (by first | omega | (simp <;> omega))⟩
   have hb_s4 := Mn.Fit.at_ hfit hs4
   refine l_val wn (r_rl 5 encCellX rfl rfl hd2 hs4 rfl flat3) rfl ?_
   refine l_val wn (r_move rfl) rfl ?_
   refine l_val wn (r_addn rfl rfl (by omega)) rfl ?_
   refine l_val wn (r_nilCheck rfl) rfl ?_
   refine l_val wn (r_fe rfl fld44_1) rfl ?_
   refine l_rst 5 (vs := [.int .i64 (s4.value + (if wd = ⟨#[99, 111, 117, 110, 116]⟩ then 1 else s1.value))]) (CellX.mk ⟨s4.sr.A, s4.sr.c, s4.sr.l⟩ (s4.value + (if wd = ⟨#[99, 111, 117, 110, 116]⟩ then 1 else s1.value))) encCellX wn rfl rfl rfl rfl hd2 hs4 inf3 rfl rfl rfl rfl ?_
   refine l_opn (fun _ h => h.allOf (l' := (cs.set (Mn.pos (cs.map CellX.e) (Names.only s1.sr.l by_)) (CellX.mk ⟨s4.sr.A, s4.sr.c, s4.sr.l⟩ (s4.value + (if wd = ⟨#[99, 111, 117, 110, 116]⟩ then 1 else s1.value))))) 4 rfl (set_of hs4 rfl)) ?_
   have hw5 : ∀ x ∈ (cs.set (Mn.pos (cs.map CellX.e) (Names.only s1.sr.l by_)) (CellX.mk ⟨s4.sr.A, s4.sr.c, s4.sr.l⟩ (s4.value + (if wd = ⟨#[99, 111, 117, 110, 116]⟩ then 1 else s1.value)))), CellX.Wf x := fun x hx => by obtain ⟨y, hy, e⟩ := set_of (z := (CellX.mk ⟨s4.sr.A, s4.sr.c, s4.sr.l⟩ (s4.value + (if wd = ⟨#[99, 111, 117, 110, 116]⟩ then 1 else s1.value)))) hs4 rfl x hx; exact ⟨by rw [e]; exact (hwf y hy).sr⟩
   refine l_nil (e_in_n (e_go hK18 ?_))
   refine c_seq fun _ hK26 => ?_
   refine c_region ?_
   refine l_val wn (r_move rfl) rfl ?_
   refine l_val wn (r_nilCheck rfl) rfl ?_
   refine l_val wn (r_fe rfl fld44_1) rfl ?_
   refine l_val wn (r_rl 6 encCellX rfl rfl hd2 (set_at hs4) rfl flat3) rfl ?_
   refine l_callF wn rfl Try.call78 rfl (fun w1 hM => c_fits ((CellX.mk ⟨s4.sr.A, s4.sr.c, s4.sr.l⟩ (s4.value + (if wd = ⟨#[99, 111, 117, 110, 116]⟩ then 1 else s1.value))).value) w1) ?_
   refine l_val wn (r_notb rfl) rfl ?_
   refine l_nil (e_go hK26 ?_)
   refine c_condb rfl (fun h8 => ?_) (fun h8 => ?_)
   · refine c_seq fun _ hK27 => ?_
     refine c_region ?_
     refine l_val wn (r_build [.bool false, .int .i64 0, .slice none 0 0] pl77 inf77 rfl rfl) rfl ?_
     refine l_stn 8 wn rfl rfl rfl inf77 rfl rfl rfl ?_
     refine l_val wn (r_assign rfl) rfl ?_
     refine l_nil (e_go hK27 ?_)
     refine c_ret (e_in_r (e_then_r (e_loop3_r (e_in_r (e_then_r (e_ret2 (.inl rfl) Try.results61 (rv_cell 8 rfl rfl agg77 inf77 rfl) (rv_tmp rfl) fun w1 hM => ?_))))))
     obtain ⟨g1, _, g2⟩ := Mn.all_set (w := wd) (by_ := by_) (s := Names.only s1.sr.l by_) (c := CellX.e s1) (r := (l.drop (k + 1)).map CellX.e) (x := (if wd = ⟨#[99, 111, 117, 110, 116]⟩ then 1 else s1.value)) (z := (CellX.mk ⟨s4.sr.A, s4.sr.c, s4.sr.l⟩ (s4.value + (if wd = ⟨#[99, 111, 117, 110, 116]⟩ then 1 else s1.value)))) rfl rfl hasc hhas hfit hs4 rfl (by show _ = Mn.comb wd s4.value (if wd = ⟨#[99, 111, 117, 110, 116]⟩ then 1 else s1.value); unfold Mn.comb; grind)
     have hb9 : Mn.all wd by_ (l.map CellX.e) = (Mn.zero, 3) := by rw [Mn.all, hI1.2.2.1, Mn.drop_map hs1, g2 (by simpa using h8)]
     exact hM.retE (⟨false, 0, ⟨none, 0, []⟩⟩ : ValX) (by first | (rw [hb9]; done) | (rw [hb9]; rfl)) (by first | (rw [hb9]; done) | (rw [hb9]; rfl)) fun Pb pp => ⟨FlatSl.nil_ _ _ _ _, fun c hc => by cases hc⟩
   refine c_skip (e_in_n (e_go hK7 ?_))
   refine c_region ?_
   refine l_val wn (r_addn rfl rfl (by omega)) rfl ?_
   refine l_val wn (r_move rfl) rfl ?_
   refine l_nil (e_round3 (k + 1) (cs.set (Mn.pos (cs.map CellX.e) (Names.only s1.sr.l by_)) (CellX.mk ⟨s4.sr.A, s4.sr.c, s4.sr.l⟩ (s4.value + (if wd = ⟨#[99, 111, 117, 110, 116]⟩ then 1 else s1.value)))) (.slice A1 cs.length cp1) (sc rfl (sc rfl (sc rfl (sc rfl (sc rfl (sc rfl (sc (ji (by omega)) sn))))))) (fun _ h => (h.sel [0, 6, 7, 8, 9, 10, 11] (by decide) rfl)) ?_ ?_)
   · obtain ⟨g1, g2, _⟩ := Mn.all_set (w := wd) (by_ := by_) (s := Names.only s1.sr.l by_) (c := CellX.e s1) (r := (l.drop (k + 1)).map CellX.e) (x := (if wd = ⟨#[99, 111, 117, 110, 116]⟩ then 1 else s1.value)) (z := (CellX.mk ⟨s4.sr.A, s4.sr.c, s4.sr.l⟩ (s4.value + (if wd = ⟨#[99, 111, 117, 110, 116]⟩ then 1 else s1.value)))) rfl rfl hasc hhas hfit hs4 rfl (by show _ = Mn.comb wd s4.value (if wd = ⟨#[99, 111, 117, 110, 116]⟩ then 1 else s1.value); unfold Mn.comb; grind)
     obtain ⟨g3, g4⟩ := g2 (by simpa using h8)
     exact ⟨by omega, hw5, by rw [hI1.2.2.1, Mn.drop_map hs1, g4, ← g1], by rw [g1]; exact Mn.put_asc hasc, by rw [g1]; exact g3, by rw [List.length_set]; omega⟩
   omega
 refine c_exit (e_then_x (e_loop3_x (e_in_hit (e_go hK3 ?_))))
 refine c_seq fun _ hK28 => ?_
 refine c_region ?_
 refine l_val wn (r_lbn 2 [.bool true, .int .i64 0, .slice A1 cs.length cp1] rfl rfl rfl rfl agg77 inf77) rfl ?_
 refine l_stn 3 wn rfl rfl rfl inf77 rfl rfl rfl ?_
 refine l_val wn (r_assign rfl) rfl ?_
 refine l_nil (e_go hK28 ?_)
 refine c_ret (e_ret2 (.inl rfl) Try.results61 (rv_cell 3 rfl rfl agg77 inf77 rfl) (rv_tmp rfl) fun w1 hM => ?_)
 have hb9 : Mn.all wd by_ (l.map CellX.e) = (⟨true, 0, cs.map CellX.e⟩, 0) := by rw [Mn.all, hI1.2.2.1, Mn.drop_end (by omega), Mn.allFrom]
 have hM := hM.sealRow encCellX (i := 1) rfl rfl
 exact hM.retE (⟨true, 0, ⟨A1, cp1, cs⟩⟩ : ValX) (by first | (rw [hb9]; done) | (rw [hb9]; rfl)) (by first | (rw [hb9]; done) | (rw [hb9]; rfl)) fun Pb pp => ⟨pp.sl 1 rfl, pp.at_ 0 _ rfl⟩

set_option maxHeartbeats 1000000 in
theorem c_window (vad : Addr) (time : Int) (f : Nat) (fcap : Array Value) (C : (Nat → Prop) → World → Prop) (lk : Look) (ead : Addr) (e : ExprX) (P0 : Nat → Prop) (w : World) (hP0 : ∀ b, P0 b → b < w.heap.size) (hv : CelAt P0 vad [.int .i64 time, .func (.func f) #[] fcap] w) (hC : C P0 w) (hf : WinFn Try.prog f fcap C lk) (hec : CelAt P0 ead (exprE e) w) (he : ExprX.Ok P0 e w) (hg : Mn.GoodLook lk) (ht : 0 ≤ time ∧ time ≤ 1000000) (hr : 1 ≤ e.range ∧ e.range ≤ 100000) :
    Calls Try.prog 60 #[.pointer (some vad), .pointer (some ead)] w (RetE w P0 (fun z : ValX => .tuple #[.agg (valE z).toArray, .int .i64 (Mn.window lk time e.word e.ms.l e.range).2]) (fun z => z.e = (Mn.window lk time e.word e.ms.l e.range).1) (fun z S => ValX.Ok S z)) := by
 have hwe := he.wf
 refine fstart (N := 76) (vals := [.pointer (some ((Addr.add vad 0).add 0)), .pointer (some ((Addr.add ead 0).add 0))]) (S := Mem w ⟨no, P0⟩ [celP vad [.int .i64 time, .func (.func f) #[] fcap], .pub C, celP ead [.int .i64 e.kind, .int .i64 e.n, .int .i64 e.range, .string e.word, .slice e.ms.A e.ms.l.length e.ms.c, .slice e.by_.A e.by_.l.length e.by_.c, .slice e.kids.A e.kids.l.length e.kids.c], okP ExprX.Ok e]) Try.func60 rfl rfl rfl (Mem.ofDatsP hP0 (dc (dp (CelAt.loc _ _) hv) (dc (dp hf.loc hC) (dc (dp (CelAt.loc _ _) hec) (dc (dp (ExprX.Ok.loc _) he) dn))))) ?_
 refine c_seq fun _ hK1 => ?_
 refine c_region ?_
 refine l_alloc wn inf77 rfl fun b4 => ?_
 refine l_val wn (r_assign rfl) rfl ?_
 refine l_nil (e_go hK1 ?_)
 refine c_seq fun _ hK2 => ?_
 refine c_nodes (Mem w ⟨no, P0⟩ [.blk b4 [.bool false, .int .i64 0, .slice none 0 0] 77, celP vad [.int .i64 time, .func (.func f) #[] fcap], .pub C, celP ead [.int .i64 e.kind, .int .i64 e.n, .int .i64 e.range, .string e.word, .slice e.ms.A e.ms.l.length e.ms.c, .slice e.by_.A e.by_.l.length e.by_.c, .slice e.kids.A e.kids.l.length e.kids.c], okP ExprX.Ok e]) mix (fun _ h => h.drew) rfl ?_
 refine n_run (f := 8) [0, 1, 2, 3, 4, 5, 6, 7, 8, 9, 10, 11, 12, 13, 14, 15, 16, 17, 18, 19, 20, 21] rfl rfl (by kernel_rfl) (by kernel_rfl) (fun _ h => h) fun KS hKS => ?_
 refine s_val wn (r_move rfl) rfl ?_
 refine s_val wn (r_nilCheck rfl) rfl ?_
 refine s_val wn (r_fe rfl fld81_1) rfl ?_
 refine s_val wn (r_cel 1 rfl rfl rfl flat75) rfl ?_
 refine s_val wn (r_move rfl) rfl ?_
 refine s_val wn (r_nilCheck rfl) rfl ?_
 refine s_val wn (r_fe rfl fld27_4) rfl ?_
 refine s_val wn (r_cel 3 rfl rfl rfl flat23) rfl ?_
 refine s_val wn (r_move rfl) rfl ?_
 refine s_val wn (r_nilCheck rfl) rfl ?_
 refine s_val wn (r_fe rfl fld81_0) rfl ?_
 refine s_val wn (r_cel 1 rfl rfl rfl flat3) rfl ?_
 refine s_val wn (r_move rfl) rfl ?_
 refine s_val wn (r_nilCheck rfl) rfl ?_
 refine s_val wn (r_fe rfl fld27_2) rfl ?_
 refine s_val wn (r_cel 3 rfl rfl rfl flat3) rfl ?_
 refine s_val wn (r_subn rfl rfl (by omega)) rfl ?_
 refine s_val wn (r_max rfl rfl) rfl ?_
 refine s_val wn (r_move rfl) rfl ?_
 refine s_val wn (r_nilCheck rfl) rfl ?_
 refine s_val wn (r_fe rfl fld81_0) rfl ?_
 refine s_val wn (r_cel 1 rfl rfl rfl flat3) rfl ?_
 refine s_end hKS ?_
 refine n_step1 (f := 7) (i := 22) rfl (by kernel_rfl) ?_
 refine n_one (i := 22) rfl fun KN hKN => ?_
 refine l_opn (fun _ h => h.exprX 4 rfl) ?_
 obtain ⟨hc1, hm1, hA1⟩ := hwe.ms
 obtain ⟨hc2, hm2, hA2⟩ := hwe.by_
 obtain ⟨hc3, hm3, hA3⟩ := hwe.kids
 refine l_callE (β := WinX) (winV (lk e.ms.l (Mn.frm time e.range) time).2) (fun z => WinX.is z (lk e.ms.l (Mn.frm time e.range) time).1) (fun z S => WinX.Ok S z) (fun z => WinX.Ok.loc z) wn rfl rfl hf.call rfl (fun w1 Pb hM pp => hf.run ⟨e.ms.A, e.ms.c, e.ms.l⟩ (Mn.frm time e.range) time w1 Pb pp.lt (pp.sl 0 rfl) (pp.at_ 6 _ rfl) (Mn.frm_nn _ _) ht.2) fun z1 hz1 => ?_
 refine l_get 0 rfl (fun S w h => WinX.Ok.wf h) fun hw1 => ?_
 refine l_opn (fun _ h => h.winX 0 rfl) ?_
 obtain ⟨hc4, hm4, hA4⟩ := hw1.sr
 obtain ⟨hc5, hm5, hA5⟩ := hw1.sm
 refine l_nil (hKN _ _ (fun _ h => (h.sel [8, 9, 10, 11, 12] (by decide) rfl)) ?_)
 refine n_run (f := 0) [23, 24, 25, 26, 27, 28, 29] rfl rfl (by kernel_rfl) (by kernel_rfl) (fun _ h => (h.sel [8, 9, 10, 11, 12] (by decide) rfl)) fun KS hKS => ?_
 refine s_val wn (r_move rfl) rfl ?_
 refine s_val wn (r_extract rfl rfl) rfl ?_
 refine s_val wn (r_extract rfl rfl) rfl ?_
 refine s_val wn (r_extract rfl rfl) rfl ?_
 refine s_val wn (r_assign rfl) rfl ?_
 refine s_val wn (r_assign rfl) rfl ?_
 refine s_val wn (r_assign rfl) rfl ?_
 refine s_end hKS ?_
 refine n_done (by kernel_rfl) (e_go hK2 ?_)
 refine c_seq fun _ hK3 => ?_
 refine c_seq fun _ hK4 => ?_
 refine c_region ?_
 refine l_val wn (r_move rfl) rfl ?_
 refine l_val wn (r_neq rfl rfl) rfl ?_
 refine l_nil (e_go hK4 ?_)
 refine c_cond rfl (fun h1 => ?_) (fun h1 => ?_)
 · refine c_seq fun _ hK5 => ?_
   refine c_region ?_
   refine l_val wn (r_build [.bool false, .int .i64 0, .slice none 0 0] pl77 inf77 rfl rfl) rfl ?_
   refine l_val wn (r_move rfl) rfl ?_
   refine l_stn 8 wn rfl rfl rfl inf77 rfl rfl rfl ?_
   refine l_val wn (r_assign rfl) rfl ?_
   refine l_nil (e_go hK5 ?_)
   refine c_ret (e_then_r (e_ret2 (.inl rfl) Try.results60 (rv_cell 8 rfl rfl agg77 inf77 rfl) (rv_tmp rfl) fun w1 hM => ?_))
   have hb9 : Mn.window lk time e.word e.ms.l e.range = (Mn.zero, (lk e.ms.l (Mn.frm time e.range) time).2) := by rw [Mn.window, if_pos (by simpa using h1)]
   exact hM.retE (⟨false, 0, ⟨none, 0, []⟩⟩ : ValX) (by first | (rw [hb9]; done) | (rw [hb9]; rfl)) (by first | (rw [hb9]; done) | (rw [hb9]; rfl)) fun Pb pp => ⟨FlatSl.nil_ _ _ _ _, fun c hc => by cases hc⟩
 refine c_skip (e_go hK3 ?_)
 refine c_seq fun _ hK6 => ?_
 refine c_region ?_
 refine l_val wn (r_build [.bool true, .int .i64 0, .slice none 0 0] pl77 inf77 rfl rfl) rfl ?_
 refine l_alloc wn inf77 rfl fun b9 => ?_
 refine l_stn 0 wn rfl rfl rfl inf77 rfl rfl rfl ?_
 refine l_nil (e_go hK6 ?_)
 refine c_seq fun _ hK7 => ?_
 refine c_seq fun _ hK8 => ?_
 refine c_region ?_
 refine l_val wn (r_move rfl) rfl ?_
 refine l_val wn (r_len rfl Try.underlying57) rfl ?_
 refine l_val wn (r_move rfl) rfl ?_
 refine l_nil (e_go hK8 ?_)
 refine c_block ?_
 have hl1 : z1.sr.l.length = (lk e.ms.l (Mn.frm time e.range) time).1.length := by have := congrArg List.length hz1.1; simpa using this
 have hl2 : z1.sm.l.length = (lk e.ms.l (Mn.frm time e.range) time).1.length := by have := congrArg List.length hz1.2; simpa using this
 have hl3 := (hg e.ms.l (Mn.frm time e.range) time).1
 refine c_mem (fun _ h => h.nilRow CellX 44 2 cellE) ?_
 refine c_opn (fun _ h => h.all0 CellX.Ok.loc) ?_
 refine c_loop3 (fun (k : Nat) (cs : List CellX) (ov : Value) => [(1, .pointer (some ((Addr.add ead 0).add 0))), (4, .pointer (some ⟨b4, 0, none⟩)), (7, .slice z1.sm.A z1.sm.l.length z1.sm.c), (9, .pointer (some ⟨b9, 0, none⟩)), (46, .slice z1.sr.A z1.sr.l.length z1.sr.c), (47, .int .i64 (z1.sr.l.length : Int)), (48, .int .i64 (k : Int))]) (fun (k : Nat) (cs : List CellX) (ov : Value) => [allP CellX.Ok cs, Row ov 44 2 cellE cs, .blk b9 [.bool true, .int .i64 0, ov] 77, slP 1 serE (.slice z1.sr.A z1.sr.l.length z1.sr.c) z1.sr.l, allP SerX.Ok z1.sr.l, slP 7 sumE (.slice z1.sm.A z1.sm.l.length z1.sm.c) z1.sm.l, .pub (fun S => WinX.Ok S z1), slP 3 matchE (.slice e.ms.A e.ms.l.length e.ms.c) e.ms.l, slP 1 strE (.slice e.by_.A e.by_.l.length e.by_.c) e.by_.l, slP 7 exprE (.slice e.kids.A e.kids.l.length e.kids.c) e.kids.l, allP ExprX.Ok e.kids.l, .blk b4 [.bool false, .int .i64 0, .slice none 0 0] 77, celP vad [.int .i64 time, .func (.func f) #[] fcap], .pub C, celP ead [.int .i64 e.kind, .int .i64 e.n, .int .i64 e.range, .string e.word, .slice e.ms.A e.ms.l.length e.ms.c, .slice e.by_.A e.by_.l.length e.by_.c, .slice e.kids.A e.kids.l.length e.kids.c], okP ExprX.Ok e]) (fun (k : Nat) (cs : List CellX) (ov : Value) => k ≤ z1.sr.l.length ∧ (∀ x ∈ cs, CellX.Wf x) ∧ cs.map CellX.e = Mn.winCells e.word ((lk e.ms.l (Mn.frm time e.range) time).1.take k) ∧ cs.length ≤ k) (fun (k : Nat) (cs : List CellX) (ov : Value) => z1.sr.l.length - k) 0 [] (.slice none 0 0) (sc rfl (sc rfl (sc rfl (sc rfl (sc rfl (sc rfl (sc (ji (by omega)) sn))))))) (fun _ h => h) ?_ (fun k cs ov hI1 => ?_)
 · exact ⟨Nat.zero_le _, fun x hx => (by cases hx), rfl, Nat.le_refl _⟩
 have hwf := hI1.2.1
 have hlen := hI1.2.2.2
 refine c_open 1 (l := cs) rfl fun A1 cp1 hv1 hc6 hm6 hA6 => ?_
 subst hv1
 refine c_seq fun _ hK9 => ?_
 refine c_region ?_
 refine l_val wn (r_lss rfl rfl) rfl ?_
 refine l_nil (e_go hK9 ?_)
 refine c_seq fun _ hK10 => ?_
 refine c_cond rfl (fun h2 => ?_) (fun h2 => ?_)
 · refine c_skip (e_go hK10 ?_)
   refine c_seq fun _ hK11 => ?_
   refine c_block ?_
   refine c_seq fun _ hK12 => ?_
   refine c_region ?_
   refine l_val wn (r_move rfl) rfl ?_
   obtain ⟨ad1, hd1⟩ := hA4 (ne_nil (i := k) (by first | omega | (simp <;> omega)))
   refine l_val wn (r_ia (i := k) rfl hd1 rfl (by omega) (by first | omega | (simp <;> omega)) Try.underlying57 inf42) rfl ?_
   obtain ⟨s1, hs1⟩ : ∃ x, z1.sr.l[k]? = some x := ⟨_, List.getElem?_eq_getElem (by first | omega | (simp <;> omega))⟩
   refine l_val wn (r_pl 3 rfl rfl hd1 hs1 rfl flat42) rfl ?_
   refine l_val wn (r_assign rfl) rfl ?_
   refine l_val wn (r_assign rfl) rfl ?_
   refine l_nil (e_go hK12 ?_)
   refine c_seq fun _ hK13 => ?_
   refine c_quiet mix (by kernel_rfl) (fun _ h => h.drew) ?_
   refine q_val wn (r_move rfl) rfl ?_
   refine q_val wn (r_nilCheck rfl) rfl ?_
   refine q_val wn (r_fe rfl fld27_3) rfl ?_
   refine q_val wn (r_cel 14 rfl rfl rfl flat9) rfl ?_
   refine q_val wn (r_move rfl) rfl ?_
   refine q_val wn (r_move rfl) rfl ?_
   obtain ⟨ad2, hd2⟩ := hA5 (ne_nil (i := k) (by first | omega | (simp <;> omega)))
   refine q_val wn (r_ia (i := k) rfl hd2 rfl (by omega) (by first | omega | (simp <;> omega)) Try.underlying58 inf62) rfl ?_
   obtain ⟨s2, hs2⟩ : ∃ x, z1.sm.l[k]? = some x := ⟨_, List.getElem?_eq_getElem (by first | omega | (simp <;> omega))⟩
   refine q_val wn (r_pln 5 [.int .i64 s2.count, .int .i64 s2.total, .int .i64 s2.min, .int .i64 s2.max, .int .i64 s2.first, .int .i64 s2.last, .int .i64 s2.rise] rfl rfl hd2 hs2 rfl rfl agg62 inf62) rfl ?_
   refine q_callF wn rfl Try.call73 rfl (fun w1 hM => c_Value e.word s2 w1) ?_
   refine q_val wn (r_move rfl) rfl ?_
   refine q_val wn (r_extract rfl rfl) rfl ?_
   refine q_val wn (r_extract rfl rfl) rfl ?_
   refine q_val wn (r_assign rfl) rfl ?_
   refine q_val wn (r_assign rfl) rfl ?_
   refine q_end (e_go hK13 ?_)
   refine c_seq fun _ hK14 => ?_
   refine c_region ?_
   refine l_val wn (r_move rfl) rfl ?_
   refine l_nil (e_go hK14 ?_)
   refine c_condb rfl (fun h3 => ?_) (fun h3 => ?_)
   · refine c_region ?_
     refine l_val wn (r_fa rfl fld77_2) rfl ?_
     refine l_val wn (r_lb 2 rfl rfl rfl flat28) rfl ?_
     refine l_val wn (r_move rfl) rfl ?_
     refine l_val wn (r_move rfl) rfl ?_
     refine l_val wn (r_build [.slice s1.sr.A s1.sr.l.length s1.sr.c, .int .i64 ((Agg.value e.word s2).1)] pl44 inf44 rfl rfl) rfl ?_
     refine l_bsL cellE ([(CellX.mk ⟨s1.sr.A, s1.sr.c, s1.sr.l⟩ ((Agg.value e.word s2).1))] : List CellX) wn Try.underlying28 inf44 rfl rfl rfl rfl (by decide) (by decide) rfl fun b71 => ?_
     refine l_app 2 cs ([(CellX.mk ⟨s1.sr.A, s1.sr.c, s1.sr.l⟩ ((Agg.value e.word s2).1))] : List CellX) encCellX wn rfl rfl rfl (fun _ hM => (RowSl encCellX hM 0 rfl)) Try.underlying28 inf44 rfl rfl (by simp only [List.length_append, List.length_cons, List.length_nil]; omega) rfl fun A2 cp2 hc7 hm7 hA7 => ?_
     have hw3 := hw1.all _ (List.mem_of_getElem? hs1)
     refine l_opn (fun _ h => h.one 5 SerX.Ok.loc rfl hs1) ?_
     refine l_opn (fun _ h => h.serX 0 rfl) ?_
     obtain ⟨hc8, hm8, hA8⟩ := hw3.sr
     refine l_opn (fun _ h => h.allCell (n := (Agg.value e.word s2).1) 3 0 rfl rfl) ?_
     have hw2 : ∀ x ∈ (cs ++ ([(CellX.mk ⟨s1.sr.A, s1.sr.c, s1.sr.l⟩ ((Agg.value e.word s2).1))] : List CellX)), CellX.Wf x := fun x hx => (List.mem_append.1 hx).elim (hwf x) fun h => by rw [List.mem_singleton.1 h]; exact ⟨⟨by omega, by omega, hA8⟩⟩
     refine l_val wn (r_fa rfl fld77_2) rfl ?_
     refine l_st1 6 wn rfl rfl rfl rfl inf28 rfl rfl ?_
     refine l_nil (e_in_n (e_go hK11 ?_))
     refine c_region ?_
     refine l_val wn (r_addn rfl rfl (by omega)) rfl ?_
     refine l_val wn (r_move rfl) rfl ?_
     refine l_nil (e_round3 (k + 1) (cs ++ ([(CellX.mk ⟨s1.sr.A, s1.sr.c, s1.sr.l⟩ ((Agg.value e.word s2).1))] : List CellX)) (.slice A2 ((cs ++ ([(CellX.mk ⟨s1.sr.A, s1.sr.c, s1.sr.l⟩ ((Agg.value e.word s2).1))] : List CellX)).length) cp2) (sc rfl (sc rfl (sc rfl (sc rfl (sc rfl (sc rfl (sc (ji (by omega)) sn))))))) (fun _ h => (h.sel [0, 5, 6, 7, 8, 9, 10, 11, 12, 13, 14, 15, 16, 17, 18, 19] (by decide) rfl)) ?_ ?_)
     · exact ⟨by omega, hw2, by rw [Mn.winCells_at (s := s1.sr.l) (m := s2) (by rw [← hz1.1, List.getElem?_map, hs1]; rfl) (by rw [← hz1.2]; exact hs2), if_pos h3, List.map_append, hI1.2.2.1]; rfl, by simp only [List.length_append, List.length_cons, List.length_nil]; omega⟩
     omega
   refine c_skip (e_in_n (e_go hK11 ?_))
   refine c_region ?_
   refine l_val wn (r_addn rfl rfl (by omega)) rfl ?_
   refine l_val wn (r_move rfl) rfl ?_
   refine l_nil (e_round3 (k + 1) cs (.slice A1 cs.length cp1) (sc rfl (sc rfl (sc rfl (sc rfl (sc rfl (sc rfl (sc (ji (by omega)) sn))))))) (fun _ h => h) ?_ ?_)
   · exact ⟨by omega, hwf, by rw [Mn.winCells_at (s := s1.sr.l) (m := s2) (by rw [← hz1.1, List.getElem?_map, hs1]; rfl) (by rw [← hz1.2]; exact hs2), if_neg (by simpa using h3), List.append_nil]; exact hI1.2.2.1, by omega⟩
   omega
 refine c_exit (e_then_x (e_loop3_x (e_in_hit (e_go hK7 ?_))))
 refine c_seq fun _ hK15 => ?_
 refine c_region ?_
 refine l_val wn (r_lbn 2 [.bool true, .int .i64 0, .slice A1 cs.length cp1] rfl rfl rfl rfl agg77 inf77) rfl ?_
 refine l_stn 11 wn rfl rfl rfl inf77 rfl rfl rfl ?_
 refine l_val wn (r_assign rfl) rfl ?_
 refine l_nil (e_go hK15 ?_)
 refine c_ret (e_ret2 (.inl rfl) Try.results60 (rv_cell 11 rfl rfl agg77 inf77 rfl) (rv_tmp rfl) fun w1 hM => ?_)
 have hb9 : Mn.window lk time e.word e.ms.l e.range = (⟨true, 0, cs.map CellX.e⟩, 0) := by rw [Mn.window, if_neg (by simpa using h1), hI1.2.2.1, List.take_of_length_le (by omega)]
 have hM := hM.sealRow encCellX (i := 1) rfl rfl
 exact hM.retE (⟨true, 0, ⟨A1, cp1, cs⟩⟩ : ValX) (by first | (rw [hb9]; done) | (rw [hb9]; rfl)) (by first | (rw [hb9]; done) | (rw [hb9]; rfl)) fun Pb pp => ⟨pp.sl 1 rfl, pp.at_ 0 _ rfl⟩

end Go.Proofs.Ytldecdningjkoaa
