/-
  Walks: what each function hands back.
-/
import Derived.Test.YtldecdningjkoaaWmeanc
import Derived.Test.YtldecdningjkoaaPTotals
import Derived.Test.YtldecdningjkoaaKeys
import Derived.Test.YtldecdningjkoaaRd3
namespace Go.Proofs.Ytldecdningjkoaa
open Ex
set_option linter.unusedVariables false
set_option linter.unusedSimpArgs false
theorem c_law6tot (wd : ByteArray) (by_v : Value) (by_ : List ByteArray) (lad : Addr) (lv : Value) (l : List LineX) (ead : Addr) (e : ExprX) (tmp : Nat) (tm : Int) (P0 : Nat → Prop) (w : World) (hP0 : ∀ b, P0 b → b < w.heap.size) (hby_ : FlatSl P0 1 strE by_v by_ w) (hlp : CelAt P0 lad [lv] w) (hl : FlatSl P0 2 lineE lv l w) (hla : ∀ x ∈ l, LineX.Ok P0 x w) (hec : CelAt P0 ead (exprE e) w) (he : ExprX.Ok P0 e w) (htmp : w.heap[tmp]? = some (.cells [.int .i64 tm].toArray 3 (0, 0))) (hwd : wd.size ≤ 9223372036854775807) (hbz : ∀ x ∈ by_, x.size ≤ 9223372036854775807) :
    Calls Try.prog 19 #[.string wd, by_v, .pointer (some lad), .pointer (some ead), .pointer (some ⟨tmp, 0, none⟩)] w (RetE w P0 (celsV (Mn.ask l (Mn.tot wd by_ e.e) tm).2) (fun z => z.l.map CellX.e = (Mn.ask l (Mn.tot wd by_ e.e) tm).1) (fun z S => CelsX.Ok S z)) := by
 obtain ⟨by_A, by_c, rfl, hby_c, hby_m, hby_A⟩ := hby_.form
 have hwl : ∀ x ∈ l, LineX.Wf x := fun x hx => (hla x hx).wf
 obtain ⟨lA, lc, rfl, hlc, hlm, hlA⟩ := hl.form
 have hwe := he.wf
 refine fstart (N := 19) (vals := [.string wd, .slice by_A by_.length by_c, .pointer (some ((Addr.add lad 0).add 0)), .pointer (some ((Addr.add ead 0).add 0)), .pointer (some ⟨tmp, 0, none⟩)]) (S := Mem w ⟨no, P0⟩ [slP 1 strE (.slice by_A by_.length by_c) by_, celP lad [.slice lA l.length lc], slP 2 lineE (.slice lA l.length lc) l, allP LineX.Ok l, celP ead [.int .i64 e.kind, .int .i64 e.n, .int .i64 e.range, .string e.word, .slice e.ms.A e.ms.l.length e.ms.c, .slice e.by_.A e.by_.l.length e.by_.c, .slice e.kids.A e.kids.l.length e.kids.c], okP ExprX.Ok e, datB tmp [.int .i64 tm] 3]) Try.func19 rfl rfl rfl (Mem.ofDatsP hP0 (dc (dlp hby_) (dc (dp (CelAt.loc _ _) hlp) (dc (dlp hl) (dc (dp (all_loc LineX.Ok.loc _) hla) (dc (dp (CelAt.loc _ _) hec) (dc (dp (ExprX.Ok.loc _) he) (dc (ddb htmp) dn)))))))) ?_
 refine c_seq fun _ hK1 => ?_
 refine c_region ?_
 refine l_val wn (r_assign rfl) rfl ?_
 refine l_val wn (r_assign rfl) rfl ?_
 refine l_nil (e_go hK1 ?_)
 refine c_seq fun _ hK2 => ?_
 refine c_region ?_
 refine l_val wn (r_cel 1 rfl rfl rfl flat22) rfl ?_
 refine l_val wn (r_move rfl) rfl ?_
 refine l_val wn (r_move rfl) rfl ?_
 refine l_val wn (r_celn 4 [.int .i64 e.kind, .int .i64 e.n, .int .i64 e.range, .string e.word, .slice e.ms.A e.ms.l.length e.ms.c, .slice e.by_.A e.by_.l.length e.by_.c, .slice e.kids.A e.kids.l.length e.kids.c] rfl rfl rfl rfl agg27 inf27) rfl ?_
 refine l_bsL exprE ([e] : List ExprX) wn Try.underlying25 inf27 rfl rfl rfl rfl (by decide) (by decide) rfl fun b13 => ?_
 refine l_val wn (r_build [.int .i64 3, .int .i64 0, .int .i64 0, .string wd, .slice none 0 0, .slice by_A by_.length by_c, .slice (some ⟨b13, 0, none⟩) 1 1] pl27 inf27 rfl rfl) rfl ?_
 refine l_seal 0 encExprX rfl rfl ?_
 refine l_opn (fun _ h => h.all0 ExprX.Ok.loc) ?_
 refine l_opn (fun _ h => h.allSnoc 0 7 ExprX.Ok.loc rfl rfl) ?_
 refine l_opn (fun _ h => h.exprK (bs := by_) (k := 3) (n := 0) (r := 0) (wd := wd) 2 0 3 (by first | decide | omega | assumption) hbz rfl rfl rfl) ?_
 refine l_get 0 rfl (fun S w h => ExprX.Ok.wf h) fun hw1 => ?_
 refine l_val wn (r_ldb 10 rfl rfl rfl flat3) rfl ?_
 refine l_callE0 (β := SlX CellX) (celsV (Mn.ask l (ExprX.mk 3 0 0 wd ⟨none, 0, []⟩ ⟨by_A, by_c, by_⟩ ⟨(some ⟨b13, 0, none⟩), 1, ([e] : List ExprX)⟩).e tm).2) (fun z => z.l.map CellX.e = (Mn.ask l (ExprX.mk 3 0 0 wd ⟨none, 0, []⟩ ⟨by_A, by_c, by_⟩ ⟨(some ⟨b13, 0, none⟩), 1, ([e] : List ExprX)⟩).e tm).1) (fun z S => CelsX.Ok S z) (fun z => CelsX.Ok.loc z) wn rfl Try.call8 rfl (fun w1 Pb hM pp => c_ask _ l (ExprX.mk 3 0 0 wd ⟨none, 0, []⟩ ⟨by_A, by_c, by_⟩ ⟨(some ⟨b13, 0, none⟩), 1, ([e] : List ExprX)⟩) tm Pb w1 pp.lt (pp.sl 6 rfl) (pp.at_ 7 _ rfl) (pp.at_ 0 _ rfl)) fun z1 hz1 => ?_
 refine l_get 0 rfl (fun S w h => CelsX.Ok.wf h) fun hw2 => ?_
 refine l_opn (fun _ h => h.celsX 0 rfl) ?_
 obtain ⟨hc1, hm1, hA1⟩ := hw2.cells
 refine l_val wn (r_extract rfl rfl) rfl ?_
 refine l_val wn (r_extract rfl rfl) rfl ?_
 refine l_val wn (r_assign rfl) rfl ?_
 refine l_val wn (r_assign rfl) rfl ?_
 refine l_nil (e_go hK2 ?_)
 refine c_ret (e_ret2 (.inl rfl) Try.results19 (rv_tmp rfl) (rv_tmp rfl) fun w1 hM => ?_)
 have hb9 : Mn.tot wd by_ e.e = ExprX.e (ExprX.mk 3 0 0 wd ⟨none, 0, []⟩ ⟨by_A, by_c, by_⟩ ⟨(some ⟨b13, 0, none⟩), 1, ([e] : List ExprX)⟩) := by rw [ExprX.e_eq (ExprX.mk 3 0 0 wd ⟨none, 0, []⟩ ⟨by_A, by_c, by_⟩ ⟨(some ⟨b13, 0, none⟩), 1, ([e] : List ExprX)⟩)]; rfl
 exact hM.retE z1 (by first | (rw [hb9]; done) | (rw [hb9]; rfl)) (by rw [hb9]; exact hz1) fun Pb pp => pp.at_ 2 _ rfl

set_option maxHeartbeats 4000000 in
set_option maxRecDepth 4000 in
theorem law_MeanTotals (lv : Value) (l : List LineX) (e : ExprX) (time : Int) (P0 : Nat → Prop) (w : World) (hP0 : ∀ b, P0 b → b < w.heap.size) (hl : FlatSl P0 2 lineE lv l w) (hla : ∀ x ∈ l, LineX.Ok P0 x w) (he : ExprX.Ok P0 e w) (hbl : l.length ≤ 1048576) (hbs : ∀ x ∈ l, x.sr.l.length ≤ 1048576 ∧ x.sm.l.length ≤ 1048576) :
    Calls Try.prog 5 #[lv, .agg (exprE e).toArray, .int .i64 time] w (Ret w (.bool true)) := by
 have hwl : ∀ x ∈ l, LineX.Wf x := fun x hx => (hla x hx).wf
 obtain ⟨lA, lc, rfl, hlc, hlm, hlA⟩ := hl.form
 have hwe := he.wf
 refine fstart (N := 136) (vals := [.slice lA l.length lc, .agg (exprE e).toArray, .int .i64 time]) (S := Mem w ⟨no, P0⟩ [slP 2 lineE (.slice lA l.length lc) l, allP LineX.Ok l, okP ExprX.Ok e]) Try.func5 rfl rfl rfl (Mem.ofDatsP hP0 (dc (dlp hl) (dc (dp (all_loc LineX.Ok.loc _) hla) (dc (dp (ExprX.Ok.loc _) he) dn)))) ?_
 refine c_seq fun _ hK1 => ?_
 refine c_region ?_
 refine l_box1 wn rfl rfl rfl fun b3 => ?_
 refine l_box wn rfl rfl fun b4 => ?_
 refine l_box1 wn rfl rfl rfl fun b5 => ?_
 refine l_val wn (r_assign rfl) rfl ?_
 refine l_nil (e_go hK1 ?_)
 refine c_seq fun _ hK2 => ?_
 refine c_seq fun _ hK3 => ?_
 refine c_region ?_
 refine l_callF wn rfl Try.call15 rfl (fun w1 hM => c_alive  w1) ?_
 refine l_val wn (r_notb rfl) rfl ?_
 refine l_nil (e_go hK3 ?_)
 refine c_false rfl rfl ?_
 refine c_skip (e_go hK2 ?_)
 refine c_seq fun _ hK4 => ?_
 refine c_region ?_
 refine l_val wn (r_lb 2 rfl rfl rfl flat22) rfl ?_
 refine l_val wn (r_lbn 1 [.int .i64 e.kind, .int .i64 e.n, .int .i64 e.range, .string e.word, .slice e.ms.A e.ms.l.length e.ms.c, .slice e.by_.A e.by_.l.length e.by_.c, .slice e.kids.A e.kids.l.length e.kids.c] rfl rfl rfl rfl agg27 inf27) rfl ?_
 refine l_val wn (r_lb 0 rfl rfl rfl flat3) rfl ?_
 refine l_callE0 (β := SlX CellX) (celsV (Mn.ask l e.e time).2) (fun z => z.l.map CellX.e = (Mn.ask l e.e time).1) (fun z S => CelsX.Ok S z) (fun z => CelsX.Ok.loc z) wn rfl Try.call8 rfl (fun w1 Pb hM pp => c_ask _ l e time Pb w1 pp.lt (pp.sl 3 rfl) (pp.at_ 4 _ rfl) (pp.at_ 5 _ rfl)) fun z1 hz1 => ?_
 refine l_get 0 rfl (fun S w h => CelsX.Ok.wf h) fun hw1 => ?_
 refine l_opn (fun _ h => h.celsX 0 rfl) ?_
 obtain ⟨hc1, hm1, hA1⟩ := hw1.cells
 refine l_val wn (r_move rfl) rfl ?_
 refine l_val wn (r_extract rfl rfl) rfl ?_
 refine l_val wn (r_extract rfl rfl) rfl ?_
 refine l_val wn (r_assign rfl) rfl ?_
 refine l_val wn (r_assign rfl) rfl ?_
 refine l_nil (e_go hK4 ?_)
 refine c_seq fun _ hK5 => ?_
 refine c_region ?_
 refine l_makeMap wn rfl fun b33 => ?_
 refine l_val wn (r_assign rfl) rfl ?_
 refine l_nil (e_go hK5 ?_)
 refine c_seq fun _ hK6 => ?_
 refine c_region ?_
 refine l_nilRow (strE : ByteArray → List Value) 9 1 ?_
 refine l_val wn (r_assign rfl) rfl ?_
 refine l_nil (e_go hK6 ?_)
 refine c_seq fun _ hK7 => ?_
 refine c_seq fun _ hK8 => ?_
 refine c_region ?_
 refine l_val wn (r_lb 7 rfl rfl rfl flat22) rfl ?_
 refine l_val wn (r_len rfl Try.underlying22) rfl ?_
 refine l_val wn (r_move rfl) rfl ?_
 refine l_nil (e_go hK8 ?_)
 refine c_block ?_
 refine c_loop3 (fun (k : Nat) (bs : List ByteArray) (bv : Value) => [(3, .pointer (some ⟨b3, 0, none⟩)), (4, .pointer (some ⟨b4, 0, none⟩)), (5, .pointer (some ⟨b5, 0, none⟩)), (7, .slice z1.A z1.l.length z1.c), (8, .int .i64 ((Mn.ask l e.e time).2)), (9, .map (some b33)), (10, bv), (34, .slice lA l.length lc), (35, .int .i64 (l.length : Int)), (36, .int .i64 (k : Int))]) (fun (k : Nat) (bs : List ByteArray) (bv : Value) => [Row bv 9 1 strE bs, .map b33 (entsB 0 bs) bs.length, slP 2 cellE (.slice z1.A z1.l.length z1.c) z1.l, allP CellX.Ok z1.l, okP CelsX.Ok z1, .blk b5 [.int .i64 time] 3, .blk b4 [.int .i64 e.kind, .int .i64 e.n, .int .i64 e.range, .string e.word, .slice e.ms.A e.ms.l.length e.ms.c, .slice e.by_.A e.by_.l.length e.by_.c, .slice e.kids.A e.kids.l.length e.kids.c] 27, .blk b3 [.slice lA l.length lc] 22, slP 2 lineE (.slice lA l.length lc) l, allP LineX.Ok l, okP ExprX.Ok e]) (fun (k : Nat) (bs : List ByteArray) (bv : Value) => k ≤ l.length ∧ (∀ x ∈ l.take k, ∀ y ∈ x.sr.l, y.key ∈ bs) ∧ bs.length ≤ k * 1048576 ∧ (∀ s ∈ bs, ∃ x ∈ l, ∃ y ∈ x.sr.l, s = y.key)) (fun (k : Nat) (bs : List ByteArray) (bv : Value) => l.length - k) 0 [] (.slice none 0 0) (sc rfl (sc rfl (sc rfl (sc rfl (sc rfl (sc rfl (sc rfl (sc rfl (sc rfl (sc (ji (by omega)) sn)))))))))) (fun _ h => h) ?_ (fun k bs bv hI1 => ?_)
 · exact ⟨Nat.zero_le _, fun x hx => (by cases hx), Nat.zero_le _, fun s hs => (by cases hs)⟩
 have hbk := hI1.2.2.1
 refine c_open 0 (l := bs) rfl fun A1 cp1 hv1 hc2 hm2 hA2 => ?_
 subst hv1
 refine c_seq fun _ hK9 => ?_
 refine c_region ?_
 refine l_val wn (r_lss rfl rfl) rfl ?_
 refine l_nil (e_go hK9 ?_)
 refine c_seq fun _ hK10 => ?_
 refine c_cond rfl (fun h1 => ?_) (fun h1 => ?_)
 · refine c_skip (e_go hK10 ?_)
   refine c_seq fun _ hK11 => ?_
   refine c_block ?_
   refine c_seq fun _ hK12 => ?_
   refine c_region ?_
   obtain ⟨ad1, hd1⟩ := hlA (ne_nil (i := k) (by first | omega | (simp <;> omega)))
   refine l_val wn (r_ia (i := k) rfl hd1 rfl (by omega) (by first | omega | (simp <;> omega)) Try.underlying22 inf49) rfl ?_
   obtain ⟨s1, hs1⟩ : ∃ x, l[k]? = some x := ⟨_, List.getElem?_eq_getElem (by first | omega | (simp <;> omega))⟩
   refine l_val wn (r_pln 8 [.slice s1.sr.A s1.sr.l.length s1.sr.c, .slice s1.sm.A s1.sm.l.length s1.sm.c] rfl rfl hd1 hs1 rfl rfl agg49 inf49) rfl ?_
   refine l_alloc wn inf49 rfl fun b12 => ?_
   refine l_stn 0 wn rfl rfl rfl inf49 rfl rfl rfl ?_
   refine l_nil (e_go hK12 ?_)
   refine c_seq fun _ hK13 => ?_
   refine c_region ?_
   refine l_val wn (r_fa rfl fld49_0) rfl ?_
   refine l_val wn (r_lb 0 rfl rfl rfl flat42) rfl ?_
   refine l_val wn (r_len rfl Try.underlying42) rfl ?_
   refine l_val wn (r_move rfl) rfl ?_
   refine l_nil (e_go hK13 ?_)
   refine c_block ?_
   refine c_loop3 (fun (j : Nat) (cs : List ByteArray) (cv : Value) => [(3, .pointer (some ⟨b3, 0, none⟩)), (4, .pointer (some ⟨b4, 0, none⟩)), (5, .pointer (some ⟨b5, 0, none⟩)), (7, .slice z1.A z1.l.length z1.c), (8, .int .i64 ((Mn.ask l e.e time).2)), (9, .map (some b33)), (10, cv), (34, .slice lA l.length lc), (35, .int .i64 (l.length : Int)), (36, .int .i64 (k : Int)), (41, .slice s1.sr.A s1.sr.l.length s1.sr.c), (42, .int .i64 (s1.sr.l.length : Int)), (43, .int .i64 (j : Int))]) (fun (j : Nat) (cs : List ByteArray) (cv : Value) => [.blk b12 [.slice s1.sr.A s1.sr.l.length s1.sr.c, .slice s1.sm.A s1.sm.l.length s1.sm.c] 49, Row cv 9 1 strE cs, .map b33 (entsB 0 cs) cs.length, slP 2 cellE (.slice z1.A z1.l.length z1.c) z1.l, allP CellX.Ok z1.l, okP CelsX.Ok z1, .blk b5 [.int .i64 time] 3, .blk b4 [.int .i64 e.kind, .int .i64 e.n, .int .i64 e.range, .string e.word, .slice e.ms.A e.ms.l.length e.ms.c, .slice e.by_.A e.by_.l.length e.by_.c, .slice e.kids.A e.kids.l.length e.kids.c] 27, .blk b3 [.slice lA l.length lc] 22, slP 2 lineE (.slice lA l.length lc) l, allP LineX.Ok l, okP ExprX.Ok e]) (fun (j : Nat) (cs : List ByteArray) (cv : Value) => j ≤ s1.sr.l.length ∧ (∀ x ∈ l.take k, ∀ y ∈ x.sr.l, y.key ∈ cs) ∧ (∀ y ∈ s1.sr.l.take j, y.key ∈ cs) ∧ cs.length ≤ k * 1048576 + j ∧ (∀ s ∈ cs, ∃ x ∈ l, ∃ y ∈ x.sr.l, s = y.key)) (fun (j : Nat) (cs : List ByteArray) (cv : Value) => s1.sr.l.length - j) 0 bs (.slice A1 bs.length cp1) (sc rfl (sc rfl (sc rfl (sc rfl (sc rfl (sc rfl (sc rfl (sc rfl (sc rfl (sc rfl (sc rfl (sc rfl (sc (ji (by omega)) sn))))))))))))) (fun _ h => h) ?_ (fun j cs cv hI2 => ?_)
   · exact ⟨Nat.zero_le _, hI1.2.1, fun y hy => (by cases hy), Nat.le_trans hI1.2.2.1 (Nat.le_add_right _ _), hI1.2.2.2⟩
   have hck := hI2.2.2.2.1
   have hz1 := (hbs _ (List.mem_of_getElem? hs1)).1
   refine c_open 1 (l := cs) rfl fun A2 cp2 hv2 hc3 hm3 hA3 => ?_
   subst hv2
   refine c_seq fun _ hK14 => ?_
   refine c_region ?_
   refine l_val wn (r_lss rfl rfl) rfl ?_
   refine l_nil (e_go hK14 ?_)
   refine c_seq fun _ hK15 => ?_
   refine c_cond rfl (fun h2 => ?_) (fun h2 => ?_)
   · refine c_skip (e_go hK15 ?_)
     refine c_seq fun _ hK16 => ?_
     refine c_block ?_
     refine c_seq fun _ hK17 => ?_
     refine c_region ?_
     have hw2 := hwl _ (List.mem_of_getElem? hs1)
     refine l_opn (fun _ h => h.one 10 LineX.Ok.loc rfl hs1) ?_
     refine l_opn (fun _ h => h.lineX 0 rfl) ?_
     obtain ⟨hc4, hm4, hA4⟩ := hw2.sr
     obtain ⟨hc5, hm5, hA5⟩ := hw2.sm
     obtain ⟨ad2, hd2⟩ := hA4 (ne_nil (i := j) (by first | omega | (simp <;> omega)))
     refine l_val wn (r_ia (i := j) rfl hd2 rfl (by omega) (by first | omega | (simp <;> omega)) Try.underlying42 inf51) rfl ?_
     obtain ⟨s2, hs2⟩ : ∃ x, s1.sr.l[j]? = some x := ⟨_, List.getElem?_eq_getElem (by first | omega | (simp <;> omega))⟩
     refine l_val wn (r_pln 0 [.string s2.key, .string s2.val] rfl rfl hd2 hs2 rfl rfl agg51 inf51) rfl ?_
     refine l_alloc wn inf51 rfl fun b14 => ?_
     refine l_stn 0 wn rfl rfl rfl inf51 rfl rfl rfl ?_
     refine l_nil (e_go hK17 ?_)
     refine c_seq fun _ hK18 => ?_
     refine c_seq fun _ hK19 => ?_
     refine c_region ?_
     refine l_val wn (r_move rfl) rfl ?_
     refine l_val wn (r_fa rfl fld51_0) rfl ?_
     refine l_val wn (r_lb 0 rfl rfl rfl flat9) rfl ?_
     refine l_val wn (r_lookupB 6 (KeyT.str Try.underlying9) rfl rfl rfl Try.underlying46 inf4) rfl ?_
     refine l_val wn (r_notb rfl) rfl ?_
     refine l_nil (e_go hK19 ?_)
     refine c_condb rfl (fun h3 => ?_) (fun h3 => ?_)
     · refine c_region ?_
       refine l_val wn (r_move rfl) rfl ?_
       refine l_val wn (r_fa rfl fld51_0) rfl ?_
       refine l_val wn (r_lb 0 rfl rfl rfl flat9) rfl ?_
       refine l_bsL strE ([s2.key] : List ByteArray) wn Try.underlying24 inf9 rfl rfl rfl rfl (by decide) (by decide) rfl fun b55 => ?_
       refine l_app 6 cs ([s2.key] : List ByteArray) encString wn rfl rfl rfl (fun _ hM => (RowSl encString hM 0 rfl)) Try.underlying24 inf9 rfl rfl (by simp only [List.length_append, List.length_cons, List.length_nil]; omega) rfl fun A3 cp3 hc6 hm6 hA6 => ?_
       refine l_val wn (r_assign rfl) rfl ?_
       refine l_nil (e_go hK18 ?_)
       refine c_region ?_
       refine l_val wn (r_move rfl) rfl ?_
       refine l_val wn (r_fa rfl fld51_0) rfl ?_
       refine l_val wn (r_lb 1 rfl rfl rfl flat9) rfl ?_
       refine l_updB 7 (KeyT.str Try.underlying9) cs (cs ++ ([s2.key] : List ByteArray)) s2.key (.inr ⟨fun h => by have h9 := hasK_iff.2 h; have h8 := h3; rw [h9] at h8; simp at h8, rfl⟩) wn rfl rfl rfl rfl Try.underlying46 ?_
       refine l_nil (e_in_n (e_go hK16 ?_))
       refine c_region ?_
       refine l_val wn (r_addn rfl rfl (by omega)) rfl ?_
       refine l_val wn (r_move rfl) rfl ?_
       refine l_nil (e_round3 (j + 1) (cs ++ ([s2.key] : List ByteArray)) (.slice A3 ((cs ++ ([s2.key] : List ByteArray)).length) cp3) (sc rfl (sc rfl (sc rfl (sc rfl (sc rfl (sc rfl (sc rfl (sc rfl (sc rfl (sc rfl (sc rfl (sc rfl (sc (ji (by omega)) sn))))))))))))) (fun _ h => (h.sel [5, 6, 7, 8, 9, 10, 11, 12, 13, 14, 15, 16] (by decide) rfl)) ?_ ?_)
       · exact ⟨by omega, fun x hx y hy => List.mem_append_left _ (hI2.2.1 x hx y hy), all_take hs2 (fun y hy => List.mem_append_left _ (hI2.2.2.1 y hy)) (List.mem_append_right _ (List.mem_singleton.2 rfl)), by simp only [List.length_append, List.length_cons, List.length_nil]; omega, fun z hz => (List.mem_append.1 hz).elim (hI2.2.2.2.2 z) fun h => ⟨_, List.mem_of_getElem? hs1, _, List.mem_of_getElem? hs2, List.mem_singleton.1 h⟩⟩
       omega
     refine c_skip (e_go hK18 ?_)
     refine c_region ?_
     refine l_val wn (r_move rfl) rfl ?_
     refine l_val wn (r_fa rfl fld51_0) rfl ?_
     refine l_val wn (r_lb 0 rfl rfl rfl flat9) rfl ?_
     refine l_updB 6 (KeyT.str Try.underlying9) cs cs s2.key (.inl ⟨hasK_iff.1 (by simpa using h3), rfl⟩) wn rfl rfl rfl rfl Try.underlying46 ?_
     refine l_nil (e_in_n (e_go hK16 ?_))
     refine c_region ?_
     refine l_val wn (r_addn rfl rfl (by omega)) rfl ?_
     refine l_val wn (r_move rfl) rfl ?_
     refine l_nil (e_round3 (j + 1) cs (.slice A2 cs.length cp2) (sc rfl (sc rfl (sc rfl (sc rfl (sc rfl (sc rfl (sc rfl (sc rfl (sc rfl (sc rfl (sc rfl (sc rfl (sc (ji (by omega)) sn))))))))))))) (fun _ h => (h.sel [4, 5, 6, 7, 8, 9, 10, 11, 12, 13, 14, 15] (by decide) rfl)) ?_ ?_)
     · exact ⟨by omega, hI2.2.1, all_take hs2 hI2.2.2.1 (hasK_iff.1 (by simpa using h3)), by omega, hI2.2.2.2.2⟩
     omega
   refine c_exit (e_then_x (e_loop3_x (e_in_hit (e_in_n (e_go hK11 ?_)))))
   refine c_region ?_
   refine l_val wn (r_addn rfl rfl (by omega)) rfl ?_
   refine l_val wn (r_move rfl) rfl ?_
   refine l_nil (e_round3 (k + 1) cs (.slice A2 cs.length cp2) (sc rfl (sc rfl (sc rfl (sc rfl (sc rfl (sc rfl (sc rfl (sc rfl (sc rfl (sc (ji (by omega)) sn)))))))))) (fun _ h => (h.sel [1, 2, 3, 4, 5, 6, 7, 8, 9, 10, 11] (by decide) rfl)) ?_ ?_)
   · exact ⟨by omega, all_take hs1 hI2.2.1 (fun y hy => hI2.2.2.1 y (by rw [List.take_of_length_le (by omega)]; exact hy)), by omega, hI2.2.2.2.2⟩
   omega
 refine c_exit (e_then_x (e_loop3_x (e_in_hit (e_go hK7 ?_))))
 refine c_seq fun _ hK20 => ?_
 refine c_seq fun _ hK21 => ?_
 refine c_region ?_
 refine l_val wn (r_move rfl) rfl ?_
 refine l_val wn (r_neq rfl rfl) rfl ?_
 refine l_val wn (r_move rfl) rfl ?_
 refine l_case (t := 64) rfl (fun h4 => ?_) (fun h4 => ?_)
 · refine l_skip (wg rfl rfl rfl) rfl ?_
   refine l_skip (wg rfl rfl rfl) rfl ?_
   refine l_skip (wg rfl rfl rfl) rfl ?_
   refine l_val wn (r_pick rfl rfl) rfl ?_
   refine l_val wn (r_move rfl) rfl ?_
   refine l_skip (wg rfl rfl rfl) rfl ?_
   refine l_skip (wg rfl rfl rfl) rfl ?_
   refine l_skip (wg rfl rfl rfl) rfl ?_
   refine l_val wn (r_pick rfl rfl) rfl ?_
   refine l_nil (e_go hK21 ?_)
   refine c_true rfl rfl ?_
   refine c_seq fun _ hK22 => ?_
   refine c_region ?_
   refine l_val wn (r_assign rfl) rfl ?_
   refine l_nil (e_go hK22 ?_)
   refine c_ret (e_then_r (e_ret1 (.inl rfl) Try.results5 (rv_tmp rfl) fun w1 hM => ?_))
   exact ret_ok rfl hM
 refine l_val (wg rfl rfl rfl) (r_move rfl) rfl ?_
 refine l_val (wg rfl rfl rfl) (r_len rfl Try.underlying24) rfl ?_
 refine l_val (wg rfl rfl rfl) (r_gtr rfl rfl) rfl ?_
 refine l_val wn (r_pick rfl rfl) rfl ?_
 refine l_val wn (r_move rfl) rfl ?_
 refine l_case (t := 69) rfl (fun h5 => ?_) (fun h5 => ?_)
 · refine l_skip (wg rfl rfl rfl) rfl ?_
   refine l_skip (wg rfl rfl rfl) rfl ?_
   refine l_skip (wg rfl rfl rfl) rfl ?_
   refine l_val wn (r_pick rfl rfl) rfl ?_
   refine l_nil (e_go hK21 ?_)
   refine c_true rfl rfl ?_
   refine c_seq fun _ hK23 => ?_
   refine c_region ?_
   refine l_val wn (r_assign rfl) rfl ?_
   refine l_nil (e_go hK23 ?_)
   refine c_ret (e_then_r (e_ret1 (.inl rfl) Try.results5 (rv_tmp rfl) fun w1 hM => ?_))
   exact ret_ok rfl hM
 refine l_val (wg rfl rfl rfl) (r_fa rfl fld27_0) rfl ?_
 refine l_val (wg rfl rfl rfl) (r_lb 6 rfl rfl rfl flat3) rfl ?_
 refine l_val (wg rfl rfl rfl) (r_neq rfl rfl) rfl ?_
 refine l_val wn (r_pick rfl rfl) rfl ?_
 refine l_nil (e_go hK21 ?_)
 refine c_cond rfl (fun h6 => ?_) (fun h6 => ?_)
 · refine c_seq fun _ hK24 => ?_
   refine c_region ?_
   refine l_val wn (r_assign rfl) rfl ?_
   refine l_nil (e_go hK24 ?_)
   refine c_ret (e_then_r (e_ret1 (.inl rfl) Try.results5 (rv_tmp rfl) fun w1 hM => ?_))
   exact ret_ok rfl hM
 refine c_skip (e_go hK20 ?_)
 refine c_seq fun _ hK25 => ?_
 refine c_region ?_
 refine l_sealB 7 rfl rfl ?_
 refine l_sealB 6 rfl rfl ?_
 refine l_seal 0 encString rfl rfl ?_
 have h0_9 := Classical.not_not.1 h4
 have hbz : ∀ x ∈ bs, x.size ≤ 9223372036854775807 := fun x hx => by obtain ⟨y, hy, z, hz, e9⟩ := hI1.2.2.2 x hx; rw [e9]; exact ((hwl y hy).str z hz).1
 obtain ⟨tf1, tf2, tf3⟩ := Mn.tot_facts (l := l) (e := e.e) (t := time) (Classical.not_not.1 h4) (by rw [ExprX.e_eq]; exact Classical.not_not.1 h6) (bs := bs) (by omega) (fun x hx => hI1.2.1 x (by rw [List.take_of_length_le (by omega)]; exact hx)) hI1.2.2.2
 have hwz : ∀ x ∈ ([⟨#[109, 97, 120]⟩, ⟨#[109, 105, 110]⟩, ⟨#[115, 117, 109]⟩] : List ByteArray), x.size ≤ 9223372036854775807 := by intro x hx; simp only [List.mem_cons, List.not_mem_nil, or_false] at hx; rcases hx with rfl | rfl | rfl <;> decide
 refine l_val wn (r_makeFunc rfl rfl) rfl ?_
 refine l_val wn (r_assign rfl) rfl ?_
 refine l_nil (e_go hK25 ?_)
 refine c_seq fun _ hK26 => ?_
 refine c_seq fun _ hK27 => ?_
 refine c_region ?_
 refine l_bsL strE ([⟨#[109, 97, 120]⟩, ⟨#[109, 105, 110]⟩, ⟨#[115, 117, 109]⟩] : List ByteArray) wn Try.underlying24 inf9 rfl rfl rfl rfl (by decide) (by decide) rfl fun b75 => ?_
 refine l_val wn (r_len rfl Try.underlying24) rfl ?_
 refine l_val wn (r_move rfl) rfl ?_
 refine l_nil (e_go hK27 ?_)
 refine c_block ?_
 refine c_loop1 (fun (n : Nat) => [(7, .slice z1.A z1.l.length z1.c), (10, .slice A1 bs.length cp1), (15, .func (.func 19) #[] #[.pointer (some ((Addr.add ⟨b3, 0, none⟩ 0).add 0)), .pointer (some ((Addr.add ⟨b4, 0, none⟩ 0).add 0)), .pointer (some ⟨b5, 0, none⟩)]), (75, .slice (some ⟨b75, 0, none⟩) 3 3), (76, .int .i64 3), (77, .int .i64 (n : Int))]) (fun (n : Nat) => [Row (.slice (some ⟨b75, 0, none⟩) 3 3) 9 1 strE ([⟨#[109, 97, 120]⟩, ⟨#[109, 105, 110]⟩, ⟨#[115, 117, 109]⟩] : List ByteArray), slP 1 strE (.slice A1 bs.length cp1) bs, .map b33 (entsB 0 bs) bs.length, slP 2 cellE (.slice z1.A z1.l.length z1.c) z1.l, allP CellX.Ok z1.l, okP CelsX.Ok z1, .blk b5 [.int .i64 time] 3, celP ⟨b4, 0, none⟩ [.int .i64 e.kind, .int .i64 e.n, .int .i64 e.range, .string e.word, .slice e.ms.A e.ms.l.length e.ms.c, .slice e.by_.A e.by_.l.length e.by_.c, .slice e.kids.A e.kids.l.length e.kids.c], celP ⟨b3, 0, none⟩ [.slice lA l.length lc], slP 2 lineE (.slice lA l.length lc) l, allP LineX.Ok l, okP ExprX.Ok e]) (fun (n : Nat) => n ≤ 3) (fun (n : Nat) => 3 - n) 0 (sc rfl (sc rfl (sc rfl (sc rfl (sc rfl (sc (ji (by omega)) sn)))))) (fun _ h => h) ?_ (fun n hI3 => ?_)
 · exact Nat.zero_le _
 refine c_seq fun _ hK28 => ?_
 refine c_region ?_
 refine l_val wn (r_lss rfl rfl) rfl ?_
 refine l_nil (e_go hK28 ?_)
 refine c_seq fun _ hK29 => ?_
 refine c_cond rfl (fun h7 => ?_) (fun h7 => ?_)
 · refine c_skip (e_go hK29 ?_)
   refine c_seq fun _ hK30 => ?_
   refine c_block ?_
   refine c_seq fun _ hK31 => ?_
   refine c_region ?_
   refine l_val wn (r_ia (i := n) rfl rfl rfl (by omega) (by first | omega | (simp <;> omega)) Try.underlying24 inf9) rfl ?_
   obtain ⟨s3, hs3⟩ : ∃ x, ([⟨#[109, 97, 120]⟩, ⟨#[109, 105, 110]⟩, ⟨#[115, 117, 109]⟩] : List ByteArray)[n]? = some x := ⟨_, List.getElem?_eq_getElem (by first | omega | (simp <;> omega))⟩
   obtain ⟨tw1, tw2, tw3⟩ := tf1 _ (List.mem_of_getElem? hs3)
   refine l_val wn (r_rl 0 encString rfl rfl rfl hs3 rfl flat9) rfl ?_
   refine l_val wn (r_assign rfl) rfl ?_
   refine l_nil (e_go hK31 ?_)
   refine c_seq fun _ hK32 => ?_
   refine c_region ?_
   refine l_val wn (r_move rfl) rfl ?_
   refine l_val wn (r_move rfl) rfl ?_
   refine l_val wn (r_move rfl) rfl ?_
   refine l_callEC (β := SlX CellX) (celsV (Mn.ask l (Mn.tot s3 bs e.e) time).2) (fun z => z.l.map CellX.e = (Mn.ask l (Mn.tot s3 bs e.e) time).1) (fun z S => CelsX.Ok S z) (fun z => CelsX.Ok.loc z) wn rfl rfl Try.call19 rfl (fun w1 Pb hM pp => c_law6tot s3 _ bs ⟨b3, 0, none⟩ _ l ⟨b4, 0, none⟩ e b5 time Pb w1 pp.lt (pp.sl 1 rfl) (pp.at_ 8 _ rfl) (pp.sl 9 rfl) (pp.at_ 10 _ rfl) (pp.at_ 7 _ rfl) (pp.at_ 11 _ rfl) (hM.blk (i := 6) rfl) (by first | decide | exact hwz _ (List.mem_of_getElem? (by assumption))) (by first | exact hbz | (intro x hx; cases hx))) fun z2 hz2 => ?_
   refine l_get 0 rfl (fun S w h => CelsX.Ok.wf h) fun hw3 => ?_
   refine l_opn (fun _ h => h.celsX 0 rfl) ?_
   obtain ⟨hc7, hm7, hA7⟩ := hw3.cells
   refine l_val wn (r_move rfl) rfl ?_
   refine l_val wn (r_extract rfl rfl) rfl ?_
   refine l_val wn (r_extract rfl rfl) rfl ?_
   refine l_val wn (r_assign rfl) rfl ?_
   refine l_val wn (r_assign rfl) rfl ?_
   refine l_nil (e_go hK32 ?_)
   refine c_seq fun _ hK33 => ?_
   refine c_region ?_
   refine l_val wn (r_move rfl) rfl ?_
   refine l_val wn (r_move rfl) rfl ?_
   refine l_callEC (β := SlX CellX) (celsV (Mn.ask l (Mn.tot s3 ([] : List ByteArray) e.e) time).2) (fun z => z.l.map CellX.e = (Mn.ask l (Mn.tot s3 ([] : List ByteArray) e.e) time).1) (fun z S => CelsX.Ok S z) (fun z => CelsX.Ok.loc z) wn rfl rfl Try.call19 rfl (fun w1 Pb hM pp => c_law6tot s3 _ ([] : List ByteArray) ⟨b3, 0, none⟩ _ l ⟨b4, 0, none⟩ e b5 time Pb w1 pp.lt (FlatSl.nil_ _ 1 strE _) (pp.at_ 11 _ rfl) (pp.sl 12 rfl) (pp.at_ 13 _ rfl) (pp.at_ 10 _ rfl) (pp.at_ 14 _ rfl) (hM.blk (i := 9) rfl) (by first | decide | exact hwz _ (List.mem_of_getElem? (by assumption))) (by first | exact hbz | (intro x hx; cases hx))) fun z3 hz3 => ?_
   refine l_get 0 rfl (fun S w h => CelsX.Ok.wf h) fun hw4 => ?_
   refine l_opn (fun _ h => h.celsX 0 rfl) ?_
   obtain ⟨hc8, hm8, hA8⟩ := hw4.cells
   refine l_val wn (r_move rfl) rfl ?_
   refine l_val wn (r_extract rfl rfl) rfl ?_
   refine l_val wn (r_extract rfl rfl) rfl ?_
   refine l_val wn (r_assign rfl) rfl ?_
   refine l_val wn (r_assign rfl) rfl ?_
   refine l_nil (e_go hK33 ?_)
   refine c_seq fun _ hK34 => ?_
   refine c_region ?_
   refine l_val wn (r_move rfl) rfl ?_
   refine l_val wn (r_neq rfl rfl) rfl ?_
   refine l_val wn (r_move rfl) rfl ?_
   refine l_litf (t := 96) rfl (fun h => h (by rw [tw1]; exact h0_9)) ?_
   refine l_val (wg rfl rfl rfl) (r_move rfl) rfl ?_
   refine l_val (wg rfl rfl rfl) (r_neq rfl rfl) rfl ?_
   refine l_val wn (r_pick rfl rfl) rfl ?_
   refine l_val wn (r_move rfl) rfl ?_
   refine l_litf (t := 100) rfl (fun h => h tw2) ?_
   refine l_val (wg rfl rfl rfl) (r_move rfl) rfl ?_
   refine l_val (wg rfl rfl rfl) (r_move rfl) rfl ?_
   refine l_callF (wg rfl rfl rfl) rfl Try.call10 rfl (fun w1 hM => c_sameCells _ z1.l _ z2.l (In w1) w1 (fun _ h => h) (hM.slp 9 rfl) (hM.pubAt (i := 10) rfl) (hM.slp 3 rfl) (hM.pubAt (i := 4) rfl)) ?_
   refine l_val (wg rfl rfl rfl) (r_not rfl) rfl ?_
   refine l_val wn (r_pick rfl rfl) rfl ?_
   refine l_val wn (r_move rfl) rfl ?_
   refine l_litf (t := 106) rfl (fun h => h (by rw [hz1, hz2, tw1])) ?_
   refine l_val (wg rfl rfl rfl) (r_move rfl) rfl ?_
   refine l_val (wg rfl rfl rfl) (r_len rfl Try.underlying28) rfl ?_
   refine l_val (wg rfl rfl rfl) (r_move rfl) rfl ?_
   refine l_val (wg rfl rfl rfl) (r_len rfl Try.underlying28) rfl ?_
   refine l_val (wg rfl rfl rfl) (r_min rfl rfl) rfl ?_
   refine l_val (wg rfl rfl rfl) (r_neq rfl rfl) rfl ?_
   refine l_val wn (r_pick rfl rfl) rfl ?_
   refine l_nil (e_go hK34 ?_)
   refine c_false rfl (decide_eq_false (fun h => h (by have e7 := congrArg List.length hz1; have e8 := congrArg List.length hz3; rw [List.length_map] at e7 e8; split <;> omega))) ?_
   refine c_skip (e_in_n (e_go hK30 ?_))
   refine c_region ?_
   refine l_val wn (r_addn rfl rfl (by omega)) rfl ?_
   refine l_val wn (r_move rfl) rfl ?_
   refine l_nil (e_round1 (n + 1) (sc rfl (sc rfl (sc rfl (sc rfl (sc rfl (sc (ji (by omega)) sn)))))) (fun _ h => (h.sel [6, 7, 8, 9, 10, 11, 12, 13, 14, 15, 16, 17] (by decide) rfl)) ?_ ?_)
   · omega
   omega
 refine c_exit (e_then_x (e_loop1_x (e_in_hit (e_go hK26 ?_))))
 refine c_seq fun _ hK35 => ?_
 refine c_region ?_
 refine l_val wn (r_move rfl) rfl ?_
 refine l_callEC (β := SlX CellX) (celsV (Mn.ask l (Mn.tot ⟨#[99, 111, 117, 110, 116]⟩ ([] : List ByteArray) e.e) time).2) (fun z => z.l.map CellX.e = (Mn.ask l (Mn.tot ⟨#[99, 111, 117, 110, 116]⟩ ([] : List ByteArray) e.e) time).1) (fun z S => CelsX.Ok S z) (fun z => CelsX.Ok.loc z) wn rfl rfl Try.call19 rfl (fun w1 Pb hM pp => c_law6tot ⟨#[99, 111, 117, 110, 116]⟩ _ ([] : List ByteArray) ⟨b3, 0, none⟩ _ l ⟨b4, 0, none⟩ e b5 time Pb w1 pp.lt (FlatSl.nil_ _ 1 strE _) (pp.at_ 8 _ rfl) (pp.sl 9 rfl) (pp.at_ 10 _ rfl) (pp.at_ 7 _ rfl) (pp.at_ 11 _ rfl) (hM.blk (i := 6) rfl) (by first | decide | exact hwz _ (List.mem_of_getElem? (by assumption))) (by first | exact hbz | (intro x hx; cases hx))) fun z4 hz4 => ?_
 refine l_get 0 rfl (fun S w h => CelsX.Ok.wf h) fun hw5 => ?_
 refine l_opn (fun _ h => h.celsX 0 rfl) ?_
 obtain ⟨hc9, hm9, hA9⟩ := hw5.cells
 refine l_val wn (r_move rfl) rfl ?_
 refine l_val wn (r_extract rfl rfl) rfl ?_
 refine l_val wn (r_extract rfl rfl) rfl ?_
 refine l_val wn (r_assign rfl) rfl ?_
 refine l_val wn (r_assign rfl) rfl ?_
 refine l_nil (e_go hK35 ?_)
 refine c_seq fun _ hK36 => ?_
 refine c_region ?_
 refine l_val wn (r_move rfl) rfl ?_
 refine l_val wn (r_eql rfl rfl) rfl ?_
 refine l_val wn (r_move rfl) rfl ?_
 refine l_litt (t := 122) rfl tf2 ?_
 refine l_val (wg rfl rfl rfl) (r_move rfl) rfl ?_
 refine l_val (wg rfl rfl rfl) (r_len rfl Try.underlying28) rfl ?_
 refine l_val (wg rfl rfl rfl) (r_eql rfl rfl) rfl ?_
 refine l_val (wg rfl rfl rfl) (r_move rfl) rfl ?_
 refine l_case (t := 126) rfl (fun h8 => ?_) (fun h8 => ?_)
 · refine l_skip (wg rfl rfl rfl) rfl ?_
   refine l_skip (wg rfl rfl rfl) rfl ?_
   refine l_skip (wg rfl rfl rfl) rfl ?_
   refine l_skip (wg rfl rfl rfl) rfl ?_
   refine l_skip (wg rfl rfl rfl) rfl ?_
   refine l_skip (wg rfl rfl rfl) rfl ?_
   refine l_skip (wg rfl rfl rfl) rfl ?_
   refine l_val (wg rfl rfl rfl) (r_pick rfl rfl) rfl ?_
   refine l_val wn (r_pick rfl rfl) rfl ?_
   refine l_val wn (r_assign rfl) rfl ?_
   refine l_nil (e_go hK36 ?_)
   refine c_ret (e_ret1 (.inl rfl) Try.results5 (rv_tmp rfl) fun w1 hM => ?_)
   exact ret_ok rfl hM
 have hn0 := hz1
 obtain ⟨s9, hs9⟩ := tf3 (fun h => h8 (by have e := congrArg List.length hn0; rw [h, List.length_map] at e; simp at e; simp [e]))
 have e9 : z4.l.map CellX.e = [⟨s9, (z1.l.length : Int)⟩] := by rw [hz4, hs9, ← hn0, List.length_map]
 have hl9 : z4.l.length = 1 := by have := congrArg List.length e9; simpa using this
 refine l_val (wg rfl rfl rfl) (r_move rfl) rfl ?_
 obtain ⟨ad3, hd3⟩ := hA9 (ne_nil (i := 0) (by first | omega | (simp <;> omega)))
 refine l_val (wg rfl rfl rfl) (r_ia (i := 0) rfl hd3 rfl (by omega) (by first | omega | (simp <;> omega)) Try.underlying28 inf44) rfl ?_
 refine l_val (wg rfl rfl rfl) (r_fe rfl fld44_1) rfl ?_
 obtain ⟨s4, hs4⟩ : ∃ x, z4.l[0]? = some x := ⟨_, List.getElem?_eq_getElem (by first | omega | (simp <;> omega))⟩
 have he9 : CellX.e s4 = ⟨s9, (z1.l.length : Int)⟩ := by have h := congrArg (·[0]?) e9; rw [List.getElem?_map, hs4] at h; simpa using h
 have hv9 := congrArg Cell.value he9
 refine l_val (wg rfl rfl rfl) (r_pl 0 rfl rfl hd3 hs4 rfl flat3) rfl ?_
 refine l_val (wg rfl rfl rfl) (r_move rfl) rfl ?_
 refine l_val (wg rfl rfl rfl) (r_len rfl Try.underlying28) rfl ?_
 refine l_val (wg rfl rfl rfl) (r_eql rfl rfl) rfl ?_
 refine l_val (wg rfl rfl rfl) (r_pick rfl rfl) rfl ?_
 refine l_val wn (r_pick rfl rfl) rfl ?_
 refine l_val wn (r_assign rfl) rfl ?_
 refine l_nil (e_go hK36 ?_)
 refine c_ret (e_ret1 (.inl rfl) Try.results5 (rv_tmp rfl) fun w1 hM => ?_)
 exact ret_ok (congrArg Value.bool (decide_eq_true (by first | assumption | exact hv9 | omega))) hM

end Go.Proofs.Ytldecdningjkoaa
