/-
  Walks: what each function hands back.
-/
import Derived.Test.YtldecdningjkoaaWmeanc
import Derived.Test.YtldecdningjkoaaPLaw6W
import Derived.Test.YtldecdningjkoaaRd3
namespace Go.Proofs.Ytldecdningjkoaa
open Ex
set_option linter.unusedVariables false
set_option linter.unusedSimpArgs false
set_option maxHeartbeats 2000000 in
theorem law_MeanLater (lv : Value) (l : List LineX) (e : ExprX) (time : Int) (b : Int) (P0 : Nat → Prop) (w : World) (hP0 : ∀ b, P0 b → b < w.heap.size) (hl : FlatSl P0 2 lineE lv l w) (hla : ∀ x ∈ l, LineX.Ok P0 x w) (he : ExprX.Ok P0 e w) (hti : ok64 time) (hbi : ok64 b) (hbl : l.length ≤ 1048576) (hbs : ∀ x ∈ l, x.sr.l.length ≤ 1048576 ∧ x.sm.l.length ≤ 1048576) :
    Calls Try.prog 7 #[lv, .agg (exprE e).toArray, .int .i64 time, .int .i64 b] w (Ret w (.bool true)) := by
 have hwl : ∀ x ∈ l, LineX.Wf x := fun x hx => (hla x hx).wf
 obtain ⟨lA, lc, rfl, hlc, hlm, hlA⟩ := hl.form
 have hwe := he.wf
 refine fstart (N := 105) (vals := [.slice lA l.length lc, .agg (exprE e).toArray, .int .i64 time, .int .i64 b]) (S := Mem w ⟨no, P0⟩ [slP 2 lineE (.slice lA l.length lc) l, allP LineX.Ok l, okP ExprX.Ok e]) Try.func7 rfl rfl rfl (Mem.ofDatsP hP0 (dc (dlp hl) (dc (dp (all_loc LineX.Ok.loc _) hla) (dc (dp (ExprX.Ok.loc _) he) dn)))) ?_
 refine c_seq fun _ hK1 => ?_
 refine c_region ?_
 refine l_box wn rfl rfl fun b5 => ?_
 refine l_val wn (r_assign rfl) rfl ?_
 refine l_nil (e_go hK1 ?_)
 refine c_seq fun _ hK2 => ?_
 refine c_seq fun _ hK3 => ?_
 refine c_region ?_
 refine l_callF wn rfl Try.call15 rfl (fun w1 hM => c_alive  w1) ?_
 refine l_val wn (r_notb rfl) rfl ?_
 refine l_nil (e_go hK3 ?_)
 refine c_false rfl rfl ?_
 refine c_skip (e_go hK2 ?_)
 refine c_seq fun _ hK4 => ?_
 refine c_seq fun _ hK5 => ?_
 refine c_region ?_
 refine l_val wn (r_move rfl) rfl ?_
 refine l_val wn (r_lss rfl rfl) rfl ?_
 refine l_val wn (r_move rfl) rfl ?_
 refine l_case (t := 23) rfl (fun h1 => ?_) (fun h1 => ?_)
 · refine l_skip (wg rfl rfl rfl) rfl ?_
   refine l_skip (wg rfl rfl rfl) rfl ?_
   refine l_val wn (r_pick rfl rfl) rfl ?_
   refine l_val wn (r_move rfl) rfl ?_
   refine l_skip (wg rfl rfl rfl) rfl ?_
   refine l_skip (wg rfl rfl rfl) rfl ?_
   refine l_val wn (r_pick rfl rfl) rfl ?_
   refine l_val wn (r_move rfl) rfl ?_
   refine l_skip (wg rfl rfl rfl) rfl ?_
   refine l_skip (wg rfl rfl rfl) rfl ?_
   refine l_skip (wg rfl rfl rfl) rfl ?_
   refine l_skip (wg rfl rfl rfl) rfl ?_
   refine l_val wn (r_pick rfl rfl) rfl ?_
   refine l_nil (e_go hK5 ?_)
   refine c_true rfl rfl ?_
   refine c_seq fun _ hK6 => ?_
   refine c_region ?_
   refine l_val wn (r_assign rfl) rfl ?_
   refine l_nil (e_go hK6 ?_)
   refine c_ret (e_then_r (e_ret1 (.inl rfl) Try.results7 (rv_tmp rfl) fun w1 hM => ?_))
   exact ret_ok rfl hM
 refine l_val (wg rfl rfl rfl) (r_move rfl) rfl ?_
 refine l_val (wg rfl rfl rfl) (r_gtr rfl rfl) rfl ?_
 refine l_val wn (r_pick rfl rfl) rfl ?_
 refine l_val wn (r_move rfl) rfl ?_
 refine l_case (t := 27) rfl (fun h2 => ?_) (fun h2 => ?_)
 · refine l_skip (wg rfl rfl rfl) rfl ?_
   refine l_skip (wg rfl rfl rfl) rfl ?_
   refine l_val wn (r_pick rfl rfl) rfl ?_
   refine l_val wn (r_move rfl) rfl ?_
   refine l_skip (wg rfl rfl rfl) rfl ?_
   refine l_skip (wg rfl rfl rfl) rfl ?_
   refine l_skip (wg rfl rfl rfl) rfl ?_
   refine l_skip (wg rfl rfl rfl) rfl ?_
   refine l_val wn (r_pick rfl rfl) rfl ?_
   refine l_nil (e_go hK5 ?_)
   refine c_true rfl rfl ?_
   refine c_seq fun _ hK7 => ?_
   refine c_region ?_
   refine l_val wn (r_assign rfl) rfl ?_
   refine l_nil (e_go hK7 ?_)
   refine c_ret (e_then_r (e_ret1 (.inl rfl) Try.results7 (rv_tmp rfl) fun w1 hM => ?_))
   exact ret_ok rfl hM
 refine l_val (wg rfl rfl rfl) (r_move rfl) rfl ?_
 refine l_val (wg rfl rfl rfl) (r_lss rfl rfl) rfl ?_
 refine l_val wn (r_pick rfl rfl) rfl ?_
 refine l_val wn (r_move rfl) rfl ?_
 refine l_case (t := 31) rfl (fun h3 => ?_) (fun h3 => ?_)
 · refine l_skip (wg rfl rfl rfl) rfl ?_
   refine l_skip (wg rfl rfl rfl) rfl ?_
   refine l_skip (wg rfl rfl rfl) rfl ?_
   refine l_skip (wg rfl rfl rfl) rfl ?_
   refine l_val wn (r_pick rfl rfl) rfl ?_
   refine l_nil (e_go hK5 ?_)
   refine c_true rfl rfl ?_
   refine c_seq fun _ hK8 => ?_
   refine c_region ?_
   refine l_val wn (r_assign rfl) rfl ?_
   refine l_nil (e_go hK8 ?_)
   refine c_ret (e_then_r (e_ret1 (.inl rfl) Try.results7 (rv_tmp rfl) fun w1 hM => ?_))
   exact ret_ok rfl hM
 refine l_val (wg rfl rfl rfl) (r_move rfl) rfl ?_
 refine l_val (wg rfl rfl rfl) (r_move rfl) rfl ?_
 refine l_val (wg rfl rfl rfl) (r_subn rfl rfl (by omega)) rfl ?_
 refine l_val (wg rfl rfl rfl) (r_gtr rfl rfl) rfl ?_
 refine l_val wn (r_pick rfl rfl) rfl ?_
 refine l_nil (e_go hK5 ?_)
 refine c_cond rfl (fun h4 => ?_) (fun h4 => ?_)
 · refine c_seq fun _ hK9 => ?_
   refine c_region ?_
   refine l_val wn (r_assign rfl) rfl ?_
   refine l_nil (e_go hK9 ?_)
   refine c_ret (e_then_r (e_ret1 (.inl rfl) Try.results7 (rv_tmp rfl) fun w1 hM => ?_))
   exact ret_ok rfl hM
 refine c_skip (e_go hK4 ?_)
 refine c_seq fun _ hK10 => ?_
 refine c_region ?_
 refine l_nilRow (lineE : LineX → List Value) 49 2 ?_
 refine l_opn (fun _ h => h.all0 LineX.Ok.loc) ?_
 refine l_val wn (r_assign rfl) rfl ?_
 refine l_nil (e_go hK10 ?_)
 refine c_seq fun _ hK11 => ?_
 refine c_seq fun _ hK12 => ?_
 refine c_region ?_
 refine l_val wn (r_move rfl) rfl ?_
 refine l_val wn (r_len rfl Try.underlying22) rfl ?_
 refine l_val wn (r_move rfl) rfl ?_
 refine l_nil (e_go hK12 ?_)
 refine c_block ?_
 refine c_loop3 (fun (k : Nat) (ms : List LineX) (mv_ : Value) => [(0, .slice lA l.length lc), (2, .int .i64 time), (3, .int .i64 b), (5, .pointer (some ⟨b5, 0, none⟩)), (9, mv_), (37, .slice lA l.length lc), (38, .int .i64 (l.length : Int)), (39, .int .i64 (k : Int))]) (fun (k : Nat) (ms : List LineX) (mv_ : Value) => [allP LineX.Ok ms, Row mv_ 49 2 lineE ms, .blk b5 [.int .i64 e.kind, .int .i64 e.n, .int .i64 e.range, .string e.word, .slice e.ms.A e.ms.l.length e.ms.c, .slice e.by_.A e.by_.l.length e.by_.c, .slice e.kids.A e.kids.l.length e.kids.c] 27, slP 2 lineE (.slice lA l.length lc) l, allP LineX.Ok l, okP ExprX.Ok e]) (fun (k : Nat) (ms : List LineX) (mv_ : Value) => k ≤ l.length ∧ (∀ x ∈ ms, LineX.Wf x) ∧ ms.map LineX.e = (l.take k).map (fun x => Mn.mvP b x.e) ∧ ms.length = k ∧ (∀ x ∈ l.take k, ∀ s ∈ x.sm.l, Mn.inMv b s)) (fun (k : Nat) (ms : List LineX) (mv_ : Value) => l.length - k) 0 [] (.slice none 0 0) (sc rfl (sc rfl (sc rfl (sc rfl (sc rfl (sc rfl (sc rfl (sc (ji (by omega)) sn)))))))) (fun _ h => h) ?_ (fun k ms mv_ hI1 => ?_)
 · exact ⟨Nat.zero_le _, fun x hx => (by cases hx), rfl, rfl, fun x hx => (by cases hx)⟩
 have hwf := hI1.2.1
 have hlen := hI1.2.2.2.1
 refine c_open 1 (l := ms) rfl fun A1 cp1 hv1 hc1 hm1 hA1 => ?_
 subst hv1
 refine c_seq fun _ hK13 => ?_
 refine c_region ?_
 refine l_val wn (r_lss rfl rfl) rfl ?_
 refine l_nil (e_go hK13 ?_)
 refine c_seq fun _ hK14 => ?_
 refine c_cond rfl (fun h5 => ?_) (fun h5 => ?_)
 · refine c_skip (e_go hK14 ?_)
   refine c_seq fun _ hK15 => ?_
   refine c_block ?_
   refine c_seq fun _ hK16 => ?_
   refine c_region ?_
   obtain ⟨ad1, hd1⟩ := hlA (ne_nil (i := k) (by first | omega | decide | (simp only [List.length_cons, List.length_nil, List.length_append, List.length_take, List.length_set]; omega)))
   refine l_val wn (r_ia (i := k) rfl hd1 rfl (by omega) (by first | omega | decide | (simp only [List.length_cons, List.length_nil, List.length_append, List.length_take, List.length_set]; omega)) Try.underlying22 inf49) rfl ?_
   obtain ⟨s1, hs1⟩ : ∃ x, l[k]? = some x := ⟨_, List.getElem?_eq_getElem (by first | omega | decide | (simp only [List.length_cons, List.length_nil, List.length_append, List.length_take, List.length_set]; omega))⟩
   have hsz_s1 := hbs _ (List.mem_of_getElem? hs1)
   refine l_val wn (r_pln 3 [.slice s1.sr.A s1.sr.l.length s1.sr.c, .slice s1.sm.A s1.sm.l.length s1.sm.c] rfl rfl hd1 hs1 rfl rfl agg49 inf49) rfl ?_
   refine l_alloc wn inf49 rfl fun b11 => ?_
   refine l_stn 0 wn rfl rfl rfl inf49 rfl rfl rfl ?_
   refine l_nil (e_go hK16 ?_)
   refine c_seq fun _ hK17 => ?_
   refine c_region ?_
   refine l_val wn (r_fa rfl fld49_0) rfl ?_
   refine l_val wn (r_lb 0 rfl rfl rfl flat42) rfl ?_
   refine l_val wn (r_build [.slice s1.sr.A s1.sr.l.length s1.sr.c, .slice none 0 0] pl49 inf49 rfl rfl) rfl ?_
   refine l_alloc wn inf49 rfl fun b12 => ?_
   refine l_stn 0 wn rfl rfl rfl inf49 rfl rfl rfl ?_
   refine l_nil (e_go hK17 ?_)
   refine c_seq fun _ hK18 => ?_
   refine c_seq fun _ hK19 => ?_
   refine c_region ?_
   refine l_val wn (r_fa rfl fld49_1) rfl ?_
   refine l_val wn (r_lb 1 rfl rfl rfl flat47) rfl ?_
   refine l_val wn (r_len rfl Try.underlying47) rfl ?_
   refine l_val wn (r_move rfl) rfl ?_
   refine l_nil (e_go hK19 ?_)
   refine c_block ?_
   refine c_mem (fun _ h => h.nilRow Sample 54 2 sampleE) ?_
   refine c_loop3 (fun (j : Nat) (ins : List Sample) (iv : Value) => [(0, .slice lA l.length lc), (2, .int .i64 time), (3, .int .i64 b), (5, .pointer (some ⟨b5, 0, none⟩)), (9, .slice A1 ms.length cp1), (12, .pointer (some ⟨b12, 0, none⟩)), (37, .slice lA l.length lc), (38, .int .i64 (l.length : Int)), (39, .int .i64 (k : Int)), (47, .slice s1.sm.A s1.sm.l.length s1.sm.c), (48, .int .i64 (s1.sm.l.length : Int)), (49, .int .i64 (j : Int))]) (fun (j : Nat) (ins : List Sample) (iv : Value) => [Row iv 54 2 sampleE ins, .blk b12 [.slice s1.sr.A s1.sr.l.length s1.sr.c, iv] 49, .blk b11 [.slice s1.sr.A s1.sr.l.length s1.sr.c, .slice s1.sm.A s1.sm.l.length s1.sm.c] 49, allP LineX.Ok ms, Row (.slice A1 ms.length cp1) 49 2 lineE ms, .blk b5 [.int .i64 e.kind, .int .i64 e.n, .int .i64 e.range, .string e.word, .slice e.ms.A e.ms.l.length e.ms.c, .slice e.by_.A e.by_.l.length e.by_.c, .slice e.kids.A e.kids.l.length e.kids.c] 27, slP 2 lineE (.slice lA l.length lc) l, allP LineX.Ok l, okP ExprX.Ok e]) (fun (j : Nat) (ins : List Sample) (iv : Value) => j ≤ s1.sm.l.length ∧ ins = (s1.sm.l.take j).map (Mn.mv b) ∧ (∀ x ∈ s1.sm.l.take j, Mn.inMv b x)) (fun (j : Nat) (ins : List Sample) (iv : Value) => s1.sm.l.length - j) 0 [] (.slice none 0 0) (sc rfl (sc rfl (sc rfl (sc rfl (sc rfl (sc rfl (sc rfl (sc rfl (sc rfl (sc rfl (sc rfl (sc (ji (by omega)) sn)))))))))))) (fun _ h => h) ?_ (fun j ins iv hI2 => ?_)
   · exact ⟨Nat.zero_le _, rfl, fun x hx => (by cases hx)⟩
   have hin := hI2
   have hnl : ins.length ≤ s1.sm.l.length := by rw [hin.2.1, List.length_map, List.length_take]; omega
   refine c_open 0 (l := ins) rfl fun A2 cp2 hv2 hc2 hm2 hA2 => ?_
   subst hv2
   refine c_seq fun _ hK20 => ?_
   refine c_region ?_
   refine l_val wn (r_lss rfl rfl) rfl ?_
   refine l_nil (e_go hK20 ?_)
   refine c_seq fun _ hK21 => ?_
   refine c_cond rfl (fun h6 => ?_) (fun h6 => ?_)
   · refine c_skip (e_go hK21 ?_)
     refine c_seq fun _ hK22 => ?_
     refine c_block ?_
     refine c_seq fun _ hK23 => ?_
     refine c_region ?_
     have hw1 := hwl _ (List.mem_of_getElem? hs1)
     refine l_opn (fun _ h => h.one 7 LineX.Ok.loc rfl hs1) ?_
     refine l_opn (fun _ h => h.lineX 0 rfl) ?_
     obtain ⟨hc3, hm3, hA3⟩ := hw1.sr
     obtain ⟨hc4, hm4, hA4⟩ := hw1.sm
     obtain ⟨ad2, hd2⟩ := hA4 (ne_nil (i := j) (by first | omega | decide | (simp only [List.length_cons, List.length_nil, List.length_append, List.length_take, List.length_set]; omega)))
     refine l_val wn (r_ia (i := j) rfl hd2 rfl (by omega) (by first | omega | decide | (simp only [List.length_cons, List.length_nil, List.length_append, List.length_take, List.length_set]; omega)) Try.underlying47 inf54) rfl ?_
     obtain ⟨s2, hs2⟩ : ∃ x, s1.sm.l[j]? = some x := ⟨_, List.getElem?_eq_getElem (by first | omega | decide | (simp only [List.length_cons, List.length_nil, List.length_append, List.length_take, List.length_set]; omega))⟩
     refine l_val wn (r_pln 1 [.int .i64 s2.time, .int .i64 s2.value] rfl rfl hd2 hs2 rfl rfl agg54 inf54) rfl ?_
     refine l_alloc wn inf54 rfl fun b14 => ?_
     refine l_stn 0 wn rfl rfl rfl inf54 rfl rfl rfl ?_
     refine l_nil (e_go hK23 ?_)
     refine c_seq fun _ hK24 => ?_
     refine c_seq fun _ hK25 => ?_
     refine c_region ?_
     refine l_val wn (r_fa rfl fld54_0) rfl ?_
     refine l_val wn (r_lb 0 rfl rfl rfl flat3) rfl ?_
     refine l_val wn (r_lss rfl rfl) rfl ?_
     refine l_val wn (r_move rfl) rfl ?_
     refine l_case (t := 56) rfl (fun h7 => ?_) (fun h7 => ?_)
     · refine l_skip (wg rfl rfl rfl) rfl ?_
       refine l_skip (wg rfl rfl rfl) rfl ?_
       refine l_skip (wg rfl rfl rfl) rfl ?_
       refine l_skip (wg rfl rfl rfl) rfl ?_
       refine l_skip (wg rfl rfl rfl) rfl ?_
       refine l_val wn (r_pick rfl rfl) rfl ?_
       refine l_nil (e_go hK25 ?_)
       refine c_true rfl rfl ?_
       refine c_seq fun _ hK26 => ?_
       refine c_region ?_
       refine l_val wn (r_assign rfl) rfl ?_
       refine l_nil (e_go hK26 ?_)
       refine c_ret (e_then_r (e_in_r (e_then_r (e_loop3_r (e_in_r (e_then_r (e_in_r (e_then_r (e_loop3_r (e_in_r (e_then_r (e_ret1 (.inl rfl) Try.results7 (rv_tmp rfl) fun w1 hM => ?_))))))))))))
       exact ret_ok rfl hM
     refine l_val (wg rfl rfl rfl) (r_fa rfl fld54_0) rfl ?_
     refine l_val (wg rfl rfl rfl) (r_lb 0 rfl rfl rfl flat3) rfl ?_
     refine l_val (wg rfl rfl rfl) (r_move rfl) rfl ?_
     refine l_val (wg rfl rfl rfl) (r_subn rfl rfl (by omega)) rfl ?_
     refine l_val (wg rfl rfl rfl) (r_gtr rfl rfl) rfl ?_
     refine l_val wn (r_pick rfl rfl) rfl ?_
     refine l_nil (e_go hK25 ?_)
     refine c_cond rfl (fun h8 => ?_) (fun h8 => ?_)
     · refine c_seq fun _ hK27 => ?_
       refine c_region ?_
       refine l_val wn (r_assign rfl) rfl ?_
       refine l_nil (e_go hK27 ?_)
       refine c_ret (e_then_r (e_in_r (e_then_r (e_loop3_r (e_in_r (e_then_r (e_in_r (e_then_r (e_loop3_r (e_in_r (e_then_r (e_ret1 (.inl rfl) Try.results7 (rv_tmp rfl) fun w1 hM => ?_))))))))))))
       exact ret_ok rfl hM
     refine c_skip (e_go hK24 ?_)
     refine c_region ?_
     refine l_val wn (r_fa rfl fld49_1) rfl ?_
     refine l_val wn (r_lb 5 rfl rfl rfl flat47) rfl ?_
     refine l_val wn (r_fa rfl fld54_0) rfl ?_
     refine l_val wn (r_lb 0 rfl rfl rfl flat3) rfl ?_
     refine l_val wn (r_move rfl) rfl ?_
     refine l_val wn (r_addn rfl rfl (by omega)) rfl ?_
     refine l_val wn (r_fa rfl fld54_1) rfl ?_
     refine l_val wn (r_lb 0 rfl rfl rfl flat3) rfl ?_
     refine l_val wn (r_build [.int .i64 (s2.time + b), .int .i64 s2.value] pl54 inf54 rfl rfl) rfl ?_
     refine l_bsL sampleE ([(⟨(s2.time + b), s2.value⟩ : Sample)] : List Sample) wn Try.underlying47 inf54 rfl rfl rfl rfl (by decide) (by decide) rfl fun b72 => ?_
     refine l_app 5 ins ([(⟨(s2.time + b), s2.value⟩ : Sample)] : List Sample) encSample wn rfl rfl rfl (fun _ hM => (RowSl encSample hM 0 rfl)) Try.underlying47 inf54 rfl rfl (by simp only [List.length_append, List.length_cons, List.length_nil]; omega) rfl fun A3 cp3 hc5 hm5 hA5 => ?_
     refine l_val wn (r_fa rfl fld49_1) rfl ?_
     refine l_st1 6 wn rfl rfl rfl rfl inf47 rfl rfl ?_
     refine l_nil (e_in_n (e_go hK22 ?_))
     refine c_region ?_
     refine l_val wn (r_addn rfl rfl (by omega)) rfl ?_
     refine l_val wn (r_move rfl) rfl ?_
     refine l_nil (e_round3 (j + 1) (ins ++ ([(⟨(s2.time + b), s2.value⟩ : Sample)] : List Sample)) (.slice A3 ((ins ++ ([(⟨(s2.time + b), s2.value⟩ : Sample)] : List Sample)).length) cp3) (sc rfl (sc rfl (sc rfl (sc rfl (sc rfl (sc rfl (sc rfl (sc rfl (sc rfl (sc rfl (sc rfl (sc (ji (by omega)) sn)))))))))))) (fun _ h => (h.sel [5, 6, 7, 8, 9, 10, 11, 12, 13] (by decide) rfl)) ?_ ?_)
     · exact ⟨by omega, by rw [Mn.mvs_at hs2, ← hin.2.1], all_take hs2 hin.2.2 (by unfold Mn.inMv; omega)⟩
     omega
   refine c_exit (e_then_x (e_loop3_x (e_in_hit (e_go hK18 ?_))))
   refine c_region ?_
   refine l_val wn (r_move rfl) rfl ?_
   refine l_val wn (r_lbn 1 [.slice s1.sr.A s1.sr.l.length s1.sr.c, .slice A2 ins.length cp2] rfl rfl rfl rfl agg49 inf49) rfl ?_
   refine l_bsL lineE ([(LineX.mk ⟨s1.sr.A, s1.sr.c, s1.sr.l⟩ ⟨A2, cp2, ins⟩)] : List LineX) wn Try.underlying22 inf49 rfl rfl rfl rfl (by decide) (by decide) rfl fun b78 => ?_
   refine l_app 5 ms ([(LineX.mk ⟨s1.sr.A, s1.sr.c, s1.sr.l⟩ ⟨A2, cp2, ins⟩)] : List LineX) encLineX wn rfl rfl rfl (fun _ hM => (RowSl encLineX hM 0 rfl)) Try.underlying22 inf49 rfl rfl (by simp only [List.length_append, List.length_cons, List.length_nil]; omega) rfl fun A4 cp4 hc6 hm6 hA6 => ?_
   have hw3 := hwl _ (List.mem_of_getElem? hs1)
   refine l_opn (fun _ h => h.one 8 LineX.Ok.loc rfl hs1) ?_
   refine l_opn (fun _ h => h.lineX 0 rfl) ?_
   obtain ⟨hc7, hm7, hA7⟩ := hw3.sr
   obtain ⟨hc8, hm8, hA8⟩ := hw3.sm
   refine l_seal 4 encSample rfl rfl ?_
   refine l_opn (fun _ h => h.allLine 7 0 4 rfl rfl rfl hw3.str) ?_
   have hw2 : ∀ x ∈ (ms ++ ([(LineX.mk ⟨s1.sr.A, s1.sr.c, s1.sr.l⟩ ⟨A2, cp2, ins⟩)] : List LineX)), LineX.Wf x := fun x hx => (List.mem_append.1 hx).elim (hwf x) fun h => by rw [List.mem_singleton.1 h]; exact ⟨hw3.str, ⟨by omega, by omega, hA7⟩, ⟨by omega, by omega, hA2⟩⟩
   refine l_val wn (r_assign rfl) rfl ?_
   refine l_nil (e_in_n (e_go hK15 ?_))
   refine c_region ?_
   refine l_val wn (r_addn rfl rfl (by omega)) rfl ?_
   refine l_val wn (r_move rfl) rfl ?_
   refine l_nil (e_round3 (k + 1) (ms ++ ([(LineX.mk ⟨s1.sr.A, s1.sr.c, s1.sr.l⟩ ⟨A2, cp2, ins⟩)] : List LineX)) (.slice A4 ((ms ++ ([(LineX.mk ⟨s1.sr.A, s1.sr.c, s1.sr.l⟩ ⟨A2, cp2, ins⟩)] : List LineX)).length) cp4) (sc rfl (sc rfl (sc rfl (sc rfl (sc rfl (sc rfl (sc rfl (sc (ji (by omega)) sn)))))))) (fun _ h => (h.sel [0, 9, 10, 11, 12, 13] (by decide) rfl)) ?_ ?_)
   · exact ⟨by omega, hw2, by rw [Mn.mv_at hs1, List.map_append, hI1.2.2.1, ← show ins = s1.sm.l.map (Mn.mv b) from by rw [hin.2.1, List.take_of_length_le (by omega)]]; rfl, by simp only [List.length_append, List.length_cons, List.length_nil]; omega, all_take hs1 hI1.2.2.2.2 (fun x hx => hin.2.2 x (by rw [List.take_of_length_le (by omega)]; exact hx))⟩
   omega
 refine c_exit (e_then_x (e_loop3_x (e_in_hit (e_go hK11 ?_))))
 refine c_seq fun _ hK28 => ?_
 refine c_region ?_
 refine l_val wn (r_move rfl) rfl ?_
 refine l_val wn (r_lbn 2 [.int .i64 e.kind, .int .i64 e.n, .int .i64 e.range, .string e.word, .slice e.ms.A e.ms.l.length e.ms.c, .slice e.by_.A e.by_.l.length e.by_.c, .slice e.kids.A e.kids.l.length e.kids.c] rfl rfl rfl rfl agg27 inf27) rfl ?_
 refine l_val wn (r_move rfl) rfl ?_
 refine l_callE0 (β := SlX CellX) (celsV (Mn.ask l e.e time).2) (fun z => z.l.map CellX.e = (Mn.ask l e.e time).1) (fun z S => CelsX.Ok S z) (fun z => CelsX.Ok.loc z) wn rfl Try.call8 rfl (fun w1 Pb hM pp => c_ask _ l e time Pb w1 pp.lt (pp.sl 3 rfl) (pp.at_ 4 _ rfl) (pp.at_ 5 _ rfl)) fun z1 hz1 => ?_
 refine l_get 0 rfl (fun S w h => CelsX.Ok.wf h) fun hw4 => ?_
 refine l_opn (fun _ h => h.celsX 0 rfl) ?_
 obtain ⟨hc9, hm9, hA9⟩ := hw4.cells
 refine l_val wn (r_move rfl) rfl ?_
 refine l_val wn (r_extract rfl rfl) rfl ?_
 refine l_val wn (r_extract rfl rfl) rfl ?_
 refine l_val wn (r_assign rfl) rfl ?_
 refine l_val wn (r_assign rfl) rfl ?_
 refine l_nil (e_go hK28 ?_)
 refine c_seq fun _ hK29 => ?_
 refine c_region ?_
 refine l_val wn (r_move rfl) rfl ?_
 refine l_val wn (r_lbn 5 [.int .i64 e.kind, .int .i64 e.n, .int .i64 e.range, .string e.word, .slice e.ms.A e.ms.l.length e.ms.c, .slice e.by_.A e.by_.l.length e.by_.c, .slice e.kids.A e.kids.l.length e.kids.c] rfl rfl rfl rfl agg27 inf27) rfl ?_
 refine l_val wn (r_move rfl) rfl ?_
 refine l_val wn (r_move rfl) rfl ?_
 refine l_val wn (r_addn rfl rfl (by omega)) rfl ?_
 refine l_seal 4 encLineX rfl rfl ?_
 refine l_callE0 (β := SlX CellX) (celsV (Mn.ask ms e.e (time + b)).2) (fun z => z.l.map CellX.e = (Mn.ask ms e.e (time + b)).1) (fun z S => CelsX.Ok S z) (fun z => CelsX.Ok.loc z) wn rfl Try.call8 rfl (fun w1 Pb hM pp => c_ask _ ms e (time + b) Pb w1 pp.lt (pp.sl 4 rfl) (pp.at_ 3 _ rfl) (pp.at_ 8 _ rfl)) fun z2 hz2 => ?_
 refine l_get 0 rfl (fun S w h => CelsX.Ok.wf h) fun hw5 => ?_
 refine l_opn (fun _ h => h.celsX 0 rfl) ?_
 obtain ⟨hc10, hm10, hA10⟩ := hw5.cells
 refine l_val wn (r_move rfl) rfl ?_
 refine l_val wn (r_extract rfl rfl) rfl ?_
 refine l_val wn (r_extract rfl rfl) rfl ?_
 refine l_val wn (r_assign rfl) rfl ?_
 refine l_val wn (r_assign rfl) rfl ?_
 refine l_nil (e_go hK29 ?_)
 refine c_seq fun _ hK30 => ?_
 refine c_region ?_
 have hms9 : ms.map LineX.e = (l.map LineX.e).map (Mn.mvP b) := by rw [hI1.2.2.1, List.take_of_length_le (by omega), List.map_map]; rfl
 have hin9 : ∀ x ∈ l.map LineX.e, ∀ s ∈ x.sm, Mn.inMv b s := fun x hx => by obtain ⟨y, hy, rfl⟩ := List.mem_map.1 hx; exact hI1.2.2.2.2 y (by rw [List.take_of_length_le (by omega)]; exact hy)
 have hs9 : Mn.ask ms e.e (time + b) = Mn.ask l e.e time := by rw [Mn.ask_e, hms9, Mn.ask_e]; exact Mn.later_same (by omega) (by omega) hin9
 refine l_val wn (r_move rfl) rfl ?_
 refine l_val wn (r_move rfl) rfl ?_
 refine l_val wn (r_eql rfl rfl) rfl ?_
 refine l_val wn (r_move rfl) rfl ?_
 refine l_litt (t := 100) rfl (show (Mn.ask l e.e time).2 = (Mn.ask ms e.e (time + b)).2 from by rw [hs9]) ?_
 refine l_val (wg rfl rfl rfl) (r_move rfl) rfl ?_
 refine l_val (wg rfl rfl rfl) (r_move rfl) rfl ?_
 refine l_callF (wg rfl rfl rfl) rfl Try.call10 rfl (fun w1 hM => c_sameCells _ z1.l _ z2.l (In w1) w1 (fun _ h => h) (hM.slp 3 rfl) (hM.pubAt (i := 4) rfl) (hM.slp 0 rfl) (hM.pubAt (i := 1) rfl)) ?_
 refine l_val wn (r_pick rfl rfl) rfl ?_
 refine l_val wn (r_assign rfl) rfl ?_
 refine l_nil (e_go hK30 ?_)
 refine c_ret (e_ret1 (.inl rfl) Try.results7 (rv_tmp rfl) fun w1 hM => ?_)
 exact ret_ok (congrArg Value.bool (decide_eq_true (by rw [hz1, hz2, hs9]))) hM

end Go.Proofs.Ytldecdningjkoaa
