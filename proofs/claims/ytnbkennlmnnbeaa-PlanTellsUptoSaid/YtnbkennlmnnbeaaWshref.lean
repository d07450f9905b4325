/-
  Walks: what each function hands back.
-/
import Derived.Test.YtnbkennlmnnbeaaWshelf3
import Derived.Test.YtnbkennlmnnbeaaWref3
import Derived.Test.YtnbkennlmnnbeaaWnref
import Derived.Test.YtnbkennlmnnbeaaPShelf3
namespace Go.Proofs.Ytnbkennlmnnbeaa
open Ex
set_option linter.unusedVariables false
set_option linter.unusedSimpArgs false
theorem c_most (a : Int) (b : Int) (w : World)   :
    Calls Try.prog 66 #[.int .i64 a, .int .i64 b] w (Ret w (.int .i64 (Sh.mx a b))) := by
 refine fstart (N := 10) (vals := [.int .i64 a, .int .i64 b]) (S := Mem w no []) Try.func66 rfl rfl rfl (Mem.ofDats dn) ?_
 refine c_seq fun _ hK1 => ?_
 refine c_region ?_
 refine l_val wn (r_assign rfl) rfl ?_
 refine l_nil (e_go hK1 ?_)
 refine c_seq fun _ hK2 => ?_
 refine c_seq fun _ hK3 => ?_
 refine c_region ?_
 refine l_val wn (r_move rfl) rfl ?_
 refine l_val wn (r_move rfl) rfl ?_
 refine l_val wn (r_gtr rfl rfl) rfl ?_
 refine l_nil (e_go hK3 ?_)
 refine c_cond rfl (fun h1 => ?_) (fun h1 => ?_)
 · refine c_seq fun _ hK4 => ?_
   refine c_region ?_
   refine l_val wn (r_move rfl) rfl ?_
   refine l_val wn (r_assign rfl) rfl ?_
   refine l_nil (e_go hK4 ?_)
   refine c_ret (e_then_r (e_ret1 (.inl rfl) Try.results66 (rv_tmp rfl) fun w1 hM => ?_))
   exact ret_ok (congrArg (Value.int .i64) (by unfold Sh.mx; split <;> omega)) hM
 refine c_skip (e_go hK2 ?_)
 refine c_seq fun _ hK5 => ?_
 refine c_region ?_
 refine l_val wn (r_move rfl) rfl ?_
 refine l_val wn (r_assign rfl) rfl ?_
 refine l_nil (e_go hK5 ?_)
 refine c_ret (e_ret1 (.inl rfl) Try.results66 (rv_tmp rfl) fun w1 hM => ?_)
 exact ret_ok (congrArg (Value.int .i64) (by unfold Sh.mx; split <;> omega)) hM

theorem c_least (a : Int) (b : Int) (w : World)   :
    Calls Try.prog 40 #[.int .i64 a, .int .i64 b] w (Ret w (.int .i64 (Sh.mn a b))) := by
 refine fstart (N := 10) (vals := [.int .i64 a, .int .i64 b]) (S := Mem w no []) Try.func40 rfl rfl rfl (Mem.ofDats dn) ?_
 refine c_seq fun _ hK1 => ?_
 refine c_region ?_
 refine l_val wn (r_assign rfl) rfl ?_
 refine l_nil (e_go hK1 ?_)
 refine c_seq fun _ hK2 => ?_
 refine c_seq fun _ hK3 => ?_
 refine c_region ?_
 refine l_val wn (r_move rfl) rfl ?_
 refine l_val wn (r_move rfl) rfl ?_
 refine l_val wn (r_lss rfl rfl) rfl ?_
 refine l_nil (e_go hK3 ?_)
 refine c_cond rfl (fun h1 => ?_) (fun h1 => ?_)
 · refine c_seq fun _ hK4 => ?_
   refine c_region ?_
   refine l_val wn (r_move rfl) rfl ?_
   refine l_val wn (r_assign rfl) rfl ?_
   refine l_nil (e_go hK4 ?_)
   refine c_ret (e_then_r (e_ret1 (.inl rfl) Try.results40 (rv_tmp rfl) fun w1 hM => ?_))
   exact ret_ok (congrArg (Value.int .i64) (by unfold Sh.mn; split <;> omega)) hM
 refine c_skip (e_go hK2 ?_)
 refine c_seq fun _ hK5 => ?_
 refine c_region ?_
 refine l_val wn (r_move rfl) rfl ?_
 refine l_val wn (r_assign rfl) rfl ?_
 refine l_nil (e_go hK5 ?_)
 refine c_ret (e_ret1 (.inl rfl) Try.results40 (rv_tmp rfl) fun w1 hM => ?_)
 exact ret_ok (congrArg (Value.int .i64) (by unfold Sh.mn; split <;> omega)) hM

theorem c_later (lv : Value) (l : List Bucket) (f : Int) (w : World) (hl : FlatSl (In w) 8 bucketE lv l w) (hl1 : l.length ≤ 1048576) :
    Calls Try.prog 67 #[lv, .int .i64 f] w (RetL w 78 8 bucketE (Sh.fromB l f)) := by
 obtain ⟨lA, lc, rfl, hlc, hlm, hlA⟩ := hl.form
 refine fstart (N := 24) (vals := [.slice lA l.length lc, .int .i64 f]) (S := Mem w no [slO (In w) 8 bucketE (.slice lA l.length lc) l]) Try.func67 rfl rfl rfl (Mem.ofDats (dc (dl hl) dn)) ?_
 refine c_seq fun _ hK1 => ?_
 refine c_region ?_
 refine l_nilRow (bucketE : Bucket → List Value) 78 8 ?_
 refine l_val wn (r_assign rfl) rfl ?_
 refine l_nil (e_go hK1 ?_)
 refine c_seq fun _ hK2 => ?_
 refine c_region ?_
 refine l_nilRow (bucketE : Bucket → List Value) 78 8 ?_
 refine l_val wn (r_assign rfl) rfl ?_
 refine l_nil (e_go hK2 ?_)
 refine c_seq fun _ hK3 => ?_
 refine c_seq fun _ hK4 => ?_
 refine c_region ?_
 refine l_val wn (r_move rfl) rfl ?_
 refine l_val wn (r_len rfl Try.underlying25) rfl ?_
 refine l_val wn (r_move rfl) rfl ?_
 refine l_nil (e_go hK4 ?_)
 refine c_block ?_
 refine c_loop2 (fun (k : Nat) (vr : Value) => [(1, .int .i64 f), (5, vr), (8, .slice lA l.length lc), (9, .int .i64 (l.length : Int)), (10, .int .i64 (k : Int))]) (fun (k : Nat) (vr : Value) => [Row vr 78 8 bucketE (Sh.fromB (l.take k) f), Row (.slice none 0 0) 78 8 bucketE ([] : List Bucket), slO (In w) 8 bucketE (.slice lA l.length lc) l]) (fun (k : Nat) (vr : Value) => k ≤ l.length) (fun (k : Nat) (vr : Value) => l.length - k) 0 (.slice none 0 0) (sc rfl (sc rfl (sc rfl (sc rfl (sc (ji (by omega)) sn))))) (fun _ h => h) ?_ (fun k vr hI1 => ?_)
 · omega
 have hlen := Nat.le_trans (Sh.fromB_len (l.take k) f) (List.length_take_le k l)
 refine c_open 0 (l := (Sh.fromB (l.take k) f)) rfl fun A1 cp1 hv1 hc1 hm1 hA1 => ?_
 subst hv1
 refine c_seq fun _ hK5 => ?_
 refine c_region ?_
 refine l_val wn (r_lss rfl rfl) rfl ?_
 refine l_nil (e_go hK5 ?_)
 refine c_seq fun _ hK6 => ?_
 refine c_cond rfl (fun h1 => ?_) (fun h1 => ?_)
 · refine c_skip (e_go hK6 ?_)
   refine c_seq fun _ hK7 => ?_
   refine c_block ?_
   refine c_seq fun _ hK8 => ?_
   refine c_region ?_
   obtain ⟨ad1, hd1⟩ := hlA (ne_nil (i := k) (by first | omega | decide | (simp only [List.length_cons, List.length_nil, List.length_append, List.length_take, List.length_set]; omega)))
   refine l_val wn (r_ia (i := k) rfl hd1 rfl (by omega) (by first | omega | decide | (simp only [List.length_cons, List.length_nil, List.length_append, List.length_take, List.length_set]; omega)) Try.underlying25 inf78) rfl ?_
   obtain ⟨s1, hs1⟩ : ∃ x, l[k]? = some x := ⟨_, List.getElem?_eq_getElem (by first | omega | decide | (simp only [List.length_cons, List.length_nil, List.length_append, List.length_take, List.length_set]; omega))⟩
   refine l_val wn (r_eln 2 [.int .i64 s1.at_, .int .i64 s1.sum.count, .int .i64 s1.sum.total, .int .i64 s1.sum.min, .int .i64 s1.sum.max, .int .i64 s1.sum.first, .int .i64 s1.sum.last, .int .i64 s1.sum.rise] rfl rfl hd1 hs1 rfl rfl agg78 inf78) rfl ?_
   refine l_alloc wn inf78 rfl fun b7 => ?_
   refine l_stn 0 wn rfl rfl rfl inf78 rfl rfl rfl ?_
   refine l_nil (e_go hK8 ?_)
   refine c_seq fun _ hK9 => ?_
   refine c_region ?_
   refine l_val wn (r_fa rfl fld78_0) rfl ?_
   refine l_val wn (r_lb 0 rfl rfl rfl flat3) rfl ?_
   refine l_val wn (r_move rfl) rfl ?_
   refine l_val wn (r_geq rfl rfl) rfl ?_
   refine l_nil (e_go hK9 ?_)
   refine c_cond rfl (fun h2 => ?_) (fun h2 => ?_)
   · refine c_region ?_
     refine l_val wn (r_move rfl) rfl ?_
     refine l_val wn (r_lbn 0 [.int .i64 s1.at_, .int .i64 s1.sum.count, .int .i64 s1.sum.total, .int .i64 s1.sum.min, .int .i64 s1.sum.max, .int .i64 s1.sum.first, .int .i64 s1.sum.last, .int .i64 s1.sum.rise] rfl rfl rfl rfl agg78 inf78) rfl ?_
     refine l_bsL bucketE ([s1] : List Bucket) wn Try.underlying25 inf78 rfl rfl rfl rfl (by decide) (by decide) rfl fun b20 => ?_
     refine l_app 2 (Sh.fromB (l.take k) f) ([s1] : List Bucket) encBucket wn rfl rfl rfl (fun _ hM => (RowSl encBucket hM 0 rfl)) Try.underlying25 inf78 rfl rfl (by simp only [List.length_append, List.length_cons, List.length_nil]; omega) rfl fun A2 cp2 hc2 hm2 hA2 => ?_
     refine l_val wn (r_assign rfl) rfl ?_
     refine l_nil (e_in_n (e_go hK7 ?_))
     refine c_region ?_
     refine l_val wn (r_addn rfl rfl (by omega)) rfl ?_
     refine l_val wn (r_move rfl) rfl ?_
     refine l_nil (e_round2 (k + 1) (.slice A2 (((Sh.fromB (l.take k) f) ++ ([s1] : List Bucket)).length) cp2) (sc rfl (sc rfl (sc rfl (sc rfl (sc (ji (by omega)) sn))))) (fun _ h => by rw [(Sh.fromB_succ (f := f) hs1).trans (if_pos h2)]; exact (h.sel [2, 3, 4] (by decide) rfl)) ?_ ?_)
     · omega
     omega
   refine c_skip (e_in_n (e_go hK7 ?_))
   refine c_region ?_
   refine l_val wn (r_addn rfl rfl (by omega)) rfl ?_
   refine l_val wn (r_move rfl) rfl ?_
   refine l_nil (e_round2 (k + 1) (.slice A1 ((Sh.fromB (l.take k) f).length) cp1) (sc rfl (sc rfl (sc rfl (sc rfl (sc (ji (by omega)) sn))))) (fun _ h => by rw [(Sh.fromB_succ (f := f) hs1).trans (if_neg h2)]; exact (h.sel [1, 2, 3] (by decide) rfl)) ?_ ?_)
   · omega
   omega
 refine c_exit (e_then_x (e_loop2_x (e_in_hit (e_go hK3 ?_))))
 refine c_seq fun _ hK10 => ?_
 refine c_region ?_
 refine l_val wn (r_move rfl) rfl ?_
 refine l_val wn (r_assign rfl) rfl ?_
 refine l_nil (e_go hK10 ?_)
 refine c_ret (e_ret1 (.inl rfl) Try.results67 (rv_tmp rfl) fun w1 hM => ?_)
 exact hM.retL' 0 rfl (by rw [List.take_of_length_le (by omega)])

set_option maxHeartbeats 2000000 in
theorem c_shSame (a0 : Value) (a1 : Value) (a2 : Value) (a3 : Value) (a : Shelf) (b0 : Value) (b1 : Value) (b2 : Value) (b3 : Value) (b : Shelf) (P0 : Nat → Prop) (w : World) (hP0 : ∀ b, P0 b → b < w.heap.size) (ha0 : FlatSl P0 2 labelE a0 a.series w) (ha1 : FlatSl P0 2 sampleE a1 a.raw w) (ha2 : FlatSl P0 8 bucketE a2 a.fine w) (ha3 : FlatSl P0 8 bucketE a3 a.coarse w) (hb0 : FlatSl P0 2 labelE b0 b.series w) (hb1 : FlatSl P0 2 sampleE b1 b.raw w) (hb2 : FlatSl P0 8 bucketE b2 b.fine w) (hb3 : FlatSl P0 8 bucketE b3 b.coarse w)  :
    Calls Try.prog 21 #[.agg (List.toArray [a0, a1, a2, a3, .int .i64 a.rawFrom, .int .i64 a.fineFrom, .int .i64 a.fineTo, .int .i64 a.coarseFrom, .int .i64 a.coarseTo]), .agg (List.toArray [b0, b1, b2, b3, .int .i64 b.rawFrom, .int .i64 b.fineFrom, .int .i64 b.fineTo, .int .i64 b.coarseFrom, .int .i64 b.coarseTo])] w (Ret w (.bool (decide (a = b)))) := by
 obtain ⟨a0A, a0c, rfl, ha0c, ha0m, ha0A⟩ := ha0.form
 obtain ⟨a1A, a1c, rfl, ha1c, ha1m, ha1A⟩ := ha1.form
 obtain ⟨a2A, a2c, rfl, ha2c, ha2m, ha2A⟩ := ha2.form
 obtain ⟨a3A, a3c, rfl, ha3c, ha3m, ha3A⟩ := ha3.form
 obtain ⟨b0A, b0c, rfl, hb0c, hb0m, hb0A⟩ := hb0.form
 obtain ⟨b1A, b1c, rfl, hb1c, hb1m, hb1A⟩ := hb1.form
 obtain ⟨b2A, b2c, rfl, hb2c, hb2m, hb2A⟩ := hb2.form
 obtain ⟨b3A, b3c, rfl, hb3c, hb3m, hb3A⟩ := hb3.form
 refine fstart (N := 66) (vals := [.agg (List.toArray [.slice a0A a.series.length a0c, .slice a1A a.raw.length a1c, .slice a2A a.fine.length a2c, .slice a3A a.coarse.length a3c, .int .i64 a.rawFrom, .int .i64 a.fineFrom, .int .i64 a.fineTo, .int .i64 a.coarseFrom, .int .i64 a.coarseTo]), .agg (List.toArray [.slice b0A b.series.length b0c, .slice b1A b.raw.length b1c, .slice b2A b.fine.length b2c, .slice b3A b.coarse.length b3c, .int .i64 b.rawFrom, .int .i64 b.fineFrom, .int .i64 b.fineTo, .int .i64 b.coarseFrom, .int .i64 b.coarseTo])]) (S := Mem w ⟨no, P0⟩ [slP 2 labelE (.slice a0A a.series.length a0c) a.series, slP 2 sampleE (.slice a1A a.raw.length a1c) a.raw, slP 8 bucketE (.slice a2A a.fine.length a2c) a.fine, slP 8 bucketE (.slice a3A a.coarse.length a3c) a.coarse, slP 2 labelE (.slice b0A b.series.length b0c) b.series, slP 2 sampleE (.slice b1A b.raw.length b1c) b.raw, slP 8 bucketE (.slice b2A b.fine.length b2c) b.fine, slP 8 bucketE (.slice b3A b.coarse.length b3c) b.coarse]) Try.func21 rfl rfl rfl (Mem.ofDatsP hP0 (dc (dlp ha0) (dc (dlp ha1) (dc (dlp ha2) (dc (dlp ha3) (dc (dlp hb0) (dc (dlp hb1) (dc (dlp hb2) (dc (dlp hb3) dn))))))))) ?_
 refine c_seq fun _ hK1 => ?_
 refine c_region ?_
 refine l_box wn rfl rfl fun b2_1 => ?_
 refine l_box wn rfl rfl fun b3_1 => ?_
 refine l_val wn (r_assign rfl) rfl ?_
 refine l_nil (e_go hK1 ?_)
 refine c_seq fun _ hK2 => ?_
 refine c_region ?_
 refine l_val wn (r_fa rfl fld27_0) rfl ?_
 refine l_val wn (r_lb 1 rfl rfl rfl flat23) rfl ?_
 refine l_val wn (r_fa rfl fld27_0) rfl ?_
 refine l_val wn (r_lb 0 rfl rfl rfl flat23) rfl ?_
 refine l_callF wn rfl Try.call55 rfl (fun w1 hM => c_SameSeries _ a.series _ b.series w1 (hM.slp 2 rfl) (hM.slp 6 rfl)) ?_
 refine l_val wn (r_move rfl) rfl ?_
 refine l_case (t := 10) rfl (fun h1 => ?_) (fun h1 => ?_)
 · refine l_val (wg rfl rfl rfl) (r_fa rfl fld27_1) rfl ?_
   refine l_val (wg rfl rfl rfl) (r_lb 1 rfl rfl rfl flat24) rfl ?_
   refine l_val (wg rfl rfl rfl) (r_fa rfl fld27_1) rfl ?_
   refine l_val (wg rfl rfl rfl) (r_lb 0 rfl rfl rfl flat24) rfl ?_
   refine l_callF (wg rfl rfl rfl) rfl Try.call31 rfl (fun w1 hM => c_SameSamples _ a.raw _ b.raw w1 (hM.slp 3 rfl) (hM.slp 7 rfl)) ?_
   refine l_val wn (r_pick rfl rfl) rfl ?_
   refine l_val wn (r_move rfl) rfl ?_
   refine l_case (t := 17) rfl (fun h2 => ?_) (fun h2 => ?_)
   · refine l_val (wg rfl rfl rfl) (r_fa rfl fld27_2) rfl ?_
     refine l_val (wg rfl rfl rfl) (r_lb 1 rfl rfl rfl flat25) rfl ?_
     refine l_val (wg rfl rfl rfl) (r_fa rfl fld27_2) rfl ?_
     refine l_val (wg rfl rfl rfl) (r_lb 0 rfl rfl rfl flat25) rfl ?_
     refine l_callF (wg rfl rfl rfl) rfl Try.call32 rfl (fun w1 hM => c_SameBuckets _ a.fine _ b.fine w1 (hM.slp 4 rfl) (hM.slp 8 rfl)) ?_
     refine l_val wn (r_pick rfl rfl) rfl ?_
     refine l_val wn (r_move rfl) rfl ?_
     refine l_case (t := 24) rfl (fun h3 => ?_) (fun h3 => ?_)
     · refine l_val (wg rfl rfl rfl) (r_fa rfl fld27_3) rfl ?_
       refine l_val (wg rfl rfl rfl) (r_lb 1 rfl rfl rfl flat25) rfl ?_
       refine l_val (wg rfl rfl rfl) (r_fa rfl fld27_3) rfl ?_
       refine l_val (wg rfl rfl rfl) (r_lb 0 rfl rfl rfl flat25) rfl ?_
       refine l_callF (wg rfl rfl rfl) rfl Try.call32 rfl (fun w1 hM => c_SameBuckets _ a.coarse _ b.coarse w1 (hM.slp 5 rfl) (hM.slp 9 rfl)) ?_
       refine l_val wn (r_pick rfl rfl) rfl ?_
       refine l_val wn (r_move rfl) rfl ?_
       refine l_case (t := 31) rfl (fun h4 => ?_) (fun h4 => ?_)
       · refine l_val (wg rfl rfl rfl) (r_fa rfl fld27_4) rfl ?_
         refine l_val (wg rfl rfl rfl) (r_lb 1 rfl rfl rfl flat3) rfl ?_
         refine l_val (wg rfl rfl rfl) (r_fa rfl fld27_4) rfl ?_
         refine l_val (wg rfl rfl rfl) (r_lb 0 rfl rfl rfl flat3) rfl ?_
         refine l_val (wg rfl rfl rfl) (r_eql rfl rfl) rfl ?_
         refine l_val wn (r_pick rfl rfl) rfl ?_
         refine l_val wn (r_move rfl) rfl ?_
         refine l_case (t := 38) rfl (fun h5 => ?_) (fun h5 => ?_)
         · refine l_val (wg rfl rfl rfl) (r_fa rfl fld27_5) rfl ?_
           refine l_val (wg rfl rfl rfl) (r_lb 1 rfl rfl rfl flat3) rfl ?_
           refine l_val (wg rfl rfl rfl) (r_fa rfl fld27_5) rfl ?_
           refine l_val (wg rfl rfl rfl) (r_lb 0 rfl rfl rfl flat3) rfl ?_
           refine l_val (wg rfl rfl rfl) (r_eql rfl rfl) rfl ?_
           refine l_val wn (r_pick rfl rfl) rfl ?_
           refine l_val wn (r_move rfl) rfl ?_
           refine l_case (t := 45) rfl (fun h6 => ?_) (fun h6 => ?_)
           · refine l_val (wg rfl rfl rfl) (r_fa rfl fld27_6) rfl ?_
             refine l_val (wg rfl rfl rfl) (r_lb 1 rfl rfl rfl flat3) rfl ?_
             refine l_val (wg rfl rfl rfl) (r_fa rfl fld27_6) rfl ?_
             refine l_val (wg rfl rfl rfl) (r_lb 0 rfl rfl rfl flat3) rfl ?_
             refine l_val (wg rfl rfl rfl) (r_eql rfl rfl) rfl ?_
             refine l_val wn (r_pick rfl rfl) rfl ?_
             refine l_val wn (r_move rfl) rfl ?_
             refine l_case (t := 52) rfl (fun h7 => ?_) (fun h7 => ?_)
             · refine l_val (wg rfl rfl rfl) (r_fa rfl fld27_7) rfl ?_
               refine l_val (wg rfl rfl rfl) (r_lb 1 rfl rfl rfl flat3) rfl ?_
               refine l_val (wg rfl rfl rfl) (r_fa rfl fld27_7) rfl ?_
               refine l_val (wg rfl rfl rfl) (r_lb 0 rfl rfl rfl flat3) rfl ?_
               refine l_val (wg rfl rfl rfl) (r_eql rfl rfl) rfl ?_
               refine l_val wn (r_pick rfl rfl) rfl ?_
               refine l_val wn (r_move rfl) rfl ?_
               refine l_case (t := 59) rfl (fun h8 => ?_) (fun h8 => ?_)
               · refine l_val (wg rfl rfl rfl) (r_fa rfl fld27_8) rfl ?_
                 refine l_val (wg rfl rfl rfl) (r_lb 1 rfl rfl rfl flat3) rfl ?_
                 refine l_val (wg rfl rfl rfl) (r_fa rfl fld27_8) rfl ?_
                 refine l_val (wg rfl rfl rfl) (r_lb 0 rfl rfl rfl flat3) rfl ?_
                 refine l_val (wg rfl rfl rfl) (r_eql rfl rfl) rfl ?_
                 refine l_val wn (r_pick rfl rfl) rfl ?_
                 refine l_val wn (r_assign rfl) rfl ?_
                 refine l_nil (e_go hK2 ?_)
                 refine c_ret (e_ret1 (.inl rfl) Try.results21 (rv_tmp rfl) fun w1 hM => ?_)
                 exact ret_ok (congrArg Value.bool (by rw [Bool.eq_iff_iff]; simp [Sh.eq_iff, h1, h2, h3, h4, h5, h6, h7, h8])) hM
               refine l_skip (wg rfl rfl rfl) rfl ?_
               refine l_skip (wg rfl rfl rfl) rfl ?_
               refine l_skip (wg rfl rfl rfl) rfl ?_
               refine l_skip (wg rfl rfl rfl) rfl ?_
               refine l_skip (wg rfl rfl rfl) rfl ?_
               refine l_val wn (r_pick rfl rfl) rfl ?_
               refine l_val wn (r_assign rfl) rfl ?_
               refine l_nil (e_go hK2 ?_)
               refine c_ret (e_ret1 (.inl rfl) Try.results21 (rv_tmp rfl) fun w1 hM => ?_)
               exact ret_ok (congrArg Value.bool (by rw [Bool.eq_iff_iff]; simp [Sh.eq_iff, h1, h2, h3, h4, h5, h6, h7, h8])) hM
             refine l_skip (wg rfl rfl rfl) rfl ?_
             refine l_skip (wg rfl rfl rfl) rfl ?_
             refine l_skip (wg rfl rfl rfl) rfl ?_
             refine l_skip (wg rfl rfl rfl) rfl ?_
             refine l_skip (wg rfl rfl rfl) rfl ?_
             refine l_val wn (r_pick rfl rfl) rfl ?_
             refine l_val wn (r_move rfl) rfl ?_
             refine l_skip (wg rfl rfl rfl) rfl ?_
             refine l_skip (wg rfl rfl rfl) rfl ?_
             refine l_skip (wg rfl rfl rfl) rfl ?_
             refine l_skip (wg rfl rfl rfl) rfl ?_
             refine l_skip (wg rfl rfl rfl) rfl ?_
             refine l_val wn (r_pick rfl rfl) rfl ?_
             refine l_val wn (r_assign rfl) rfl ?_
             refine l_nil (e_go hK2 ?_)
             refine c_ret (e_ret1 (.inl rfl) Try.results21 (rv_tmp rfl) fun w1 hM => ?_)
             exact ret_ok (congrArg Value.bool (by rw [Bool.eq_iff_iff]; simp [Sh.eq_iff, h1, h2, h3, h4, h5, h6, h7])) hM
           refine l_skip (wg rfl rfl rfl) rfl ?_
           refine l_skip (wg rfl rfl rfl) rfl ?_
           refine l_skip (wg rfl rfl rfl) rfl ?_
           refine l_skip (wg rfl rfl rfl) rfl ?_
           refine l_skip (wg rfl rfl rfl) rfl ?_
           refine l_val wn (r_pick rfl rfl) rfl ?_
           refine l_val wn (r_move rfl) rfl ?_
           refine l_skip (wg rfl rfl rfl) rfl ?_
           refine l_skip (wg rfl rfl rfl) rfl ?_
           refine l_skip (wg rfl rfl rfl) rfl ?_
           refine l_skip (wg rfl rfl rfl) rfl ?_
           refine l_skip (wg rfl rfl rfl) rfl ?_
           refine l_val wn (r_pick rfl rfl) rfl ?_
           refine l_val wn (r_move rfl) rfl ?_
           refine l_skip (wg rfl rfl rfl) rfl ?_
           refine l_skip (wg rfl rfl rfl) rfl ?_
           refine l_skip (wg rfl rfl rfl) rfl ?_
           refine l_skip (wg rfl rfl rfl) rfl ?_
           refine l_skip (wg rfl rfl rfl) rfl ?_
           refine l_val wn (r_pick rfl rfl) rfl ?_
           refine l_val wn (r_assign rfl) rfl ?_
           refine l_nil (e_go hK2 ?_)
           refine c_ret (e_ret1 (.inl rfl) Try.results21 (rv_tmp rfl) fun w1 hM => ?_)
           exact ret_ok (congrArg Value.bool (by rw [Bool.eq_iff_iff]; simp [Sh.eq_iff, h1, h2, h3, h4, h5, h6])) hM
         refine l_skip (wg rfl rfl rfl) rfl ?_
         refine l_skip (wg rfl rfl rfl) rfl ?_
         refine l_skip (wg rfl rfl rfl) rfl ?_
         refine l_skip (wg rfl rfl rfl) rfl ?_
         refine l_skip (wg rfl rfl rfl) rfl ?_
         refine l_val wn (r_pick rfl rfl) rfl ?_
         refine l_val wn (r_move rfl) rfl ?_
         refine l_skip (wg rfl rfl rfl) rfl ?_
         refine l_skip (wg rfl rfl rfl) rfl ?_
         refine l_skip (wg rfl rfl rfl) rfl ?_
         refine l_skip (wg rfl rfl rfl) rfl ?_
         refine l_skip (wg rfl rfl rfl) rfl ?_
         refine l_val wn (r_pick rfl rfl) rfl ?_
         refine l_val wn (r_move rfl) rfl ?_
         refine l_skip (wg rfl rfl rfl) rfl ?_
         refine l_skip (wg rfl rfl rfl) rfl ?_
         refine l_skip (wg rfl rfl rfl) rfl ?_
         refine l_skip (wg rfl rfl rfl) rfl ?_
         refine l_skip (wg rfl rfl rfl) rfl ?_
         refine l_val wn (r_pick rfl rfl) rfl ?_
         refine l_val wn (r_move rfl) rfl ?_
         refine l_skip (wg rfl rfl rfl) rfl ?_
         refine l_skip (wg rfl rfl rfl) rfl ?_
         refine l_skip (wg rfl rfl rfl) rfl ?_
         refine l_skip (wg rfl rfl rfl) rfl ?_
         refine l_skip (wg rfl rfl rfl) rfl ?_
         refine l_val wn (r_pick rfl rfl) rfl ?_
         refine l_val wn (r_assign rfl) rfl ?_
         refine l_nil (e_go hK2 ?_)
         refine c_ret (e_ret1 (.inl rfl) Try.results21 (rv_tmp rfl) fun w1 hM => ?_)
         exact ret_ok (congrArg Value.bool (by rw [Bool.eq_iff_iff]; simp [Sh.eq_iff, h1, h2, h3, h4, h5])) hM
       refine l_skip (wg rfl rfl rfl) rfl ?_
       refine l_skip (wg rfl rfl rfl) rfl ?_
       refine l_skip (wg rfl rfl rfl) rfl ?_
       refine l_skip (wg rfl rfl rfl) rfl ?_
       refine l_skip (wg rfl rfl rfl) rfl ?_
       refine l_val wn (r_pick rfl rfl) rfl ?_
       refine l_val wn (r_move rfl) rfl ?_
       refine l_skip (wg rfl rfl rfl) rfl ?_
       refine l_skip (wg rfl rfl rfl) rfl ?_
       refine l_skip (wg rfl rfl rfl) rfl ?_
       refine l_skip (wg rfl rfl rfl) rfl ?_
       refine l_skip (wg rfl rfl rfl) rfl ?_
       refine l_val wn (r_pick rfl rfl) rfl ?_
       refine l_val wn (r_move rfl) rfl ?_
       refine l_skip (wg rfl rfl rfl) rfl ?_
       refine l_skip (wg rfl rfl rfl) rfl ?_
       refine l_skip (wg rfl rfl rfl) rfl ?_
       refine l_skip (wg rfl rfl rfl) rfl ?_
       refine l_skip (wg rfl rfl rfl) rfl ?_
       refine l_val wn (r_pick rfl rfl) rfl ?_
       refine l_val wn (r_move rfl) rfl ?_
       refine l_skip (wg rfl rfl rfl) rfl ?_
       refine l_skip (wg rfl rfl rfl) rfl ?_
       refine l_skip (wg rfl rfl rfl) rfl ?_
       refine l_skip (wg rfl rfl rfl) rfl ?_
       refine l_skip (wg rfl rfl rfl) rfl ?_
       refine l_val wn (r_pick rfl rfl) rfl ?_
       refine l_val wn (r_move rfl) rfl ?_
       refine l_skip (wg rfl rfl rfl) rfl ?_
       refine l_skip (wg rfl rfl rfl) rfl ?_
       refine l_skip (wg rfl rfl rfl) rfl ?_
       refine l_skip (wg rfl rfl rfl) rfl ?_
       refine l_skip (wg rfl rfl rfl) rfl ?_
       refine l_val wn (r_pick rfl rfl) rfl ?_
       refine l_val wn (r_assign rfl) rfl ?_
       refine l_nil (e_go hK2 ?_)
       refine c_ret (e_ret1 (.inl rfl) Try.results21 (rv_tmp rfl) fun w1 hM => ?_)
       exact ret_ok (congrArg Value.bool (by rw [Bool.eq_iff_iff]; simp [Sh.eq_iff, h1, h2, h3, h4])) hM
     refine l_skip (wg rfl rfl rfl) rfl ?_
     refine l_skip (wg rfl rfl rfl) rfl ?_
     refine l_skip (wg rfl rfl rfl) rfl ?_
     refine l_skip (wg rfl rfl rfl) rfl ?_
     refine l_skip (wg rfl rfl rfl) rfl ?_
     refine l_val wn (r_pick rfl rfl) rfl ?_
     refine l_val wn (r_move rfl) rfl ?_
     refine l_skip (wg rfl rfl rfl) rfl ?_
     refine l_skip (wg rfl rfl rfl) rfl ?_
     refine l_skip (wg rfl rfl rfl) rfl ?_
     refine l_skip (wg rfl rfl rfl) rfl ?_
     refine l_skip (wg rfl rfl rfl) rfl ?_
     refine l_val wn (r_pick rfl rfl) rfl ?_
     refine l_val wn (r_move rfl) rfl ?_
     refine l_skip (wg rfl rfl rfl) rfl ?_
     refine l_skip (wg rfl rfl rfl) rfl ?_
     refine l_skip (wg rfl rfl rfl) rfl ?_
     refine l_skip (wg rfl rfl rfl) rfl ?_
     refine l_skip (wg rfl rfl rfl) rfl ?_
     refine l_val wn (r_pick rfl rfl) rfl ?_
     refine l_val wn (r_move rfl) rfl ?_
     refine l_skip (wg rfl rfl rfl) rfl ?_
     refine l_skip (wg rfl rfl rfl) rfl ?_
     refine l_skip (wg rfl rfl rfl) rfl ?_
     refine l_skip (wg rfl rfl rfl) rfl ?_
     refine l_skip (wg rfl rfl rfl) rfl ?_
     refine l_val wn (r_pick rfl rfl) rfl ?_
     refine l_val wn (r_move rfl) rfl ?_
     refine l_skip (wg rfl rfl rfl) rfl ?_
     refine l_skip (wg rfl rfl rfl) rfl ?_
     refine l_skip (wg rfl rfl rfl) rfl ?_
     refine l_skip (wg rfl rfl rfl) rfl ?_
     refine l_skip (wg rfl rfl rfl) rfl ?_
     refine l_val wn (r_pick rfl rfl) rfl ?_
     refine l_val wn (r_move rfl) rfl ?_
     refine l_skip (wg rfl rfl rfl) rfl ?_
     refine l_skip (wg rfl rfl rfl) rfl ?_
     refine l_skip (wg rfl rfl rfl) rfl ?_
     refine l_skip (wg rfl rfl rfl) rfl ?_
     refine l_skip (wg rfl rfl rfl) rfl ?_
     refine l_val wn (r_pick rfl rfl) rfl ?_
     refine l_val wn (r_assign rfl) rfl ?_
     refine l_nil (e_go hK2 ?_)
     refine c_ret (e_ret1 (.inl rfl) Try.results21 (rv_tmp rfl) fun w1 hM => ?_)
     exact ret_ok (congrArg Value.bool (by rw [Bool.eq_iff_iff]; simp [Sh.eq_iff, h1, h2, h3])) hM
   refine l_skip (wg rfl rfl rfl) rfl ?_
   refine l_skip (wg rfl rfl rfl) rfl ?_
   refine l_skip (wg rfl rfl rfl) rfl ?_
   refine l_skip (wg rfl rfl rfl) rfl ?_
   refine l_skip (wg rfl rfl rfl) rfl ?_
   refine l_val wn (r_pick rfl rfl) rfl ?_
   refine l_val wn (r_move rfl) rfl ?_
   refine l_skip (wg rfl rfl rfl) rfl ?_
   refine l_skip (wg rfl rfl rfl) rfl ?_
   refine l_skip (wg rfl rfl rfl) rfl ?_
   refine l_skip (wg rfl rfl rfl) rfl ?_
   refine l_skip (wg rfl rfl rfl) rfl ?_
   refine l_val wn (r_pick rfl rfl) rfl ?_
   refine l_val wn (r_move rfl) rfl ?_
   refine l_skip (wg rfl rfl rfl) rfl ?_
   refine l_skip (wg rfl rfl rfl) rfl ?_
   refine l_skip (wg rfl rfl rfl) rfl ?_
   refine l_skip (wg rfl rfl rfl) rfl ?_
   refine l_skip (wg rfl rfl rfl) rfl ?_
   refine l_val wn (r_pick rfl rfl) rfl ?_
   refine l_val wn (r_move rfl) rfl ?_
   refine l_skip (wg rfl rfl rfl) rfl ?_
   refine l_skip (wg rfl rfl rfl) rfl ?_
   refine l_skip (wg rfl rfl rfl) rfl ?_
   refine l_skip (wg rfl rfl rfl) rfl ?_
   refine l_skip (wg rfl rfl rfl) rfl ?_
   refine l_val wn (r_pick rfl rfl) rfl ?_
   refine l_val wn (r_move rfl) rfl ?_
   refine l_skip (wg rfl rfl rfl) rfl ?_
   refine l_skip (wg rfl rfl rfl) rfl ?_
   refine l_skip (wg rfl rfl rfl) rfl ?_
   refine l_skip (wg rfl rfl rfl) rfl ?_
   refine l_skip (wg rfl rfl rfl) rfl ?_
   refine l_val wn (r_pick rfl rfl) rfl ?_
   refine l_val wn (r_move rfl) rfl ?_
   refine l_skip (wg rfl rfl rfl) rfl ?_
   refine l_skip (wg rfl rfl rfl) rfl ?_
   refine l_skip (wg rfl rfl rfl) rfl ?_
   refine l_skip (wg rfl rfl rfl) rfl ?_
   refine l_skip (wg rfl rfl rfl) rfl ?_
   refine l_val wn (r_pick rfl rfl) rfl ?_
   refine l_val wn (r_move rfl) rfl ?_
   refine l_skip (wg rfl rfl rfl) rfl ?_
   refine l_skip (wg rfl rfl rfl) rfl ?_
   refine l_skip (wg rfl rfl rfl) rfl ?_
   refine l_skip (wg rfl rfl rfl) rfl ?_
   refine l_skip (wg rfl rfl rfl) rfl ?_
   refine l_val wn (r_pick rfl rfl) rfl ?_
   refine l_val wn (r_assign rfl) rfl ?_
   refine l_nil (e_go hK2 ?_)
   refine c_ret (e_ret1 (.inl rfl) Try.results21 (rv_tmp rfl) fun w1 hM => ?_)
   exact ret_ok (congrArg Value.bool (by rw [Bool.eq_iff_iff]; simp [Sh.eq_iff, h1, h2])) hM
 refine l_skip (wg rfl rfl rfl) rfl ?_
 refine l_skip (wg rfl rfl rfl) rfl ?_
 refine l_skip (wg rfl rfl rfl) rfl ?_
 refine l_skip (wg rfl rfl rfl) rfl ?_
 refine l_skip (wg rfl rfl rfl) rfl ?_
 refine l_val wn (r_pick rfl rfl) rfl ?_
 refine l_val wn (r_move rfl) rfl ?_
 refine l_skip (wg rfl rfl rfl) rfl ?_
 refine l_skip (wg rfl rfl rfl) rfl ?_
 refine l_skip (wg rfl rfl rfl) rfl ?_
 refine l_skip (wg rfl rfl rfl) rfl ?_
 refine l_skip (wg rfl rfl rfl) rfl ?_
 refine l_val wn (r_pick rfl rfl) rfl ?_
 refine l_val wn (r_move rfl) rfl ?_
 refine l_skip (wg rfl rfl rfl) rfl ?_
 refine l_skip (wg rfl rfl rfl) rfl ?_
 refine l_skip (wg rfl rfl rfl) rfl ?_
 refine l_skip (wg rfl rfl rfl) rfl ?_
 refine l_skip (wg rfl rfl rfl) rfl ?_
 refine l_val wn (r_pick rfl rfl) rfl ?_
 refine l_val wn (r_move rfl) rfl ?_
 refine l_skip (wg rfl rfl rfl) rfl ?_
 refine l_skip (wg rfl rfl rfl) rfl ?_
 refine l_skip (wg rfl rfl rfl) rfl ?_
 refine l_skip (wg rfl rfl rfl) rfl ?_
 refine l_skip (wg rfl rfl rfl) rfl ?_
 refine l_val wn (r_pick rfl rfl) rfl ?_
 refine l_val wn (r_move rfl) rfl ?_
 refine l_skip (wg rfl rfl rfl) rfl ?_
 refine l_skip (wg rfl rfl rfl) rfl ?_
 refine l_skip (wg rfl rfl rfl) rfl ?_
 refine l_skip (wg rfl rfl rfl) rfl ?_
 refine l_skip (wg rfl rfl rfl) rfl ?_
 refine l_val wn (r_pick rfl rfl) rfl ?_
 refine l_val wn (r_move rfl) rfl ?_
 refine l_skip (wg rfl rfl rfl) rfl ?_
 refine l_skip (wg rfl rfl rfl) rfl ?_
 refine l_skip (wg rfl rfl rfl) rfl ?_
 refine l_skip (wg rfl rfl rfl) rfl ?_
 refine l_skip (wg rfl rfl rfl) rfl ?_
 refine l_val wn (r_pick rfl rfl) rfl ?_
 refine l_val wn (r_move rfl) rfl ?_
 refine l_skip (wg rfl rfl rfl) rfl ?_
 refine l_skip (wg rfl rfl rfl) rfl ?_
 refine l_skip (wg rfl rfl rfl) rfl ?_
 refine l_skip (wg rfl rfl rfl) rfl ?_
 refine l_skip (wg rfl rfl rfl) rfl ?_
 refine l_val wn (r_pick rfl rfl) rfl ?_
 refine l_val wn (r_move rfl) rfl ?_
 refine l_skip (wg rfl rfl rfl) rfl ?_
 refine l_skip (wg rfl rfl rfl) rfl ?_
 refine l_skip (wg rfl rfl rfl) rfl ?_
 refine l_skip (wg rfl rfl rfl) rfl ?_
 refine l_skip (wg rfl rfl rfl) rfl ?_
 refine l_val wn (r_pick rfl rfl) rfl ?_
 refine l_val wn (r_assign rfl) rfl ?_
 refine l_nil (e_go hK2 ?_)
 refine c_ret (e_ret1 (.inl rfl) Try.results21 (rv_tmp rfl) fun w1 hM => ?_)
 exact ret_ok (congrArg Value.bool (by rw [Bool.eq_iff_iff]; simp [Sh.eq_iff, h1])) hM

set_option maxHeartbeats 2000000 in
theorem c_refShWrong (z0 : Value) (z1 : Value) (z2 : Value) (z3 : Value) (z : Shelf) (P0 : Nat → Prop) (w : World) (hP0 : ∀ b, P0 b → b < w.heap.size) (hz0 : FlatSl P0 2 labelE z0 z.series w) (hz1 : FlatSl P0 2 sampleE z1 z.raw w) (hz2 : FlatSl P0 8 bucketE z2 z.fine w) (hz3 : FlatSl P0 8 bucketE z3 z.coarse w) (hok : ∀ x ∈ z.series, x.key.size ≤ 9223372036854775807 ∧ x.val.size ≤ 9223372036854775807) :
    Calls Try.prog 20 #[.agg (List.toArray [z0, z1, z2, z3, .int .i64 z.rawFrom, .int .i64 z.fineFrom, .int .i64 z.fineTo, .int .i64 z.coarseFrom, .int .i64 z.coarseTo])] w (Ret w (.int .i64 (Sh.wrong z))) := by
 obtain ⟨z0A, z0c, rfl, hz0c, hz0m, hz0A⟩ := hz0.form
 obtain ⟨z1A, z1c, rfl, hz1c, hz1m, hz1A⟩ := hz1.form
 obtain ⟨z2A, z2c, rfl, hz2c, hz2m, hz2A⟩ := hz2.form
 obtain ⟨z3A, z3c, rfl, hz3c, hz3m, hz3A⟩ := hz3.form
 refine fstart (N := 192) (vals := [.agg (List.toArray [.slice z0A z.series.length z0c, .slice z1A z.raw.length z1c, .slice z2A z.fine.length z2c, .slice z3A z.coarse.length z3c, .int .i64 z.rawFrom, .int .i64 z.fineFrom, .int .i64 z.fineTo, .int .i64 z.coarseFrom, .int .i64 z.coarseTo])]) (S := Mem w ⟨no, P0⟩ [slP 2 labelE (.slice z0A z.series.length z0c) z.series, slP 2 sampleE (.slice z1A z.raw.length z1c) z.raw, slP 8 bucketE (.slice z2A z.fine.length z2c) z.fine, slP 8 bucketE (.slice z3A z.coarse.length z3c) z.coarse]) Try.func20 rfl rfl rfl (Mem.ofDatsP hP0 (dc (dlp hz0) (dc (dlp hz1) (dc (dlp hz2) (dc (dlp hz3) dn))))) ?_
 refine c_seq fun _ hK1 => ?_
 refine c_region ?_
 refine l_box wn rfl rfl fun b1 => ?_
 refine l_val wn (r_assign rfl) rfl ?_
 refine l_nil (e_go hK1 ?_)
 refine c_seq fun _ hK2 => ?_
 refine c_seq fun _ hK3 => ?_
 refine c_region ?_
 refine l_val wn (r_fa rfl fld27_0) rfl ?_
 refine l_val wn (r_lb 0 rfl rfl rfl flat23) rfl ?_
 refine l_callF wn rfl Try.call52 rfl (fun w1 hM => c_refWrongSeries _ z.series w1 (hM.slp 1 rfl) (by first | assumption | exact hok)) ?_
 refine l_val wn (r_assign rfl) rfl ?_
 refine l_nil (e_go hK3 ?_)
 refine c_seq fun _ hK4 => ?_
 refine c_region ?_
 refine l_val wn (r_move rfl) rfl ?_
 refine l_val wn (r_neq rfl rfl) rfl ?_
 refine l_nil (e_go hK4 ?_)
 refine c_cond rfl (fun h1 => ?_) (fun h1 => ?_)
 · refine c_seq fun _ hK5 => ?_
   refine c_region ?_
   refine l_val wn (r_move rfl) rfl ?_
   refine l_val wn (r_assign rfl) rfl ?_
   refine l_nil (e_go hK5 ?_)
   refine c_ret (e_then_r (e_ret1 (.inl rfl) Try.results20 (rv_tmp rfl) fun w1 hM => ?_))
   exact ret_ok (congrArg (Value.int .i64) (by rw [Sh.wrong, if_pos h1])) hM
 refine c_skip (e_go hK2 ?_)
 refine c_seq fun _ hK6 => ?_
 refine c_seq fun _ hK7 => ?_
 refine c_region ?_
 refine l_val wn (r_fa rfl fld27_1) rfl ?_
 refine l_val wn (r_lb 0 rfl rfl rfl flat24) rfl ?_
 refine l_callF wn rfl Try.call53 rfl (fun w1 hM => c_refWrong _ z.raw w1 (hM.slp 2 rfl)) ?_
 refine l_alloc wn inf81 rfl fun b4 => ?_
 refine l_stn 0 wn rfl rfl rfl inf81 rfl rfl rfl ?_
 refine l_nil (e_go hK7 ?_)
 refine c_seq fun _ hK8 => ?_
 refine c_region ?_
 refine l_val wn (r_fa rfl fld81_0) rfl ?_
 refine l_val wn (r_lb 0 rfl rfl rfl flat30) rfl ?_
 refine l_val wn (r_neq rfl rfl) rfl ?_
 refine l_nil (e_go hK8 ?_)
 refine c_cond rfl (fun h2 => ?_) (fun h2 => ?_)
 · refine c_seq fun _ hK9 => ?_
   refine c_region ?_
   refine l_val wn (r_fa rfl fld81_0) rfl ?_
   refine l_val wn (r_lb 0 rfl rfl rfl flat30) rfl ?_
   refine l_val wn (r_assign rfl) rfl ?_
   refine l_nil (e_go hK9 ?_)
   refine c_ret (e_then_r (e_ret1 (.inl rfl) Try.results20 (rv_tmp rfl) fun w1 hM => ?_))
   exact ret_ok (congrArg (Value.int .i64) (by rw [Sh.wrong, if_neg h1, if_pos h2])) hM
 refine c_skip (e_go hK6 ?_)
 refine c_seq fun _ hK10 => ?_
 refine c_seq fun _ hK11 => ?_
 refine c_region ?_
 refine l_val wn (r_fa rfl fld27_2) rfl ?_
 refine l_val wn (r_lb 1 rfl rfl rfl flat25) rfl ?_
 refine l_callF wn rfl Try.call54 rfl (fun w1 hM => c_refWrongBuckets _ z.fine 1 w1 (hM.slp 4 rfl)) ?_
 refine l_alloc wn inf81 rfl fun b5 => ?_
 refine l_stn 0 wn rfl rfl rfl inf81 rfl rfl rfl ?_
 refine l_nil (e_go hK11 ?_)
 refine c_seq fun _ hK12 => ?_
 refine c_region ?_
 refine l_val wn (r_fa rfl fld81_0) rfl ?_
 refine l_val wn (r_lb 0 rfl rfl rfl flat30) rfl ?_
 refine l_val wn (r_neq rfl rfl) rfl ?_
 refine l_nil (e_go hK12 ?_)
 refine c_cond rfl (fun h3 => ?_) (fun h3 => ?_)
 · refine c_seq fun _ hK13 => ?_
   refine c_region ?_
   refine l_val wn (r_fa rfl fld81_0) rfl ?_
   refine l_val wn (r_lb 0 rfl rfl rfl flat30) rfl ?_
   refine l_val wn (r_assign rfl) rfl ?_
   refine l_nil (e_go hK13 ?_)
   refine c_ret (e_then_r (e_ret1 (.inl rfl) Try.results20 (rv_tmp rfl) fun w1 hM => ?_))
   exact ret_ok (congrArg (Value.int .i64) (by rw [Sh.wrong, if_neg h1, if_neg h2, if_pos h3])) hM
 refine c_skip (e_go hK10 ?_)
 refine c_seq fun _ hK14 => ?_
 refine c_seq fun _ hK15 => ?_
 refine c_region ?_
 refine l_val wn (r_fa rfl fld27_3) rfl ?_
 refine l_val wn (r_lb 2 rfl rfl rfl flat25) rfl ?_
 refine l_callF wn rfl Try.call54 rfl (fun w1 hM => c_refWrongBuckets _ z.coarse 2 w1 (hM.slp 6 rfl)) ?_
 refine l_alloc wn inf81 rfl fun b6 => ?_
 refine l_stn 0 wn rfl rfl rfl inf81 rfl rfl rfl ?_
 refine l_nil (e_go hK15 ?_)
 refine c_seq fun _ hK16 => ?_
 refine c_region ?_
 refine l_val wn (r_fa rfl fld81_0) rfl ?_
 refine l_val wn (r_lb 0 rfl rfl rfl flat30) rfl ?_
 refine l_val wn (r_neq rfl rfl) rfl ?_
 refine l_nil (e_go hK16 ?_)
 refine c_cond rfl (fun h4 => ?_) (fun h4 => ?_)
 · refine c_seq fun _ hK17 => ?_
   refine c_region ?_
   refine l_val wn (r_fa rfl fld81_0) rfl ?_
   refine l_val wn (r_lb 0 rfl rfl rfl flat30) rfl ?_
   refine l_val wn (r_assign rfl) rfl ?_
   refine l_nil (e_go hK17 ?_)
   refine c_ret (e_then_r (e_ret1 (.inl rfl) Try.results20 (rv_tmp rfl) fun w1 hM => ?_))
   exact ret_ok (congrArg (Value.int .i64) (by rw [Sh.wrong, if_neg h1, if_neg h2, if_neg h3, if_pos h4])) hM
 refine c_skip (e_go hK14 ?_)
 refine c_cut [(1, .pointer (some ⟨b1, 0, none⟩)), (7, .bool (decide ((0 ≤ z.fineFrom) ∧ ((z.fineFrom ≤ z.fineTo) ∧ ((z.fineTo ≤ 1000000) ∧ (((z.fineFrom % 10) = 0) ∧ ((z.fineTo % 10) = 0)))))))] (Mem w ⟨no, P0⟩ [.blk b6 [.int .i64 ((Roll.wrong z.coarse 2).err), .int .i64 ((Roll.wrong z.coarse 2).at_)] 81, .blk b5 [.int .i64 ((Roll.wrong z.fine 1).err), .int .i64 ((Roll.wrong z.fine 1).at_)] 81, .blk b4 [.int .i64 ((Codec.wrong z.raw).err), .int .i64 ((Codec.wrong z.raw).at_)] 81, .blk b1 [.slice z0A z.series.length z0c, .slice z1A z.raw.length z1c, .slice z2A z.fine.length z2c, .slice z3A z.coarse.length z3c, .int .i64 z.rawFrom, .int .i64 z.fineFrom, .int .i64 z.fineTo, .int .i64 z.coarseFrom, .int .i64 z.coarseTo] 27, slP 2 labelE (.slice z0A z.series.length z0c) z.series, slP 2 sampleE (.slice z1A z.raw.length z1c) z.raw, slP 8 bucketE (.slice z2A z.fine.length z2c) z.fine, slP 8 bucketE (.slice z3A z.coarse.length z3c) z.coarse]) (fun _ hK18 => ?_) ?_
 · refine c_region ?_
   refine l_val wn (r_fa rfl fld27_5) rfl ?_
   refine l_val wn (r_lb 3 rfl rfl rfl flat3) rfl ?_
   refine l_val wn (r_geq rfl rfl) rfl ?_
   refine l_val wn (r_move rfl) rfl ?_
   refine l_case (t := 47) rfl (fun h5 => ?_) (fun h5 => ?_)
   · refine l_val (wg rfl rfl rfl) (r_fa rfl fld27_5) rfl ?_
     refine l_val (wg rfl rfl rfl) (r_lb 3 rfl rfl rfl flat3) rfl ?_
     refine l_val (wg rfl rfl rfl) (r_fa rfl fld27_6) rfl ?_
     refine l_val (wg rfl rfl rfl) (r_lb 3 rfl rfl rfl flat3) rfl ?_
     refine l_val (wg rfl rfl rfl) (r_leq rfl rfl) rfl ?_
     refine l_val wn (r_pick rfl rfl) rfl ?_
     refine l_val wn (r_move rfl) rfl ?_
     refine l_case (t := 54) rfl (fun h6 => ?_) (fun h6 => ?_)
     · refine l_val (wg rfl rfl rfl) (r_fa rfl fld27_6) rfl ?_
       refine l_val (wg rfl rfl rfl) (r_lb 3 rfl rfl rfl flat3) rfl ?_
       refine l_val (wg rfl rfl rfl) (r_leq rfl rfl) rfl ?_
       refine l_val wn (r_pick rfl rfl) rfl ?_
       refine l_val wn (r_move rfl) rfl ?_
       refine l_case (t := 59) rfl (fun h7 => ?_) (fun h7 => ?_)
       · refine l_val (wg rfl rfl rfl) (r_fa rfl fld27_5) rfl ?_
         refine l_val (wg rfl rfl rfl) (r_lb 3 rfl rfl rfl flat3) rfl ?_
         refine l_val (wg rfl rfl rfl) (r_remn rfl rfl (by omega) (by omega)) rfl ?_
         refine l_val (wg rfl rfl rfl) (r_eql rfl rfl) rfl ?_
         refine l_val wn (r_pick rfl rfl) rfl ?_
         refine l_val wn (r_move rfl) rfl ?_
         refine l_case (t := 65) rfl (fun h8 => ?_) (fun h8 => ?_)
         · refine l_val (wg rfl rfl rfl) (r_fa rfl fld27_6) rfl ?_
           refine l_val (wg rfl rfl rfl) (r_lb 3 rfl rfl rfl flat3) rfl ?_
           refine l_val (wg rfl rfl rfl) (r_remn rfl rfl (by omega) (by omega)) rfl ?_
           refine l_val (wg rfl rfl rfl) (r_eql rfl rfl) rfl ?_
           refine l_val wn (r_pick rfl rfl) rfl ?_
           refine l_val wn (r_assign rfl) rfl ?_
           refine l_nil (e_cut hK18 (sc rfl (sc (jp (iff_and_right h5 (iff_and_right h6 (iff_and_right h7 (iff_and_right h8 Iff.rfl))))) sn)) (fun _ h => h))
         refine l_skip (wg rfl rfl rfl) rfl ?_
         refine l_skip (wg rfl rfl rfl) rfl ?_
         refine l_skip (wg rfl rfl rfl) rfl ?_
         refine l_skip (wg rfl rfl rfl) rfl ?_
         refine l_val wn (r_pick rfl rfl) rfl ?_
         refine l_val wn (r_assign rfl) rfl ?_
         refine l_nil (e_cut hK18 (sc rfl (sc (jf (fun g => (fun g => (fun g => (fun g => h8 g.1) g.2) g.2) g.2)) sn)) (fun _ h => h))
       refine l_skip (wg rfl rfl rfl) rfl ?_
       refine l_skip (wg rfl rfl rfl) rfl ?_
       refine l_skip (wg rfl rfl rfl) rfl ?_
       refine l_skip (wg rfl rfl rfl) rfl ?_
       refine l_val wn (r_pick rfl rfl) rfl ?_
       refine l_val wn (r_move rfl) rfl ?_
       refine l_skip (wg rfl rfl rfl) rfl ?_
       refine l_skip (wg rfl rfl rfl) rfl ?_
       refine l_skip (wg rfl rfl rfl) rfl ?_
       refine l_skip (wg rfl rfl rfl) rfl ?_
       refine l_val wn (r_pick rfl rfl) rfl ?_
       refine l_val wn (r_assign rfl) rfl ?_
       refine l_nil (e_cut hK18 (sc rfl (sc (jf (fun g => (fun g => (fun g => h7 g.1) g.2) g.2)) sn)) (fun _ h => h))
     refine l_skip (wg rfl rfl rfl) rfl ?_
     refine l_skip (wg rfl rfl rfl) rfl ?_
     refine l_skip (wg rfl rfl rfl) rfl ?_
     refine l_val wn (r_pick rfl rfl) rfl ?_
     refine l_val wn (r_move rfl) rfl ?_
     refine l_skip (wg rfl rfl rfl) rfl ?_
     refine l_skip (wg rfl rfl rfl) rfl ?_
     refine l_skip (wg rfl rfl rfl) rfl ?_
     refine l_skip (wg rfl rfl rfl) rfl ?_
     refine l_val wn (r_pick rfl rfl) rfl ?_
     refine l_val wn (r_move rfl) rfl ?_
     refine l_skip (wg rfl rfl rfl) rfl ?_
     refine l_skip (wg rfl rfl rfl) rfl ?_
     refine l_skip (wg rfl rfl rfl) rfl ?_
     refine l_skip (wg rfl rfl rfl) rfl ?_
     refine l_val wn (r_pick rfl rfl) rfl ?_
     refine l_val wn (r_assign rfl) rfl ?_
     refine l_nil (e_cut hK18 (sc rfl (sc (jf (fun g => (fun g => h6 g.1) g.2)) sn)) (fun _ h => h))
   refine l_skip (wg rfl rfl rfl) rfl ?_
   refine l_skip (wg rfl rfl rfl) rfl ?_
   refine l_skip (wg rfl rfl rfl) rfl ?_
   refine l_skip (wg rfl rfl rfl) rfl ?_
   refine l_skip (wg rfl rfl rfl) rfl ?_
   refine l_val wn (r_pick rfl rfl) rfl ?_
   refine l_val wn (r_move rfl) rfl ?_
   refine l_skip (wg rfl rfl rfl) rfl ?_
   refine l_skip (wg rfl rfl rfl) rfl ?_
   refine l_skip (wg rfl rfl rfl) rfl ?_
   refine l_val wn (r_pick rfl rfl) rfl ?_
   refine l_val wn (r_move rfl) rfl ?_
   refine l_skip (wg rfl rfl rfl) rfl ?_
   refine l_skip (wg rfl rfl rfl) rfl ?_
   refine l_skip (wg rfl rfl rfl) rfl ?_
   refine l_skip (wg rfl rfl rfl) rfl ?_
   refine l_val wn (r_pick rfl rfl) rfl ?_
   refine l_val wn (r_move rfl) rfl ?_
   refine l_skip (wg rfl rfl rfl) rfl ?_
   refine l_skip (wg rfl rfl rfl) rfl ?_
   refine l_skip (wg rfl rfl rfl) rfl ?_
   refine l_skip (wg rfl rfl rfl) rfl ?_
   refine l_val wn (r_pick rfl rfl) rfl ?_
   refine l_val wn (r_assign rfl) rfl ?_
   refine l_nil (e_cut hK18 (sc rfl (sc (jf (fun g => h5 g.1)) sn)) (fun _ h => h))
 refine c_cut [(1, .pointer (some ⟨b1, 0, none⟩)), (7, .bool (decide (((0 ≤ z.fineFrom) ∧ ((z.fineFrom ≤ z.fineTo) ∧ ((z.fineTo ≤ 1000000) ∧ (((z.fineFrom % 10) = 0) ∧ ((z.fineTo % 10) = 0))))) ∧ ((0 ≤ z.coarseFrom) ∧ ((z.coarseFrom ≤ z.coarseTo) ∧ ((z.coarseTo ≤ 1000000) ∧ (((z.coarseFrom % 60) = 0) ∧ ((z.coarseTo % 60) = 0))))))))] (Mem w ⟨no, P0⟩ [.blk b6 [.int .i64 ((Roll.wrong z.coarse 2).err), .int .i64 ((Roll.wrong z.coarse 2).at_)] 81, .blk b5 [.int .i64 ((Roll.wrong z.fine 1).err), .int .i64 ((Roll.wrong z.fine 1).at_)] 81, .blk b4 [.int .i64 ((Codec.wrong z.raw).err), .int .i64 ((Codec.wrong z.raw).at_)] 81, .blk b1 [.slice z0A z.series.length z0c, .slice z1A z.raw.length z1c, .slice z2A z.fine.length z2c, .slice z3A z.coarse.length z3c, .int .i64 z.rawFrom, .int .i64 z.fineFrom, .int .i64 z.fineTo, .int .i64 z.coarseFrom, .int .i64 z.coarseTo] 27, slP 2 labelE (.slice z0A z.series.length z0c) z.series, slP 2 sampleE (.slice z1A z.raw.length z1c) z.raw, slP 8 bucketE (.slice z2A z.fine.length z2c) z.fine, slP 8 bucketE (.slice z3A z.coarse.length z3c) z.coarse]) (fun _ hK19 => ?_) ?_
 · refine c_region ?_
   refine l_val wn (r_move rfl) rfl ?_
   refine l_val wn (r_move rfl) rfl ?_
   refine l_case (t := 72) rfl (fun h9 => ?_) (fun h9 => ?_)
   · refine l_val (wg rfl rfl rfl) (r_fa rfl fld27_7) rfl ?_
     refine l_val (wg rfl rfl rfl) (r_lb 3 rfl rfl rfl flat3) rfl ?_
     refine l_val (wg rfl rfl rfl) (r_geq rfl rfl) rfl ?_
     refine l_val wn (r_pick rfl rfl) rfl ?_
     refine l_val wn (r_move rfl) rfl ?_
     refine l_case (t := 77) rfl (fun h10 => ?_) (fun h10 => ?_)
     · refine l_val (wg rfl rfl rfl) (r_fa rfl fld27_7) rfl ?_
       refine l_val (wg rfl rfl rfl) (r_lb 3 rfl rfl rfl flat3) rfl ?_
       refine l_val (wg rfl rfl rfl) (r_fa rfl fld27_8) rfl ?_
       refine l_val (wg rfl rfl rfl) (r_lb 3 rfl rfl rfl flat3) rfl ?_
       refine l_val (wg rfl rfl rfl) (r_leq rfl rfl) rfl ?_
       refine l_val wn (r_pick rfl rfl) rfl ?_
       refine l_val wn (r_move rfl) rfl ?_
       refine l_case (t := 84) rfl (fun h11 => ?_) (fun h11 => ?_)
       · refine l_val (wg rfl rfl rfl) (r_fa rfl fld27_8) rfl ?_
         refine l_val (wg rfl rfl rfl) (r_lb 3 rfl rfl rfl flat3) rfl ?_
         refine l_val (wg rfl rfl rfl) (r_leq rfl rfl) rfl ?_
         refine l_val wn (r_pick rfl rfl) rfl ?_
         refine l_val wn (r_move rfl) rfl ?_
         refine l_case (t := 89) rfl (fun h12 => ?_) (fun h12 => ?_)
         · refine l_val (wg rfl rfl rfl) (r_fa rfl fld27_7) rfl ?_
           refine l_val (wg rfl rfl rfl) (r_lb 3 rfl rfl rfl flat3) rfl ?_
           refine l_val (wg rfl rfl rfl) (r_remn rfl rfl (by omega) (by omega)) rfl ?_
           refine l_val (wg rfl rfl rfl) (r_eql rfl rfl) rfl ?_
           refine l_val wn (r_pick rfl rfl) rfl ?_
           refine l_val wn (r_move rfl) rfl ?_
           refine l_case (t := 95) rfl (fun h13 => ?_) (fun h13 => ?_)
           · refine l_val (wg rfl rfl rfl) (r_fa rfl fld27_8) rfl ?_
             refine l_val (wg rfl rfl rfl) (r_lb 3 rfl rfl rfl flat3) rfl ?_
             refine l_val (wg rfl rfl rfl) (r_remn rfl rfl (by omega) (by omega)) rfl ?_
             refine l_val (wg rfl rfl rfl) (r_eql rfl rfl) rfl ?_
             refine l_val wn (r_pick rfl rfl) rfl ?_
             refine l_val wn (r_assign rfl) rfl ?_
             refine l_nil (e_cut hK19 (sc rfl (sc (jp (iff_and_right h9 (iff_and_right h10 (iff_and_right h11 (iff_and_right h12 (iff_and_right h13 Iff.rfl)))))) sn)) (fun _ h => h))
           refine l_skip (wg rfl rfl rfl) rfl ?_
           refine l_skip (wg rfl rfl rfl) rfl ?_
           refine l_skip (wg rfl rfl rfl) rfl ?_
           refine l_skip (wg rfl rfl rfl) rfl ?_
           refine l_val wn (r_pick rfl rfl) rfl ?_
           refine l_val wn (r_assign rfl) rfl ?_
           refine l_nil (e_cut hK19 (sc rfl (sc (jf (fun g => (fun g => (fun g => (fun g => (fun g => h13 g.1) g.2) g.2) g.2) g.2)) sn)) (fun _ h => h))
         refine l_skip (wg rfl rfl rfl) rfl ?_
         refine l_skip (wg rfl rfl rfl) rfl ?_
         refine l_skip (wg rfl rfl rfl) rfl ?_
         refine l_skip (wg rfl rfl rfl) rfl ?_
         refine l_val wn (r_pick rfl rfl) rfl ?_
         refine l_val wn (r_move rfl) rfl ?_
         refine l_skip (wg rfl rfl rfl) rfl ?_
         refine l_skip (wg rfl rfl rfl) rfl ?_
         refine l_skip (wg rfl rfl rfl) rfl ?_
         refine l_skip (wg rfl rfl rfl) rfl ?_
         refine l_val wn (r_pick rfl rfl) rfl ?_
         refine l_val wn (r_assign rfl) rfl ?_
         refine l_nil (e_cut hK19 (sc rfl (sc (jf (fun g => (fun g => (fun g => (fun g => h12 g.1) g.2) g.2) g.2)) sn)) (fun _ h => h))
       refine l_skip (wg rfl rfl rfl) rfl ?_
       refine l_skip (wg rfl rfl rfl) rfl ?_
       refine l_skip (wg rfl rfl rfl) rfl ?_
       refine l_val wn (r_pick rfl rfl) rfl ?_
       refine l_val wn (r_move rfl) rfl ?_
       refine l_skip (wg rfl rfl rfl) rfl ?_
       refine l_skip (wg rfl rfl rfl) rfl ?_
       refine l_skip (wg rfl rfl rfl) rfl ?_
       refine l_skip (wg rfl rfl rfl) rfl ?_
       refine l_val wn (r_pick rfl rfl) rfl ?_
       refine l_val wn (r_move rfl) rfl ?_
       refine l_skip (wg rfl rfl rfl) rfl ?_
       refine l_skip (wg rfl rfl rfl) rfl ?_
       refine l_skip (wg rfl rfl rfl) rfl ?_
       refine l_skip (wg rfl rfl rfl) rfl ?_
       refine l_val wn (r_pick rfl rfl) rfl ?_
       refine l_val wn (r_assign rfl) rfl ?_
       refine l_nil (e_cut hK19 (sc rfl (sc (jf (fun g => (fun g => (fun g => h11 g.1) g.2) g.2)) sn)) (fun _ h => h))
     refine l_skip (wg rfl rfl rfl) rfl ?_
     refine l_skip (wg rfl rfl rfl) rfl ?_
     refine l_skip (wg rfl rfl rfl) rfl ?_
     refine l_skip (wg rfl rfl rfl) rfl ?_
     refine l_skip (wg rfl rfl rfl) rfl ?_
     refine l_val wn (r_pick rfl rfl) rfl ?_
     refine l_val wn (r_move rfl) rfl ?_
     refine l_skip (wg rfl rfl rfl) rfl ?_
     refine l_skip (wg rfl rfl rfl) rfl ?_
     refine l_skip (wg rfl rfl rfl) rfl ?_
     refine l_val wn (r_pick rfl rfl) rfl ?_
     refine l_val wn (r_move rfl) rfl ?_
     refine l_skip (wg rfl rfl rfl) rfl ?_
     refine l_skip (wg rfl rfl rfl) rfl ?_
     refine l_skip (wg rfl rfl rfl) rfl ?_
     refine l_skip (wg rfl rfl rfl) rfl ?_
     refine l_val wn (r_pick rfl rfl) rfl ?_
     refine l_val wn (r_move rfl) rfl ?_
     refine l_skip (wg rfl rfl rfl) rfl ?_
     refine l_skip (wg rfl rfl rfl) rfl ?_
     refine l_skip (wg rfl rfl rfl) rfl ?_
     refine l_skip (wg rfl rfl rfl) rfl ?_
     refine l_val wn (r_pick rfl rfl) rfl ?_
     refine l_val wn (r_assign rfl) rfl ?_
     refine l_nil (e_cut hK19 (sc rfl (sc (jf (fun g => (fun g => h10 g.1) g.2)) sn)) (fun _ h => h))
   refine l_skip (wg rfl rfl rfl) rfl ?_
   refine l_skip (wg rfl rfl rfl) rfl ?_
   refine l_skip (wg rfl rfl rfl) rfl ?_
   refine l_val wn (r_pick rfl rfl) rfl ?_
   refine l_val wn (r_move rfl) rfl ?_
   refine l_skip (wg rfl rfl rfl) rfl ?_
   refine l_skip (wg rfl rfl rfl) rfl ?_
   refine l_skip (wg rfl rfl rfl) rfl ?_
   refine l_skip (wg rfl rfl rfl) rfl ?_
   refine l_skip (wg rfl rfl rfl) rfl ?_
   refine l_val wn (r_pick rfl rfl) rfl ?_
   refine l_val wn (r_move rfl) rfl ?_
   refine l_skip (wg rfl rfl rfl) rfl ?_
   refine l_skip (wg rfl rfl rfl) rfl ?_
   refine l_skip (wg rfl rfl rfl) rfl ?_
   refine l_val wn (r_pick rfl rfl) rfl ?_
   refine l_val wn (r_move rfl) rfl ?_
   refine l_skip (wg rfl rfl rfl) rfl ?_
   refine l_skip (wg rfl rfl rfl) rfl ?_
   refine l_skip (wg rfl rfl rfl) rfl ?_
   refine l_skip (wg rfl rfl rfl) rfl ?_
   refine l_val wn (r_pick rfl rfl) rfl ?_
   refine l_val wn (r_move rfl) rfl ?_
   refine l_skip (wg rfl rfl rfl) rfl ?_
   refine l_skip (wg rfl rfl rfl) rfl ?_
   refine l_skip (wg rfl rfl rfl) rfl ?_
   refine l_skip (wg rfl rfl rfl) rfl ?_
   refine l_val wn (r_pick rfl rfl) rfl ?_
   refine l_val wn (r_assign rfl) rfl ?_
   refine l_nil (e_cut hK19 (sc rfl (sc (jf (fun g => h9 g.1)) sn)) (fun _ h => h))
 refine c_cut [(1, .pointer (some ⟨b1, 0, none⟩)), (7, .bool (decide ((((0 ≤ z.fineFrom) ∧ ((z.fineFrom ≤ z.fineTo) ∧ ((z.fineTo ≤ 1000000) ∧ (((z.fineFrom % 10) = 0) ∧ ((z.fineTo % 10) = 0))))) ∧ ((0 ≤ z.coarseFrom) ∧ ((z.coarseFrom ≤ z.coarseTo) ∧ ((z.coarseTo ≤ 1000000) ∧ (((z.coarseFrom % 60) = 0) ∧ ((z.coarseTo % 60) = 0)))))) ∧ ((0 ≤ z.rawFrom) ∧ ((z.rawFrom ≤ z.fineTo) ∧ ((z.fineFrom ≤ z.coarseTo) ∧ (z.coarseTo ≤ z.fineTo)))))))] (Mem w ⟨no, P0⟩ [.blk b6 [.int .i64 ((Roll.wrong z.coarse 2).err), .int .i64 ((Roll.wrong z.coarse 2).at_)] 81, .blk b5 [.int .i64 ((Roll.wrong z.fine 1).err), .int .i64 ((Roll.wrong z.fine 1).at_)] 81, .blk b4 [.int .i64 ((Codec.wrong z.raw).err), .int .i64 ((Codec.wrong z.raw).at_)] 81, .blk b1 [.slice z0A z.series.length z0c, .slice z1A z.raw.length z1c, .slice z2A z.fine.length z2c, .slice z3A z.coarse.length z3c, .int .i64 z.rawFrom, .int .i64 z.fineFrom, .int .i64 z.fineTo, .int .i64 z.coarseFrom, .int .i64 z.coarseTo] 27, slP 2 labelE (.slice z0A z.series.length z0c) z.series, slP 2 sampleE (.slice z1A z.raw.length z1c) z.raw, slP 8 bucketE (.slice z2A z.fine.length z2c) z.fine, slP 8 bucketE (.slice z3A z.coarse.length z3c) z.coarse]) (fun _ hK20 => ?_) ?_
 · refine c_region ?_
   refine l_val wn (r_move rfl) rfl ?_
   refine l_val wn (r_move rfl) rfl ?_
   refine l_case (t := 102) rfl (fun h14 => ?_) (fun h14 => ?_)
   · refine l_val (wg rfl rfl rfl) (r_fa rfl fld27_4) rfl ?_
     refine l_val (wg rfl rfl rfl) (r_lb 3 rfl rfl rfl flat3) rfl ?_
     refine l_val (wg rfl rfl rfl) (r_geq rfl rfl) rfl ?_
     refine l_val wn (r_pick rfl rfl) rfl ?_
     refine l_val wn (r_move rfl) rfl ?_
     refine l_case (t := 107) rfl (fun h15 => ?_) (fun h15 => ?_)
     · refine l_val (wg rfl rfl rfl) (r_fa rfl fld27_4) rfl ?_
       refine l_val (wg rfl rfl rfl) (r_lb 3 rfl rfl rfl flat3) rfl ?_
       refine l_val (wg rfl rfl rfl) (r_fa rfl fld27_6) rfl ?_
       refine l_val (wg rfl rfl rfl) (r_lb 3 rfl rfl rfl flat3) rfl ?_
       refine l_val (wg rfl rfl rfl) (r_leq rfl rfl) rfl ?_
       refine l_val wn (r_pick rfl rfl) rfl ?_
       refine l_val wn (r_move rfl) rfl ?_
       refine l_case (t := 114) rfl (fun h16 => ?_) (fun h16 => ?_)
       · refine l_val (wg rfl rfl rfl) (r_fa rfl fld27_5) rfl ?_
         refine l_val (wg rfl rfl rfl) (r_lb 3 rfl rfl rfl flat3) rfl ?_
         refine l_val (wg rfl rfl rfl) (r_fa rfl fld27_8) rfl ?_
         refine l_val (wg rfl rfl rfl) (r_lb 3 rfl rfl rfl flat3) rfl ?_
         refine l_val (wg rfl rfl rfl) (r_leq rfl rfl) rfl ?_
         refine l_val wn (r_pick rfl rfl) rfl ?_
         refine l_val wn (r_move rfl) rfl ?_
         refine l_case (t := 121) rfl (fun h17 => ?_) (fun h17 => ?_)
         · refine l_val (wg rfl rfl rfl) (r_fa rfl fld27_8) rfl ?_
           refine l_val (wg rfl rfl rfl) (r_lb 3 rfl rfl rfl flat3) rfl ?_
           refine l_val (wg rfl rfl rfl) (r_fa rfl fld27_6) rfl ?_
           refine l_val (wg rfl rfl rfl) (r_lb 3 rfl rfl rfl flat3) rfl ?_
           refine l_val (wg rfl rfl rfl) (r_leq rfl rfl) rfl ?_
           refine l_val wn (r_pick rfl rfl) rfl ?_
           refine l_val wn (r_assign rfl) rfl ?_
           refine l_nil (e_cut hK20 (sc rfl (sc (jp (iff_and_right h14 (iff_and_right h15 (iff_and_right h16 (iff_and_right h17 Iff.rfl))))) sn)) (fun _ h => h))
         refine l_skip (wg rfl rfl rfl) rfl ?_
         refine l_skip (wg rfl rfl rfl) rfl ?_
         refine l_skip (wg rfl rfl rfl) rfl ?_
         refine l_skip (wg rfl rfl rfl) rfl ?_
         refine l_skip (wg rfl rfl rfl) rfl ?_
         refine l_val wn (r_pick rfl rfl) rfl ?_
         refine l_val wn (r_assign rfl) rfl ?_
         refine l_nil (e_cut hK20 (sc rfl (sc (jf (fun g => (fun g => (fun g => (fun g => h17 g.1) g.2) g.2) g.2)) sn)) (fun _ h => h))
       refine l_skip (wg rfl rfl rfl) rfl ?_
       refine l_skip (wg rfl rfl rfl) rfl ?_
       refine l_skip (wg rfl rfl rfl) rfl ?_
       refine l_skip (wg rfl rfl rfl) rfl ?_
       refine l_skip (wg rfl rfl rfl) rfl ?_
       refine l_val wn (r_pick rfl rfl) rfl ?_
       refine l_val wn (r_move rfl) rfl ?_
       refine l_skip (wg rfl rfl rfl) rfl ?_
       refine l_skip (wg rfl rfl rfl) rfl ?_
       refine l_skip (wg rfl rfl rfl) rfl ?_
       refine l_skip (wg rfl rfl rfl) rfl ?_
       refine l_skip (wg rfl rfl rfl) rfl ?_
       refine l_val wn (r_pick rfl rfl) rfl ?_
       refine l_val wn (r_assign rfl) rfl ?_
       refine l_nil (e_cut hK20 (sc rfl (sc (jf (fun g => (fun g => (fun g => h16 g.1) g.2) g.2)) sn)) (fun _ h => h))
     refine l_skip (wg rfl rfl rfl) rfl ?_
     refine l_skip (wg rfl rfl rfl) rfl ?_
     refine l_skip (wg rfl rfl rfl) rfl ?_
     refine l_skip (wg rfl rfl rfl) rfl ?_
     refine l_skip (wg rfl rfl rfl) rfl ?_
     refine l_val wn (r_pick rfl rfl) rfl ?_
     refine l_val wn (r_move rfl) rfl ?_
     refine l_skip (wg rfl rfl rfl) rfl ?_
     refine l_skip (wg rfl rfl rfl) rfl ?_
     refine l_skip (wg rfl rfl rfl) rfl ?_
     refine l_skip (wg rfl rfl rfl) rfl ?_
     refine l_skip (wg rfl rfl rfl) rfl ?_
     refine l_val wn (r_pick rfl rfl) rfl ?_
     refine l_val wn (r_move rfl) rfl ?_
     refine l_skip (wg rfl rfl rfl) rfl ?_
     refine l_skip (wg rfl rfl rfl) rfl ?_
     refine l_skip (wg rfl rfl rfl) rfl ?_
     refine l_skip (wg rfl rfl rfl) rfl ?_
     refine l_skip (wg rfl rfl rfl) rfl ?_
     refine l_val wn (r_pick rfl rfl) rfl ?_
     refine l_val wn (r_assign rfl) rfl ?_
     refine l_nil (e_cut hK20 (sc rfl (sc (jf (fun g => (fun g => h15 g.1) g.2)) sn)) (fun _ h => h))
   refine l_skip (wg rfl rfl rfl) rfl ?_
   refine l_skip (wg rfl rfl rfl) rfl ?_
   refine l_skip (wg rfl rfl rfl) rfl ?_
   refine l_val wn (r_pick rfl rfl) rfl ?_
   refine l_val wn (r_move rfl) rfl ?_
   refine l_skip (wg rfl rfl rfl) rfl ?_
   refine l_skip (wg rfl rfl rfl) rfl ?_
   refine l_skip (wg rfl rfl rfl) rfl ?_
   refine l_skip (wg rfl rfl rfl) rfl ?_
   refine l_skip (wg rfl rfl rfl) rfl ?_
   refine l_val wn (r_pick rfl rfl) rfl ?_
   refine l_val wn (r_move rfl) rfl ?_
   refine l_skip (wg rfl rfl rfl) rfl ?_
   refine l_skip (wg rfl rfl rfl) rfl ?_
   refine l_skip (wg rfl rfl rfl) rfl ?_
   refine l_skip (wg rfl rfl rfl) rfl ?_
   refine l_skip (wg rfl rfl rfl) rfl ?_
   refine l_val wn (r_pick rfl rfl) rfl ?_
   refine l_val wn (r_move rfl) rfl ?_
   refine l_skip (wg rfl rfl rfl) rfl ?_
   refine l_skip (wg rfl rfl rfl) rfl ?_
   refine l_skip (wg rfl rfl rfl) rfl ?_
   refine l_skip (wg rfl rfl rfl) rfl ?_
   refine l_skip (wg rfl rfl rfl) rfl ?_
   refine l_val wn (r_pick rfl rfl) rfl ?_
   refine l_val wn (r_assign rfl) rfl ?_
   refine l_nil (e_cut hK20 (sc rfl (sc (jf (fun g => h14 g.1)) sn)) (fun _ h => h))
 refine c_seq fun _ hK21 => ?_
 refine c_seq fun _ hK22 => ?_
 refine c_region ?_
 refine l_val wn (r_fa rfl fld27_1) rfl ?_
 refine l_val wn (r_lb 3 rfl rfl rfl flat24) rfl ?_
 refine l_val wn (r_len rfl Try.underlying24) rfl ?_
 refine l_val wn (r_move rfl) rfl ?_
 refine l_nil (e_go hK22 ?_)
 refine c_block ?_
 refine c_loop1 (fun (k : Nat) => [(1, .pointer (some ⟨b1, 0, none⟩)), (7, .bool (decide (Sh.times z) && Sh.fromAll (z.raw.take k) z.rawFrom)), (129, .slice z1A z.raw.length z1c), (130, .int .i64 (z.raw.length : Int)), (131, .int .i64 (k : Int))]) (fun (k : Nat) => [.blk b6 [.int .i64 ((Roll.wrong z.coarse 2).err), .int .i64 ((Roll.wrong z.coarse 2).at_)] 81, .blk b5 [.int .i64 ((Roll.wrong z.fine 1).err), .int .i64 ((Roll.wrong z.fine 1).at_)] 81, .blk b4 [.int .i64 ((Codec.wrong z.raw).err), .int .i64 ((Codec.wrong z.raw).at_)] 81, .blk b1 [.slice z0A z.series.length z0c, .slice z1A z.raw.length z1c, .slice z2A z.fine.length z2c, .slice z3A z.coarse.length z3c, .int .i64 z.rawFrom, .int .i64 z.fineFrom, .int .i64 z.fineTo, .int .i64 z.coarseFrom, .int .i64 z.coarseTo] 27, slP 2 labelE (.slice z0A z.series.length z0c) z.series, slP 2 sampleE (.slice z1A z.raw.length z1c) z.raw, slP 8 bucketE (.slice z2A z.fine.length z2c) z.fine, slP 8 bucketE (.slice z3A z.coarse.length z3c) z.coarse]) (fun (k : Nat) => k ≤ z.raw.length) (fun (k : Nat) => z.raw.length - k) 0 (sc rfl (sc (jv (by first | rfl | (rw [Sh.fromAll_succ (by assumption), ← Bool.and_assoc]; first | exact Sh.jb_t (by assumption) | exact Sh.jb_f (by assumption)) | (rw [Sh.within_succ (by assumption), ← Bool.and_assoc]; first | exact Sh.jb_t2 (by assumption) (by assumption) | exact Sh.jb_f (by assumption) | exact Sh.jb_f2 (by assumption)) | (simp [Sh.within]; done) | (rw [Sh.fromAll, List.take_zero, List.all_nil, Bool.and_true]; exact congrArg Value.bool (decide_eq_decide.2 (by unfold Sh.times Sh.badT; simp only; omega))))) (sc rfl (sc rfl (sc (ji (by omega)) sn))))) (fun _ h => h) ?_ (fun k hI1 => ?_)
 · omega
 refine c_seq fun _ hK23 => ?_
 refine c_region ?_
 refine l_val wn (r_lss rfl rfl) rfl ?_
 refine l_nil (e_go hK23 ?_)
 refine c_seq fun _ hK24 => ?_
 refine c_cond rfl (fun h18 => ?_) (fun h18 => ?_)
 · refine c_skip (e_go hK24 ?_)
   refine c_seq fun _ hK25 => ?_
   refine c_block ?_
   refine c_seq fun _ hK26 => ?_
   refine c_region ?_
   obtain ⟨ad1, hd1⟩ := hz1A (ne_nil (i := k) (by first | omega | decide | (simp only [List.length_cons, List.length_nil, List.length_append, List.length_take, List.length_set]; omega)))
   refine l_val wn (r_ia (i := k) rfl hd1 rfl (by omega) (by first | omega | decide | (simp only [List.length_cons, List.length_nil, List.length_append, List.length_take, List.length_set]; omega)) Try.underlying24 inf39) rfl ?_
   obtain ⟨s1, hs1⟩ : ∃ x, z.raw[k]? = some x := ⟨_, List.getElem?_eq_getElem (by first | omega | decide | (simp only [List.length_cons, List.length_nil, List.length_append, List.length_take, List.length_set]; omega))⟩
   refine l_val wn (r_pln 5 [.int .i64 s1.time, .int .i64 s1.value] rfl rfl hd1 hs1 rfl rfl agg39 inf39) rfl ?_
   refine l_alloc wn inf39 rfl fun b9 => ?_
   refine l_stn 0 wn rfl rfl rfl inf39 rfl rfl rfl ?_
   refine l_nil (e_go hK26 ?_)
   refine c_region ?_
   refine l_val wn (r_move rfl) rfl ?_
   refine l_val wn (r_move rfl) rfl ?_
   refine l_caseb (t := 136) rfl (fun h19 => ?_) (fun h19 => ?_)
   · refine l_val (wg rfl rfl rfl) (r_fa rfl fld39_0) rfl ?_
     refine l_val (wg rfl rfl rfl) (r_lb 0 rfl rfl rfl flat3) rfl ?_
     refine l_val (wg rfl rfl rfl) (r_fa rfl fld27_4) rfl ?_
     refine l_val (wg rfl rfl rfl) (r_lb 4 rfl rfl rfl flat3) rfl ?_
     refine l_val (wg rfl rfl rfl) (r_geq rfl rfl) rfl ?_
     refine l_val wn (r_pick rfl rfl) rfl ?_
     refine l_val wn (r_assign rfl) rfl ?_
     refine l_nil (e_in_n (e_go hK25 ?_))
     refine c_region ?_
     refine l_val wn (r_addn rfl rfl (by omega)) rfl ?_
     refine l_val wn (r_move rfl) rfl ?_
     refine l_nil (e_round1 (k + 1) (sc rfl (sc (jv (by first | rfl | (rw [Sh.fromAll_succ (by assumption), ← Bool.and_assoc]; first | exact Sh.jb_t (by assumption) | exact Sh.jb_f (by assumption)) | (rw [Sh.within_succ (by assumption), ← Bool.and_assoc]; first | exact Sh.jb_t2 (by assumption) (by assumption) | exact Sh.jb_f (by assumption) | exact Sh.jb_f2 (by assumption)) | (simp [Sh.within]; done) | (rw [Sh.fromAll, List.take_zero, List.all_nil, Bool.and_true]; exact congrArg Value.bool (decide_eq_decide.2 (by unfold Sh.times Sh.badT; simp only; omega))))) (sc rfl (sc rfl (sc (ji (by omega)) sn))))) (fun _ h => (h.sel [1, 2, 3, 4, 5, 6, 7, 8] (by decide) rfl)) ?_ ?_)
     · omega
     omega
   refine l_skip (wg rfl rfl rfl) rfl ?_
   refine l_skip (wg rfl rfl rfl) rfl ?_
   refine l_skip (wg rfl rfl rfl) rfl ?_
   refine l_skip (wg rfl rfl rfl) rfl ?_
   refine l_skip (wg rfl rfl rfl) rfl ?_
   refine l_val wn (r_pick rfl rfl) rfl ?_
   refine l_val wn (r_assign rfl) rfl ?_
   refine l_nil (e_in_n (e_go hK25 ?_))
   refine c_region ?_
   refine l_val wn (r_addn rfl rfl (by omega)) rfl ?_
   refine l_val wn (r_move rfl) rfl ?_
   refine l_nil (e_round1 (k + 1) (sc rfl (sc (jv (by first | rfl | (rw [Sh.fromAll_succ (by assumption), ← Bool.and_assoc]; first | exact Sh.jb_t (by assumption) | exact Sh.jb_f (by assumption)) | (rw [Sh.within_succ (by assumption), ← Bool.and_assoc]; first | exact Sh.jb_t2 (by assumption) (by assumption) | exact Sh.jb_f (by assumption) | exact Sh.jb_f2 (by assumption)) | (simp [Sh.within]; done) | (rw [Sh.fromAll, List.take_zero, List.all_nil, Bool.and_true]; exact congrArg Value.bool (decide_eq_decide.2 (by unfold Sh.times Sh.badT; simp only; omega))))) (sc rfl (sc rfl (sc (ji (by omega)) sn))))) (fun _ h => (h.sel [1, 2, 3, 4, 5, 6, 7, 8] (by decide) rfl)) ?_ ?_)
   · omega
   omega
 have hk1 : z.raw.take k = z.raw := List.take_of_length_le (by omega)
 rw [hk1]
 refine c_exit (e_then_x (e_loop1_x (e_in_hit (e_go hK21 ?_))))
 refine c_seq fun _ hK27 => ?_
 refine c_seq fun _ hK28 => ?_
 refine c_region ?_
 refine l_val wn (r_fa rfl fld27_2) rfl ?_
 refine l_val wn (r_lb 3 rfl rfl rfl flat25) rfl ?_
 refine l_val wn (r_len rfl Try.underlying25) rfl ?_
 refine l_val wn (r_move rfl) rfl ?_
 refine l_nil (e_go hK28 ?_)
 refine c_block ?_
 refine c_loop1 (fun (k : Nat) => [(1, .pointer (some ⟨b1, 0, none⟩)), (7, .bool ((decide (Sh.times z) && Sh.fromAll z.raw z.rawFrom) && Sh.within (z.fine.take k) z.fineFrom z.fineTo)), (145, .slice z2A z.fine.length z2c), (146, .int .i64 (z.fine.length : Int)), (147, .int .i64 (k : Int))]) (fun (k : Nat) => [.blk b6 [.int .i64 ((Roll.wrong z.coarse 2).err), .int .i64 ((Roll.wrong z.coarse 2).at_)] 81, .blk b5 [.int .i64 ((Roll.wrong z.fine 1).err), .int .i64 ((Roll.wrong z.fine 1).at_)] 81, .blk b4 [.int .i64 ((Codec.wrong z.raw).err), .int .i64 ((Codec.wrong z.raw).at_)] 81, .blk b1 [.slice z0A z.series.length z0c, .slice z1A z.raw.length z1c, .slice z2A z.fine.length z2c, .slice z3A z.coarse.length z3c, .int .i64 z.rawFrom, .int .i64 z.fineFrom, .int .i64 z.fineTo, .int .i64 z.coarseFrom, .int .i64 z.coarseTo] 27, slP 2 labelE (.slice z0A z.series.length z0c) z.series, slP 2 sampleE (.slice z1A z.raw.length z1c) z.raw, slP 8 bucketE (.slice z2A z.fine.length z2c) z.fine, slP 8 bucketE (.slice z3A z.coarse.length z3c) z.coarse]) (fun (k : Nat) => k ≤ z.fine.length) (fun (k : Nat) => z.fine.length - k) 0 (sc rfl (sc (jv (by first | rfl | (rw [Sh.fromAll_succ (by assumption), ← Bool.and_assoc]; first | exact Sh.jb_t (by assumption) | exact Sh.jb_f (by assumption)) | (rw [Sh.within_succ (by assumption), ← Bool.and_assoc]; first | exact Sh.jb_t2 (by assumption) (by assumption) | exact Sh.jb_f (by assumption) | exact Sh.jb_f2 (by assumption)) | (simp [Sh.within]; done) | (rw [Sh.fromAll, List.take_zero, List.all_nil, Bool.and_true]; exact congrArg Value.bool (decide_eq_decide.2 (by unfold Sh.times Sh.badT; simp only; omega))))) (sc rfl (sc rfl (sc (ji (by omega)) sn))))) (fun _ h => h) ?_ (fun k hI2 => ?_)
 · omega
 refine c_seq fun _ hK29 => ?_
 refine c_region ?_
 refine l_val wn (r_lss rfl rfl) rfl ?_
 refine l_nil (e_go hK29 ?_)
 refine c_seq fun _ hK30 => ?_
 refine c_cond rfl (fun h20 => ?_) (fun h20 => ?_)
 · refine c_skip (e_go hK30 ?_)
   refine c_seq fun _ hK31 => ?_
   refine c_block ?_
   refine c_seq fun _ hK32 => ?_
   refine c_region ?_
   obtain ⟨ad2, hd2⟩ := hz2A (ne_nil (i := k) (by first | omega | decide | (simp only [List.length_cons, List.length_nil, List.length_append, List.length_take, List.length_set]; omega)))
   refine l_val wn (r_ia (i := k) rfl hd2 rfl (by omega) (by first | omega | decide | (simp only [List.length_cons, List.length_nil, List.length_append, List.length_take, List.length_set]; omega)) Try.underlying25 inf78) rfl ?_
   obtain ⟨s2, hs2⟩ : ∃ x, z.fine[k]? = some x := ⟨_, List.getElem?_eq_getElem (by first | omega | decide | (simp only [List.length_cons, List.length_nil, List.length_append, List.length_take, List.length_set]; omega))⟩
   refine l_val wn (r_pln 6 [.int .i64 s2.at_, .int .i64 s2.sum.count, .int .i64 s2.sum.total, .int .i64 s2.sum.min, .int .i64 s2.sum.max, .int .i64 s2.sum.first, .int .i64 s2.sum.last, .int .i64 s2.sum.rise] rfl rfl hd2 hs2 rfl rfl agg78 inf78) rfl ?_
   refine l_alloc wn inf78 rfl fun b11 => ?_
   refine l_stn 0 wn rfl rfl rfl inf78 rfl rfl rfl ?_
   refine l_nil (e_go hK32 ?_)
   refine c_region ?_
   refine l_val wn (r_move rfl) rfl ?_
   refine l_val wn (r_move rfl) rfl ?_
   refine l_caseb (t := 152) rfl (fun h21 => ?_) (fun h21 => ?_)
   · refine l_val (wg rfl rfl rfl) (r_fa rfl fld78_0) rfl ?_
     refine l_val (wg rfl rfl rfl) (r_lb 0 rfl rfl rfl flat3) rfl ?_
     refine l_val (wg rfl rfl rfl) (r_fa rfl fld27_5) rfl ?_
     refine l_val (wg rfl rfl rfl) (r_lb 4 rfl rfl rfl flat3) rfl ?_
     refine l_val (wg rfl rfl rfl) (r_geq rfl rfl) rfl ?_
     refine l_val wn (r_pick rfl rfl) rfl ?_
     refine l_val wn (r_move rfl) rfl ?_
     refine l_case (t := 159) rfl (fun h22 => ?_) (fun h22 => ?_)
     · refine l_val (wg rfl rfl rfl) (r_fa rfl fld78_0) rfl ?_
       refine l_val (wg rfl rfl rfl) (r_lb 0 rfl rfl rfl flat3) rfl ?_
       refine l_val (wg rfl rfl rfl) (r_fa rfl fld27_6) rfl ?_
       refine l_val (wg rfl rfl rfl) (r_lb 4 rfl rfl rfl flat3) rfl ?_
       refine l_val (wg rfl rfl rfl) (r_lss rfl rfl) rfl ?_
       refine l_val wn (r_pick rfl rfl) rfl ?_
       refine l_val wn (r_assign rfl) rfl ?_
       refine l_nil (e_in_n (e_go hK31 ?_))
       refine c_region ?_
       refine l_val wn (r_addn rfl rfl (by omega)) rfl ?_
       refine l_val wn (r_move rfl) rfl ?_
       refine l_nil (e_round1 (k + 1) (sc rfl (sc (jv (by first | rfl | (rw [Sh.fromAll_succ (by assumption), ← Bool.and_assoc]; first | exact Sh.jb_t (by assumption) | exact Sh.jb_f (by assumption)) | (rw [Sh.within_succ (by assumption), ← Bool.and_assoc]; first | exact Sh.jb_t2 (by assumption) (by assumption) | exact Sh.jb_f (by assumption) | exact Sh.jb_f2 (by assumption)) | (simp [Sh.within]; done) | (rw [Sh.fromAll, List.take_zero, List.all_nil, Bool.and_true]; exact congrArg Value.bool (decide_eq_decide.2 (by unfold Sh.times Sh.badT; simp only; omega))))) (sc rfl (sc rfl (sc (ji (by omega)) sn))))) (fun _ h => (h.sel [1, 2, 3, 4, 5, 6, 7, 8] (by decide) rfl)) ?_ ?_)
       · omega
       omega
     refine l_skip (wg rfl rfl rfl) rfl ?_
     refine l_skip (wg rfl rfl rfl) rfl ?_
     refine l_skip (wg rfl rfl rfl) rfl ?_
     refine l_skip (wg rfl rfl rfl) rfl ?_
     refine l_skip (wg rfl rfl rfl) rfl ?_
     refine l_val wn (r_pick rfl rfl) rfl ?_
     refine l_val wn (r_assign rfl) rfl ?_
     refine l_nil (e_in_n (e_go hK31 ?_))
     refine c_region ?_
     refine l_val wn (r_addn rfl rfl (by omega)) rfl ?_
     refine l_val wn (r_move rfl) rfl ?_
     refine l_nil (e_round1 (k + 1) (sc rfl (sc (jv (by first | rfl | (rw [Sh.fromAll_succ (by assumption), ← Bool.and_assoc]; first | exact Sh.jb_t (by assumption) | exact Sh.jb_f (by assumption)) | (rw [Sh.within_succ (by assumption), ← Bool.and_assoc]; first | exact Sh.jb_t2 (by assumption) (by assumption) | exact Sh.jb_f (by assumption) | exact Sh.jb_f2 (by assumption)) | (simp [Sh.within]; done) | (rw [Sh.fromAll, List.take_zero, List.all_nil, Bool.and_true]; exact congrArg Value.bool (decide_eq_decide.2 (by unfold Sh.times Sh.badT; simp only; omega))))) (sc rfl (sc rfl (sc (ji (by omega)) sn))))) (fun _ h => (h.sel [1, 2, 3, 4, 5, 6, 7, 8] (by decide) rfl)) ?_ ?_)
     · omega
     omega
   refine l_skip (wg rfl rfl rfl) rfl ?_
   refine l_skip (wg rfl rfl rfl) rfl ?_
   refine l_skip (wg rfl rfl rfl) rfl ?_
   refine l_skip (wg rfl rfl rfl) rfl ?_
   refine l_skip (wg rfl rfl rfl) rfl ?_
   refine l_val wn (r_pick rfl rfl) rfl ?_
   refine l_val wn (r_move rfl) rfl ?_
   refine l_skip (wg rfl rfl rfl) rfl ?_
   refine l_skip (wg rfl rfl rfl) rfl ?_
   refine l_skip (wg rfl rfl rfl) rfl ?_
   refine l_skip (wg rfl rfl rfl) rfl ?_
   refine l_skip (wg rfl rfl rfl) rfl ?_
   refine l_val wn (r_pick rfl rfl) rfl ?_
   refine l_val wn (r_assign rfl) rfl ?_
   refine l_nil (e_in_n (e_go hK31 ?_))
   refine c_region ?_
   refine l_val wn (r_addn rfl rfl (by omega)) rfl ?_
   refine l_val wn (r_move rfl) rfl ?_
   refine l_nil (e_round1 (k + 1) (sc rfl (sc (jv (by first | rfl | (rw [Sh.fromAll_succ (by assumption), ← Bool.and_assoc]; first | exact Sh.jb_t (by assumption) | exact Sh.jb_f (by assumption)) | (rw [Sh.within_succ (by assumption), ← Bool.and_assoc]; first | exact Sh.jb_t2 (by assumption) (by assumption) | exact Sh.jb_f (by assumption) | exact Sh.jb_f2 (by assumption)) | (simp [Sh.within]; done) | (rw [Sh.fromAll, List.take_zero, List.all_nil, Bool.and_true]; exact congrArg Value.bool (decide_eq_decide.2 (by unfold Sh.times Sh.badT; simp only; omega))))) (sc rfl (sc rfl (sc (ji (by omega)) sn))))) (fun _ h => (h.sel [1, 2, 3, 4, 5, 6, 7, 8] (by decide) rfl)) ?_ ?_)
   · omega
   omega
 have hk2 : z.fine.take k = z.fine := List.take_of_length_le (by omega)
 rw [hk2]
 refine c_exit (e_then_x (e_loop1_x (e_in_hit (e_go hK27 ?_))))
 refine c_seq fun _ hK33 => ?_
 refine c_seq fun _ hK34 => ?_
 refine c_region ?_
 refine l_val wn (r_fa rfl fld27_3) rfl ?_
 refine l_val wn (r_lb 3 rfl rfl rfl flat25) rfl ?_
 refine l_val wn (r_len rfl Try.underlying25) rfl ?_
 refine l_val wn (r_move rfl) rfl ?_
 refine l_nil (e_go hK34 ?_)
 refine c_block ?_
 refine c_loop1 (fun (k : Nat) => [(1, .pointer (some ⟨b1, 0, none⟩)), (7, .bool (((decide (Sh.times z) && Sh.fromAll z.raw z.rawFrom) && Sh.within z.fine z.fineFrom z.fineTo) && Sh.within (z.coarse.take k) z.coarseFrom z.coarseTo)), (168, .slice z3A z.coarse.length z3c), (169, .int .i64 (z.coarse.length : Int)), (170, .int .i64 (k : Int))]) (fun (k : Nat) => [.blk b6 [.int .i64 ((Roll.wrong z.coarse 2).err), .int .i64 ((Roll.wrong z.coarse 2).at_)] 81, .blk b5 [.int .i64 ((Roll.wrong z.fine 1).err), .int .i64 ((Roll.wrong z.fine 1).at_)] 81, .blk b4 [.int .i64 ((Codec.wrong z.raw).err), .int .i64 ((Codec.wrong z.raw).at_)] 81, .blk b1 [.slice z0A z.series.length z0c, .slice z1A z.raw.length z1c, .slice z2A z.fine.length z2c, .slice z3A z.coarse.length z3c, .int .i64 z.rawFrom, .int .i64 z.fineFrom, .int .i64 z.fineTo, .int .i64 z.coarseFrom, .int .i64 z.coarseTo] 27, slP 2 labelE (.slice z0A z.series.length z0c) z.series, slP 2 sampleE (.slice z1A z.raw.length z1c) z.raw, slP 8 bucketE (.slice z2A z.fine.length z2c) z.fine, slP 8 bucketE (.slice z3A z.coarse.length z3c) z.coarse]) (fun (k : Nat) => k ≤ z.coarse.length) (fun (k : Nat) => z.coarse.length - k) 0 (sc rfl (sc (jv (by first | rfl | (rw [Sh.fromAll_succ (by assumption), ← Bool.and_assoc]; first | exact Sh.jb_t (by assumption) | exact Sh.jb_f (by assumption)) | (rw [Sh.within_succ (by assumption), ← Bool.and_assoc]; first | exact Sh.jb_t2 (by assumption) (by assumption) | exact Sh.jb_f (by assumption) | exact Sh.jb_f2 (by assumption)) | (simp [Sh.within]; done) | (rw [Sh.fromAll, List.take_zero, List.all_nil, Bool.and_true]; exact congrArg Value.bool (decide_eq_decide.2 (by unfold Sh.times Sh.badT; simp only; omega))))) (sc rfl (sc rfl (sc (ji (by omega)) sn))))) (fun _ h => h) ?_ (fun k hI3 => ?_)
 · omega
 refine c_seq fun _ hK35 => ?_
 refine c_region ?_
 refine l_val wn (r_lss rfl rfl) rfl ?_
 refine l_nil (e_go hK35 ?_)
 refine c_seq fun _ hK36 => ?_
 refine c_cond rfl (fun h23 => ?_) (fun h23 => ?_)
 · refine c_skip (e_go hK36 ?_)
   refine c_seq fun _ hK37 => ?_
   refine c_block ?_
   refine c_seq fun _ hK38 => ?_
   refine c_region ?_
   obtain ⟨ad3, hd3⟩ := hz3A (ne_nil (i := k) (by first | omega | decide | (simp only [List.length_cons, List.length_nil, List.length_append, List.length_take, List.length_set]; omega)))
   refine l_val wn (r_ia (i := k) rfl hd3 rfl (by omega) (by first | omega | decide | (simp only [List.length_cons, List.length_nil, List.length_append, List.length_take, List.length_set]; omega)) Try.underlying25 inf78) rfl ?_
   obtain ⟨s3, hs3⟩ : ∃ x, z.coarse[k]? = some x := ⟨_, List.getElem?_eq_getElem (by first | omega | decide | (simp only [List.length_cons, List.length_nil, List.length_append, List.length_take, List.length_set]; omega))⟩
   refine l_val wn (r_pln 7 [.int .i64 s3.at_, .int .i64 s3.sum.count, .int .i64 s3.sum.total, .int .i64 s3.sum.min, .int .i64 s3.sum.max, .int .i64 s3.sum.first, .int .i64 s3.sum.last, .int .i64 s3.sum.rise] rfl rfl hd3 hs3 rfl rfl agg78 inf78) rfl ?_
   refine l_alloc wn inf78 rfl fun b13 => ?_
   refine l_stn 0 wn rfl rfl rfl inf78 rfl rfl rfl ?_
   refine l_nil (e_go hK38 ?_)
   refine c_region ?_
   refine l_val wn (r_move rfl) rfl ?_
   refine l_val wn (r_move rfl) rfl ?_
   refine l_caseb (t := 175) rfl (fun h24 => ?_) (fun h24 => ?_)
   · refine l_val (wg rfl rfl rfl) (r_fa rfl fld78_0) rfl ?_
     refine l_val (wg rfl rfl rfl) (r_lb 0 rfl rfl rfl flat3) rfl ?_
     refine l_val (wg rfl rfl rfl) (r_fa rfl fld27_7) rfl ?_
     refine l_val (wg rfl rfl rfl) (r_lb 4 rfl rfl rfl flat3) rfl ?_
     refine l_val (wg rfl rfl rfl) (r_geq rfl rfl) rfl ?_
     refine l_val wn (r_pick rfl rfl) rfl ?_
     refine l_val wn (r_move rfl) rfl ?_
     refine l_case (t := 182) rfl (fun h25 => ?_) (fun h25 => ?_)
     · refine l_val (wg rfl rfl rfl) (r_fa rfl fld78_0) rfl ?_
       refine l_val (wg rfl rfl rfl) (r_lb 0 rfl rfl rfl flat3) rfl ?_
       refine l_val (wg rfl rfl rfl) (r_fa rfl fld27_8) rfl ?_
       refine l_val (wg rfl rfl rfl) (r_lb 4 rfl rfl rfl flat3) rfl ?_
       refine l_val (wg rfl rfl rfl) (r_lss rfl rfl) rfl ?_
       refine l_val wn (r_pick rfl rfl) rfl ?_
       refine l_val wn (r_assign rfl) rfl ?_
       refine l_nil (e_in_n (e_go hK37 ?_))
       refine c_region ?_
       refine l_val wn (r_addn rfl rfl (by omega)) rfl ?_
       refine l_val wn (r_move rfl) rfl ?_
       refine l_nil (e_round1 (k + 1) (sc rfl (sc (jv (by first | rfl | (rw [Sh.fromAll_succ (by assumption), ← Bool.and_assoc]; first | exact Sh.jb_t (by assumption) | exact Sh.jb_f (by assumption)) | (rw [Sh.within_succ (by assumption), ← Bool.and_assoc]; first | exact Sh.jb_t2 (by assumption) (by assumption) | exact Sh.jb_f (by assumption) | exact Sh.jb_f2 (by assumption)) | (simp [Sh.within]; done) | (rw [Sh.fromAll, List.take_zero, List.all_nil, Bool.and_true]; exact congrArg Value.bool (decide_eq_decide.2 (by unfold Sh.times Sh.badT; simp only; omega))))) (sc rfl (sc rfl (sc (ji (by omega)) sn))))) (fun _ h => (h.sel [1, 2, 3, 4, 5, 6, 7, 8] (by decide) rfl)) ?_ ?_)
       · omega
       omega
     refine l_skip (wg rfl rfl rfl) rfl ?_
     refine l_skip (wg rfl rfl rfl) rfl ?_
     refine l_skip (wg rfl rfl rfl) rfl ?_
     refine l_skip (wg rfl rfl rfl) rfl ?_
     refine l_skip (wg rfl rfl rfl) rfl ?_
     refine l_val wn (r_pick rfl rfl) rfl ?_
     refine l_val wn (r_assign rfl) rfl ?_
     refine l_nil (e_in_n (e_go hK37 ?_))
     refine c_region ?_
     refine l_val wn (r_addn rfl rfl (by omega)) rfl ?_
     refine l_val wn (r_move rfl) rfl ?_
     refine l_nil (e_round1 (k + 1) (sc rfl (sc (jv (by first | rfl | (rw [Sh.fromAll_succ (by assumption), ← Bool.and_assoc]; first | exact Sh.jb_t (by assumption) | exact Sh.jb_f (by assumption)) | (rw [Sh.within_succ (by assumption), ← Bool.and_assoc]; first | exact Sh.jb_t2 (by assumption) (by assumption) | exact Sh.jb_f (by assumption) | exact Sh.jb_f2 (by assumption)) | (simp [Sh.within]; done) | (rw [Sh.fromAll, List.take_zero, List.all_nil, Bool.and_true]; exact congrArg Value.bool (decide_eq_decide.2 (by unfold Sh.times Sh.badT; simp only; omega))))) (sc rfl (sc rfl (sc (ji (by omega)) sn))))) (fun _ h => (h.sel [1, 2, 3, 4, 5, 6, 7, 8] (by decide) rfl)) ?_ ?_)
     · omega
     omega
   refine l_skip (wg rfl rfl rfl) rfl ?_
   refine l_skip (wg rfl rfl rfl) rfl ?_
   refine l_skip (wg rfl rfl rfl) rfl ?_
   refine l_skip (wg rfl rfl rfl) rfl ?_
   refine l_skip (wg rfl rfl rfl) rfl ?_
   refine l_val wn (r_pick rfl rfl) rfl ?_
   refine l_val wn (r_move rfl) rfl ?_
   refine l_skip (wg rfl rfl rfl) rfl ?_
   refine l_skip (wg rfl rfl rfl) rfl ?_
   refine l_skip (wg rfl rfl rfl) rfl ?_
   refine l_skip (wg rfl rfl rfl) rfl ?_
   refine l_skip (wg rfl rfl rfl) rfl ?_
   refine l_val wn (r_pick rfl rfl) rfl ?_
   refine l_val wn (r_assign rfl) rfl ?_
   refine l_nil (e_in_n (e_go hK37 ?_))
   refine c_region ?_
   refine l_val wn (r_addn rfl rfl (by omega)) rfl ?_
   refine l_val wn (r_move rfl) rfl ?_
   refine l_nil (e_round1 (k + 1) (sc rfl (sc (jv (by first | rfl | (rw [Sh.fromAll_succ (by assumption), ← Bool.and_assoc]; first | exact Sh.jb_t (by assumption) | exact Sh.jb_f (by assumption)) | (rw [Sh.within_succ (by assumption), ← Bool.and_assoc]; first | exact Sh.jb_t2 (by assumption) (by assumption) | exact Sh.jb_f (by assumption) | exact Sh.jb_f2 (by assumption)) | (simp [Sh.within]; done) | (rw [Sh.fromAll, List.take_zero, List.all_nil, Bool.and_true]; exact congrArg Value.bool (decide_eq_decide.2 (by unfold Sh.times Sh.badT; simp only; omega))))) (sc rfl (sc rfl (sc (ji (by omega)) sn))))) (fun _ h => (h.sel [1, 2, 3, 4, 5, 6, 7, 8] (by decide) rfl)) ?_ ?_)
   · omega
   omega
 have hk3 : z.coarse.take k = z.coarse := List.take_of_length_le (by omega)
 rw [hk3]
 refine c_exit (e_then_x (e_loop1_x (e_in_hit (e_go hK33 ?_))))
 refine c_seq fun _ hK39 => ?_
 refine c_seq fun _ hK40 => ?_
 refine c_region ?_
 refine l_val wn (r_move rfl) rfl ?_
 refine l_val wn (r_notb rfl) rfl ?_
 refine l_nil (e_go hK40 ?_)
 refine c_condb rfl (fun h26 => ?_) (fun h26 => ?_)
 · refine c_seq fun _ hK41 => ?_
   refine c_region ?_
   refine l_val wn (r_assign rfl) rfl ?_
   refine l_nil (e_go hK41 ?_)
   refine c_ret (e_then_r (e_ret1 (.inl rfl) Try.results20 (rv_tmp rfl) fun w1 hM => ?_))
   exact ret_ok (congrArg (Value.int .i64) (by rw [Sh.wrong_end h1 h2 h3 h4, if_neg (fun h => by have := (Sh.good_iff h2).2 h; simp [this] at h26)])) hM
 refine c_skip (e_go hK39 ?_)
 refine c_seq fun _ hK42 => ?_
 refine c_region ?_
 refine l_val wn (r_assign rfl) rfl ?_
 refine l_nil (e_go hK42 ?_)
 refine c_ret (e_ret1 (.inl rfl) Try.results20 (rv_tmp rfl) fun w1 hM => ?_)
 exact ret_ok (congrArg (Value.int .i64) (by rw [Sh.wrong_end h1 h2 h3 h4, if_pos ((Sh.good_iff h2).1 (by simpa using h26))])) hM

set_option maxHeartbeats 1000000 in
theorem c_refAppend (z0 : Value) (z1 : Value) (z2 : Value) (z3 : Value) (z : Shelf) (x : Sample) (P0 : Nat → Prop) (w : World) (hP0 : ∀ b, P0 b → b < w.heap.size) (hz0 : FlatSl P0 2 labelE z0 z.series w) (hz1 : FlatSl P0 2 sampleE z1 z.raw w) (hz2 : FlatSl P0 8 bucketE z2 z.fine w) (hz3 : FlatSl P0 8 bucketE z3 z.coarse w) (hok : ∀ x ∈ z.series, x.key.size ≤ 9223372036854775807 ∧ x.val.size ≤ 9223372036854775807) :
    Calls Try.prog 24 #[.agg (List.toArray [z0, z1, z2, z3, .int .i64 z.rawFrom, .int .i64 z.fineFrom, .int .i64 z.fineTo, .int .i64 z.coarseFrom, .int .i64 z.coarseTo]), .agg (sampleE x).toArray] w (RetSh w P0 (fun u => .tuple (List.toArray [u, .int .i64 (Sh.append z x).2])) (Sh.append z x).1) := by
 obtain ⟨z0A, z0c, rfl, hz0c, hz0m, hz0A⟩ := hz0.form
 obtain ⟨z1A, z1c, rfl, hz1c, hz1m, hz1A⟩ := hz1.form
 obtain ⟨z2A, z2c, rfl, hz2c, hz2m, hz2A⟩ := hz2.form
 obtain ⟨z3A, z3c, rfl, hz3c, hz3m, hz3A⟩ := hz3.form
 refine fstart (N := 63) (vals := [.agg (List.toArray [.slice z0A z.series.length z0c, .slice z1A z.raw.length z1c, .slice z2A z.fine.length z2c, .slice z3A z.coarse.length z3c, .int .i64 z.rawFrom, .int .i64 z.fineFrom, .int .i64 z.fineTo, .int .i64 z.coarseFrom, .int .i64 z.coarseTo]), .agg (sampleE x).toArray]) (S := Mem w ⟨no, P0⟩ [slP 2 labelE (.slice z0A z.series.length z0c) z.series, slP 2 sampleE (.slice z1A z.raw.length z1c) z.raw, slP 8 bucketE (.slice z2A z.fine.length z2c) z.fine, slP 8 bucketE (.slice z3A z.coarse.length z3c) z.coarse]) Try.func24 rfl rfl rfl (Mem.ofDatsP hP0 (dc (dlp hz0) (dc (dlp hz1) (dc (dlp hz2) (dc (dlp hz3) dn))))) ?_
 refine c_seq fun _ hK1 => ?_
 refine c_region ?_
 refine l_box wn rfl rfl fun b2 => ?_
 refine l_box wn rfl rfl fun b3 => ?_
 refine l_alloc wn inf27 rfl fun b4 => ?_
 refine l_val wn (r_assign rfl) rfl ?_
 refine l_nil (e_go hK1 ?_)
 refine c_seq fun _ hK2 => ?_
 refine c_seq fun _ hK3 => ?_
 refine c_region ?_
 refine l_val wn (r_lbn 2 [.slice z0A z.series.length z0c, .slice z1A z.raw.length z1c, .slice z2A z.fine.length z2c, .slice z3A z.coarse.length z3c, .int .i64 z.rawFrom, .int .i64 z.fineFrom, .int .i64 z.fineTo, .int .i64 z.coarseFrom, .int .i64 z.coarseTo] rfl rfl rfl rfl agg27 inf27) rfl ?_
 refine l_callF wn rfl Try.call20 rfl (fun w1 hM => c_refShWrong _ _ _ _ z (In w1) w1 (fun _ h => h) (hM.slp 3 rfl) (hM.slp 4 rfl) (hM.slp 5 rfl) (hM.slp 6 rfl) (by exact hok)) ?_
 refine l_val wn (r_assign rfl) rfl ?_
 refine l_nil (e_go hK3 ?_)
 refine c_seq fun _ hK4 => ?_
 refine c_region ?_
 refine l_val wn (r_move rfl) rfl ?_
 refine l_val wn (r_neq rfl rfl) rfl ?_
 refine l_nil (e_go hK4 ?_)
 refine c_cond rfl (fun h1 => ?_) (fun h1 => ?_)
 · refine c_seq fun _ hK5 => ?_
   refine c_region ?_
   refine l_val wn (r_build [.slice none 0 0, .slice none 0 0, .slice none 0 0, .slice none 0 0, .int .i64 0, .int .i64 0, .int .i64 0, .int .i64 0, .int .i64 0] pl27 inf27 rfl rfl) rfl ?_
   refine l_val wn (r_move rfl) rfl ?_
   refine l_stn 0 wn rfl rfl rfl inf27 rfl rfl rfl ?_
   refine l_val wn (r_assign rfl) rfl ?_
   refine l_nil (e_go hK5 ?_)
   refine c_ret (e_then_r (e_ret2 (.inl rfl) Try.results24 (rv_cell 0 rfl rfl agg27 inf27 rfl) (rv_tmp rfl) fun w1 hM => ?_))
   have he : Sh.append z x = ((⟨([] : List Label), ([] : List Sample), ([] : List Bucket), ([] : List Bucket), 0, 0, 0, 0, 0⟩ : Shelf), (Sh.wrong z)) := Sh.append_wrong h1
   rw [he]
   exact hM.retSh (s' := (⟨([] : List Label), ([] : List Sample), ([] : List Bucket), ([] : List Bucket), 0, 0, 0, 0, 0⟩ : Shelf)) (fun u => .tuple (List.toArray [u, .int .i64 (Sh.wrong z)])) rfl (rfl) (fun _ _ => FlatSl.nil_ _ _ _ _) (fun _ _ => FlatSl.nil_ _ _ _ _) (fun _ _ => FlatSl.nil_ _ _ _ _) (fun _ _ => FlatSl.nil_ _ _ _ _)
 obtain ⟨l1, l2, l3, l4⟩ := (Sh.ok_of h1).lens
 refine c_skip (e_go hK2 ?_)
 refine c_seq fun _ hK6 => ?_
 refine c_seq fun _ hK7 => ?_
 refine c_region ?_
 refine l_val wn (r_lbn 1 [.int .i64 x.time, .int .i64 x.value] rfl rfl rfl rfl agg39 inf39) rfl ?_
 refine l_bsL sampleE ([x] : List Sample) wn Try.underlying24 inf39 rfl rfl rfl rfl (by decide) (by decide) rfl fun b18 => ?_
 refine l_callF wn rfl Try.call53 rfl (fun w1 hM => c_refWrong _ ([x] : List Sample) w1 (RowSl encSample hM 0 rfl)) ?_
 refine l_alloc wn inf81 rfl fun b7 => ?_
 refine l_stn 0 wn rfl rfl rfl inf81 rfl rfl rfl ?_
 refine l_nil (e_go hK7 ?_)
 refine c_seq fun _ hK8 => ?_
 refine c_region ?_
 refine l_val wn (r_fa rfl fld81_0) rfl ?_
 refine l_val wn (r_lb 0 rfl rfl rfl flat30) rfl ?_
 refine l_val wn (r_neq rfl rfl) rfl ?_
 refine l_nil (e_go hK8 ?_)
 refine c_cond rfl (fun h2 => ?_) (fun h2 => ?_)
 · refine c_seq fun _ hK9 => ?_
   refine c_nodes (Mem w ⟨no, P0⟩ [.blk b7 [.int .i64 ((Codec.wrong ([x] : List Sample)).err), .int .i64 ((Codec.wrong ([x] : List Sample)).at_)] 81, Row (.slice (some ⟨b18, 0, none⟩) 1 1) 39 2 sampleE ([x] : List Sample), .blk b4 [.slice none 0 0, .slice none 0 0, .slice none 0 0, .slice none 0 0, .int .i64 0, .int .i64 0, .int .i64 0, .int .i64 0, .int .i64 0] 27, .blk b3 [.int .i64 x.time, .int .i64 x.value] 39, .blk b2 [.slice z0A z.series.length z0c, .slice z1A z.raw.length z1c, .slice z2A z.fine.length z2c, .slice z3A z.coarse.length z3c, .int .i64 z.rawFrom, .int .i64 z.fineFrom, .int .i64 z.fineTo, .int .i64 z.coarseFrom, .int .i64 z.coarseTo] 27, slP 2 labelE (.slice z0A z.series.length z0c) z.series, slP 2 sampleE (.slice z1A z.raw.length z1c) z.raw, slP 8 bucketE (.slice z2A z.fine.length z2c) z.fine, slP 8 bucketE (.slice z3A z.coarse.length z3c) z.coarse]) mix (fun _ h => h.drew) rfl ?_
   refine n_run (f := 2) [0, 1, 2] rfl rfl (by kernel_rfl) (by kernel_rfl) (fun _ h => h) fun KS hKS => ?_
   refine s_val wn (r_build [.slice none 0 0, .slice none 0 0, .slice none 0 0, .slice none 0 0, .int .i64 0, .int .i64 0, .int .i64 0, .int .i64 0, .int .i64 0] pl27 inf27 rfl rfl) rfl ?_
   refine s_val wn (r_fa rfl fld81_0) rfl ?_
   refine s_val wn (r_lb 0 rfl rfl rfl flat30) rfl ?_
   refine s_end hKS ?_
   refine n_step1 (f := 1) (i := 3) rfl (by kernel_rfl) ?_
   refine n_one (i := 3) rfl fun KN hKN => ?_
   refine l_stn 2 wn rfl rfl rfl inf27 rfl rfl rfl ?_
   refine l_nil (hKN _ _ (fun _ h => h) ?_)
   refine n_run (f := 0) [4] rfl rfl (by kernel_rfl) (by kernel_rfl) (fun _ h => h) fun KS hKS => ?_
   refine s_val wn (r_assign rfl) rfl ?_
   refine s_end hKS ?_
   refine n_done (by kernel_rfl) (e_go hK9 ?_)
   refine c_ret (e_then_r (e_ret2 (.inl rfl) Try.results24 (rv_cell 2 rfl rfl agg27 inf27 rfl) (rv_tmp rfl) fun w1 hM => ?_))
   have he : Sh.append z x = ((⟨([] : List Label), ([] : List Sample), ([] : List Bucket), ([] : List Bucket), 0, 0, 0, 0, 0⟩ : Shelf), (Codec.wrong ([x] : List Sample)).err) := Sh.append_bad h1 h2
   rw [he]
   exact hM.retSh (s' := (⟨([] : List Label), ([] : List Sample), ([] : List Bucket), ([] : List Bucket), 0, 0, 0, 0, 0⟩ : Shelf)) (fun u => .tuple (List.toArray [u, .int .i64 ((Codec.wrong ([x] : List Sample)).err)])) rfl (rfl) (fun _ _ => FlatSl.nil_ _ _ _ _) (fun _ _ => FlatSl.nil_ _ _ _ _) (fun _ _ => FlatSl.nil_ _ _ _ _) (fun _ _ => FlatSl.nil_ _ _ _ _)
 refine c_skip (e_go hK6 ?_)
 refine c_seq fun _ hK10 => ?_
 refine c_region ?_
 refine l_val wn (r_fa rfl fld39_0) rfl ?_
 refine l_val wn (r_lb 3 rfl rfl rfl flat3) rfl ?_
 refine l_val wn (r_fa rfl fld27_6) rfl ?_
 refine l_val wn (r_lb 4 rfl rfl rfl flat3) rfl ?_
 refine l_val wn (r_lss rfl rfl) rfl ?_
 refine l_val wn (r_assign rfl) rfl ?_
 refine l_nil (e_go hK10 ?_)
 refine c_seq fun _ hK11 => ?_
 refine c_seq fun _ hK12 => ?_
 refine c_region ?_
 refine l_val wn (r_fa rfl fld27_1) rfl ?_
 refine l_val wn (r_lb 4 rfl rfl rfl flat24) rfl ?_
 refine l_val wn (r_len rfl Try.underlying24) rfl ?_
 refine l_val wn (r_move rfl) rfl ?_
 refine l_nil (e_go hK12 ?_)
 refine c_block ?_
 refine c_loop1 (fun (k : Nat) => [(2, .pointer (some ⟨b2, 0, none⟩)), (3, .pointer (some ⟨b3, 0, none⟩)), (4, .pointer (some ⟨b4, 0, none⟩)), (8, .bool (decide (x.time < z.fineTo) || Sh.lateAny (z.raw.take k) x)), (32, .slice z1A z.raw.length z1c), (33, .int .i64 (z.raw.length : Int)), (34, .int .i64 (k : Int))]) (fun (k : Nat) => [.blk b7 [.int .i64 ((Codec.wrong ([x] : List Sample)).err), .int .i64 ((Codec.wrong ([x] : List Sample)).at_)] 81, Row (.slice (some ⟨b18, 0, none⟩) 1 1) 39 2 sampleE ([x] : List Sample), .blk b4 [.slice none 0 0, .slice none 0 0, .slice none 0 0, .slice none 0 0, .int .i64 0, .int .i64 0, .int .i64 0, .int .i64 0, .int .i64 0] 27, .blk b3 [.int .i64 x.time, .int .i64 x.value] 39, .blk b2 [.slice z0A z.series.length z0c, .slice z1A z.raw.length z1c, .slice z2A z.fine.length z2c, .slice z3A z.coarse.length z3c, .int .i64 z.rawFrom, .int .i64 z.fineFrom, .int .i64 z.fineTo, .int .i64 z.coarseFrom, .int .i64 z.coarseTo] 27, slP 2 labelE (.slice z0A z.series.length z0c) z.series, slP 2 sampleE (.slice z1A z.raw.length z1c) z.raw, slP 8 bucketE (.slice z2A z.fine.length z2c) z.fine, slP 8 bucketE (.slice z3A z.coarse.length z3c) z.coarse]) (fun (k : Nat) => k ≤ z.raw.length) (fun (k : Nat) => z.raw.length - k) 0 (sc rfl (sc rfl (sc rfl (sc (jv (by first | rfl | (rw [Sh.lateAny_succ (by assumption), ← Bool.or_assoc]; first | exact Sh.jb_o (by assumption) | exact Sh.jb_ot (by assumption)) | (simp [Sh.lateAny]; done))) (sc rfl (sc rfl (sc (ji (by omega)) sn))))))) (fun _ h => h) ?_ (fun k hI1 => ?_)
 · omega
 refine c_seq fun _ hK13 => ?_
 refine c_region ?_
 refine l_val wn (r_lss rfl rfl) rfl ?_
 refine l_nil (e_go hK13 ?_)
 refine c_seq fun _ hK14 => ?_
 refine c_cond rfl (fun h3 => ?_) (fun h3 => ?_)
 · refine c_skip (e_go hK14 ?_)
   refine c_seq fun _ hK15 => ?_
   refine c_block ?_
   refine c_seq fun _ hK16 => ?_
   refine c_region ?_
   obtain ⟨ad1, hd1⟩ := hz1A (ne_nil (i := k) (by first | omega | decide | (simp only [List.length_cons, List.length_nil, List.length_append, List.length_take, List.length_set]; omega)))
   refine l_val wn (r_ia (i := k) rfl hd1 rfl (by omega) (by first | omega | decide | (simp only [List.length_cons, List.length_nil, List.length_append, List.length_take, List.length_set]; omega)) Try.underlying24 inf39) rfl ?_
   obtain ⟨s1, hs1⟩ : ∃ x, z.raw[k]? = some x := ⟨_, List.getElem?_eq_getElem (by first | omega | decide | (simp only [List.length_cons, List.length_nil, List.length_append, List.length_take, List.length_set]; omega))⟩
   refine l_val wn (r_pln 6 [.int .i64 s1.time, .int .i64 s1.value] rfl rfl hd1 hs1 rfl rfl agg39 inf39) rfl ?_
   refine l_alloc wn inf39 rfl fun b10 => ?_
   refine l_stn 0 wn rfl rfl rfl inf39 rfl rfl rfl ?_
   refine l_nil (e_go hK16 ?_)
   refine c_region ?_
   refine l_val wn (r_move rfl) rfl ?_
   refine l_val wn (r_move rfl) rfl ?_
   refine l_caseb (t := 39) rfl (fun h4 => ?_) (fun h4 => ?_)
   · refine l_skip (wg rfl rfl rfl) rfl ?_
     refine l_skip (wg rfl rfl rfl) rfl ?_
     refine l_skip (wg rfl rfl rfl) rfl ?_
     refine l_skip (wg rfl rfl rfl) rfl ?_
     refine l_skip (wg rfl rfl rfl) rfl ?_
     refine l_val wn (r_pick rfl rfl) rfl ?_
     refine l_val wn (r_assign rfl) rfl ?_
     refine l_nil (e_in_n (e_go hK15 ?_))
     refine c_region ?_
     refine l_val wn (r_addn rfl rfl (by omega)) rfl ?_
     refine l_val wn (r_move rfl) rfl ?_
     refine l_nil (e_round1 (k + 1) (sc rfl (sc rfl (sc rfl (sc (jv (by first | rfl | (rw [Sh.lateAny_succ (by assumption), ← Bool.or_assoc]; first | exact Sh.jb_o (by assumption) | exact Sh.jb_ot (by assumption)) | (simp [Sh.lateAny]; done))) (sc rfl (sc rfl (sc (ji (by omega)) sn))))))) (fun _ h => (h.sel [1, 2, 3, 4, 5, 6, 7, 8, 9] (by decide) rfl)) ?_ ?_)
     · omega
     omega
   refine l_val (wg rfl rfl rfl) (r_fa rfl fld39_0) rfl ?_
   refine l_val (wg rfl rfl rfl) (r_lb 0 rfl rfl rfl flat3) rfl ?_
   refine l_val (wg rfl rfl rfl) (r_fa rfl fld39_0) rfl ?_
   refine l_val (wg rfl rfl rfl) (r_lb 4 rfl rfl rfl flat3) rfl ?_
   refine l_val (wg rfl rfl rfl) (r_geq rfl rfl) rfl ?_
   refine l_val wn (r_pick rfl rfl) rfl ?_
   refine l_val wn (r_assign rfl) rfl ?_
   refine l_nil (e_in_n (e_go hK15 ?_))
   refine c_region ?_
   refine l_val wn (r_addn rfl rfl (by omega)) rfl ?_
   refine l_val wn (r_move rfl) rfl ?_
   refine l_nil (e_round1 (k + 1) (sc rfl (sc rfl (sc rfl (sc (jv (by first | rfl | (rw [Sh.lateAny_succ (by assumption), ← Bool.or_assoc]; first | exact Sh.jb_o (by assumption) | exact Sh.jb_ot (by assumption)) | (simp [Sh.lateAny]; done))) (sc rfl (sc rfl (sc (ji (by omega)) sn))))))) (fun _ h => (h.sel [1, 2, 3, 4, 5, 6, 7, 8, 9] (by decide) rfl)) ?_ ?_)
   · omega
   omega
 have hk1 : z.raw.take k = z.raw := List.take_of_length_le (by omega)
 rw [hk1]
 have hla : Sh.lateAny z.raw x = Sh.late z.raw x := (Sh.late_any (Sh.ok_of h1).rawRises x).symm
 refine c_exit (e_then_x (e_loop1_x (e_in_hit (e_go hK11 ?_))))
 refine c_seq fun _ hK17 => ?_
 refine c_seq fun _ hK18 => ?_
 refine c_region ?_
 refine l_val wn (r_move rfl) rfl ?_
 refine l_nil (e_go hK18 ?_)
 refine c_condb rfl (fun h5 => ?_) (fun h5 => ?_)
 · refine c_seq fun _ hK19 => ?_
   refine c_region ?_
   refine l_val wn (r_build [.slice none 0 0, .slice none 0 0, .slice none 0 0, .slice none 0 0, .int .i64 0, .int .i64 0, .int .i64 0, .int .i64 0, .int .i64 0] pl27 inf27 rfl rfl) rfl ?_
   refine l_stn 2 wn rfl rfl rfl inf27 rfl rfl rfl ?_
   refine l_val wn (r_assign rfl) rfl ?_
   refine l_nil (e_go hK19 ?_)
   refine c_ret (e_then_r (e_ret2 (.inl rfl) Try.results24 (rv_cell 2 rfl rfl agg27 inf27 rfl) (rv_tmp rfl) fun w1 hM => ?_))
   have he : Sh.append z x = ((⟨([] : List Label), ([] : List Sample), ([] : List Bucket), ([] : List Bucket), 0, 0, 0, 0, 0⟩ : Shelf), 9) := Sh.append_late h1 h2 (by rw [hla] at h5; simpa using h5)
   rw [he]
   exact hM.retSh (s' := (⟨([] : List Label), ([] : List Sample), ([] : List Bucket), ([] : List Bucket), 0, 0, 0, 0, 0⟩ : Shelf)) (fun u => .tuple (List.toArray [u, .int .i64 9])) rfl (rfl) (fun _ _ => FlatSl.nil_ _ _ _ _) (fun _ _ => FlatSl.nil_ _ _ _ _) (fun _ _ => FlatSl.nil_ _ _ _ _) (fun _ _ => FlatSl.nil_ _ _ _ _)
 refine c_skip (e_go hK17 ?_)
 refine c_seq fun _ hK20 => ?_
 refine c_seq fun _ hK21 => ?_
 refine c_region ?_
 refine l_val wn (r_fa rfl fld27_1) rfl ?_
 refine l_val wn (r_lb 4 rfl rfl rfl flat24) rfl ?_
 refine l_val wn (r_len rfl Try.underlying24) rfl ?_
 refine l_val wn (r_geq rfl rfl) rfl ?_
 refine l_nil (e_go hK21 ?_)
 refine c_cond rfl (fun h6 => ?_) (fun h6 => ?_)
 · refine c_seq fun _ hK22 => ?_
   refine c_region ?_
   refine l_val wn (r_build [.slice none 0 0, .slice none 0 0, .slice none 0 0, .slice none 0 0, .int .i64 0, .int .i64 0, .int .i64 0, .int .i64 0, .int .i64 0] pl27 inf27 rfl rfl) rfl ?_
   refine l_stn 2 wn rfl rfl rfl inf27 rfl rfl rfl ?_
   refine l_val wn (r_assign rfl) rfl ?_
   refine l_nil (e_go hK22 ?_)
   refine c_ret (e_then_r (e_ret2 (.inl rfl) Try.results24 (rv_cell 2 rfl rfl agg27 inf27 rfl) (rv_tmp rfl) fun w1 hM => ?_))
   have he : Sh.append z x = ((⟨([] : List Label), ([] : List Sample), ([] : List Bucket), ([] : List Bucket), 0, 0, 0, 0, 0⟩ : Shelf), 5) := Sh.append_many h1 h2 (by rw [hla] at h5; simpa using h5) (by omega)
   rw [he]
   exact hM.retSh (s' := (⟨([] : List Label), ([] : List Sample), ([] : List Bucket), ([] : List Bucket), 0, 0, 0, 0, 0⟩ : Shelf)) (fun u => .tuple (List.toArray [u, .int .i64 5])) rfl (rfl) (fun _ _ => FlatSl.nil_ _ _ _ _) (fun _ _ => FlatSl.nil_ _ _ _ _) (fun _ _ => FlatSl.nil_ _ _ _ _) (fun _ _ => FlatSl.nil_ _ _ _ _)
 refine c_skip (e_go hK20 ?_)
 refine c_seq fun _ hK23 => ?_
 refine c_nodes (Mem w ⟨no, P0⟩ [.blk b7 [.int .i64 ((Codec.wrong ([x] : List Sample)).err), .int .i64 ((Codec.wrong ([x] : List Sample)).at_)] 81, Row (.slice (some ⟨b18, 0, none⟩) 1 1) 39 2 sampleE ([x] : List Sample), .blk b4 [.slice none 0 0, .slice none 0 0, .slice none 0 0, .slice none 0 0, .int .i64 0, .int .i64 0, .int .i64 0, .int .i64 0, .int .i64 0] 27, .blk b3 [.int .i64 x.time, .int .i64 x.value] 39, slP 2 labelE (.slice z0A z.series.length z0c) z.series, slP 2 sampleE (.slice z1A z.raw.length z1c) z.raw, slP 8 bucketE (.slice z2A z.fine.length z2c) z.fine, slP 8 bucketE (.slice z3A z.coarse.length z3c) z.coarse]) mix (fun _ h => h.drew) rfl ?_
 refine n_run (f := 7) [1, 4] rfl rfl (by kernel_rfl) (by kernel_rfl) (fun _ h => (h.sel [0, 1, 2, 3, 5, 6, 7, 8] (by decide) rfl)) fun KS hKS => ?_
 refine s_val wn (r_fa rfl fld27_1) rfl ?_
 refine s_val wn (r_lbn 3 [.int .i64 x.time, .int .i64 x.value] rfl rfl rfl rfl agg39 inf39) rfl ?_
 refine s_end hKS ?_
 refine n_step3 (f := 6) (i := 0) (j := 2) (k := 5) rfl (by kernel_rfl) ?_ ?_ ?_
 · refine n_one (i := 0) rfl fun KN hKN => ?_
   refine l_bsL0 sampleE wn Try.underlying24 inf39 rfl fun b54 => ?_
   refine l_nil (hKN _ _ (fun _ h => (h.sel [1, 2, 3, 4, 6, 7, 8, 9] (by decide) rfl)) ?_)
   refine n_step2 (f := 5) (i := 2) (j := 5) rfl (by kernel_rfl) ?_ ?_
   · refine n_one (i := 2) rfl fun KN hKN => ?_
     refine l_val wn (r_lb 5 rfl rfl rfl flat24) rfl ?_
     refine l_nil (hKN _ _ (fun _ h => (h.sel [1, 2, 3, 4, 6, 7, 8, 9] (by decide) rfl)) ?_)
     refine n_step2 (f := 4) (i := 3) (j := 5) rfl (by kernel_rfl) ?_ ?_
     · refine n_one (i := 3) rfl fun KN hKN => ?_
       refine l_app 0 ([] : List Sample) z.raw encSample wn rfl rfl rfl (fun _ hM => (hM.slp 7 rfl)) Try.underlying24 inf39 rfl rfl (by first | omega | (simp only [List.length_append, List.length_cons, List.length_nil]; omega)) rfl fun A1 cp1 hc1 hm1 hA1 => ?_
       refine l_nil (hKN _ _ (fun _ h => (h.sel [1, 2, 3, 4, 6, 7, 8, 9] (by decide) rfl)) ?_)
       refine n_step1 (f := 3) (i := 5) rfl (by kernel_rfl) ?_
       refine n_one (i := 5) rfl fun KN hKN => ?_
       refine l_bsL sampleE ([x] : List Sample) wn Try.underlying24 inf39 rfl rfl rfl rfl (by decide) (by decide) rfl fun b59 => ?_
       refine l_nil (hKN _ _ (fun _ h => (h.sel [2, 3, 4, 5, 7, 8, 9, 10] (by decide) rfl)) ?_)
       refine n_step1 (f := 2) (i := 6) rfl (by kernel_rfl) ?_
       refine n_one (i := 6) rfl fun KN hKN => ?_
       refine l_app 1 (([] : List Sample) ++ z.raw) ([x] : List Sample) encSample wn rfl rfl rfl (fun _ hM => (RowSl encSample hM 0 rfl)) Try.underlying24 inf39 rfl rfl (by first | omega | (simp only [List.length_append, List.length_cons, List.length_nil]; omega)) rfl fun A2 cp2 hc2 hm2 hA2 => ?_
       refine l_nil (hKN _ _ (fun _ h => (h.sel [2, 3, 4, 5, 7, 8, 9, 10] (by decide) rfl)) ?_)
       refine n_run (f := 1) [7] rfl rfl (by kernel_rfl) (by kernel_rfl) (fun _ h => (h.sel [2, 3, 4, 5, 7, 8, 9, 10] (by decide) rfl)) fun KS hKS => ?_
       refine s_val wn (r_fa rfl fld27_1) rfl ?_
       refine s_end hKS ?_
       refine n_step1 (f := 0) (i := 8) rfl (by kernel_rfl) ?_
       refine n_one (i := 8) rfl fun KN hKN => ?_
       refine l_st1 6 wn rfl rfl rfl rfl inf24 rfl rfl ?_
       refine l_nil (hKN _ _ (fun _ h => (h.sel [2, 3, 4, 5, 7, 8, 9, 10] (by decide) rfl)) ?_)
       refine n_done (by kernel_rfl) (e_go hK23 ?_)
       refine c_seq fun _ hK24 => ?_
       refine c_region ?_
       refine l_val wn (r_lbn 6 [.slice z0A z.series.length z0c, .slice A2 (((([] : List Sample) ++ z.raw) ++ ([x] : List Sample)).length) cp2, .slice z2A z.fine.length z2c, .slice z3A z.coarse.length z3c, .int .i64 z.rawFrom, .int .i64 z.fineFrom, .int .i64 z.fineTo, .int .i64 z.coarseFrom, .int .i64 z.coarseTo] rfl rfl rfl rfl agg27 inf27) rfl ?_
       refine l_stn 4 wn rfl rfl rfl inf27 rfl rfl rfl ?_
       refine l_val wn (r_assign rfl) rfl ?_
       refine l_nil (e_go hK24 ?_)
       refine c_ret (e_ret2 (.inl rfl) Try.results24 (rv_cell 4 rfl rfl agg27 inf27 rfl) (rv_tmp rfl) fun w1 hM => ?_)
       have he : Sh.append z x = ((⟨z.series, ((([] : List Sample) ++ z.raw) ++ ([x] : List Sample)), z.fine, z.coarse, z.rawFrom, z.fineFrom, z.fineTo, z.coarseFrom, z.coarseTo⟩ : Shelf), 0) := Sh.append_ok h1 h2 (by rw [hla] at h5; simpa using h5) (by omega)
       rw [he]
       have hM := hM.sealRow encSample (i := 1) rfl rfl
       exact hM.retSh (s' := (⟨z.series, ((([] : List Sample) ++ z.raw) ++ ([x] : List Sample)), z.fine, z.coarse, z.rawFrom, z.fineFrom, z.fineTo, z.coarseFrom, z.coarseTo⟩ : Shelf)) (fun u => .tuple (List.toArray [u, .int .i64 0])) rfl (rfl) (fun _ pp => pp.sl 7 rfl) (fun _ pp => pp.sl 1 rfl) (fun _ pp => pp.sl 9 rfl) (fun _ pp => pp.sl 10 rfl)
     refine n_one (i := 5) rfl fun KN hKN => ?_
     refine l_bsL sampleE ([x] : List Sample) wn Try.underlying24 inf39 rfl rfl rfl rfl (by decide) (by decide) rfl fun b59 => ?_
     refine l_nil (hKN _ _ (fun _ h => (h.sel [2, 3, 4, 5, 7, 8, 9, 10] (by decide) rfl)) ?_)
     refine n_step1 (f := 3) (i := 3) rfl (by kernel_rfl) ?_
     refine n_one (i := 3) rfl fun KN hKN => ?_
     refine l_app 1 ([] : List Sample) z.raw encSample wn rfl rfl rfl (fun _ hM => (hM.slp 8 rfl)) Try.underlying24 inf39 rfl rfl (by first | omega | (simp only [List.length_append, List.length_cons, List.length_nil]; omega)) rfl fun A3 cp3 hc3 hm3 hA3 => ?_
     refine l_nil (hKN _ _ (fun _ h => (h.sel [2, 3, 4, 5, 7, 8, 9, 10] (by decide) rfl)) ?_)
     refine n_step1 (f := 2) (i := 6) rfl (by kernel_rfl) ?_
     refine n_one (i := 6) rfl fun KN hKN => ?_
     refine l_app 1 (([] : List Sample) ++ z.raw) ([x] : List Sample) encSample wn rfl rfl rfl (fun _ hM => (RowSl encSample hM 0 rfl)) Try.underlying24 inf39 rfl rfl (by first | omega | (simp only [List.length_append, List.length_cons, List.length_nil]; omega)) rfl fun A4 cp4 hc4 hm4 hA4 => ?_
     refine l_nil (hKN _ _ (fun _ h => (h.sel [2, 3, 4, 5, 7, 8, 9, 10] (by decide) rfl)) ?_)
     refine n_run (f := 1) [7] rfl rfl (by kernel_rfl) (by kernel_rfl) (fun _ h => (h.sel [2, 3, 4, 5, 7, 8, 9, 10] (by decide) rfl)) fun KS hKS => ?_
     refine s_val wn (r_fa rfl fld27_1) rfl ?_
     refine s_end hKS ?_
     refine n_step1 (f := 0) (i := 8) rfl (by kernel_rfl) ?_
     refine n_one (i := 8) rfl fun KN hKN => ?_
     refine l_st1 6 wn rfl rfl rfl rfl inf24 rfl rfl ?_
     refine l_nil (hKN _ _ (fun _ h => (h.sel [2, 3, 4, 5, 7, 8, 9, 10] (by decide) rfl)) ?_)
     refine n_done (by kernel_rfl) (e_go hK23 ?_)
     refine c_seq fun _ hK25 => ?_
     refine c_region ?_
     refine l_val wn (r_lbn 6 [.slice z0A z.series.length z0c, .slice A4 (((([] : List Sample) ++ z.raw) ++ ([x] : List Sample)).length) cp4, .slice z2A z.fine.length z2c, .slice z3A z.coarse.length z3c, .int .i64 z.rawFrom, .int .i64 z.fineFrom, .int .i64 z.fineTo, .int .i64 z.coarseFrom, .int .i64 z.coarseTo] rfl rfl rfl rfl agg27 inf27) rfl ?_
     refine l_stn 4 wn rfl rfl rfl inf27 rfl rfl rfl ?_
     refine l_val wn (r_assign rfl) rfl ?_
     refine l_nil (e_go hK25 ?_)
     refine c_ret (e_ret2 (.inl rfl) Try.results24 (rv_cell 4 rfl rfl agg27 inf27 rfl) (rv_tmp rfl) fun w1 hM => ?_)
     have he : Sh.append z x = ((⟨z.series, ((([] : List Sample) ++ z.raw) ++ ([x] : List Sample)), z.fine, z.coarse, z.rawFrom, z.fineFrom, z.fineTo, z.coarseFrom, z.coarseTo⟩ : Shelf), 0) := Sh.append_ok h1 h2 (by rw [hla] at h5; simpa using h5) (by omega)
     rw [he]
     have hM := hM.sealRow encSample (i := 1) rfl rfl
     exact hM.retSh (s' := (⟨z.series, ((([] : List Sample) ++ z.raw) ++ ([x] : List Sample)), z.fine, z.coarse, z.rawFrom, z.fineFrom, z.fineTo, z.coarseFrom, z.coarseTo⟩ : Shelf)) (fun u => .tuple (List.toArray [u, .int .i64 0])) rfl (rfl) (fun _ pp => pp.sl 7 rfl) (fun _ pp => pp.sl 1 rfl) (fun _ pp => pp.sl 9 rfl) (fun _ pp => pp.sl 10 rfl)
   refine n_one (i := 5) rfl fun KN hKN => ?_
   refine l_bsL sampleE ([x] : List Sample) wn Try.underlying24 inf39 rfl rfl rfl rfl (by decide) (by decide) rfl fun b59 => ?_
   refine l_nil (hKN _ _ (fun _ h => (h.sel [2, 3, 4, 5, 7, 8, 9, 10] (by decide) rfl)) ?_)
   refine n_step1 (f := 4) (i := 2) rfl (by kernel_rfl) ?_
   refine n_one (i := 2) rfl fun KN hKN => ?_
   refine l_val wn (r_lb 6 rfl rfl rfl flat24) rfl ?_
   refine l_nil (hKN _ _ (fun _ h => (h.sel [2, 3, 4, 5, 7, 8, 9, 10] (by decide) rfl)) ?_)
   refine n_step1 (f := 3) (i := 3) rfl (by kernel_rfl) ?_
   refine n_one (i := 3) rfl fun KN hKN => ?_
   refine l_app 1 ([] : List Sample) z.raw encSample wn rfl rfl rfl (fun _ hM => (hM.slp 8 rfl)) Try.underlying24 inf39 rfl rfl (by first | omega | (simp only [List.length_append, List.length_cons, List.length_nil]; omega)) rfl fun A5 cp5 hc5 hm5 hA5 => ?_
   refine l_nil (hKN _ _ (fun _ h => (h.sel [2, 3, 4, 5, 7, 8, 9, 10] (by decide) rfl)) ?_)
   refine n_step1 (f := 2) (i := 6) rfl (by kernel_rfl) ?_
   refine n_one (i := 6) rfl fun KN hKN => ?_
   refine l_app 1 (([] : List Sample) ++ z.raw) ([x] : List Sample) encSample wn rfl rfl rfl (fun _ hM => (RowSl encSample hM 0 rfl)) Try.underlying24 inf39 rfl rfl (by first | omega | (simp only [List.length_append, List.length_cons, List.length_nil]; omega)) rfl fun A6 cp6 hc6 hm6 hA6 => ?_
   refine l_nil (hKN _ _ (fun _ h => (h.sel [2, 3, 4, 5, 7, 8, 9, 10] (by decide) rfl)) ?_)
   refine n_run (f := 1) [7] rfl rfl (by kernel_rfl) (by kernel_rfl) (fun _ h => (h.sel [2, 3, 4, 5, 7, 8, 9, 10] (by decide) rfl)) fun KS hKS => ?_
   refine s_val wn (r_fa rfl fld27_1) rfl ?_
   refine s_end hKS ?_
   refine n_step1 (f := 0) (i := 8) rfl (by kernel_rfl) ?_
   refine n_one (i := 8) rfl fun KN hKN => ?_
   refine l_st1 6 wn rfl rfl rfl rfl inf24 rfl rfl ?_
   refine l_nil (hKN _ _ (fun _ h => (h.sel [2, 3, 4, 5, 7, 8, 9, 10] (by decide) rfl)) ?_)
   refine n_done (by kernel_rfl) (e_go hK23 ?_)
   refine c_seq fun _ hK26 => ?_
   refine c_region ?_
   refine l_val wn (r_lbn 6 [.slice z0A z.series.length z0c, .slice A6 (((([] : List Sample) ++ z.raw) ++ ([x] : List Sample)).length) cp6, .slice z2A z.fine.length z2c, .slice z3A z.coarse.length z3c, .int .i64 z.rawFrom, .int .i64 z.fineFrom, .int .i64 z.fineTo, .int .i64 z.coarseFrom, .int .i64 z.coarseTo] rfl rfl rfl rfl agg27 inf27) rfl ?_
   refine l_stn 4 wn rfl rfl rfl inf27 rfl rfl rfl ?_
   refine l_val wn (r_assign rfl) rfl ?_
   refine l_nil (e_go hK26 ?_)
   refine c_ret (e_ret2 (.inl rfl) Try.results24 (rv_cell 4 rfl rfl agg27 inf27 rfl) (rv_tmp rfl) fun w1 hM => ?_)
   have he : Sh.append z x = ((⟨z.series, ((([] : List Sample) ++ z.raw) ++ ([x] : List Sample)), z.fine, z.coarse, z.rawFrom, z.fineFrom, z.fineTo, z.coarseFrom, z.coarseTo⟩ : Shelf), 0) := Sh.append_ok h1 h2 (by rw [hla] at h5; simpa using h5) (by omega)
   rw [he]
   have hM := hM.sealRow encSample (i := 1) rfl rfl
   exact hM.retSh (s' := (⟨z.series, ((([] : List Sample) ++ z.raw) ++ ([x] : List Sample)), z.fine, z.coarse, z.rawFrom, z.fineFrom, z.fineTo, z.coarseFrom, z.coarseTo⟩ : Shelf)) (fun u => .tuple (List.toArray [u, .int .i64 0])) rfl (rfl) (fun _ pp => pp.sl 7 rfl) (fun _ pp => pp.sl 1 rfl) (fun _ pp => pp.sl 9 rfl) (fun _ pp => pp.sl 10 rfl)
 · refine n_one (i := 2) rfl fun KN hKN => ?_
   refine l_val wn (r_lb 4 rfl rfl rfl flat24) rfl ?_
   refine l_nil (hKN _ _ (fun _ h => (h.sel [0, 1, 2, 3, 5, 6, 7, 8] (by decide) rfl)) ?_)
   refine n_step2 (f := 5) (i := 0) (j := 5) rfl (by kernel_rfl) ?_ ?_
   · refine n_one (i := 0) rfl fun KN hKN => ?_
     refine l_bsL0 sampleE wn Try.underlying24 inf39 rfl fun b54 => ?_
     refine l_nil (hKN _ _ (fun _ h => (h.sel [1, 2, 3, 4, 6, 7, 8, 9] (by decide) rfl)) ?_)
     refine n_step2 (f := 4) (i := 3) (j := 5) rfl (by kernel_rfl) ?_ ?_
     · refine n_one (i := 3) rfl fun KN hKN => ?_
       refine l_app 0 ([] : List Sample) z.raw encSample wn rfl rfl rfl (fun _ hM => (hM.slp 7 rfl)) Try.underlying24 inf39 rfl rfl (by first | omega | (simp only [List.length_append, List.length_cons, List.length_nil]; omega)) rfl fun A7 cp7 hc7 hm7 hA7 => ?_
       refine l_nil (hKN _ _ (fun _ h => (h.sel [1, 2, 3, 4, 6, 7, 8, 9] (by decide) rfl)) ?_)
       refine n_step1 (f := 3) (i := 5) rfl (by kernel_rfl) ?_
       refine n_one (i := 5) rfl fun KN hKN => ?_
       refine l_bsL sampleE ([x] : List Sample) wn Try.underlying24 inf39 rfl rfl rfl rfl (by decide) (by decide) rfl fun b59 => ?_
       refine l_nil (hKN _ _ (fun _ h => (h.sel [2, 3, 4, 5, 7, 8, 9, 10] (by decide) rfl)) ?_)
       refine n_step1 (f := 2) (i := 6) rfl (by kernel_rfl) ?_
       refine n_one (i := 6) rfl fun KN hKN => ?_
       refine l_app 1 (([] : List Sample) ++ z.raw) ([x] : List Sample) encSample wn rfl rfl rfl (fun _ hM => (RowSl encSample hM 0 rfl)) Try.underlying24 inf39 rfl rfl (by first | omega | (simp only [List.length_append, List.length_cons, List.length_nil]; omega)) rfl fun A8 cp8 hc8 hm8 hA8 => ?_
       refine l_nil (hKN _ _ (fun _ h => (h.sel [2, 3, 4, 5, 7, 8, 9, 10] (by decide) rfl)) ?_)
       refine n_run (f := 1) [7] rfl rfl (by kernel_rfl) (by kernel_rfl) (fun _ h => (h.sel [2, 3, 4, 5, 7, 8, 9, 10] (by decide) rfl)) fun KS hKS => ?_
       refine s_val wn (r_fa rfl fld27_1) rfl ?_
       refine s_end hKS ?_
       refine n_step1 (f := 0) (i := 8) rfl (by kernel_rfl) ?_
       refine n_one (i := 8) rfl fun KN hKN => ?_
       refine l_st1 6 wn rfl rfl rfl rfl inf24 rfl rfl ?_
       refine l_nil (hKN _ _ (fun _ h => (h.sel [2, 3, 4, 5, 7, 8, 9, 10] (by decide) rfl)) ?_)
       refine n_done (by kernel_rfl) (e_go hK23 ?_)
       refine c_seq fun _ hK27 => ?_
       refine c_region ?_
       refine l_val wn (r_lbn 6 [.slice z0A z.series.length z0c, .slice A8 (((([] : List Sample) ++ z.raw) ++ ([x] : List Sample)).length) cp8, .slice z2A z.fine.length z2c, .slice z3A z.coarse.length z3c, .int .i64 z.rawFrom, .int .i64 z.fineFrom, .int .i64 z.fineTo, .int .i64 z.coarseFrom, .int .i64 z.coarseTo] rfl rfl rfl rfl agg27 inf27) rfl ?_
       refine l_stn 4 wn rfl rfl rfl inf27 rfl rfl rfl ?_
       refine l_val wn (r_assign rfl) rfl ?_
       refine l_nil (e_go hK27 ?_)
       refine c_ret (e_ret2 (.inl rfl) Try.results24 (rv_cell 4 rfl rfl agg27 inf27 rfl) (rv_tmp rfl) fun w1 hM => ?_)
       have he : Sh.append z x = ((⟨z.series, ((([] : List Sample) ++ z.raw) ++ ([x] : List Sample)), z.fine, z.coarse, z.rawFrom, z.fineFrom, z.fineTo, z.coarseFrom, z.coarseTo⟩ : Shelf), 0) := Sh.append_ok h1 h2 (by rw [hla] at h5; simpa using h5) (by omega)
       rw [he]
       have hM := hM.sealRow encSample (i := 1) rfl rfl
       exact hM.retSh (s' := (⟨z.series, ((([] : List Sample) ++ z.raw) ++ ([x] : List Sample)), z.fine, z.coarse, z.rawFrom, z.fineFrom, z.fineTo, z.coarseFrom, z.coarseTo⟩ : Shelf)) (fun u => .tuple (List.toArray [u, .int .i64 0])) rfl (rfl) (fun _ pp => pp.sl 7 rfl) (fun _ pp => pp.sl 1 rfl) (fun _ pp => pp.sl 9 rfl) (fun _ pp => pp.sl 10 rfl)
     refine n_one (i := 5) rfl fun KN hKN => ?_
     refine l_bsL sampleE ([x] : List Sample) wn Try.underlying24 inf39 rfl rfl rfl rfl (by decide) (by decide) rfl fun b59 => ?_
     refine l_nil (hKN _ _ (fun _ h => (h.sel [2, 3, 4, 5, 7, 8, 9, 10] (by decide) rfl)) ?_)
     refine n_step1 (f := 3) (i := 3) rfl (by kernel_rfl) ?_
     refine n_one (i := 3) rfl fun KN hKN => ?_
     refine l_app 1 ([] : List Sample) z.raw encSample wn rfl rfl rfl (fun _ hM => (hM.slp 8 rfl)) Try.underlying24 inf39 rfl rfl (by first | omega | (simp only [List.length_append, List.length_cons, List.length_nil]; omega)) rfl fun A9 cp9 hc9 hm9 hA9 => ?_
     refine l_nil (hKN _ _ (fun _ h => (h.sel [2, 3, 4, 5, 7, 8, 9, 10] (by decide) rfl)) ?_)
     refine n_step1 (f := 2) (i := 6) rfl (by kernel_rfl) ?_
     refine n_one (i := 6) rfl fun KN hKN => ?_
     refine l_app 1 (([] : List Sample) ++ z.raw) ([x] : List Sample) encSample wn rfl rfl rfl (fun _ hM => (RowSl encSample hM 0 rfl)) Try.underlying24 inf39 rfl rfl (by first | omega | (simp only [List.length_append, List.length_cons, List.length_nil]; omega)) rfl fun A10 cp10 hc10 hm10 hA10 => ?_
     refine l_nil (hKN _ _ (fun _ h => (h.sel [2, 3, 4, 5, 7, 8, 9, 10] (by decide) rfl)) ?_)
     refine n_run (f := 1) [7] rfl rfl (by kernel_rfl) (by kernel_rfl) (fun _ h => (h.sel [2, 3, 4, 5, 7, 8, 9, 10] (by decide) rfl)) fun KS hKS => ?_
     refine s_val wn (r_fa rfl fld27_1) rfl ?_
     refine s_end hKS ?_
     refine n_step1 (f := 0) (i := 8) rfl (by kernel_rfl) ?_
     refine n_one (i := 8) rfl fun KN hKN => ?_
     refine l_st1 6 wn rfl rfl rfl rfl inf24 rfl rfl ?_
     refine l_nil (hKN _ _ (fun _ h => (h.sel [2, 3, 4, 5, 7, 8, 9, 10] (by decide) rfl)) ?_)
     refine n_done (by kernel_rfl) (e_go hK23 ?_)
     refine c_seq fun _ hK28 => ?_
     refine c_region ?_
     refine l_val wn (r_lbn 6 [.slice z0A z.series.length z0c, .slice A10 (((([] : List Sample) ++ z.raw) ++ ([x] : List Sample)).length) cp10, .slice z2A z.fine.length z2c, .slice z3A z.coarse.length z3c, .int .i64 z.rawFrom, .int .i64 z.fineFrom, .int .i64 z.fineTo, .int .i64 z.coarseFrom, .int .i64 z.coarseTo] rfl rfl rfl rfl agg27 inf27) rfl ?_
     refine l_stn 4 wn rfl rfl rfl inf27 rfl rfl rfl ?_
     refine l_val wn (r_assign rfl) rfl ?_
     refine l_nil (e_go hK28 ?_)
     refine c_ret (e_ret2 (.inl rfl) Try.results24 (rv_cell 4 rfl rfl agg27 inf27 rfl) (rv_tmp rfl) fun w1 hM => ?_)
     have he : Sh.append z x = ((⟨z.series, ((([] : List Sample) ++ z.raw) ++ ([x] : List Sample)), z.fine, z.coarse, z.rawFrom, z.fineFrom, z.fineTo, z.coarseFrom, z.coarseTo⟩ : Shelf), 0) := Sh.append_ok h1 h2 (by rw [hla] at h5; simpa using h5) (by omega)
     rw [he]
     have hM := hM.sealRow encSample (i := 1) rfl rfl
     exact hM.retSh (s' := (⟨z.series, ((([] : List Sample) ++ z.raw) ++ ([x] : List Sample)), z.fine, z.coarse, z.rawFrom, z.fineFrom, z.fineTo, z.coarseFrom, z.coarseTo⟩ : Shelf)) (fun u => .tuple (List.toArray [u, .int .i64 0])) rfl (rfl) (fun _ pp => pp.sl 7 rfl) (fun _ pp => pp.sl 1 rfl) (fun _ pp => pp.sl 9 rfl) (fun _ pp => pp.sl 10 rfl)
   refine n_one (i := 5) rfl fun KN hKN => ?_
   refine l_bsL sampleE ([x] : List Sample) wn Try.underlying24 inf39 rfl rfl rfl rfl (by decide) (by decide) rfl fun b59 => ?_
   refine l_nil (hKN _ _ (fun _ h => (h.sel [1, 2, 3, 4, 6, 7, 8, 9] (by decide) rfl)) ?_)
   refine n_step1 (f := 4) (i := 0) rfl (by kernel_rfl) ?_
   refine n_one (i := 0) rfl fun KN hKN => ?_
   refine l_bsL0 sampleE wn Try.underlying24 inf39 rfl fun b54 => ?_
   refine l_nil (hKN _ _ (fun _ h => (h.sel [2, 3, 4, 5, 7, 8, 9, 10] (by decide) rfl)) ?_)
   refine n_step1 (f := 3) (i := 3) rfl (by kernel_rfl) ?_
   refine n_one (i := 3) rfl fun KN hKN => ?_
   refine l_app 0 ([] : List Sample) z.raw encSample wn rfl rfl rfl (fun _ hM => (hM.slp 8 rfl)) Try.underlying24 inf39 rfl rfl (by first | omega | (simp only [List.length_append, List.length_cons, List.length_nil]; omega)) rfl fun A11 cp11 hc11 hm11 hA11 => ?_
   refine l_nil (hKN _ _ (fun _ h => (h.sel [2, 3, 4, 5, 7, 8, 9, 10] (by decide) rfl)) ?_)
   refine n_step1 (f := 2) (i := 6) rfl (by kernel_rfl) ?_
   refine n_one (i := 6) rfl fun KN hKN => ?_
   refine l_app 0 (([] : List Sample) ++ z.raw) ([x] : List Sample) encSample wn rfl rfl rfl (fun _ hM => (RowSl encSample hM 1 rfl)) Try.underlying24 inf39 rfl rfl (by first | omega | (simp only [List.length_append, List.length_cons, List.length_nil]; omega)) rfl fun A12 cp12 hc12 hm12 hA12 => ?_
   refine l_nil (hKN _ _ (fun _ h => (h.sel [2, 3, 4, 5, 7, 8, 9, 10] (by decide) rfl)) ?_)
   refine n_run (f := 1) [7] rfl rfl (by kernel_rfl) (by kernel_rfl) (fun _ h => (h.sel [2, 3, 4, 5, 7, 8, 9, 10] (by decide) rfl)) fun KS hKS => ?_
   refine s_val wn (r_fa rfl fld27_1) rfl ?_
   refine s_end hKS ?_
   refine n_step1 (f := 0) (i := 8) rfl (by kernel_rfl) ?_
   refine n_one (i := 8) rfl fun KN hKN => ?_
   refine l_st1 6 wn rfl rfl rfl rfl inf24 rfl rfl ?_
   refine l_nil (hKN _ _ (fun _ h => (h.sel [2, 3, 4, 5, 7, 8, 9, 10] (by decide) rfl)) ?_)
   refine n_done (by kernel_rfl) (e_go hK23 ?_)
   refine c_seq fun _ hK29 => ?_
   refine c_region ?_
   refine l_val wn (r_lbn 6 [.slice z0A z.series.length z0c, .slice A12 (((([] : List Sample) ++ z.raw) ++ ([x] : List Sample)).length) cp12, .slice z2A z.fine.length z2c, .slice z3A z.coarse.length z3c, .int .i64 z.rawFrom, .int .i64 z.fineFrom, .int .i64 z.fineTo, .int .i64 z.coarseFrom, .int .i64 z.coarseTo] rfl rfl rfl rfl agg27 inf27) rfl ?_
   refine l_stn 4 wn rfl rfl rfl inf27 rfl rfl rfl ?_
   refine l_val wn (r_assign rfl) rfl ?_
   refine l_nil (e_go hK29 ?_)
   refine c_ret (e_ret2 (.inl rfl) Try.results24 (rv_cell 4 rfl rfl agg27 inf27 rfl) (rv_tmp rfl) fun w1 hM => ?_)
   have he : Sh.append z x = ((⟨z.series, ((([] : List Sample) ++ z.raw) ++ ([x] : List Sample)), z.fine, z.coarse, z.rawFrom, z.fineFrom, z.fineTo, z.coarseFrom, z.coarseTo⟩ : Shelf), 0) := Sh.append_ok h1 h2 (by rw [hla] at h5; simpa using h5) (by omega)
   rw [he]
   have hM := hM.sealRow encSample (i := 0) rfl rfl
   exact hM.retSh (s' := (⟨z.series, ((([] : List Sample) ++ z.raw) ++ ([x] : List Sample)), z.fine, z.coarse, z.rawFrom, z.fineFrom, z.fineTo, z.coarseFrom, z.coarseTo⟩ : Shelf)) (fun u => .tuple (List.toArray [u, .int .i64 0])) rfl (rfl) (fun _ pp => pp.sl 7 rfl) (fun _ pp => pp.sl 0 rfl) (fun _ pp => pp.sl 9 rfl) (fun _ pp => pp.sl 10 rfl)
 refine n_one (i := 5) rfl fun KN hKN => ?_
 refine l_bsL sampleE ([x] : List Sample) wn Try.underlying24 inf39 rfl rfl rfl rfl (by decide) (by decide) rfl fun b59 => ?_
 refine l_nil (hKN _ _ (fun _ h => (h.sel [1, 2, 3, 4, 6, 7, 8, 9] (by decide) rfl)) ?_)
 refine n_step2 (f := 5) (i := 0) (j := 2) rfl (by kernel_rfl) ?_ ?_
 · refine n_one (i := 0) rfl fun KN hKN => ?_
   refine l_bsL0 sampleE wn Try.underlying24 inf39 rfl fun b54 => ?_
   refine l_nil (hKN _ _ (fun _ h => (h.sel [2, 3, 4, 5, 7, 8, 9, 10] (by decide) rfl)) ?_)
   refine n_step1 (f := 4) (i := 2) rfl (by kernel_rfl) ?_
   refine n_one (i := 2) rfl fun KN hKN => ?_
   refine l_val wn (r_lb 6 rfl rfl rfl flat24) rfl ?_
   refine l_nil (hKN _ _ (fun _ h => (h.sel [2, 3, 4, 5, 7, 8, 9, 10] (by decide) rfl)) ?_)
   refine n_step1 (f := 3) (i := 3) rfl (by kernel_rfl) ?_
   refine n_one (i := 3) rfl fun KN hKN => ?_
   refine l_app 0 ([] : List Sample) z.raw encSample wn rfl rfl rfl (fun _ hM => (hM.slp 8 rfl)) Try.underlying24 inf39 rfl rfl (by first | omega | (simp only [List.length_append, List.length_cons, List.length_nil]; omega)) rfl fun A13 cp13 hc13 hm13 hA13 => ?_
   refine l_nil (hKN _ _ (fun _ h => (h.sel [2, 3, 4, 5, 7, 8, 9, 10] (by decide) rfl)) ?_)
   refine n_step1 (f := 2) (i := 6) rfl (by kernel_rfl) ?_
   refine n_one (i := 6) rfl fun KN hKN => ?_
   refine l_app 0 (([] : List Sample) ++ z.raw) ([x] : List Sample) encSample wn rfl rfl rfl (fun _ hM => (RowSl encSample hM 1 rfl)) Try.underlying24 inf39 rfl rfl (by first | omega | (simp only [List.length_append, List.length_cons, List.length_nil]; omega)) rfl fun A14 cp14 hc14 hm14 hA14 => ?_
   refine l_nil (hKN _ _ (fun _ h => (h.sel [2, 3, 4, 5, 7, 8, 9, 10] (by decide) rfl)) ?_)
   refine n_run (f := 1) [7] rfl rfl (by kernel_rfl) (by kernel_rfl) (fun _ h => (h.sel [2, 3, 4, 5, 7, 8, 9, 10] (by decide) rfl)) fun KS hKS => ?_
   refine s_val wn (r_fa rfl fld27_1) rfl ?_
   refine s_end hKS ?_
   refine n_step1 (f := 0) (i := 8) rfl (by kernel_rfl) ?_
   refine n_one (i := 8) rfl fun KN hKN => ?_
   refine l_st1 6 wn rfl rfl rfl rfl inf24 rfl rfl ?_
   refine l_nil (hKN _ _ (fun _ h => (h.sel [2, 3, 4, 5, 7, 8, 9, 10] (by decide) rfl)) ?_)
   refine n_done (by kernel_rfl) (e_go hK23 ?_)
   refine c_seq fun _ hK30 => ?_
   refine c_region ?_
   refine l_val wn (r_lbn 6 [.slice z0A z.series.length z0c, .slice A14 (((([] : List Sample) ++ z.raw) ++ ([x] : List Sample)).length) cp14, .slice z2A z.fine.length z2c, .slice z3A z.coarse.length z3c, .int .i64 z.rawFrom, .int .i64 z.fineFrom, .int .i64 z.fineTo, .int .i64 z.coarseFrom, .int .i64 z.coarseTo] rfl rfl rfl rfl agg27 inf27) rfl ?_
   refine l_stn 4 wn rfl rfl rfl inf27 rfl rfl rfl ?_
   refine l_val wn (r_assign rfl) rfl ?_
   refine l_nil (e_go hK30 ?_)
   refine c_ret (e_ret2 (.inl rfl) Try.results24 (rv_cell 4 rfl rfl agg27 inf27 rfl) (rv_tmp rfl) fun w1 hM => ?_)
   have he : Sh.append z x = ((⟨z.series, ((([] : List Sample) ++ z.raw) ++ ([x] : List Sample)), z.fine, z.coarse, z.rawFrom, z.fineFrom, z.fineTo, z.coarseFrom, z.coarseTo⟩ : Shelf), 0) := Sh.append_ok h1 h2 (by rw [hla] at h5; simpa using h5) (by omega)
   rw [he]
   have hM := hM.sealRow encSample (i := 0) rfl rfl
   exact hM.retSh (s' := (⟨z.series, ((([] : List Sample) ++ z.raw) ++ ([x] : List Sample)), z.fine, z.coarse, z.rawFrom, z.fineFrom, z.fineTo, z.coarseFrom, z.coarseTo⟩ : Shelf)) (fun u => .tuple (List.toArray [u, .int .i64 0])) rfl (rfl) (fun _ pp => pp.sl 7 rfl) (fun _ pp => pp.sl 0 rfl) (fun _ pp => pp.sl 9 rfl) (fun _ pp => pp.sl 10 rfl)
 refine n_one (i := 2) rfl fun KN hKN => ?_
 refine l_val wn (r_lb 5 rfl rfl rfl flat24) rfl ?_
 refine l_nil (hKN _ _ (fun _ h => (h.sel [1, 2, 3, 4, 6, 7, 8, 9] (by decide) rfl)) ?_)
 refine n_step1 (f := 4) (i := 0) rfl (by kernel_rfl) ?_
 refine n_one (i := 0) rfl fun KN hKN => ?_
 refine l_bsL0 sampleE wn Try.underlying24 inf39 rfl fun b54 => ?_
 refine l_nil (hKN _ _ (fun _ h => (h.sel [2, 3, 4, 5, 7, 8, 9, 10] (by decide) rfl)) ?_)
 refine n_step1 (f := 3) (i := 3) rfl (by kernel_rfl) ?_
 refine n_one (i := 3) rfl fun KN hKN => ?_
 refine l_app 0 ([] : List Sample) z.raw encSample wn rfl rfl rfl (fun _ hM => (hM.slp 8 rfl)) Try.underlying24 inf39 rfl rfl (by first | omega | (simp only [List.length_append, List.length_cons, List.length_nil]; omega)) rfl fun A15 cp15 hc15 hm15 hA15 => ?_
 refine l_nil (hKN _ _ (fun _ h => (h.sel [2, 3, 4, 5, 7, 8, 9, 10] (by decide) rfl)) ?_)
 refine n_step1 (f := 2) (i := 6) rfl (by kernel_rfl) ?_
 refine n_one (i := 6) rfl fun KN hKN => ?_
 refine l_app 0 (([] : List Sample) ++ z.raw) ([x] : List Sample) encSample wn rfl rfl rfl (fun _ hM => (RowSl encSample hM 1 rfl)) Try.underlying24 inf39 rfl rfl (by first | omega | (simp only [List.length_append, List.length_cons, List.length_nil]; omega)) rfl fun A16 cp16 hc16 hm16 hA16 => ?_
 refine l_nil (hKN _ _ (fun _ h => (h.sel [2, 3, 4, 5, 7, 8, 9, 10] (by decide) rfl)) ?_)
 refine n_run (f := 1) [7] rfl rfl (by kernel_rfl) (by kernel_rfl) (fun _ h => (h.sel [2, 3, 4, 5, 7, 8, 9, 10] (by decide) rfl)) fun KS hKS => ?_
 refine s_val wn (r_fa rfl fld27_1) rfl ?_
 refine s_end hKS ?_
 refine n_step1 (f := 0) (i := 8) rfl (by kernel_rfl) ?_
 refine n_one (i := 8) rfl fun KN hKN => ?_
 refine l_st1 6 wn rfl rfl rfl rfl inf24 rfl rfl ?_
 refine l_nil (hKN _ _ (fun _ h => (h.sel [2, 3, 4, 5, 7, 8, 9, 10] (by decide) rfl)) ?_)
 refine n_done (by kernel_rfl) (e_go hK23 ?_)
 refine c_seq fun _ hK31 => ?_
 refine c_region ?_
 refine l_val wn (r_lbn 6 [.slice z0A z.series.length z0c, .slice A16 (((([] : List Sample) ++ z.raw) ++ ([x] : List Sample)).length) cp16, .slice z2A z.fine.length z2c, .slice z3A z.coarse.length z3c, .int .i64 z.rawFrom, .int .i64 z.fineFrom, .int .i64 z.fineTo, .int .i64 z.coarseFrom, .int .i64 z.coarseTo] rfl rfl rfl rfl agg27 inf27) rfl ?_
 refine l_stn 4 wn rfl rfl rfl inf27 rfl rfl rfl ?_
 refine l_val wn (r_assign rfl) rfl ?_
 refine l_nil (e_go hK31 ?_)
 refine c_ret (e_ret2 (.inl rfl) Try.results24 (rv_cell 4 rfl rfl agg27 inf27 rfl) (rv_tmp rfl) fun w1 hM => ?_)
 have he : Sh.append z x = ((⟨z.series, ((([] : List Sample) ++ z.raw) ++ ([x] : List Sample)), z.fine, z.coarse, z.rawFrom, z.fineFrom, z.fineTo, z.coarseFrom, z.coarseTo⟩ : Shelf), 0) := Sh.append_ok h1 h2 (by rw [hla] at h5; simpa using h5) (by omega)
 rw [he]
 have hM := hM.sealRow encSample (i := 0) rfl rfl
 exact hM.retSh (s' := (⟨z.series, ((([] : List Sample) ++ z.raw) ++ ([x] : List Sample)), z.fine, z.coarse, z.rawFrom, z.fineFrom, z.fineTo, z.coarseFrom, z.coarseTo⟩ : Shelf)) (fun u => .tuple (List.toArray [u, .int .i64 0])) rfl (rfl) (fun _ pp => pp.sl 7 rfl) (fun _ pp => pp.sl 0 rfl) (fun _ pp => pp.sl 9 rfl) (fun _ pp => pp.sl 10 rfl)

set_option maxHeartbeats 1000000 in
theorem c_refForget (z0 : Value) (z1 : Value) (z2 : Value) (z3 : Value) (z : Shelf) (tier : Int) (to : Int) (P0 : Nat → Prop) (w : World) (hP0 : ∀ b, P0 b → b < w.heap.size) (hz0 : FlatSl P0 2 labelE z0 z.series w) (hz1 : FlatSl P0 2 sampleE z1 z.raw w) (hz2 : FlatSl P0 8 bucketE z2 z.fine w) (hz3 : FlatSl P0 8 bucketE z3 z.coarse w) (hok : ∀ x ∈ z.series, x.key.size ≤ 9223372036854775807 ∧ x.val.size ≤ 9223372036854775807) :
    Calls Try.prog 28 #[.agg (List.toArray [z0, z1, z2, z3, .int .i64 z.rawFrom, .int .i64 z.fineFrom, .int .i64 z.fineTo, .int .i64 z.coarseFrom, .int .i64 z.coarseTo]), .int .i64 tier, .int .i64 to] w (RetSh w P0 (fun u => .tuple (List.toArray [u, .int .i64 (Sh.forget z tier to).2])) (Sh.forget z tier to).1) := by
 obtain ⟨z0A, z0c, rfl, hz0c, hz0m, hz0A⟩ := hz0.form
 obtain ⟨z1A, z1c, rfl, hz1c, hz1m, hz1A⟩ := hz1.form
 obtain ⟨z2A, z2c, rfl, hz2c, hz2m, hz2A⟩ := hz2.form
 obtain ⟨z3A, z3c, rfl, hz3c, hz3m, hz3A⟩ := hz3.form
 refine fstart (N := 93) (vals := [.agg (List.toArray [.slice z0A z.series.length z0c, .slice z1A z.raw.length z1c, .slice z2A z.fine.length z2c, .slice z3A z.coarse.length z3c, .int .i64 z.rawFrom, .int .i64 z.fineFrom, .int .i64 z.fineTo, .int .i64 z.coarseFrom, .int .i64 z.coarseTo]), .int .i64 tier, .int .i64 to]) (S := Mem w ⟨no, P0⟩ [slP 2 labelE (.slice z0A z.series.length z0c) z.series, slP 2 sampleE (.slice z1A z.raw.length z1c) z.raw, slP 8 bucketE (.slice z2A z.fine.length z2c) z.fine, slP 8 bucketE (.slice z3A z.coarse.length z3c) z.coarse]) Try.func28 rfl rfl rfl (Mem.ofDatsP hP0 (dc (dlp hz0) (dc (dlp hz1) (dc (dlp hz2) (dc (dlp hz3) dn))))) ?_
 refine c_seq fun _ hK1 => ?_
 refine c_region ?_
 refine l_box wn rfl rfl fun b3 => ?_
 refine l_alloc wn inf27 rfl fun b6 => ?_
 refine l_val wn (r_assign rfl) rfl ?_
 refine l_nil (e_go hK1 ?_)
 refine c_seq fun _ hK2 => ?_
 refine c_seq fun _ hK3 => ?_
 refine c_region ?_
 refine l_val wn (r_lbn 1 [.slice z0A z.series.length z0c, .slice z1A z.raw.length z1c, .slice z2A z.fine.length z2c, .slice z3A z.coarse.length z3c, .int .i64 z.rawFrom, .int .i64 z.fineFrom, .int .i64 z.fineTo, .int .i64 z.coarseFrom, .int .i64 z.coarseTo] rfl rfl rfl rfl agg27 inf27) rfl ?_
 refine l_callF wn rfl Try.call20 rfl (fun w1 hM => c_refShWrong _ _ _ _ z (In w1) w1 (fun _ h => h) (hM.slp 2 rfl) (hM.slp 3 rfl) (hM.slp 4 rfl) (hM.slp 5 rfl) (by exact hok)) ?_
 refine l_val wn (r_assign rfl) rfl ?_
 refine l_nil (e_go hK3 ?_)
 refine c_seq fun _ hK4 => ?_
 refine c_region ?_
 refine l_val wn (r_move rfl) rfl ?_
 refine l_val wn (r_neq rfl rfl) rfl ?_
 refine l_nil (e_go hK4 ?_)
 refine c_cond rfl (fun h1 => ?_) (fun h1 => ?_)
 · refine c_seq fun _ hK5 => ?_
   refine c_region ?_
   refine l_val wn (r_build [.slice none 0 0, .slice none 0 0, .slice none 0 0, .slice none 0 0, .int .i64 0, .int .i64 0, .int .i64 0, .int .i64 0, .int .i64 0] pl27 inf27 rfl rfl) rfl ?_
   refine l_val wn (r_move rfl) rfl ?_
   refine l_stn 0 wn rfl rfl rfl inf27 rfl rfl rfl ?_
   refine l_val wn (r_assign rfl) rfl ?_
   refine l_nil (e_go hK5 ?_)
   refine c_ret (e_then_r (e_ret2 (.inl rfl) Try.results28 (rv_cell 0 rfl rfl agg27 inf27 rfl) (rv_tmp rfl) fun w1 hM => ?_))
   have he : Sh.forget z tier to = ((⟨([] : List Label), ([] : List Sample), ([] : List Bucket), ([] : List Bucket), 0, 0, 0, 0, 0⟩ : Shelf), (Sh.wrong z)) := Sh.forget_wrong h1
   rw [he]
   exact hM.retSh (s' := (⟨([] : List Label), ([] : List Sample), ([] : List Bucket), ([] : List Bucket), 0, 0, 0, 0, 0⟩ : Shelf)) (fun u => .tuple (List.toArray [u, .int .i64 (Sh.wrong z)])) rfl (rfl) (fun _ _ => FlatSl.nil_ _ _ _ _) (fun _ _ => FlatSl.nil_ _ _ _ _) (fun _ _ => FlatSl.nil_ _ _ _ _) (fun _ _ => FlatSl.nil_ _ _ _ _)
 obtain ⟨l1, l2, l3, l4⟩ := (Sh.ok_of h1).lens
 obtain ⟨⟨g1, g2, g3, g4⟩, ⟨g5, g6, g7, g8, g9⟩, g10, g11, g12, g13, g14⟩ := (Sh.ok_of h1).rng
 refine c_skip (e_go hK2 ?_)
 refine c_seq fun _ hK6 => ?_
 refine c_seq fun _ hK7 => ?_
 refine c_region ?_
 refine l_val wn (r_move rfl) rfl ?_
 refine l_val wn (r_lss rfl rfl) rfl ?_
 refine l_val wn (r_move rfl) rfl ?_
 refine l_case (t := 20) rfl (fun h2 => ?_) (fun h2 => ?_)
 · refine l_skip (wg rfl rfl rfl) rfl ?_
   refine l_skip (wg rfl rfl rfl) rfl ?_
   refine l_val wn (r_pick rfl rfl) rfl ?_
   refine l_nil (e_go hK7 ?_)
   refine c_true rfl rfl ?_
   refine c_seq fun _ hK8 => ?_
   refine c_region ?_
   refine l_val wn (r_build [.slice none 0 0, .slice none 0 0, .slice none 0 0, .slice none 0 0, .int .i64 0, .int .i64 0, .int .i64 0, .int .i64 0, .int .i64 0] pl27 inf27 rfl rfl) rfl ?_
   refine l_stn 0 wn rfl rfl rfl inf27 rfl rfl rfl ?_
   refine l_val wn (r_assign rfl) rfl ?_
   refine l_nil (e_go hK8 ?_)
   refine c_ret (e_then_r (e_ret2 (.inl rfl) Try.results28 (rv_cell 0 rfl rfl agg27 inf27 rfl) (rv_tmp rfl) fun w1 hM => ?_))
   have he : Sh.forget z tier to = ((⟨([] : List Label), ([] : List Sample), ([] : List Bucket), ([] : List Bucket), 0, 0, 0, 0, 0⟩ : Shelf), 3) := Sh.forget_range h1 (by omega)
   rw [he]
   exact hM.retSh (s' := (⟨([] : List Label), ([] : List Sample), ([] : List Bucket), ([] : List Bucket), 0, 0, 0, 0, 0⟩ : Shelf)) (fun u => .tuple (List.toArray [u, .int .i64 3])) rfl (rfl) (fun _ _ => FlatSl.nil_ _ _ _ _) (fun _ _ => FlatSl.nil_ _ _ _ _) (fun _ _ => FlatSl.nil_ _ _ _ _) (fun _ _ => FlatSl.nil_ _ _ _ _)
 refine l_val (wg rfl rfl rfl) (r_move rfl) rfl ?_
 refine l_val (wg rfl rfl rfl) (r_gtr rfl rfl) rfl ?_
 refine l_val wn (r_pick rfl rfl) rfl ?_
 refine l_nil (e_go hK7 ?_)
 refine c_cond rfl (fun h3 => ?_) (fun h3 => ?_)
 · refine c_seq fun _ hK9 => ?_
   refine c_region ?_
   refine l_val wn (r_build [.slice none 0 0, .slice none 0 0, .slice none 0 0, .slice none 0 0, .int .i64 0, .int .i64 0, .int .i64 0, .int .i64 0, .int .i64 0] pl27 inf27 rfl rfl) rfl ?_
   refine l_stn 0 wn rfl rfl rfl inf27 rfl rfl rfl ?_
   refine l_val wn (r_assign rfl) rfl ?_
   refine l_nil (e_go hK9 ?_)
   refine c_ret (e_then_r (e_ret2 (.inl rfl) Try.results28 (rv_cell 0 rfl rfl agg27 inf27 rfl) (rv_tmp rfl) fun w1 hM => ?_))
   have he : Sh.forget z tier to = ((⟨([] : List Label), ([] : List Sample), ([] : List Bucket), ([] : List Bucket), 0, 0, 0, 0, 0⟩ : Shelf), 3) := Sh.forget_range h1 (by omega)
   rw [he]
   exact hM.retSh (s' := (⟨([] : List Label), ([] : List Sample), ([] : List Bucket), ([] : List Bucket), 0, 0, 0, 0, 0⟩ : Shelf)) (fun u => .tuple (List.toArray [u, .int .i64 3])) rfl (rfl) (fun _ _ => FlatSl.nil_ _ _ _ _) (fun _ _ => FlatSl.nil_ _ _ _ _) (fun _ _ => FlatSl.nil_ _ _ _ _) (fun _ _ => FlatSl.nil_ _ _ _ _)
 have hmn : 0 ≤ Sh.mn to z.coarseTo ∧ Sh.mn to z.coarseTo ≤ 1000000 := by unfold Sh.mn; split <;> omega
 have hrl := Sh.fromS_len z.raw (Sh.rawF z to)
 refine c_skip (e_go hK6 ?_)
 refine c_seq fun _ hK10 => ?_
 refine c_seq fun _ hK11 => ?_
 refine c_region ?_
 refine l_val wn (r_move rfl) rfl ?_
 refine l_nil (e_go hK11 ?_)
 refine c_block ?_
 refine c_seq fun _ hK12 => ?_
 refine c_region ?_
 refine l_val wn (r_eql rfl rfl) rfl ?_
 refine l_val wn (r_assign rfl) rfl ?_
 refine l_nil (e_go hK12 ?_)
 refine c_cond rfl (fun h4 => ?_) (fun h4 => ?_)
 · refine c_seq fun _ hK13 => ?_
   refine c_quietT 8 mix (by kernel_rfl) (fun _ h => h.drew) fun _ hT1 => ?_
   refine q_val wn (r_fa rfl fld27_4) rfl ?_
   refine q_val wn (r_lb 1 rfl rfl rfl flat3) rfl ?_
   refine q_val wn (r_move rfl) rfl ?_
   refine q_val wn (r_fa rfl fld27_6) rfl ?_
   refine q_val wn (r_lb 1 rfl rfl rfl flat3) rfl ?_
   refine q_callF wn rfl Try.call40 rfl (fun w1 hM => c_least to z.fineTo w1) ?_
   refine q_callF wn rfl Try.call66 rfl (fun w1 hM => c_most z.rawFrom (Sh.mn to z.fineTo) w1) ?_
   refine q_val wn (r_fa rfl fld27_4) rfl ?_
   refine q_tail hT1 ?_
   refine l_st1 1 wn rfl rfl rfl rfl inf3 rfl rfl ?_
   refine l_nil (e_go hK13 ?_)
   refine c_seq fun _ hK14 => ?_
   refine c_region ?_
   refine l_nilRow (sampleE : Sample → List Value) 39 2 ?_
   refine l_val wn (r_assign rfl) rfl ?_
   refine l_nil (e_go hK14 ?_)
   refine c_seq fun _ hK15 => ?_
   refine c_seq fun _ hK16 => ?_
   refine c_region ?_
   refine l_val wn (r_fa rfl fld27_1) rfl ?_
   refine l_val wn (r_lb 2 rfl rfl rfl flat24) rfl ?_
   refine l_val wn (r_len rfl Try.underlying24) rfl ?_
   refine l_val wn (r_move rfl) rfl ?_
   refine l_nil (e_go hK16 ?_)
   refine c_block ?_
   refine c_loop2 (fun (k : Nat) (vr : Value) => [(3, .pointer (some ⟨b3, 0, none⟩)), (6, .pointer (some ⟨b6, 0, none⟩)), (9, vr), (38, .slice z1A z.raw.length z1c), (39, .int .i64 (z.raw.length : Int)), (40, .int .i64 (k : Int))]) (fun (k : Nat) (vr : Value) => [Row vr 39 2 sampleE (Sh.fromS (z.raw.take k) (Sh.mx z.rawFrom (Sh.mn to z.fineTo))), .blk b6 [.slice none 0 0, .slice none 0 0, .slice none 0 0, .slice none 0 0, .int .i64 0, .int .i64 0, .int .i64 0, .int .i64 0, .int .i64 0] 27, .blk b3 [.slice z0A z.series.length z0c, .slice z1A z.raw.length z1c, .slice z2A z.fine.length z2c, .slice z3A z.coarse.length z3c, .int .i64 (Sh.mx z.rawFrom (Sh.mn to z.fineTo)), .int .i64 z.fineFrom, .int .i64 z.fineTo, .int .i64 z.coarseFrom, .int .i64 z.coarseTo] 27, slP 2 labelE (.slice z0A z.series.length z0c) z.series, slP 2 sampleE (.slice z1A z.raw.length z1c) z.raw, slP 8 bucketE (.slice z2A z.fine.length z2c) z.fine, slP 8 bucketE (.slice z3A z.coarse.length z3c) z.coarse]) (fun (k : Nat) (vr : Value) => k ≤ z.raw.length) (fun (k : Nat) (vr : Value) => z.raw.length - k) 0 (.slice none 0 0) (sc rfl (sc rfl (sc rfl (sc rfl (sc rfl (sc (ji (by omega)) sn)))))) (fun _ h => h) ?_ (fun k vr hI1 => ?_)
   · omega
   have hlen := Nat.le_trans (Sh.fromS_len (z.raw.take k) (Sh.mx z.rawFrom (Sh.mn to z.fineTo))) (List.length_take_le k z.raw)
   refine c_open 0 (l := (Sh.fromS (z.raw.take k) (Sh.mx z.rawFrom (Sh.mn to z.fineTo)))) rfl fun A1 cp1 hv1 hc1 hm1 hA1 => ?_
   subst hv1
   refine c_seq fun _ hK17 => ?_
   refine c_region ?_
   refine l_val wn (r_lss rfl rfl) rfl ?_
   refine l_nil (e_go hK17 ?_)
   refine c_seq fun _ hK18 => ?_
   refine c_cond rfl (fun h5 => ?_) (fun h5 => ?_)
   · refine c_skip (e_go hK18 ?_)
     refine c_seq fun _ hK19 => ?_
     refine c_block ?_
     refine c_seq fun _ hK20 => ?_
     refine c_region ?_
     obtain ⟨ad1, hd1⟩ := hz1A (ne_nil (i := k) (by first | omega | decide | (simp only [List.length_cons, List.length_nil, List.length_append, List.length_take, List.length_set]; omega)))
     refine l_val wn (r_ia (i := k) rfl hd1 rfl (by omega) (by first | omega | decide | (simp only [List.length_cons, List.length_nil, List.length_append, List.length_take, List.length_set]; omega)) Try.underlying24 inf39) rfl ?_
     obtain ⟨s1, hs1⟩ : ∃ x, z.raw[k]? = some x := ⟨_, List.getElem?_eq_getElem (by first | omega | decide | (simp only [List.length_cons, List.length_nil, List.length_append, List.length_take, List.length_set]; omega))⟩
     refine l_val wn (r_pln 4 [.int .i64 s1.time, .int .i64 s1.value] rfl rfl hd1 hs1 rfl rfl agg39 inf39) rfl ?_
     refine l_alloc wn inf39 rfl fun b11 => ?_
     refine l_stn 0 wn rfl rfl rfl inf39 rfl rfl rfl ?_
     refine l_nil (e_go hK20 ?_)
     refine c_seq fun _ hK21 => ?_
     refine c_region ?_
     refine l_val wn (r_fa rfl fld39_0) rfl ?_
     refine l_val wn (r_lb 0 rfl rfl rfl flat3) rfl ?_
     refine l_val wn (r_fa rfl fld27_4) rfl ?_
     refine l_val wn (r_lb 3 rfl rfl rfl flat3) rfl ?_
     refine l_val wn (r_geq rfl rfl) rfl ?_
     refine l_nil (e_go hK21 ?_)
     refine c_cond rfl (fun h6 => ?_) (fun h6 => ?_)
     · refine c_region ?_
       refine l_val wn (r_move rfl) rfl ?_
       refine l_val wn (r_lbn 0 [.int .i64 s1.time, .int .i64 s1.value] rfl rfl rfl rfl agg39 inf39) rfl ?_
       refine l_bsL sampleE ([s1] : List Sample) wn Try.underlying24 inf39 rfl rfl rfl rfl (by decide) (by decide) rfl fun b51 => ?_
       refine l_app 2 (Sh.fromS (z.raw.take k) (Sh.mx z.rawFrom (Sh.mn to z.fineTo))) ([s1] : List Sample) encSample wn rfl rfl rfl (fun _ hM => (RowSl encSample hM 0 rfl)) Try.underlying24 inf39 rfl rfl (by simp only [List.length_append, List.length_cons, List.length_nil]; omega) rfl fun A2 cp2 hc2 hm2 hA2 => ?_
       refine l_val wn (r_assign rfl) rfl ?_
       refine l_nil (e_in_n (e_go hK19 ?_))
       refine c_region ?_
       refine l_val wn (r_addn rfl rfl (by omega)) rfl ?_
       refine l_val wn (r_move rfl) rfl ?_
       refine l_nil (e_round2 (k + 1) (.slice A2 (((Sh.fromS (z.raw.take k) (Sh.mx z.rawFrom (Sh.mn to z.fineTo))) ++ ([s1] : List Sample)).length) cp2) (sc rfl (sc rfl (sc rfl (sc rfl (sc rfl (sc (ji (by omega)) sn)))))) (fun _ h => by rw [(Sh.fromS_succ (f := Sh.mx z.rawFrom (Sh.mn to z.fineTo)) hs1).trans (if_pos h6)]; exact (h.sel [2, 3, 4, 5, 6, 7, 8] (by decide) rfl)) ?_ ?_)
       · omega
       omega
     refine c_skip (e_in_n (e_go hK19 ?_))
     refine c_region ?_
     refine l_val wn (r_addn rfl rfl (by omega)) rfl ?_
     refine l_val wn (r_move rfl) rfl ?_
     refine l_nil (e_round2 (k + 1) (.slice A1 ((Sh.fromS (z.raw.take k) (Sh.mx z.rawFrom (Sh.mn to z.fineTo))).length) cp1) (sc rfl (sc rfl (sc rfl (sc rfl (sc rfl (sc (ji (by omega)) sn)))))) (fun _ h => by rw [(Sh.fromS_succ (f := Sh.mx z.rawFrom (Sh.mn to z.fineTo)) hs1).trans (if_neg h6)]; exact (h.sel [1, 2, 3, 4, 5, 6, 7] (by decide) rfl)) ?_ ?_)
     · omega
     omega
   have hk1 : z.raw.take k = z.raw := List.take_of_length_le (by omega)
   rw [hk1]
   rw [hk1] at hA1
   refine c_exit (e_then_x (e_loop2_x (e_in_hit (e_go hK15 ?_))))
   refine c_region ?_
   refine l_val wn (r_move rfl) rfl ?_
   refine l_val wn (r_fa rfl fld27_1) rfl ?_
   refine l_st1 2 wn rfl rfl rfl rfl inf24 rfl rfl ?_
   refine l_nil (e_in_n (e_go hK10 ?_))
   refine c_seq fun _ hK22 => ?_
   refine c_region ?_
   refine l_val wn (r_lbn 2 [.slice z0A z.series.length z0c, .slice A1 ((Sh.fromS z.raw (Sh.mx z.rawFrom (Sh.mn to z.fineTo))).length) cp1, .slice z2A z.fine.length z2c, .slice z3A z.coarse.length z3c, .int .i64 (Sh.mx z.rawFrom (Sh.mn to z.fineTo)), .int .i64 z.fineFrom, .int .i64 z.fineTo, .int .i64 z.coarseFrom, .int .i64 z.coarseTo] rfl rfl rfl rfl agg27 inf27) rfl ?_
   refine l_stn 1 wn rfl rfl rfl inf27 rfl rfl rfl ?_
   refine l_val wn (r_assign rfl) rfl ?_
   refine l_nil (e_go hK22 ?_)
   refine c_ret (e_ret2 (.inl rfl) Try.results28 (rv_cell 1 rfl rfl agg27 inf27 rfl) (rv_tmp rfl) fun w1 hM => ?_)
   have he : Sh.forget z tier to = ((⟨z.series, (Sh.fromS z.raw (Sh.mx z.rawFrom (Sh.mn to z.fineTo))), z.fine, z.coarse, (Sh.mx z.rawFrom (Sh.mn to z.fineTo)), z.fineFrom, z.fineTo, z.coarseFrom, z.coarseTo⟩ : Shelf), 0) := Sh.forget_raw h1 (fun g => by omega) h4
   rw [he]
   have hM := hM.sealRow encSample (i := 0) rfl rfl
   exact hM.retSh (s' := (⟨z.series, (Sh.fromS z.raw (Sh.mx z.rawFrom (Sh.mn to z.fineTo))), z.fine, z.coarse, (Sh.mx z.rawFrom (Sh.mn to z.fineTo)), z.fineFrom, z.fineTo, z.coarseFrom, z.coarseTo⟩ : Shelf)) (fun u => .tuple (List.toArray [u, .int .i64 0])) rfl (rfl) (fun _ pp => pp.sl 3 rfl) (fun _ pp => pp.sl 0 rfl) (fun _ pp => pp.sl 5 rfl) (fun _ pp => pp.sl 6 rfl)
 refine c_seq fun _ hK23 => ?_
 refine c_region ?_
 refine l_val wn (r_eql rfl rfl) rfl ?_
 refine l_val wn (r_assign rfl) rfl ?_
 refine l_nil (e_go hK23 ?_)
 refine c_cond rfl (fun h7 => ?_) (fun h7 => ?_)
 · refine c_seq fun _ hK24 => ?_
   refine c_quietT 10 mix (by kernel_rfl) (fun _ h => h.drew) fun _ hT2 => ?_
   refine q_val wn (r_fa rfl fld27_5) rfl ?_
   refine q_val wn (r_lb 1 rfl rfl rfl flat3) rfl ?_
   refine q_val wn (r_move rfl) rfl ?_
   refine q_val wn (r_fa rfl fld27_8) rfl ?_
   refine q_val wn (r_lb 1 rfl rfl rfl flat3) rfl ?_
   refine q_callF wn rfl Try.call40 rfl (fun w1 hM => c_least to z.coarseTo w1) ?_
   refine q_val wn (r_quon rfl rfl (by omega) (by omega)) rfl ?_
   refine q_val wn (rv_i (show Sh.mn to z.coarseTo / 10 * 10 = Sh.mn to z.coarseTo - Sh.mn to z.coarseTo % 10 from by omega) (r_muln rfl rfl (by omega))) rfl ?_
   refine q_callF wn rfl Try.call66 rfl (fun w1 hM => c_most z.fineFrom (Sh.mn to z.coarseTo - Sh.mn to z.coarseTo % 10) w1) ?_
   refine q_val wn (r_fa rfl fld27_5) rfl ?_
   refine q_tail hT2 ?_
   refine l_st1 1 wn rfl rfl rfl rfl inf3 rfl rfl ?_
   refine l_nil (e_go hK24 ?_)
   refine c_region ?_
   refine l_val wn (r_fa rfl fld27_2) rfl ?_
   refine l_val wn (r_lb 1 rfl rfl rfl flat25) rfl ?_
   refine l_val wn (r_fa rfl fld27_5) rfl ?_
   refine l_val wn (r_lb 1 rfl rfl rfl flat3) rfl ?_
   refine l_callL (Sh.fromB z.fine (Sh.mx z.fineFrom (Sh.mn to z.coarseTo - Sh.mn to z.coarseTo % 10))) wn rfl Try.call67 rfl (fun w1 hM => c_later _ z.fine (Sh.mx z.fineFrom (Sh.mn to z.coarseTo - Sh.mn to z.coarseTo % 10)) w1 (hM.slp 4 rfl) (by omega)) fun A3 cp3 hc3 hm3 hA3 => ?_
   refine l_val wn (r_fa rfl fld27_2) rfl ?_
   refine l_st1 2 wn rfl rfl rfl rfl inf25 rfl rfl ?_
   refine l_nil (e_in_n (e_go hK10 ?_))
   refine c_seq fun _ hK25 => ?_
   refine c_region ?_
   refine l_val wn (r_lbn 2 [.slice z0A z.series.length z0c, .slice z1A z.raw.length z1c, .slice A3 ((Sh.fromB z.fine (Sh.mx z.fineFrom (Sh.mn to z.coarseTo - Sh.mn to z.coarseTo % 10))).length) cp3, .slice z3A z.coarse.length z3c, .int .i64 z.rawFrom, .int .i64 (Sh.mx z.fineFrom (Sh.mn to z.coarseTo - Sh.mn to z.coarseTo % 10)), .int .i64 z.fineTo, .int .i64 z.coarseFrom, .int .i64 z.coarseTo] rfl rfl rfl rfl agg27 inf27) rfl ?_
   refine l_stn 1 wn rfl rfl rfl inf27 rfl rfl rfl ?_
   refine l_val wn (r_assign rfl) rfl ?_
   refine l_nil (e_go hK25 ?_)
   refine c_ret (e_ret2 (.inl rfl) Try.results28 (rv_cell 1 rfl rfl agg27 inf27 rfl) (rv_tmp rfl) fun w1 hM => ?_)
   have he : Sh.forget z tier to = ((⟨z.series, z.raw, (Sh.fromB z.fine (Sh.mx z.fineFrom (Sh.mn to z.coarseTo - Sh.mn to z.coarseTo % 10))), z.coarse, z.rawFrom, (Sh.mx z.fineFrom (Sh.mn to z.coarseTo - Sh.mn to z.coarseTo % 10)), z.fineTo, z.coarseFrom, z.coarseTo⟩ : Shelf), 0) := Sh.forget_fine h1 (fun g => by omega) h4 h7
   rw [he]
   have hM := hM.sealRow encBucket (i := 0) rfl rfl
   exact hM.retSh (s' := (⟨z.series, z.raw, (Sh.fromB z.fine (Sh.mx z.fineFrom (Sh.mn to z.coarseTo - Sh.mn to z.coarseTo % 10))), z.coarse, z.rawFrom, (Sh.mx z.fineFrom (Sh.mn to z.coarseTo - Sh.mn to z.coarseTo % 10)), z.fineTo, z.coarseFrom, z.coarseTo⟩ : Shelf)) (fun u => .tuple (List.toArray [u, .int .i64 0])) rfl (rfl) (fun _ pp => pp.sl 3 rfl) (fun _ pp => pp.sl 4 rfl) (fun _ pp => pp.sl 0 rfl) (fun _ pp => pp.sl 6 rfl)
 refine c_seq fun _ hK26 => ?_
 refine c_region ?_
 refine l_val wn (r_eql rfl rfl) rfl ?_
 refine l_val wn (r_assign rfl) rfl ?_
 refine l_nil (e_go hK26 ?_)
 refine c_cond rfl (fun h8 => ?_) (fun h8 => ?_)
 · refine c_seq fun _ hK27 => ?_
   refine c_quietT 10 mix (by kernel_rfl) (fun _ h => h.drew) fun _ hT3 => ?_
   refine q_val wn (r_fa rfl fld27_7) rfl ?_
   refine q_val wn (r_lb 1 rfl rfl rfl flat3) rfl ?_
   refine q_val wn (r_move rfl) rfl ?_
   refine q_val wn (r_fa rfl fld27_8) rfl ?_
   refine q_val wn (r_lb 1 rfl rfl rfl flat3) rfl ?_
   refine q_callF wn rfl Try.call40 rfl (fun w1 hM => c_least to z.coarseTo w1) ?_
   refine q_val wn (r_quon rfl rfl (by omega) (by omega)) rfl ?_
   refine q_val wn (rv_i (show Sh.mn to z.coarseTo / 60 * 60 = Sh.mn to z.coarseTo - Sh.mn to z.coarseTo % 60 from by omega) (r_muln rfl rfl (by omega))) rfl ?_
   refine q_callF wn rfl Try.call66 rfl (fun w1 hM => c_most z.coarseFrom (Sh.mn to z.coarseTo - Sh.mn to z.coarseTo % 60) w1) ?_
   refine q_val wn (r_fa rfl fld27_7) rfl ?_
   refine q_tail hT3 ?_
   refine l_st1 1 wn rfl rfl rfl rfl inf3 rfl rfl ?_
   refine l_nil (e_go hK27 ?_)
   refine c_region ?_
   refine l_val wn (r_fa rfl fld27_3) rfl ?_
   refine l_val wn (r_lb 1 rfl rfl rfl flat25) rfl ?_
   refine l_val wn (r_fa rfl fld27_7) rfl ?_
   refine l_val wn (r_lb 1 rfl rfl rfl flat3) rfl ?_
   refine l_callL (Sh.fromB z.coarse (Sh.mx z.coarseFrom (Sh.mn to z.coarseTo - Sh.mn to z.coarseTo % 60))) wn rfl Try.call67 rfl (fun w1 hM => c_later _ z.coarse (Sh.mx z.coarseFrom (Sh.mn to z.coarseTo - Sh.mn to z.coarseTo % 60)) w1 (hM.slp 5 rfl) (by omega)) fun A4 cp4 hc4 hm4 hA4 => ?_
   refine l_val wn (r_fa rfl fld27_3) rfl ?_
   refine l_st1 2 wn rfl rfl rfl rfl inf25 rfl rfl ?_
   refine l_nil (e_in_n (e_go hK10 ?_))
   refine c_seq fun _ hK28 => ?_
   refine c_region ?_
   refine l_val wn (r_lbn 2 [.slice z0A z.series.length z0c, .slice z1A z.raw.length z1c, .slice z2A z.fine.length z2c, .slice A4 ((Sh.fromB z.coarse (Sh.mx z.coarseFrom (Sh.mn to z.coarseTo - Sh.mn to z.coarseTo % 60))).length) cp4, .int .i64 z.rawFrom, .int .i64 z.fineFrom, .int .i64 z.fineTo, .int .i64 (Sh.mx z.coarseFrom (Sh.mn to z.coarseTo - Sh.mn to z.coarseTo % 60)), .int .i64 z.coarseTo] rfl rfl rfl rfl agg27 inf27) rfl ?_
   refine l_stn 1 wn rfl rfl rfl inf27 rfl rfl rfl ?_
   refine l_val wn (r_assign rfl) rfl ?_
   refine l_nil (e_go hK28 ?_)
   refine c_ret (e_ret2 (.inl rfl) Try.results28 (rv_cell 1 rfl rfl agg27 inf27 rfl) (rv_tmp rfl) fun w1 hM => ?_)
   have he : Sh.forget z tier to = ((⟨z.series, z.raw, z.fine, (Sh.fromB z.coarse (Sh.mx z.coarseFrom (Sh.mn to z.coarseTo - Sh.mn to z.coarseTo % 60))), z.rawFrom, z.fineFrom, z.fineTo, (Sh.mx z.coarseFrom (Sh.mn to z.coarseTo - Sh.mn to z.coarseTo % 60)), z.coarseTo⟩ : Shelf), 0) := Sh.forget_coarse h1 (fun g => by omega) h4 h7 h8
   rw [he]
   have hM := hM.sealRow encBucket (i := 0) rfl rfl
   exact hM.retSh (s' := (⟨z.series, z.raw, z.fine, (Sh.fromB z.coarse (Sh.mx z.coarseFrom (Sh.mn to z.coarseTo - Sh.mn to z.coarseTo % 60))), z.rawFrom, z.fineFrom, z.fineTo, (Sh.mx z.coarseFrom (Sh.mn to z.coarseTo - Sh.mn to z.coarseTo % 60)), z.coarseTo⟩ : Shelf)) (fun u => .tuple (List.toArray [u, .int .i64 0])) rfl (rfl) (fun _ pp => pp.sl 3 rfl) (fun _ pp => pp.sl 4 rfl) (fun _ pp => pp.sl 5 rfl) (fun _ pp => pp.sl 0 rfl)
 refine c_seq fun _ hK29 => ?_
 refine c_region ?_
 refine l_val wn (r_build [.slice none 0 0, .slice none 0 0, .slice none 0 0, .slice none 0 0, .int .i64 0, .int .i64 0, .int .i64 0, .int .i64 0, .int .i64 0] pl27 inf27 rfl rfl) rfl ?_
 refine l_stn 0 wn rfl rfl rfl inf27 rfl rfl rfl ?_
 refine l_val wn (r_assign rfl) rfl ?_
 refine l_nil (e_go hK29 ?_)
 refine c_ret (e_in_r (e_then_r (e_ret2 (.inl rfl) Try.results28 (rv_cell 0 rfl rfl agg27 inf27 rfl) (rv_tmp rfl) fun w1 hM => ?_)))
 have he : Sh.forget z tier to = ((⟨([] : List Label), ([] : List Sample), ([] : List Bucket), ([] : List Bucket), 0, 0, 0, 0, 0⟩ : Shelf), 1) := Sh.forget_kind h1 (fun g => by omega) h4 h7 h8
 rw [he]
 exact hM.retSh (s' := (⟨([] : List Label), ([] : List Sample), ([] : List Bucket), ([] : List Bucket), 0, 0, 0, 0, 0⟩ : Shelf)) (fun u => .tuple (List.toArray [u, .int .i64 1])) rfl (rfl) (fun _ _ => FlatSl.nil_ _ _ _ _) (fun _ _ => FlatSl.nil_ _ _ _ _) (fun _ _ => FlatSl.nil_ _ _ _ _) (fun _ _ => FlatSl.nil_ _ _ _ _)

end Go.Proofs.Ytnbkennlmnnbeaa
