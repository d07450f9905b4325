/-
  Walks: what each function hands back.
-/
import Derived.Test.YtnbkennlmnnbeaaWshelf
import Derived.Test.YtnbkennlmnnbeaaPShelf2
import Derived.Test.YtnbkennlmnnbeaaStar
namespace Go.Proofs.Ytnbkennlmnnbeaa
open Ex
set_option linter.unusedVariables false
set_option linter.unusedSimpArgs false
theorem c_cloneLabel (lv : Value) (l : List Label) (w : World) (hl : FlatSl (In w) 2 labelE lv l w) (hl1 : l.length ≤ 1048576) :
    Calls Try.prog 56 #[lv] w (RetL w 89 2 labelE l) := by
 obtain ⟨lA, lc, rfl, hlc, hlm, hlA⟩ := hl.form
 refine fstart (N := 8) (vals := [.slice lA l.length lc]) (S := Mem w no [slO (In w) 2 labelE (.slice lA l.length lc) l]) Try.func56 rfl rfl rfl (Mem.ofDats (dc (dl hl) dn)) ?_
 refine c_seq fun _ hK1 => ?_
 refine c_region ?_
 refine l_val wn (r_assign rfl) rfl ?_
 refine l_nil (e_go hK1 ?_)
 refine c_seq fun _ hK2 => ?_
 refine c_seq fun _ hK3 => ?_
 refine c_region ?_
 refine l_val wn (r_move rfl) rfl ?_
 refine l_val wn (r_slnil rfl rfl Try.underlying23) rfl ?_
 refine l_nil (e_go hK3 ?_)
 refine c_condb rfl (fun h1 => ?_) (fun h1 => ?_)
 · refine c_seq fun _ hK4 => ?_
   refine c_region ?_
   refine l_val wn (r_assign rfl) rfl ?_
   refine l_nil (e_go hK4 ?_)
   refine c_ret (e_then_r (e_ret1 (.inl rfl) Try.results56 (rv_tmp rfl) fun w1 hM => ?_))
   have hM := hM.nilRow Label 89 2 labelE
   exact hM.retL' 0 rfl (Sh.isNone_nil hlA h1)
 refine c_skip (e_go hK2 ?_)
 refine c_seq fun _ hK5 => ?_
 refine c_region ?_
 refine l_bsL0 labelE wn Try.underlying23 inf89 rfl fun b5 => ?_
 refine l_val wn (r_move rfl) rfl ?_
 refine l_app 0 ([] : List Label) l encLabel wn rfl rfl rfl (fun _ hM => (hM.sl 1 rfl)) Try.underlying23 inf89 rfl rfl (by simp only [List.length_append, List.length_cons, List.length_nil]; omega) rfl fun A1 cp1 hc1 hm1 hA1 => ?_
 refine l_val wn (r_assign rfl) rfl ?_
 refine l_nil (e_go hK5 ?_)
 refine c_ret (e_ret1 (.inl rfl) Try.results56 (rv_tmp rfl) fun w1 hM => ?_)
 exact hM.retL' 0 rfl rfl

theorem c_cloneSample (lv : Value) (l : List Sample) (w : World) (hl : FlatSl (In w) 2 sampleE lv l w) (hl1 : l.length ≤ 1048576) :
    Calls Try.prog 76 #[lv] w (RetL w 39 2 sampleE l) := by
 obtain ⟨lA, lc, rfl, hlc, hlm, hlA⟩ := hl.form
 refine fstart (N := 8) (vals := [.slice lA l.length lc]) (S := Mem w no [slO (In w) 2 sampleE (.slice lA l.length lc) l]) Try.func76 rfl rfl rfl (Mem.ofDats (dc (dl hl) dn)) ?_
 refine c_seq fun _ hK1 => ?_
 refine c_region ?_
 refine l_val wn (r_assign rfl) rfl ?_
 refine l_nil (e_go hK1 ?_)
 refine c_seq fun _ hK2 => ?_
 refine c_seq fun _ hK3 => ?_
 refine c_region ?_
 refine l_val wn (r_move rfl) rfl ?_
 refine l_val wn (r_slnil rfl rfl Try.underlying24) rfl ?_
 refine l_nil (e_go hK3 ?_)
 refine c_condb rfl (fun h1 => ?_) (fun h1 => ?_)
 · refine c_seq fun _ hK4 => ?_
   refine c_region ?_
   refine l_val wn (r_assign rfl) rfl ?_
   refine l_nil (e_go hK4 ?_)
   refine c_ret (e_then_r (e_ret1 (.inl rfl) Try.results76 (rv_tmp rfl) fun w1 hM => ?_))
   have hM := hM.nilRow Sample 39 2 sampleE
   exact hM.retL' 0 rfl (Sh.isNone_nil hlA h1)
 refine c_skip (e_go hK2 ?_)
 refine c_seq fun _ hK5 => ?_
 refine c_region ?_
 refine l_bsL0 sampleE wn Try.underlying24 inf39 rfl fun b5 => ?_
 refine l_val wn (r_move rfl) rfl ?_
 refine l_app 0 ([] : List Sample) l encSample wn rfl rfl rfl (fun _ hM => (hM.sl 1 rfl)) Try.underlying24 inf39 rfl rfl (by simp only [List.length_append, List.length_cons, List.length_nil]; omega) rfl fun A1 cp1 hc1 hm1 hA1 => ?_
 refine l_val wn (r_assign rfl) rfl ?_
 refine l_nil (e_go hK5 ?_)
 refine c_ret (e_ret1 (.inl rfl) Try.results76 (rv_tmp rfl) fun w1 hM => ?_)
 exact hM.retL' 0 rfl rfl

theorem c_cloneBucket (lv : Value) (l : List Bucket) (w : World) (hl : FlatSl (In w) 8 bucketE lv l w) (hl1 : l.length ≤ 1048576) :
    Calls Try.prog 77 #[lv] w (RetL w 78 8 bucketE l) := by
 obtain ⟨lA, lc, rfl, hlc, hlm, hlA⟩ := hl.form
 refine fstart (N := 8) (vals := [.slice lA l.length lc]) (S := Mem w no [slO (In w) 8 bucketE (.slice lA l.length lc) l]) Try.func77 rfl rfl rfl (Mem.ofDats (dc (dl hl) dn)) ?_
 refine c_seq fun _ hK1 => ?_
 refine c_region ?_
 refine l_val wn (r_assign rfl) rfl ?_
 refine l_nil (e_go hK1 ?_)
 refine c_seq fun _ hK2 => ?_
 refine c_seq fun _ hK3 => ?_
 refine c_region ?_
 refine l_val wn (r_move rfl) rfl ?_
 refine l_val wn (r_slnil rfl rfl Try.underlying25) rfl ?_
 refine l_nil (e_go hK3 ?_)
 refine c_condb rfl (fun h1 => ?_) (fun h1 => ?_)
 · refine c_seq fun _ hK4 => ?_
   refine c_region ?_
   refine l_val wn (r_assign rfl) rfl ?_
   refine l_nil (e_go hK4 ?_)
   refine c_ret (e_then_r (e_ret1 (.inl rfl) Try.results77 (rv_tmp rfl) fun w1 hM => ?_))
   have hM := hM.nilRow Bucket 78 8 bucketE
   exact hM.retL' 0 rfl (Sh.isNone_nil hlA h1)
 refine c_skip (e_go hK2 ?_)
 refine c_seq fun _ hK5 => ?_
 refine c_region ?_
 refine l_bsL0 bucketE wn Try.underlying25 inf78 rfl fun b5 => ?_
 refine l_val wn (r_move rfl) rfl ?_
 refine l_app 0 ([] : List Bucket) l encBucket wn rfl rfl rfl (fun _ hM => (hM.sl 1 rfl)) Try.underlying25 inf78 rfl rfl (by simp only [List.length_append, List.length_cons, List.length_nil]; omega) rfl fun A1 cp1 hc1 hm1 hA1 => ?_
 refine l_val wn (r_assign rfl) rfl ?_
 refine l_nil (e_go hK5 ?_)
 refine c_ret (e_ret1 (.inl rfl) Try.results77 (rv_tmp rfl) fun w1 hM => ?_)
 exact hM.retL' 0 rfl rfl

theorem c_own (z0 : Value) (z1 : Value) (z2 : Value) (z3 : Value) (z : Shelf) (P0 : Nat → Prop) (w : World) (hP0 : ∀ b, P0 b → b < w.heap.size) (hz0 : FlatSl P0 2 labelE z0 z.series w) (hz1 : FlatSl P0 2 sampleE z1 z.raw w) (hz2 : FlatSl P0 8 bucketE z2 z.fine w) (hz3 : FlatSl P0 8 bucketE z3 z.coarse w) (hs1 : z.series.length ≤ 1048576 ∧ z.raw.length ≤ 1048576 ∧ z.fine.length ≤ 1048576 ∧ z.coarse.length ≤ 1048576) :
    Calls Try.prog 57 #[.agg (List.toArray [z0, z1, z2, z3, .int .i64 z.rawFrom, .int .i64 z.fineFrom, .int .i64 z.fineTo, .int .i64 z.coarseFrom, .int .i64 z.coarseTo])] w (RetOwn w 89 39 78 78 z) := by
 obtain ⟨z0A, z0c, rfl, hz0c, hz0m, hz0A⟩ := hz0.form
 obtain ⟨z1A, z1c, rfl, hz1c, hz1m, hz1A⟩ := hz1.form
 obtain ⟨z2A, z2c, rfl, hz2c, hz2m, hz2A⟩ := hz2.form
 obtain ⟨z3A, z3c, rfl, hz3c, hz3m, hz3A⟩ := hz3.form
 refine fstart (N := 20) (vals := [.agg (List.toArray [.slice z0A z.series.length z0c, .slice z1A z.raw.length z1c, .slice z2A z.fine.length z2c, .slice z3A z.coarse.length z3c, .int .i64 z.rawFrom, .int .i64 z.fineFrom, .int .i64 z.fineTo, .int .i64 z.coarseFrom, .int .i64 z.coarseTo])]) (S := Mem w ⟨no, P0⟩ [slP 2 labelE (.slice z0A z.series.length z0c) z.series, slP 2 sampleE (.slice z1A z.raw.length z1c) z.raw, slP 8 bucketE (.slice z2A z.fine.length z2c) z.fine, slP 8 bucketE (.slice z3A z.coarse.length z3c) z.coarse]) Try.func57 rfl rfl rfl (Mem.ofDatsP hP0 (dc (dlp hz0) (dc (dlp hz1) (dc (dlp hz2) (dc (dlp hz3) dn))))) ?_
 refine c_seq fun _ hK1 => ?_
 refine c_region ?_
 refine l_box wn rfl rfl fun b1 => ?_
 refine l_alloc wn inf27 rfl fun b2 => ?_
 refine l_nil (e_go hK1 ?_)
 refine c_seq fun _ hK2 => ?_
 refine c_nodes (Mem w ⟨no, P0⟩ [.blk b2 [.slice none 0 0, .slice none 0 0, .slice none 0 0, .slice none 0 0, .int .i64 0, .int .i64 0, .int .i64 0, .int .i64 0, .int .i64 0] 27, slP 2 labelE (.slice z0A z.series.length z0c) z.series, slP 2 sampleE (.slice z1A z.raw.length z1c) z.raw, slP 8 bucketE (.slice z2A z.fine.length z2c) z.fine, slP 8 bucketE (.slice z3A z.coarse.length z3c) z.coarse]) mix (fun _ h => h.drew) rfl ?_
 refine n_run (f := 16) [0, 3, 6, 9] rfl rfl (by kernel_rfl) (by kernel_rfl) (fun _ h => (h.sel [0, 2, 3, 4, 5] (by decide) rfl)) fun KS hKS => ?_
 refine s_val wn (r_fa rfl fld27_0) rfl ?_
 refine s_val wn (r_fa rfl fld27_1) rfl ?_
 refine s_val wn (r_fa rfl fld27_2) rfl ?_
 refine s_val wn (r_fa rfl fld27_3) rfl ?_
 refine s_end hKS ?_
 refine n_mix (f := 7) [(1, .val 4 (.slice z0A z.series.length z0c)), (2, .row 5 89 2 z.series.length (z.series.flatMap labelE)), (4, .val 7 (.slice z1A z.raw.length z1c)), (5, .row 8 39 2 z.raw.length (z.raw.flatMap sampleE)), (7, .val 10 (.slice z2A z.fine.length z2c)), (8, .row 11 78 8 z.fine.length (z.fine.flatMap bucketE)), (10, .val 13 (.slice z3A z.coarse.length z3c)), (11, .row 14 78 8 z.coarse.length (z.coarse.flatMap bucketE)), (12, .val 15 (.pointer (some ⟨b1, 0, none⟩)))] rfl (by kernel_rfl) (nd [1, 2, 4, 5, 7, 8, 10, 11, 12] rfl (by decide)) (nd [4, 5, 7, 8, 10, 11, 13, 14, 15] rfl (by decide)) rfl ⟨jv_ [] trivial rfl rfl rfl (r_lb 1 rfl rfl rfl flat23), jr_ [(1, 4, .slice z0A z.series.length z0c)] (⟨⟨0, rfl⟩, rfl, trivial⟩) rfl rfl rfl rfl Try.call56 (fun w1 hM => c_cloneLabel _ z.series w1 (hM.slp 2 rfl) (by omega)), jv_ [] trivial rfl rfl rfl (r_lb 1 rfl rfl rfl flat24), jr_ [(4, 7, .slice z1A z.raw.length z1c)] (⟨⟨2, rfl⟩, rfl, trivial⟩) rfl rfl rfl rfl Try.call76 (fun w1 hM => c_cloneSample _ z.raw w1 (hM.slp 3 rfl) (by omega)), jv_ [] trivial rfl rfl rfl (r_lb 1 rfl rfl rfl flat25), jr_ [(7, 10, .slice z2A z.fine.length z2c)] (⟨⟨4, rfl⟩, rfl, trivial⟩) rfl rfl rfl rfl Try.call77 (fun w1 hM => c_cloneBucket _ z.fine w1 (hM.slp 4 rfl) (by omega)), jv_ [] trivial rfl rfl rfl (r_lb 1 rfl rfl rfl flat25), jr_ [(10, 13, .slice z3A z.coarse.length z3c)] (⟨⟨6, rfl⟩, rfl, trivial⟩) rfl rfl rfl rfl Try.call77 (fun w1 hM => c_cloneBucket _ z.coarse w1 (hM.slp 5 rfl) (by omega)), jv_ [] trivial rfl rfl rfl (r_fa rfl fld27_0), trivial⟩ (fun _ h => (h.sel [0, 2, 3, 4, 5] (by decide) rfl)) fun val1 => ?_
 refine n_weak (E' := [(0, .agg (List.toArray [.slice z0A z.series.length z0c, .slice z1A z.raw.length z1c, .slice z2A z.fine.length z2c, .slice z3A z.coarse.length z3c, .int .i64 z.rawFrom, .int .i64 z.fineFrom, .int .i64 z.fineTo, .int .i64 z.coarseFrom, .int .i64 z.coarseTo])), (1, .pointer (some ⟨b1, 0, none⟩)), (2, .pointer (some ⟨b2, 0, none⟩)), (3, .pointer (some ⟨b1, 0, none⟩)), (4, .slice z0A z.series.length z0c), (5, (val1 2)), (6, .pointer (some ⟨b1, 1, none⟩)), (7, .slice z1A z.raw.length z1c), (8, (val1 5)), (9, .pointer (some ⟨b1, 2, none⟩)), (10, .slice z2A z.fine.length z2c), (11, (val1 8)), (12, .pointer (some ⟨b1, 3, none⟩)), (13, .slice z3A z.coarse.length z3c), (14, (val1 11)), (15, .pointer (some ⟨b1, 0, none⟩))]) (S' := Mem w ⟨no, P0⟩ [Row (val1 2) 89 2 labelE z.series, Row (val1 5) 39 2 sampleE z.raw, Row (val1 8) 78 8 bucketE z.fine, Row (val1 11) 78 8 bucketE z.coarse, .blk b2 [.slice none 0 0, .slice none 0 0, .slice none 0 0, .slice none 0 0, .int .i64 0, .int .i64 0, .int .i64 0, .int .i64 0, .int .i64 0] 27, .blk b1 [.slice z0A z.series.length z0c, .slice z1A z.raw.length z1c, .slice z2A z.fine.length z2c, .slice z3A z.coarse.length z3c, .int .i64 z.rawFrom, .int .i64 z.fineFrom, .int .i64 z.fineTo, .int .i64 z.coarseFrom, .int .i64 z.coarseTo] 27, slP 2 labelE (.slice z0A z.series.length z0c) z.series, slP 2 sampleE (.slice z1A z.raw.length z1c) z.raw, slP 8 bucketE (.slice z2A z.fine.length z2c) z.fine, slP 8 bucketE (.slice z3A z.coarse.length z3c) z.coarse]) (sc rfl (sc rfl (sc rfl (sc rfl (sc rfl (sc rfl (sc rfl (sc rfl (sc rfl (sc rfl (sc rfl (sc rfl (sc rfl (sc rfl (sc rfl (sc rfl sn)))))))))))))))) (fun _ h => h) ?_
 refine n_open 0 (l := z.series) (enc := labelE) rfl fun A1 cp1 hv1 hc1 hm1 hA1 => ?_
 rw [hv1]
 refine n_open 1 (l := z.raw) (enc := sampleE) rfl fun A2 cp2 hv2 hc2 hm2 hA2 => ?_
 rw [hv2]
 refine n_open 2 (l := z.fine) (enc := bucketE) rfl fun A3 cp3 hv3 hc3 hm3 hA3 => ?_
 rw [hv3]
 refine n_open 3 (l := z.coarse) (enc := bucketE) rfl fun A4 cp4 hv4 hc4 hm4 hA4 => ?_
 rw [hv4]
 refine n_step1 (f := 6) (i := 13) rfl (by kernel_rfl) ?_
 refine n_one (i := 13) rfl fun KN hKN => ?_
 refine l_st1 5 wn rfl rfl rfl rfl inf23 rfl rfl ?_
 refine l_nil (hKN _ _ (fun _ h => (h.sel [4, 6, 7, 8, 9] (by decide) rfl)) ?_)
 refine n_run (f := 5) [14] rfl rfl (by kernel_rfl) (by kernel_rfl) (fun _ h => (h.sel [4, 6, 7, 8, 9] (by decide) rfl)) fun KS hKS => ?_
 refine s_val wn (r_fa rfl fld27_1) rfl ?_
 refine s_end hKS ?_
 refine n_step1 (f := 4) (i := 15) rfl (by kernel_rfl) ?_
 refine n_one (i := 15) rfl fun KN hKN => ?_
 refine l_st1 5 wn rfl rfl rfl rfl inf24 rfl rfl ?_
 refine l_nil (hKN _ _ (fun _ h => (h.sel [4, 6, 7, 8, 9] (by decide) rfl)) ?_)
 refine n_run (f := 3) [16] rfl rfl (by kernel_rfl) (by kernel_rfl) (fun _ h => (h.sel [4, 6, 7, 8, 9] (by decide) rfl)) fun KS hKS => ?_
 refine s_val wn (r_fa rfl fld27_2) rfl ?_
 refine s_end hKS ?_
 refine n_step1 (f := 2) (i := 17) rfl (by kernel_rfl) ?_
 refine n_one (i := 17) rfl fun KN hKN => ?_
 refine l_st1 5 wn rfl rfl rfl rfl inf25 rfl rfl ?_
 refine l_nil (hKN _ _ (fun _ h => (h.sel [4, 6, 7, 8, 9] (by decide) rfl)) ?_)
 refine n_run (f := 1) [18] rfl rfl (by kernel_rfl) (by kernel_rfl) (fun _ h => (h.sel [4, 6, 7, 8, 9] (by decide) rfl)) fun KS hKS => ?_
 refine s_val wn (r_fa rfl fld27_3) rfl ?_
 refine s_end hKS ?_
 refine n_step1 (f := 0) (i := 19) rfl (by kernel_rfl) ?_
 refine n_one (i := 19) rfl fun KN hKN => ?_
 refine l_st1 5 wn rfl rfl rfl rfl inf25 rfl rfl ?_
 refine l_nil (hKN _ _ (fun _ h => (h.sel [4, 6, 7, 8, 9] (by decide) rfl)) ?_)
 refine n_done (by kernel_rfl) (e_go hK2 ?_)
 refine c_seq fun _ hK3 => ?_
 refine c_region ?_
 refine l_val wn (r_lbn 5 [.slice A1 z.series.length cp1, .slice A2 z.raw.length cp2, .slice A3 z.fine.length cp3, .slice A4 z.coarse.length cp4, .int .i64 z.rawFrom, .int .i64 z.fineFrom, .int .i64 z.fineTo, .int .i64 z.coarseFrom, .int .i64 z.coarseTo] rfl rfl rfl rfl agg27 inf27) rfl ?_
 refine l_stn 4 wn rfl rfl rfl inf27 rfl rfl rfl ?_
 refine l_nil (e_go hK3 ?_)
 refine c_ret (e_ret1 (.inl rfl) Try.results57 (rv_cell 4 rfl rfl agg27 inf27 rfl) fun w1 hM => ?_)
 exact (hM.sel [0, 1, 2, 3] (by decide) rfl).retOwn

end Go.Proofs.Ytnbkennlmnnbeaa
