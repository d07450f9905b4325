/-
  Walks: what each function hands back.
-/
import Derived.Test.YtnbkennlmnnbeaaWagg
import Derived.Test.YtnbkennlmnnbeaaPAgg
namespace Go.Proofs.Ytnbkennlmnnbeaa
open Ex
set_option linter.unusedVariables false
set_option linter.unusedSimpArgs false
theorem c_refUp (a : Int) (b : Int) (w : World)   :
    Calls Try.prog 71 #[.int .i64 a, .int .i64 b] w (Ret w (.int .i64 (Agg.rise a b))) := by
 refine fstart (N := 12) (vals := [.int .i64 a, .int .i64 b]) (S := Mem w no []) Try.func71 rfl rfl rfl (Mem.ofDats dn) ?_
 refine c_seq fun _ hK1 => ?_
 refine c_region ?_
 refine l_val wn (r_assign rfl) rfl ?_
 refine l_nil (e_go hK1 ?_)
 refine c_seq fun _ hK2 => ?_
 refine c_seq fun _ hK3 => ?_
 refine c_region ?_
 refine l_val wn (r_move rfl) rfl ?_
 refine l_val wn (r_move rfl) rfl ?_
 refine l_val wn (r_geq rfl rfl) rfl ?_
 refine l_nil (e_go hK3 ?_)
 refine c_cond rfl (fun h1 => ?_) (fun h1 => ?_)
 · refine c_seq fun _ hK4 => ?_
   refine c_region ?_
   refine l_val wn (r_move rfl) rfl ?_
   refine l_val wn (r_move rfl) rfl ?_
   refine l_val wn (r_sub rfl rfl) rfl ?_
   refine l_val wn (r_assign rfl) rfl ?_
   refine l_nil (e_go hK4 ?_)
   refine c_ret (e_then_r (e_ret1 (.inl rfl) Try.results71 (rv_tmp rfl) fun w1 hM => ?_))
   exact ret_ok (by first | (rw [Agg.rise, if_pos (by omega)]) | (rw [Agg.rise, if_neg (by omega)])) hM
 refine c_skip (e_go hK2 ?_)
 refine c_seq fun _ hK5 => ?_
 refine c_region ?_
 refine l_val wn (r_move rfl) rfl ?_
 refine l_val wn (r_assign rfl) rfl ?_
 refine l_nil (e_go hK5 ?_)
 refine c_ret (e_ret1 (.inl rfl) Try.results71 (rv_tmp rfl) fun w1 hM => ?_)
 exact ret_ok (by first | (rw [Agg.rise, if_pos (by omega)]) | (rw [Agg.rise, if_neg (by omega)])) hM

theorem c_refJoin (a : Sum) (b : Sum) (w : World)   :
    Calls Try.prog 46 #[.agg (sumE a).toArray, .agg (sumE b).toArray] w (Ret w (.agg (sumE (Agg.join a b)).toArray)) := by
 refine fstart (N := 61) (vals := [.agg (sumE a).toArray, .agg (sumE b).toArray]) (S := Mem w no []) Try.func46 rfl rfl rfl (Mem.ofDats dn) ?_
 refine c_seq fun _ hK1 => ?_
 refine c_region ?_
 refine l_box wn rfl rfl fun b2 => ?_
 refine l_box wn rfl rfl fun b3 => ?_
 refine l_alloc wn inf35 rfl fun b4 => ?_
 refine l_nil (e_go hK1 ?_)
 refine c_seq fun _ hK2 => ?_
 refine c_seq fun _ hK3 => ?_
 refine c_region ?_
 refine l_val wn (r_fa rfl fld35_0) rfl ?_
 refine l_val wn (r_lb 2 rfl rfl rfl flat3) rfl ?_
 refine l_val wn (r_eql rfl rfl) rfl ?_
 refine l_nil (e_go hK3 ?_)
 refine c_cond rfl (fun h1 => ?_) (fun h1 => ?_)
 · refine c_seq fun _ hK4 => ?_
   refine c_region ?_
   refine l_val wn (r_lbn 1 [.int .i64 b.count, .int .i64 b.total, .int .i64 b.min, .int .i64 b.max, .int .i64 b.first, .int .i64 b.last, .int .i64 b.rise] rfl rfl rfl rfl agg35 inf35) rfl ?_
   refine l_stn 0 wn rfl rfl rfl inf35 rfl rfl rfl ?_
   refine l_nil (e_go hK4 ?_)
   refine c_ret (e_then_r (e_ret1 (.inl rfl) Try.results46 (rv_cell 0 rfl rfl agg35 inf35 rfl) fun w1 hM => ?_))
   exact ret_agg (l1 := [.int .i64 b.count, .int .i64 b.total, .int .i64 b.min, .int .i64 b.max, .int .i64 b.first, .int .i64 b.last, .int .i64 b.rise]) (by simp [Agg.join, sumE, h1]) hM
 refine c_skip (e_go hK2 ?_)
 refine c_seq fun _ hK5 => ?_
 refine c_seq fun _ hK6 => ?_
 refine c_region ?_
 refine l_val wn (r_fa rfl fld35_0) rfl ?_
 refine l_val wn (r_lb 1 rfl rfl rfl flat3) rfl ?_
 refine l_val wn (r_eql rfl rfl) rfl ?_
 refine l_nil (e_go hK6 ?_)
 refine c_cond rfl (fun h2 => ?_) (fun h2 => ?_)
 · refine c_seq fun _ hK7 => ?_
   refine c_region ?_
   refine l_val wn (r_lbn 2 [.int .i64 a.count, .int .i64 a.total, .int .i64 a.min, .int .i64 a.max, .int .i64 a.first, .int .i64 a.last, .int .i64 a.rise] rfl rfl rfl rfl agg35 inf35) rfl ?_
   refine l_stn 0 wn rfl rfl rfl inf35 rfl rfl rfl ?_
   refine l_nil (e_go hK7 ?_)
   refine c_ret (e_then_r (e_ret1 (.inl rfl) Try.results46 (rv_cell 0 rfl rfl agg35 inf35 rfl) fun w1 hM => ?_))
   exact ret_agg (l1 := [.int .i64 a.count, .int .i64 a.total, .int .i64 a.min, .int .i64 a.max, .int .i64 a.first, .int .i64 a.last, .int .i64 a.rise]) (by simp [Agg.join, sumE, h1, h2]) hM
 refine c_skip (e_go hK5 ?_)
 refine c_seq fun _ hK8 => ?_
 refine c_nodes (Mem w no [.blk b4 [.int .i64 0, .int .i64 0, .int .i64 0, .int .i64 0, .int .i64 0, .int .i64 0, .int .i64 0] 35, .blk b3 [.int .i64 b.count, .int .i64 b.total, .int .i64 b.min, .int .i64 b.max, .int .i64 b.first, .int .i64 b.last, .int .i64 b.rise] 35, .blk b2 [.int .i64 a.count, .int .i64 a.total, .int .i64 a.min, .int .i64 a.max, .int .i64 a.first, .int .i64 a.last, .int .i64 a.rise] 35]) mix (fun _ h => h.drew) rfl ?_
 refine n_run (f := 6) [0, 1, 2, 3, 4, 5, 6, 7, 8, 9, 10, 11, 12, 13, 14, 15, 16, 17, 18, 19, 20, 21, 22, 23, 26, 27] rfl rfl (by kernel_rfl) (by kernel_rfl) (fun _ h => h) fun KS hKS => ?_
 refine s_val wn (r_fa rfl fld35_0) rfl ?_
 refine s_val wn (r_lb 2 rfl rfl rfl flat3) rfl ?_
 refine s_val wn (r_fa rfl fld35_0) rfl ?_
 refine s_val wn (r_lb 1 rfl rfl rfl flat3) rfl ?_
 refine s_val wn (r_add rfl rfl) rfl ?_
 refine s_val wn (r_fa rfl fld35_1) rfl ?_
 refine s_val wn (r_lb 2 rfl rfl rfl flat3) rfl ?_
 refine s_val wn (r_fa rfl fld35_1) rfl ?_
 refine s_val wn (r_lb 1 rfl rfl rfl flat3) rfl ?_
 refine s_val wn (r_add rfl rfl) rfl ?_
 refine s_val wn (r_fa rfl fld35_2) rfl ?_
 refine s_val wn (r_lb 2 rfl rfl rfl flat3) rfl ?_
 refine s_val wn (r_fa rfl fld35_3) rfl ?_
 refine s_val wn (r_lb 2 rfl rfl rfl flat3) rfl ?_
 refine s_val wn (r_fa rfl fld35_4) rfl ?_
 refine s_val wn (r_lb 2 rfl rfl rfl flat3) rfl ?_
 refine s_val wn (r_fa rfl fld35_5) rfl ?_
 refine s_val wn (r_lb 1 rfl rfl rfl flat3) rfl ?_
 refine s_val wn (r_fa rfl fld35_6) rfl ?_
 refine s_val wn (r_lb 2 rfl rfl rfl flat3) rfl ?_
 refine s_val wn (r_fa rfl fld35_5) rfl ?_
 refine s_val wn (r_lb 2 rfl rfl rfl flat3) rfl ?_
 refine s_val wn (r_fa rfl fld35_4) rfl ?_
 refine s_val wn (r_lb 1 rfl rfl rfl flat3) rfl ?_
 refine s_val wn (r_fa rfl fld35_6) rfl ?_
 refine s_val wn (r_lb 1 rfl rfl rfl flat3) rfl ?_
 refine s_end hKS ?_
 refine n_step2 (f := 5) (i := 24) (j := 30) rfl (by kernel_rfl) ?_ ?_
 · refine n_one (i := 24) rfl fun KN hKN => ?_
   refine l_callF wn rfl Try.call71 rfl (fun w1 hM => c_refUp a.last b.first w1) ?_
   refine l_nil (hKN _ _ (fun _ h => h) ?_)
   refine n_run (f := 2) [25, 28, 29] rfl rfl (by kernel_rfl) (by kernel_rfl) (fun _ h => h) fun KS hKS => ?_
   refine s_val wn (r_add rfl rfl) rfl ?_
   refine s_val wn (r_add rfl rfl) rfl ?_
   refine s_val wn (r_build [.int .i64 (IntKind.wrap .i64 (a.count + b.count)), .int .i64 (IntKind.wrap .i64 (a.total + b.total)), .int .i64 a.min, .int .i64 a.max, .int .i64 a.first, .int .i64 b.last, .int .i64 (IntKind.wrap .i64 ((IntKind.wrap .i64 (a.rise + (Agg.rise a.last b.first))) + b.rise))] pl35 inf35 rfl rfl) rfl ?_
   refine s_end hKS ?_
   refine n_step1 (f := 1) (i := 30) rfl (by kernel_rfl) ?_
   refine n_one (i := 30) rfl fun KN hKN => ?_
   refine l_alloc wn inf35 rfl fun b5 => ?_
   refine l_nil (hKN _ _ (fun _ h => (h.sel [1, 2, 3] (by decide) rfl)) ?_)
   refine n_step1 (f := 0) (i := 31) rfl (by kernel_rfl) ?_
   refine n_one (i := 31) rfl fun KN hKN => ?_
   refine l_stn 0 wn rfl rfl rfl inf35 rfl rfl rfl ?_
   refine l_nil (hKN _ _ (fun _ h => (h.sel [1, 2, 3] (by decide) rfl)) ?_)
   refine n_done (by kernel_rfl) (e_go hK8 ?_)
   refine c_cut [(3, .pointer (some ⟨b3, 0, none⟩)), (4, .pointer (some ⟨b4, 0, none⟩)), (5, .pointer (some ⟨b5, 0, none⟩))] (Mem w no [.blk b5 [.int .i64 (IntKind.wrap .i64 (a.count + b.count)), .int .i64 (IntKind.wrap .i64 (a.total + b.total)), .int .i64 (if b.min < a.min then b.min else a.min), .int .i64 a.max, .int .i64 a.first, .int .i64 b.last, .int .i64 (IntKind.wrap .i64 ((IntKind.wrap .i64 (a.rise + (Agg.rise a.last b.first))) + b.rise))] 35, .blk b4 [.int .i64 0, .int .i64 0, .int .i64 0, .int .i64 0, .int .i64 0, .int .i64 0, .int .i64 0] 35, .blk b3 [.int .i64 b.count, .int .i64 b.total, .int .i64 b.min, .int .i64 b.max, .int .i64 b.first, .int .i64 b.last, .int .i64 b.rise] 35, .blk b2 [.int .i64 a.count, .int .i64 a.total, .int .i64 a.min, .int .i64 a.max, .int .i64 a.first, .int .i64 a.last, .int .i64 a.rise] 35]) (fun _ hK9 => ?_) ?_
   · refine c_seq fun _ hK10 => ?_
     refine c_region ?_
     refine l_val wn (r_fa rfl fld35_2) rfl ?_
     refine l_val wn (r_lb 2 rfl rfl rfl flat3) rfl ?_
     refine l_val wn (r_fa rfl fld35_2) rfl ?_
     refine l_val wn (r_lb 0 rfl rfl rfl flat3) rfl ?_
     refine l_val wn (r_lss rfl rfl) rfl ?_
     refine l_nil (e_go hK10 ?_)
     refine c_cond rfl (fun h3 => ?_) (fun h3 => ?_)
     · refine c_region ?_
       refine l_val wn (r_fa rfl fld35_2) rfl ?_
       refine l_val wn (r_lb 2 rfl rfl rfl flat3) rfl ?_
       refine l_val wn (r_fa rfl fld35_2) rfl ?_
       refine l_st1 0 wn rfl rfl rfl rfl inf3 rfl rfl ?_
       refine l_nil (e_cut hK9 (sc rfl (sc rfl (sc rfl sn))) (fun _ h => by simp only [if_pos h3]; exact h))
     refine c_skip (e_cut hK9 (sc rfl (sc rfl (sc rfl sn))) (fun _ h => by simp only [if_neg h3]; exact h))
   refine c_cut [(4, .pointer (some ⟨b4, 0, none⟩)), (5, .pointer (some ⟨b5, 0, none⟩))] (Mem w no [.blk b5 [.int .i64 (IntKind.wrap .i64 (a.count + b.count)), .int .i64 (IntKind.wrap .i64 (a.total + b.total)), .int .i64 (if b.min < a.min then b.min else a.min), .int .i64 (if a.max < b.max then b.max else a.max), .int .i64 a.first, .int .i64 b.last, .int .i64 (IntKind.wrap .i64 ((IntKind.wrap .i64 (a.rise + (Agg.rise a.last b.first))) + b.rise))] 35, .blk b4 [.int .i64 0, .int .i64 0, .int .i64 0, .int .i64 0, .int .i64 0, .int .i64 0, .int .i64 0] 35, .blk b3 [.int .i64 b.count, .int .i64 b.total, .int .i64 b.min, .int .i64 b.max, .int .i64 b.first, .int .i64 b.last, .int .i64 b.rise] 35, .blk b2 [.int .i64 a.count, .int .i64 a.total, .int .i64 a.min, .int .i64 a.max, .int .i64 a.first, .int .i64 a.last, .int .i64 a.rise] 35]) (fun _ hK11 => ?_) ?_
   · refine c_seq fun _ hK12 => ?_
     refine c_region ?_
     refine l_val wn (r_fa rfl fld35_3) rfl ?_
     refine l_val wn (r_lb 2 rfl rfl rfl flat3) rfl ?_
     refine l_val wn (r_fa rfl fld35_3) rfl ?_
     refine l_val wn (r_lb 0 rfl rfl rfl flat3) rfl ?_
     refine l_val wn (r_gtr rfl rfl) rfl ?_
     refine l_nil (e_go hK12 ?_)
     refine c_cond rfl (fun h4 => ?_) (fun h4 => ?_)
     · refine c_region ?_
       refine l_val wn (r_fa rfl fld35_3) rfl ?_
       refine l_val wn (r_lb 2 rfl rfl rfl flat3) rfl ?_
       refine l_val wn (r_fa rfl fld35_3) rfl ?_
       refine l_st1 0 wn rfl rfl rfl rfl inf3 rfl rfl ?_
       refine l_nil (e_cut hK11 (sc rfl (sc rfl sn)) (fun _ h => by simp only [if_pos h4]; exact h))
     refine c_skip (e_cut hK11 (sc rfl (sc rfl sn)) (fun _ h => by simp only [if_neg h4]; exact h))
   refine c_seq fun _ hK13 => ?_
   refine c_region ?_
   refine l_val wn (r_lbn 0 [.int .i64 (IntKind.wrap .i64 (a.count + b.count)), .int .i64 (IntKind.wrap .i64 (a.total + b.total)), .int .i64 (if b.min < a.min then b.min else a.min), .int .i64 (if a.max < b.max then b.max else a.max), .int .i64 a.first, .int .i64 b.last, .int .i64 (IntKind.wrap .i64 ((IntKind.wrap .i64 (a.rise + (Agg.rise a.last b.first))) + b.rise))] rfl rfl rfl rfl agg35 inf35) rfl ?_
   refine l_stn 1 wn rfl rfl rfl inf35 rfl rfl rfl ?_
   refine l_nil (e_go hK13 ?_)
   refine c_ret (e_ret1 (.inl rfl) Try.results46 (rv_cell 1 rfl rfl agg35 inf35 rfl) fun w1 hM => ?_)
   exact ret_agg (l1 := [.int .i64 (IntKind.wrap .i64 (a.count + b.count)), .int .i64 (IntKind.wrap .i64 (a.total + b.total)), .int .i64 (if b.min < a.min then b.min else a.min), .int .i64 (if a.max < b.max then b.max else a.max), .int .i64 a.first, .int .i64 b.last, .int .i64 (IntKind.wrap .i64 ((IntKind.wrap .i64 (a.rise + (Agg.rise a.last b.first))) + b.rise))]) (by simp [Agg.join, sumE, h1, h2]) hM
 refine n_one (i := 30) rfl fun KN hKN => ?_
 refine l_alloc wn inf35 rfl fun b5 => ?_
 refine l_nil (hKN _ _ (fun _ h => (h.sel [1, 2, 3] (by decide) rfl)) ?_)
 refine n_step1 (f := 4) (i := 24) rfl (by kernel_rfl) ?_
 refine n_one (i := 24) rfl fun KN hKN => ?_
 refine l_callF wn rfl Try.call71 rfl (fun w1 hM => c_refUp a.last b.first w1) ?_
 refine l_nil (hKN _ _ (fun _ h => (h.sel [1, 2, 3] (by decide) rfl)) ?_)
 refine n_run (f := 1) [25, 28, 29] rfl rfl (by kernel_rfl) (by kernel_rfl) (fun _ h => (h.sel [1, 2, 3] (by decide) rfl)) fun KS hKS => ?_
 refine s_val wn (r_add rfl rfl) rfl ?_
 refine s_val wn (r_add rfl rfl) rfl ?_
 refine s_val wn (r_build [.int .i64 (IntKind.wrap .i64 (a.count + b.count)), .int .i64 (IntKind.wrap .i64 (a.total + b.total)), .int .i64 a.min, .int .i64 a.max, .int .i64 a.first, .int .i64 b.last, .int .i64 (IntKind.wrap .i64 ((IntKind.wrap .i64 (a.rise + (Agg.rise a.last b.first))) + b.rise))] pl35 inf35 rfl rfl) rfl ?_
 refine s_end hKS ?_
 refine n_step1 (f := 0) (i := 31) rfl (by kernel_rfl) ?_
 refine n_one (i := 31) rfl fun KN hKN => ?_
 refine l_stn 0 wn rfl rfl rfl inf35 rfl rfl rfl ?_
 refine l_nil (hKN _ _ (fun _ h => (h.sel [1, 2, 3] (by decide) rfl)) ?_)
 refine n_done (by kernel_rfl) (e_go hK8 ?_)
 refine c_cut [(3, .pointer (some ⟨b3, 0, none⟩)), (4, .pointer (some ⟨b4, 0, none⟩)), (5, .pointer (some ⟨b5, 0, none⟩))] (Mem w no [.blk b5 [.int .i64 (IntKind.wrap .i64 (a.count + b.count)), .int .i64 (IntKind.wrap .i64 (a.total + b.total)), .int .i64 (if b.min < a.min then b.min else a.min), .int .i64 a.max, .int .i64 a.first, .int .i64 b.last, .int .i64 (IntKind.wrap .i64 ((IntKind.wrap .i64 (a.rise + (Agg.rise a.last b.first))) + b.rise))] 35, .blk b4 [.int .i64 0, .int .i64 0, .int .i64 0, .int .i64 0, .int .i64 0, .int .i64 0, .int .i64 0] 35, .blk b3 [.int .i64 b.count, .int .i64 b.total, .int .i64 b.min, .int .i64 b.max, .int .i64 b.first, .int .i64 b.last, .int .i64 b.rise] 35, .blk b2 [.int .i64 a.count, .int .i64 a.total, .int .i64 a.min, .int .i64 a.max, .int .i64 a.first, .int .i64 a.last, .int .i64 a.rise] 35]) (fun _ hK14 => ?_) ?_
 · refine c_seq fun _ hK15 => ?_
   refine c_region ?_
   refine l_val wn (r_fa rfl fld35_2) rfl ?_
   refine l_val wn (r_lb 2 rfl rfl rfl flat3) rfl ?_
   refine l_val wn (r_fa rfl fld35_2) rfl ?_
   refine l_val wn (r_lb 0 rfl rfl rfl flat3) rfl ?_
   refine l_val wn (r_lss rfl rfl) rfl ?_
   refine l_nil (e_go hK15 ?_)
   refine c_cond rfl (fun h5 => ?_) (fun h5 => ?_)
   · refine c_region ?_
     refine l_val wn (r_fa rfl fld35_2) rfl ?_
     refine l_val wn (r_lb 2 rfl rfl rfl flat3) rfl ?_
     refine l_val wn (r_fa rfl fld35_2) rfl ?_
     refine l_st1 0 wn rfl rfl rfl rfl inf3 rfl rfl ?_
     refine l_nil (e_cut hK14 (sc rfl (sc rfl (sc rfl sn))) (fun _ h => by simp only [if_pos h5]; exact h))
   refine c_skip (e_cut hK14 (sc rfl (sc rfl (sc rfl sn))) (fun _ h => by simp only [if_neg h5]; exact h))
 refine c_cut [(4, .pointer (some ⟨b4, 0, none⟩)), (5, .pointer (some ⟨b5, 0, none⟩))] (Mem w no [.blk b5 [.int .i64 (IntKind.wrap .i64 (a.count + b.count)), .int .i64 (IntKind.wrap .i64 (a.total + b.total)), .int .i64 (if b.min < a.min then b.min else a.min), .int .i64 (if a.max < b.max then b.max else a.max), .int .i64 a.first, .int .i64 b.last, .int .i64 (IntKind.wrap .i64 ((IntKind.wrap .i64 (a.rise + (Agg.rise a.last b.first))) + b.rise))] 35, .blk b4 [.int .i64 0, .int .i64 0, .int .i64 0, .int .i64 0, .int .i64 0, .int .i64 0, .int .i64 0] 35, .blk b3 [.int .i64 b.count, .int .i64 b.total, .int .i64 b.min, .int .i64 b.max, .int .i64 b.first, .int .i64 b.last, .int .i64 b.rise] 35, .blk b2 [.int .i64 a.count, .int .i64 a.total, .int .i64 a.min, .int .i64 a.max, .int .i64 a.first, .int .i64 a.last, .int .i64 a.rise] 35]) (fun _ hK16 => ?_) ?_
 · refine c_seq fun _ hK17 => ?_
   refine c_region ?_
   refine l_val wn (r_fa rfl fld35_3) rfl ?_
   refine l_val wn (r_lb 2 rfl rfl rfl flat3) rfl ?_
   refine l_val wn (r_fa rfl fld35_3) rfl ?_
   refine l_val wn (r_lb 0 rfl rfl rfl flat3) rfl ?_
   refine l_val wn (r_gtr rfl rfl) rfl ?_
   refine l_nil (e_go hK17 ?_)
   refine c_cond rfl (fun h6 => ?_) (fun h6 => ?_)
   · refine c_region ?_
     refine l_val wn (r_fa rfl fld35_3) rfl ?_
     refine l_val wn (r_lb 2 rfl rfl rfl flat3) rfl ?_
     refine l_val wn (r_fa rfl fld35_3) rfl ?_
     refine l_st1 0 wn rfl rfl rfl rfl inf3 rfl rfl ?_
     refine l_nil (e_cut hK16 (sc rfl (sc rfl sn)) (fun _ h => by simp only [if_pos h6]; exact h))
   refine c_skip (e_cut hK16 (sc rfl (sc rfl sn)) (fun _ h => by simp only [if_neg h6]; exact h))
 refine c_seq fun _ hK18 => ?_
 refine c_region ?_
 refine l_val wn (r_lbn 0 [.int .i64 (IntKind.wrap .i64 (a.count + b.count)), .int .i64 (IntKind.wrap .i64 (a.total + b.total)), .int .i64 (if b.min < a.min then b.min else a.min), .int .i64 (if a.max < b.max then b.max else a.max), .int .i64 a.first, .int .i64 b.last, .int .i64 (IntKind.wrap .i64 ((IntKind.wrap .i64 (a.rise + (Agg.rise a.last b.first))) + b.rise))] rfl rfl rfl rfl agg35 inf35) rfl ?_
 refine l_stn 1 wn rfl rfl rfl inf35 rfl rfl rfl ?_
 refine l_nil (e_go hK18 ?_)
 refine c_ret (e_ret1 (.inl rfl) Try.results46 (rv_cell 1 rfl rfl agg35 inf35 rfl) fun w1 hM => ?_)
 exact ret_agg (l1 := [.int .i64 (IntKind.wrap .i64 (a.count + b.count)), .int .i64 (IntKind.wrap .i64 (a.total + b.total)), .int .i64 (if b.min < a.min then b.min else a.min), .int .i64 (if a.max < b.max then b.max else a.max), .int .i64 a.first, .int .i64 b.last, .int .i64 (IntKind.wrap .i64 ((IntKind.wrap .i64 (a.rise + (Agg.rise a.last b.first))) + b.rise))]) (by simp [Agg.join, sumE, h1, h2]) hM

theorem c_refOf (lv : Value) (l : List Sample) (w : World) (hl : FlatSl (In w) 2 sampleE lv l w) (hln : l.length ≤ 9223372036854775807) (ho : ∀ x ∈ l, -9223372036854775808 ≤ x.value ∧ x.value ≤ 9223372036854775807) :
    Calls Try.prog 45 #[lv] w (Ret w (.agg (sumE (Agg.of l)).toArray)) := by
 obtain ⟨lA, lc, rfl, hlc, hlm, hlA⟩ := hl.form
 refine fstart (N := 78) (vals := [.slice lA l.length lc]) (S := Mem w no [slO (In w) 2 sampleE (.slice lA l.length lc) l]) Try.func45 rfl rfl rfl (Mem.ofDats (dc (dl hl) dn)) ?_
 refine c_seq fun _ hK1 => ?_
 refine c_region ?_
 refine l_alloc wn inf35 rfl fun b2 => ?_
 refine l_nil (e_go hK1 ?_)
 refine c_seq fun _ hK2 => ?_
 refine c_seq fun _ hK3 => ?_
 refine c_region ?_
 refine l_val wn (r_move rfl) rfl ?_
 refine l_val wn (r_len rfl Try.underlying24) rfl ?_
 refine l_val wn (r_eql rfl rfl) rfl ?_
 refine l_nil (e_go hK3 ?_)
 refine c_cond rfl (fun h1 => ?_) (fun h1 => ?_)
 · refine c_seq fun _ hK4 => ?_
   refine c_region ?_
   refine l_val wn (r_build [.int .i64 0, .int .i64 0, .int .i64 0, .int .i64 0, .int .i64 0, .int .i64 0, .int .i64 0] pl35 inf35 rfl rfl) rfl ?_
   refine l_stn 0 wn rfl rfl rfl inf35 rfl rfl rfl ?_
   refine l_nil (e_go hK4 ?_)
   refine c_ret (e_then_r (e_ret1 (.inl rfl) Try.results45 (rv_cell 0 rfl rfl agg35 inf35 rfl) fun w1 hM => ?_))
   exact ret_agg (l1 := [.int .i64 0, .int .i64 0, .int .i64 0, .int .i64 0, .int .i64 0, .int .i64 0, .int .i64 0]) (by rw [List.eq_nil_of_length_eq_zero (by omega : l.length = 0)]; rfl) hM
 obtain ⟨a, ha⟩ : ∃ x, l[0]? = some x := ⟨_, List.getElem?_eq_getElem (by omega)⟩
 obtain ⟨z, hz⟩ : ∃ x, l[l.length - 1]? = some x := ⟨_, List.getElem?_eq_getElem (by omega)⟩
 refine c_skip (e_go hK2 ?_)
 refine c_seq fun _ hK5 => ?_
 refine c_nodes (Mem w no [.blk b2 [.int .i64 0, .int .i64 0, .int .i64 0, .int .i64 0, .int .i64 0, .int .i64 0, .int .i64 0] 35, slO (In w) 2 sampleE (.slice lA l.length lc) l]) mix (fun _ h => h.drew) rfl ?_
 refine n_run (f := 2) [0, 1, 2, 3, 4, 5, 6, 7, 8, 9, 10, 11, 12, 13, 14, 15, 16, 17, 18, 19, 20, 21] rfl rfl (by kernel_rfl) (by kernel_rfl) (fun _ h => h) fun KS hKS => ?_
 refine s_val wn (r_move rfl) rfl ?_
 refine s_val wn (r_len rfl Try.underlying24) rfl ?_
 refine s_val wn (r_move rfl) rfl ?_
 obtain ⟨ad1, hd1⟩ := hlA (ne_nil (i := 0) (by first | omega | decide | (simp only [List.length_cons, List.length_nil, List.length_append, List.length_take, List.length_set]; omega)))
 refine s_val wn (r_ia (i := 0) rfl hd1 rfl (by omega) (by first | omega | decide | (simp only [List.length_cons, List.length_nil, List.length_append, List.length_take, List.length_set]; omega)) Try.underlying24 inf39) rfl ?_
 refine s_val wn (r_fe rfl fld39_1) rfl ?_
 refine s_val wn (r_el 1 rfl rfl hd1 ha rfl flat3) rfl ?_
 refine s_val wn (r_move rfl) rfl ?_
 refine s_val wn (r_ia (i := 0) rfl hd1 rfl (by omega) (by first | omega | decide | (simp only [List.length_cons, List.length_nil, List.length_append, List.length_take, List.length_set]; omega)) Try.underlying24 inf39) rfl ?_
 refine s_val wn (r_fe rfl fld39_1) rfl ?_
 refine s_val wn (r_el 1 rfl rfl hd1 ha rfl flat3) rfl ?_
 refine s_val wn (r_move rfl) rfl ?_
 refine s_val wn (r_ia (i := 0) rfl hd1 rfl (by omega) (by first | omega | decide | (simp only [List.length_cons, List.length_nil, List.length_append, List.length_take, List.length_set]; omega)) Try.underlying24 inf39) rfl ?_
 refine s_val wn (r_fe rfl fld39_1) rfl ?_
 refine s_val wn (r_el 1 rfl rfl hd1 ha rfl flat3) rfl ?_
 refine s_val wn (r_move rfl) rfl ?_
 refine s_val wn (r_move rfl) rfl ?_
 refine s_val wn (r_len rfl Try.underlying24) rfl ?_
 refine s_val wn (r_subn rfl rfl (by omega)) rfl ?_
 refine s_val wn (r_ia (i := (l.length - 1)) rfl hd1 rfl (by omega) (by first | omega | decide | (simp only [List.length_cons, List.length_nil, List.length_append, List.length_take, List.length_set]; omega)) Try.underlying24 inf39) rfl ?_
 refine s_val wn (r_fe rfl fld39_1) rfl ?_
 refine s_val wn (r_el 1 rfl rfl hd1 hz rfl flat3) rfl ?_
 refine s_val wn (r_build [.int .i64 (l.length : Int), .int .i64 0, .int .i64 a.value, .int .i64 a.value, .int .i64 a.value, .int .i64 z.value, .int .i64 0] pl35 inf35 rfl rfl) rfl ?_
 refine s_end hKS ?_
 refine n_step1 (f := 1) (i := 22) rfl (by kernel_rfl) ?_
 refine n_one (i := 22) rfl fun KN hKN => ?_
 refine l_alloc wn inf35 rfl fun b3 => ?_
 refine l_nil (hKN _ _ (fun _ h => (h.sel [1, 2] (by decide) rfl)) ?_)
 refine n_step1 (f := 0) (i := 23) rfl (by kernel_rfl) ?_
 refine n_one (i := 23) rfl fun KN hKN => ?_
 refine l_stn 0 wn rfl rfl rfl inf35 rfl rfl rfl ?_
 refine l_nil (hKN _ _ (fun _ h => (h.sel [1, 2] (by decide) rfl)) ?_)
 refine n_done (by kernel_rfl) (e_go hK5 ?_)
 refine c_seq fun _ hK6 => ?_
 refine c_seq fun _ hK7 => ?_
 refine c_region ?_
 refine l_val wn (r_move rfl) rfl ?_
 refine l_val wn (r_len rfl Try.underlying24) rfl ?_
 refine l_val wn (r_move rfl) rfl ?_
 refine l_nil (e_go hK7 ?_)
 refine c_block ?_
 refine c_loop1 (fun (k : Nat) => [(0, .slice lA l.length lc), (2, .pointer (some ⟨b2, 0, none⟩)), (3, .pointer (some ⟨b3, 0, none⟩)), (32, .slice lA l.length lc), (33, .int .i64 (l.length : Int)), (34, .int .i64 (k : Int))]) (fun (k : Nat) => [.blk b3 [.int .i64 ((Agg.rst l a.value z.value k).count), .int .i64 ((Agg.rst l a.value z.value k).total), .int .i64 ((Agg.rst l a.value z.value k).min), .int .i64 ((Agg.rst l a.value z.value k).max), .int .i64 ((Agg.rst l a.value z.value k).first), .int .i64 ((Agg.rst l a.value z.value k).last), .int .i64 ((Agg.rst l a.value z.value k).rise)] 35, .blk b2 [.int .i64 0, .int .i64 0, .int .i64 0, .int .i64 0, .int .i64 0, .int .i64 0, .int .i64 0] 35, slO (In w) 2 sampleE (.slice lA l.length lc) l]) (fun (k : Nat) => k ≤ l.length) (fun (k : Nat) => l.length - k) 0 (sc rfl (sc rfl (sc rfl (sc rfl (sc rfl (sc (ji (by omega)) sn)))))) (fun _ h => h) ?_ (fun k hI1 => ?_)
 · omega
 refine c_seq fun _ hK8 => ?_
 refine c_region ?_
 refine l_val wn (r_lss rfl rfl) rfl ?_
 refine l_nil (e_go hK8 ?_)
 refine c_seq fun _ hK9 => ?_
 refine c_cond rfl (fun h2 => ?_) (fun h2 => ?_)
 · refine c_skip (e_go hK9 ?_)
   refine c_seq fun _ hK10 => ?_
   refine c_block ?_
   refine c_seq fun _ hK11 => ?_
   refine c_region ?_
   refine l_val wn (r_move rfl) rfl ?_
   refine l_val wn (r_ia (i := k) rfl hd1 rfl (by omega) (by first | omega | decide | (simp only [List.length_cons, List.length_nil, List.length_append, List.length_take, List.length_set]; omega)) Try.underlying24 inf39) rfl ?_
   obtain ⟨s1, hs1⟩ : ∃ x, l[k]? = some x := ⟨_, List.getElem?_eq_getElem (by first | omega | decide | (simp only [List.length_cons, List.length_nil, List.length_append, List.length_take, List.length_set]; omega))⟩
   refine l_val wn (r_eln 2 [.int .i64 s1.time, .int .i64 s1.value] rfl rfl hd1 hs1 rfl rfl agg39 inf39) rfl ?_
   refine l_alloc wn inf39 rfl fun b5 => ?_
   refine l_val wn (r_assign rfl) rfl ?_
   refine l_stn 0 wn rfl rfl rfl inf39 rfl rfl rfl ?_
   refine l_nil (e_go hK11 ?_)
   refine c_seq fun _ hK12 => ?_
   refine c_region ?_
   refine l_val wn (r_fa rfl fld35_1) rfl ?_
   refine l_val wn (r_lb 1 rfl rfl rfl flat3) rfl ?_
   refine l_val wn (r_fa rfl fld39_1) rfl ?_
   refine l_val wn (r_lb 0 rfl rfl rfl flat3) rfl ?_
   refine l_val wn (r_add rfl rfl) rfl ?_
   refine l_val wn (r_fa rfl fld35_1) rfl ?_
   refine l_st1 1 wn rfl rfl rfl rfl inf3 rfl rfl ?_
   refine l_nil (e_go hK12 ?_)
   refine c_cut [(0, .slice lA l.length lc), (2, .pointer (some ⟨b2, 0, none⟩)), (3, .pointer (some ⟨b3, 0, none⟩)), (4, .int .i64 (k : Int)), (5, .pointer (some ⟨b5, 0, none⟩)), (32, .slice lA l.length lc), (33, .int .i64 (l.length : Int)), (34, .int .i64 (k : Int))] (Mem w no [.blk b5 [.int .i64 s1.time, .int .i64 s1.value] 39, .blk b3 [.int .i64 ((Agg.rst l a.value z.value k).count), .int .i64 (IntKind.wrap .i64 ((Agg.rst l a.value z.value k).total + s1.value)), .int .i64 (if s1.value < (Agg.rst l a.value z.value k).min then s1.value else (Agg.rst l a.value z.value k).min), .int .i64 ((Agg.rst l a.value z.value k).max), .int .i64 ((Agg.rst l a.value z.value k).first), .int .i64 ((Agg.rst l a.value z.value k).last), .int .i64 ((Agg.rst l a.value z.value k).rise)] 35, .blk b2 [.int .i64 0, .int .i64 0, .int .i64 0, .int .i64 0, .int .i64 0, .int .i64 0, .int .i64 0] 35, slO (In w) 2 sampleE (.slice lA l.length lc) l]) (fun _ hK13 => ?_) ?_
   · refine c_seq fun _ hK14 => ?_
     refine c_region ?_
     refine l_val wn (r_fa rfl fld39_1) rfl ?_
     refine l_val wn (r_lb 0 rfl rfl rfl flat3) rfl ?_
     refine l_val wn (r_fa rfl fld35_2) rfl ?_
     refine l_val wn (r_lb 1 rfl rfl rfl flat3) rfl ?_
     refine l_val wn (r_lss rfl rfl) rfl ?_
     refine l_nil (e_go hK14 ?_)
     refine c_cond rfl (fun h3 => ?_) (fun h3 => ?_)
     · refine c_region ?_
       refine l_val wn (r_fa rfl fld39_1) rfl ?_
       refine l_val wn (r_lb 0 rfl rfl rfl flat3) rfl ?_
       refine l_val wn (r_fa rfl fld35_2) rfl ?_
       refine l_st1 1 wn rfl rfl rfl rfl inf3 rfl rfl ?_
       refine l_nil (e_cut hK13 (sc rfl (sc rfl (sc rfl (sc rfl (sc rfl (sc rfl (sc rfl (sc rfl sn)))))))) (fun _ h => by simp only [if_pos h3]; exact h))
     refine c_skip (e_cut hK13 (sc rfl (sc rfl (sc rfl (sc rfl (sc rfl (sc rfl (sc rfl (sc rfl sn)))))))) (fun _ h => by simp only [if_neg h3]; exact h))
   refine c_cut [(0, .slice lA l.length lc), (2, .pointer (some ⟨b2, 0, none⟩)), (3, .pointer (some ⟨b3, 0, none⟩)), (4, .int .i64 (k : Int)), (5, .pointer (some ⟨b5, 0, none⟩)), (32, .slice lA l.length lc), (33, .int .i64 (l.length : Int)), (34, .int .i64 (k : Int))] (Mem w no [.blk b5 [.int .i64 s1.time, .int .i64 s1.value] 39, .blk b3 [.int .i64 ((Agg.rst l a.value z.value k).count), .int .i64 (IntKind.wrap .i64 ((Agg.rst l a.value z.value k).total + s1.value)), .int .i64 (if s1.value < (Agg.rst l a.value z.value k).min then s1.value else (Agg.rst l a.value z.value k).min), .int .i64 (if (Agg.rst l a.value z.value k).max < s1.value then s1.value else (Agg.rst l a.value z.value k).max), .int .i64 ((Agg.rst l a.value z.value k).first), .int .i64 ((Agg.rst l a.value z.value k).last), .int .i64 ((Agg.rst l a.value z.value k).rise)] 35, .blk b2 [.int .i64 0, .int .i64 0, .int .i64 0, .int .i64 0, .int .i64 0, .int .i64 0, .int .i64 0] 35, slO (In w) 2 sampleE (.slice lA l.length lc) l]) (fun _ hK15 => ?_) ?_
   · refine c_seq fun _ hK16 => ?_
     refine c_region ?_
     refine l_val wn (r_fa rfl fld39_1) rfl ?_
     refine l_val wn (r_lb 0 rfl rfl rfl flat3) rfl ?_
     refine l_val wn (r_fa rfl fld35_3) rfl ?_
     refine l_val wn (r_lb 1 rfl rfl rfl flat3) rfl ?_
     refine l_val wn (r_gtr rfl rfl) rfl ?_
     refine l_nil (e_go hK16 ?_)
     refine c_cond rfl (fun h4 => ?_) (fun h4 => ?_)
     · refine c_region ?_
       refine l_val wn (r_fa rfl fld39_1) rfl ?_
       refine l_val wn (r_lb 0 rfl rfl rfl flat3) rfl ?_
       refine l_val wn (r_fa rfl fld35_3) rfl ?_
       refine l_st1 1 wn rfl rfl rfl rfl inf3 rfl rfl ?_
       refine l_nil (e_cut hK15 (sc rfl (sc rfl (sc rfl (sc rfl (sc rfl (sc rfl (sc rfl (sc rfl sn)))))))) (fun _ h => by simp only [if_pos h4]; exact h))
     refine c_skip (e_cut hK15 (sc rfl (sc rfl (sc rfl (sc rfl (sc rfl (sc rfl (sc rfl (sc rfl sn)))))))) (fun _ h => by simp only [if_neg h4]; exact h))
   refine c_seq fun _ hK17 => ?_
   refine c_region ?_
   refine l_val wn (r_move rfl) rfl ?_
   refine l_val wn (r_gtr rfl rfl) rfl ?_
   refine l_nil (e_go hK17 ?_)
   refine c_cond rfl (fun h5 => ?_) (fun h5 => ?_)
   · refine c_quietT 13 mix (by kernel_rfl) (fun _ h => h.drew) fun _ hT1 => ?_
     refine q_val wn (r_fa rfl fld35_6) rfl ?_
     refine q_val wn (r_lb 1 rfl rfl rfl flat3) rfl ?_
     refine q_val wn (r_move rfl) rfl ?_
     refine q_val wn (r_move rfl) rfl ?_
     refine q_val wn (r_subn rfl rfl (by omega)) rfl ?_
     refine q_val wn (r_ia (i := (k - 1)) rfl hd1 rfl (by omega) (by first | omega | decide | (simp only [List.length_cons, List.length_nil, List.length_append, List.length_take, List.length_set]; omega)) Try.underlying24 inf39) rfl ?_
     refine q_val wn (r_fe rfl fld39_1) rfl ?_
     obtain ⟨s2, hs2⟩ : ∃ x, l[(k - 1)]? = some x := ⟨_, List.getElem?_eq_getElem (by first | omega | decide | (simp only [List.length_cons, List.length_nil, List.length_append, List.length_take, List.length_set]; omega))⟩
     refine q_val wn (r_el 3 rfl rfl hd1 hs2 rfl flat3) rfl ?_
     refine q_val wn (r_fa rfl fld39_1) rfl ?_
     refine q_val wn (r_lb 0 rfl rfl rfl flat3) rfl ?_
     refine q_callF wn rfl Try.call71 rfl (fun w1 hM => c_refUp s2.value s1.value w1) ?_
     refine q_val wn (r_add rfl rfl) rfl ?_
     refine q_val wn (r_fa rfl fld35_6) rfl ?_
     refine q_tail hT1 ?_
     refine l_st1 1 wn rfl rfl rfl rfl inf3 rfl rfl ?_
     refine l_nil (e_in_n (e_go hK10 ?_))
     refine c_region ?_
     refine l_val wn (r_addn rfl rfl (by omega)) rfl ?_
     refine l_val wn (r_move rfl) rfl ?_
     have hst := Agg.rst_next (a := a.value) (z := z.value) (by omega) hln hs2 hs1
     refine l_nil (e_round1 (k + 1) (sc rfl (sc rfl (sc rfl (sc rfl (sc rfl (sc (ji (by omega)) sn)))))) (fun _ h => by rw [hst]; exact (h.sel [1, 2, 3] (by decide) rfl)) ?_ ?_)
     · omega
     omega
   refine c_skip (e_in_n (e_go hK10 ?_))
   refine c_region ?_
   refine l_val wn (r_addn rfl rfl (by omega)) rfl ?_
   refine l_val wn (r_move rfl) rfl ?_
   have hst := Agg.rst_zero (z := z.value) (by omega) ha hs1 ho
   refine l_nil (e_round1 (k + 1) (sc rfl (sc rfl (sc rfl (sc rfl (sc rfl (sc (ji (by omega)) sn)))))) (fun _ h => by rw [hst]; exact (h.sel [1, 2, 3] (by decide) rfl)) ?_ ?_)
   · omega
   omega
 refine c_exit (e_then_x (e_loop1_x (e_in_hit (e_go hK6 ?_))))
 refine c_seq fun _ hK18 => ?_
 refine c_region ?_
 refine l_val wn (r_lbn 0 [.int .i64 ((Agg.rst l a.value z.value k).count), .int .i64 ((Agg.rst l a.value z.value k).total), .int .i64 ((Agg.rst l a.value z.value k).min), .int .i64 ((Agg.rst l a.value z.value k).max), .int .i64 ((Agg.rst l a.value z.value k).first), .int .i64 ((Agg.rst l a.value z.value k).last), .int .i64 ((Agg.rst l a.value z.value k).rise)] rfl rfl rfl rfl agg35 inf35) rfl ?_
 refine l_stn 1 wn rfl rfl rfl inf35 rfl rfl rfl ?_
 refine l_nil (e_go hK18 ?_)
 refine c_ret (e_ret1 (.inl rfl) Try.results45 (rv_cell 1 rfl rfl agg35 inf35 rfl) fun w1 hM => ?_)
 exact ret_agg (l1 := [.int .i64 ((Agg.rst l a.value z.value k).count), .int .i64 ((Agg.rst l a.value z.value k).total), .int .i64 ((Agg.rst l a.value z.value k).min), .int .i64 ((Agg.rst l a.value z.value k).max), .int .i64 ((Agg.rst l a.value z.value k).first), .int .i64 ((Agg.rst l a.value z.value k).last), .int .i64 ((Agg.rst l a.value z.value k).rise)]) (by rw [Agg.rst_end hI1 (by omega) hln ha hz]) hM

end Go.Proofs.Ytnbkennlmnnbeaa
