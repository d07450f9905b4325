/-
  Walks: what each function hands back.
-/
import Derived.Test.YteogkbpcibnifaaWref3
namespace Go.Proofs.Yteogkbpcibnifaa
open Ex
set_option linter.unusedVariables false
set_option linter.unusedSimpArgs false
theorem law_RollTells (lv : Value) (l : List Sample) (bv : Value) (b : List Bucket) (tier : Int) (frm : Int) (to : Int) (w : World) (hl : FlatSl (In w) 2 sampleE lv l w) (hb : FlatSl (In w) 8 bucketE bv b w)  :
    Calls Try.prog 10 #[lv, bv, .int .i64 tier, .int .i64 frm, .int .i64 to] w (Ret w (.bool true)) := by
  obtain ⟨lA, lc, rfl, hlc, hlm, hlA⟩ := hl.form
  obtain ⟨bA, bc, rfl, hbc, hbm, hbA⟩ := hb.form
  refine fstart (N := 77) (vals := [.slice lA l.length lc, .slice bA b.length bc, .int .i64 tier, .int .i64 frm, .int .i64 to]) (S := Mem w no [slO (In w) 2 sampleE (.slice lA l.length lc) l, slO (In w) 8 bucketE (.slice bA b.length bc) b]) Try.func10 rfl rfl rfl (Mem.ofDats (dc (dl hl) (dc (dl hb) dn))) ?_
  refine c_seq fun K1 hK1 => ?_
  refine c_region ?_
  refine l_val wn (r_assign rfl) rfl ?_
  refine l_nil (e_go hK1 ?_)
  refine c_seq fun K2 hK2 => ?_
  refine c_cut [(0, .slice lA l.length lc), (1, .slice bA b.length bc), (2, .int .i64 tier), (3, .int .i64 frm), (4, .int .i64 to), (26, .bool (decide ((Roll.wrong b tier) ≠ (Roll.wrong b tier))))] (Mem w no [slO (In w) 2 sampleE (.slice lA l.length lc) l, slO (In w) 8 bucketE (.slice bA b.length bc) b]) (fun K3 hK3 => ?_) ?_
  ·
    refine c_nodes (Mem w no [slO (In w) 2 sampleE (.slice lA l.length lc) l, slO (In w) 8 bucketE (.slice bA b.length bc) b]) mix (fun _ h => h.drew) rfl ?_
    refine n_run (f := 16) [0, 6] rfl rfl (by kernel_rfl) (by kernel_rfl) (fun _ h => h) fun KS hKS => ?_
    refine s_val wn (r_move rfl) rfl ?_
    refine s_val wn (r_move rfl) rfl ?_
    refine s_end hKS ?_
    refine n_step2 (f := 15) (i := 1) (j := 2) rfl (by kernel_rfl) ?_ ?_
    ·
      refine n_one (i := 1) rfl fun KN hKN => ?_
      refine l_callF wn rfl Try.call28 rfl (fun w1 hM => c_Step tier w1) ?_
      refine l_nil (hKN _ _ (fun _ h => h) ?_)
      refine n_step1 (f := 14) (i := 2) rfl (by kernel_rfl) ?_
      refine n_one (i := 2) rfl fun KN hKN => ?_
      refine l_makeMap wn rfl fun b13 => ?_
      refine l_nil (hKN _ _ (fun _ h => (h.sel [1, 2] (by decide) rfl)) ?_)
      refine n_step2 (f := 13) (i := 3) (j := 4) rfl (by kernel_rfl) ?_ ?_
      ·
        refine n_one (i := 3) rfl fun KN hKN => ?_
        refine l_insert 0 (KeyT.int Try.underlying3) ([] : List (Nat × Int × Int)) 0 1 10 wn rfl rfl rfl rfl Try.underlying55 (by simp) ?_
        refine l_nil (hKN _ _ (fun _ h => (h.sel [1, 2] (by decide) rfl)) ?_)
        refine n_step1 (f := 12) (i := 4) rfl (by kernel_rfl) ?_
        refine n_one (i := 4) rfl fun KN hKN => ?_
        refine l_insert 0 (KeyT.int Try.underlying3) ([(0, 1, 10)] : List (Nat × Int × Int)) 1 2 60 wn rfl rfl rfl rfl Try.underlying55 (by simp) ?_
        refine l_nil (hKN _ _ (fun _ h => (h.sel [1, 2] (by decide) rfl)) ?_)
        refine n_run (f := 11) [5] rfl rfl (by kernel_rfl) (by kernel_rfl) (fun _ h => (h.sel [1, 2] (by decide) rfl)) fun KS hKS => ?_
        refine s_val wn (r_move rfl) rfl ?_
        refine s_end hKS ?_
        refine n_step1 (f := 10) (i := 7) rfl (by kernel_rfl) ?_
        refine n_one (i := 7) rfl fun KN hKN => ?_
        refine l_val wn (rv_i (Roll.step_assoc tier 0 1) (r_lookup 0 (KeyT.int Try.underlying3) (fun _ => Iff.rfl) (nd ([1, 2] : List Int) rfl (by decide)) rfl rfl rfl Try.underlying55 inf3)) rfl ?_
        refine l_nil (hKN _ _ (fun _ h => (h.sel [1, 2] (by decide) rfl)) ?_)
        refine n_run (f := 4) [8, 9, 10, 11, 13, 14] rfl rfl (by kernel_rfl) (by kernel_rfl) (fun _ h => (h.sel [1, 2] (by decide) rfl)) fun KS hKS => ?_
        refine s_val wn (r_neq rfl rfl) rfl ?_
        refine s_val wn (r_move rfl) rfl ?_
        refine s_litf (t := 18) rfl (fun h => h rfl) ?_
        refine s_val (wg rfl rfl rfl) (r_move rfl) rfl ?_
        refine s_val (wg rfl rfl rfl) (r_move rfl) rfl ?_
        refine s_val (wg rfl rfl rfl) (r_move rfl) rfl ?_
        refine s_val (wg rfl rfl rfl) (r_move rfl) rfl ?_
        refine s_end hKS ?_
        refine n_step1 (f := 3) (i := 12) rfl (by kernel_rfl) ?_
        refine n_one (i := 12) rfl fun KN hKN => ?_
        refine l_callF (wg rfl rfl rfl) rfl Try.call29 rfl (fun w1 hM => c_rollWrong _ b tier w1 (hM.sl 2 rfl)) ?_
        refine l_nil (hKN _ _ (fun _ h => (h.sel [1, 2] (by decide) rfl)) ?_)
        refine n_step1 (f := 2) (i := 15) rfl (by kernel_rfl) ?_
        refine n_one (i := 15) rfl fun KN hKN => ?_
        refine l_callF (wg rfl rfl rfl) rfl Try.call30 rfl (fun w1 hM => c_refWrongBuckets _ b tier w1 (hM.sl 2 rfl)) ?_
        refine l_nil (hKN _ _ (fun _ h => (h.sel [1, 2] (by decide) rfl)) ?_)
        refine n_run (f := 0) [16, 17] rfl rfl (by kernel_rfl) (by kernel_rfl) (fun _ h => (h.sel [1, 2] (by decide) rfl)) fun KS hKS => ?_
        refine s_val (wg rfl rfl rfl) (r_neqS (a := (Roll.wrong b tier)) (b := (Roll.wrong b tier)) rfl rfl eqv45) rfl ?_
        refine s_val wn (r_pick rfl rfl) rfl ?_
        refine s_end hKS ?_
        refine n_done (by kernel_rfl) (e_cut hK3 (sc rfl (sc rfl (sc rfl (sc rfl (sc rfl (sc rfl sn)))))) (fun _ h => (h.sel [1, 2] (by decide) rfl)))
      ·
        refine n_one (i := 4) rfl fun KN hKN => ?_
        refine l_insert 0 (KeyT.int Try.underlying3) ([] : List (Nat × Int × Int)) 0 2 60 wn rfl rfl rfl rfl Try.underlying55 (by simp) ?_
        refine l_nil (hKN _ _ (fun _ h => (h.sel [1, 2] (by decide) rfl)) ?_)
        refine n_step1 (f := 12) (i := 3) rfl (by kernel_rfl) ?_
        refine n_one (i := 3) rfl fun KN hKN => ?_
        refine l_insert 0 (KeyT.int Try.underlying3) ([(0, 2, 60)] : List (Nat × Int × Int)) 1 1 10 wn rfl rfl rfl rfl Try.underlying55 (by simp) ?_
        refine l_nil (hKN _ _ (fun _ h => (h.sel [1, 2] (by decide) rfl)) ?_)
        refine n_run (f := 11) [5] rfl rfl (by kernel_rfl) (by kernel_rfl) (fun _ h => (h.sel [1, 2] (by decide) rfl)) fun KS hKS => ?_
        refine s_val wn (r_move rfl) rfl ?_
        refine s_end hKS ?_
        refine n_step1 (f := 10) (i := 7) rfl (by kernel_rfl) ?_
        refine n_one (i := 7) rfl fun KN hKN => ?_
        refine l_val wn (rv_i (Roll.step_assoc' tier 0 1) (r_lookup 0 (KeyT.int Try.underlying3) (fun _ => Iff.rfl) (nd ([2, 1] : List Int) rfl (by decide)) rfl rfl rfl Try.underlying55 inf3)) rfl ?_
        refine l_nil (hKN _ _ (fun _ h => (h.sel [1, 2] (by decide) rfl)) ?_)
        refine n_run (f := 4) [8, 9, 10, 11, 13, 14] rfl rfl (by kernel_rfl) (by kernel_rfl) (fun _ h => (h.sel [1, 2] (by decide) rfl)) fun KS hKS => ?_
        refine s_val wn (r_neq rfl rfl) rfl ?_
        refine s_val wn (r_move rfl) rfl ?_
        refine s_litf (t := 18) rfl (fun h => h rfl) ?_
        refine s_val (wg rfl rfl rfl) (r_move rfl) rfl ?_
        refine s_val (wg rfl rfl rfl) (r_move rfl) rfl ?_
        refine s_val (wg rfl rfl rfl) (r_move rfl) rfl ?_
        refine s_val (wg rfl rfl rfl) (r_move rfl) rfl ?_
        refine s_end hKS ?_
        refine n_step1 (f := 3) (i := 12) rfl (by kernel_rfl) ?_
        refine n_one (i := 12) rfl fun KN hKN => ?_
        refine l_callF (wg rfl rfl rfl) rfl Try.call29 rfl (fun w1 hM => c_rollWrong _ b tier w1 (hM.sl 2 rfl)) ?_
        refine l_nil (hKN _ _ (fun _ h => (h.sel [1, 2] (by decide) rfl)) ?_)
        refine n_step1 (f := 2) (i := 15) rfl (by kernel_rfl) ?_
        refine n_one (i := 15) rfl fun KN hKN => ?_
        refine l_callF (wg rfl rfl rfl) rfl Try.call30 rfl (fun w1 hM => c_refWrongBuckets _ b tier w1 (hM.sl 2 rfl)) ?_
        refine l_nil (hKN _ _ (fun _ h => (h.sel [1, 2] (by decide) rfl)) ?_)
        refine n_run (f := 0) [16, 17] rfl rfl (by kernel_rfl) (by kernel_rfl) (fun _ h => (h.sel [1, 2] (by decide) rfl)) fun KS hKS => ?_
        refine s_val (wg rfl rfl rfl) (r_neqS (a := (Roll.wrong b tier)) (b := (Roll.wrong b tier)) rfl rfl eqv45) rfl ?_
        refine s_val wn (r_pick rfl rfl) rfl ?_
        refine s_end hKS ?_
        refine n_done (by kernel_rfl) (e_cut hK3 (sc rfl (sc rfl (sc rfl (sc rfl (sc rfl (sc rfl sn)))))) (fun _ h => (h.sel [1, 2] (by decide) rfl)))
    ·
      refine n_one (i := 2) rfl fun KN hKN => ?_
      refine l_makeMap wn rfl fun b13 => ?_
      refine l_nil (hKN _ _ (fun _ h => (h.sel [1, 2] (by decide) rfl)) ?_)
      refine n_step3 (f := 14) (i := 1) (j := 3) (k := 4) rfl (by kernel_rfl) ?_ ?_ ?_
      ·
        refine n_one (i := 1) rfl fun KN hKN => ?_
        refine l_callF wn rfl Try.call28 rfl (fun w1 hM => c_Step tier w1) ?_
        refine l_nil (hKN _ _ (fun _ h => (h.sel [1, 2] (by decide) rfl)) ?_)
        refine n_step2 (f := 13) (i := 3) (j := 4) rfl (by kernel_rfl) ?_ ?_
        ·
          refine n_one (i := 3) rfl fun KN hKN => ?_
          refine l_insert 0 (KeyT.int Try.underlying3) ([] : List (Nat × Int × Int)) 0 1 10 wn rfl rfl rfl rfl Try.underlying55 (by simp) ?_
          refine l_nil (hKN _ _ (fun _ h => (h.sel [1, 2] (by decide) rfl)) ?_)
          refine n_step1 (f := 12) (i := 4) rfl (by kernel_rfl) ?_
          refine n_one (i := 4) rfl fun KN hKN => ?_
          refine l_insert 0 (KeyT.int Try.underlying3) ([(0, 1, 10)] : List (Nat × Int × Int)) 1 2 60 wn rfl rfl rfl rfl Try.underlying55 (by simp) ?_
          refine l_nil (hKN _ _ (fun _ h => (h.sel [1, 2] (by decide) rfl)) ?_)
          refine n_run (f := 11) [5] rfl rfl (by kernel_rfl) (by kernel_rfl) (fun _ h => (h.sel [1, 2] (by decide) rfl)) fun KS hKS => ?_
          refine s_val wn (r_move rfl) rfl ?_
          refine s_end hKS ?_
          refine n_step1 (f := 10) (i := 7) rfl (by kernel_rfl) ?_
          refine n_one (i := 7) rfl fun KN hKN => ?_
          refine l_val wn (rv_i (Roll.step_assoc tier 0 1) (r_lookup 0 (KeyT.int Try.underlying3) (fun _ => Iff.rfl) (nd ([1, 2] : List Int) rfl (by decide)) rfl rfl rfl Try.underlying55 inf3)) rfl ?_
          refine l_nil (hKN _ _ (fun _ h => (h.sel [1, 2] (by decide) rfl)) ?_)
          refine n_run (f := 4) [8, 9, 10, 11, 13, 14] rfl rfl (by kernel_rfl) (by kernel_rfl) (fun _ h => (h.sel [1, 2] (by decide) rfl)) fun KS hKS => ?_
          refine s_val wn (r_neq rfl rfl) rfl ?_
          refine s_val wn (r_move rfl) rfl ?_
          refine s_litf (t := 18) rfl (fun h => h rfl) ?_
          refine s_val (wg rfl rfl rfl) (r_move rfl) rfl ?_
          refine s_val (wg rfl rfl rfl) (r_move rfl) rfl ?_
          refine s_val (wg rfl rfl rfl) (r_move rfl) rfl ?_
          refine s_val (wg rfl rfl rfl) (r_move rfl) rfl ?_
          refine s_end hKS ?_
          refine n_step1 (f := 3) (i := 12) rfl (by kernel_rfl) ?_
          refine n_one (i := 12) rfl fun KN hKN => ?_
          refine l_callF (wg rfl rfl rfl) rfl Try.call29 rfl (fun w1 hM => c_rollWrong _ b tier w1 (hM.sl 2 rfl)) ?_
          refine l_nil (hKN _ _ (fun _ h => (h.sel [1, 2] (by decide) rfl)) ?_)
          refine n_step1 (f := 2) (i := 15) rfl (by kernel_rfl) ?_
          refine n_one (i := 15) rfl fun KN hKN => ?_
          refine l_callF (wg rfl rfl rfl) rfl Try.call30 rfl (fun w1 hM => c_refWrongBuckets _ b tier w1 (hM.sl 2 rfl)) ?_
          refine l_nil (hKN _ _ (fun _ h => (h.sel [1, 2] (by decide) rfl)) ?_)
          refine n_run (f := 0) [16, 17] rfl rfl (by kernel_rfl) (by kernel_rfl) (fun _ h => (h.sel [1, 2] (by decide) rfl)) fun KS hKS => ?_
          refine s_val (wg rfl rfl rfl) (r_neqS (a := (Roll.wrong b tier)) (b := (Roll.wrong b tier)) rfl rfl eqv45) rfl ?_
          refine s_val wn (r_pick rfl rfl) rfl ?_
          refine s_end hKS ?_
          refine n_done (by kernel_rfl) (e_cut hK3 (sc rfl (sc rfl (sc rfl (sc rfl (sc rfl (sc rfl sn)))))) (fun _ h => (h.sel [1, 2] (by decide) rfl)))
        ·
          refine n_one (i := 4) rfl fun KN hKN => ?_
          refine l_insert 0 (KeyT.int Try.underlying3) ([] : List (Nat × Int × Int)) 0 2 60 wn rfl rfl rfl rfl Try.underlying55 (by simp) ?_
          refine l_nil (hKN _ _ (fun _ h => (h.sel [1, 2] (by decide) rfl)) ?_)
          refine n_step1 (f := 12) (i := 3) rfl (by kernel_rfl) ?_
          refine n_one (i := 3) rfl fun KN hKN => ?_
          refine l_insert 0 (KeyT.int Try.underlying3) ([(0, 2, 60)] : List (Nat × Int × Int)) 1 1 10 wn rfl rfl rfl rfl Try.underlying55 (by simp) ?_
          refine l_nil (hKN _ _ (fun _ h => (h.sel [1, 2] (by decide) rfl)) ?_)
          refine n_run (f := 11) [5] rfl rfl (by kernel_rfl) (by kernel_rfl) (fun _ h => (h.sel [1, 2] (by decide) rfl)) fun KS hKS => ?_
          refine s_val wn (r_move rfl) rfl ?_
          refine s_end hKS ?_
          refine n_step1 (f := 10) (i := 7) rfl (by kernel_rfl) ?_
          refine n_one (i := 7) rfl fun KN hKN => ?_
          refine l_val wn (rv_i (Roll.step_assoc' tier 0 1) (r_lookup 0 (KeyT.int Try.underlying3) (fun _ => Iff.rfl) (nd ([2, 1] : List Int) rfl (by decide)) rfl rfl rfl Try.underlying55 inf3)) rfl ?_
          refine l_nil (hKN _ _ (fun _ h => (h.sel [1, 2] (by decide) rfl)) ?_)
          refine n_run (f := 4) [8, 9, 10, 11, 13, 14] rfl rfl (by kernel_rfl) (by kernel_rfl) (fun _ h => (h.sel [1, 2] (by decide) rfl)) fun KS hKS => ?_
          refine s_val wn (r_neq rfl rfl) rfl ?_
          refine s_val wn (r_move rfl) rfl ?_
          refine s_litf (t := 18) rfl (fun h => h rfl) ?_
          refine s_val (wg rfl rfl rfl) (r_move rfl) rfl ?_
          refine s_val (wg rfl rfl rfl) (r_move rfl) rfl ?_
          refine s_val (wg rfl rfl rfl) (r_move rfl) rfl ?_
          refine s_val (wg rfl rfl rfl) (r_move rfl) rfl ?_
          refine s_end hKS ?_
          refine n_step1 (f := 3) (i := 12) rfl (by kernel_rfl) ?_
          refine n_one (i := 12) rfl fun KN hKN => ?_
          refine l_callF (wg rfl rfl rfl) rfl Try.call29 rfl (fun w1 hM => c_rollWrong _ b tier w1 (hM.sl 2 rfl)) ?_
          refine l_nil (hKN _ _ (fun _ h => (h.sel [1, 2] (by decide) rfl)) ?_)
          refine n_step1 (f := 2) (i := 15) rfl (by kernel_rfl) ?_
          refine n_one (i := 15) rfl fun KN hKN => ?_
          refine l_callF (wg rfl rfl rfl) rfl Try.call30 rfl (fun w1 hM => c_refWrongBuckets _ b tier w1 (hM.sl 2 rfl)) ?_
          refine l_nil (hKN _ _ (fun _ h => (h.sel [1, 2] (by decide) rfl)) ?_)
          refine n_run (f := 0) [16, 17] rfl rfl (by kernel_rfl) (by kernel_rfl) (fun _ h => (h.sel [1, 2] (by decide) rfl)) fun KS hKS => ?_
          refine s_val (wg rfl rfl rfl) (r_neqS (a := (Roll.wrong b tier)) (b := (Roll.wrong b tier)) rfl rfl eqv45) rfl ?_
          refine s_val wn (r_pick rfl rfl) rfl ?_
          refine s_end hKS ?_
          refine n_done (by kernel_rfl) (e_cut hK3 (sc rfl (sc rfl (sc rfl (sc rfl (sc rfl (sc rfl sn)))))) (fun _ h => (h.sel [1, 2] (by decide) rfl)))
      ·
        refine n_one (i := 3) rfl fun KN hKN => ?_
        refine l_insert 0 (KeyT.int Try.underlying3) ([] : List (Nat × Int × Int)) 0 1 10 wn rfl rfl rfl rfl Try.underlying55 (by simp) ?_
        refine l_nil (hKN _ _ (fun _ h => (h.sel [1, 2] (by decide) rfl)) ?_)
        refine n_step2 (f := 13) (i := 1) (j := 4) rfl (by kernel_rfl) ?_ ?_
        ·
          refine n_one (i := 1) rfl fun KN hKN => ?_
          refine l_callF wn rfl Try.call28 rfl (fun w1 hM => c_Step tier w1) ?_
          refine l_nil (hKN _ _ (fun _ h => (h.sel [1, 2] (by decide) rfl)) ?_)
          refine n_step1 (f := 12) (i := 4) rfl (by kernel_rfl) ?_
          refine n_one (i := 4) rfl fun KN hKN => ?_
          refine l_insert 0 (KeyT.int Try.underlying3) ([(0, 1, 10)] : List (Nat × Int × Int)) 1 2 60 wn rfl rfl rfl rfl Try.underlying55 (by simp) ?_
          refine l_nil (hKN _ _ (fun _ h => (h.sel [1, 2] (by decide) rfl)) ?_)
          refine n_run (f := 11) [5] rfl rfl (by kernel_rfl) (by kernel_rfl) (fun _ h => (h.sel [1, 2] (by decide) rfl)) fun KS hKS => ?_
          refine s_val wn (r_move rfl) rfl ?_
          refine s_end hKS ?_
          refine n_step1 (f := 10) (i := 7) rfl (by kernel_rfl) ?_
          refine n_one (i := 7) rfl fun KN hKN => ?_
          refine l_val wn (rv_i (Roll.step_assoc tier 0 1) (r_lookup 0 (KeyT.int Try.underlying3) (fun _ => Iff.rfl) (nd ([1, 2] : List Int) rfl (by decide)) rfl rfl rfl Try.underlying55 inf3)) rfl ?_
          refine l_nil (hKN _ _ (fun _ h => (h.sel [1, 2] (by decide) rfl)) ?_)
          refine n_run (f := 4) [8, 9, 10, 11, 13, 14] rfl rfl (by kernel_rfl) (by kernel_rfl) (fun _ h => (h.sel [1, 2] (by decide) rfl)) fun KS hKS => ?_
          refine s_val wn (r_neq rfl rfl) rfl ?_
          refine s_val wn (r_move rfl) rfl ?_
          refine s_litf (t := 18) rfl (fun h => h rfl) ?_
          refine s_val (wg rfl rfl rfl) (r_move rfl) rfl ?_
          refine s_val (wg rfl rfl rfl) (r_move rfl) rfl ?_
          refine s_val (wg rfl rfl rfl) (r_move rfl) rfl ?_
          refine s_val (wg rfl rfl rfl) (r_move rfl) rfl ?_
          refine s_end hKS ?_
          refine n_step1 (f := 3) (i := 12) rfl (by kernel_rfl) ?_
          refine n_one (i := 12) rfl fun KN hKN => ?_
          refine l_callF (wg rfl rfl rfl) rfl Try.call29 rfl (fun w1 hM => c_rollWrong _ b tier w1 (hM.sl 2 rfl)) ?_
          refine l_nil (hKN _ _ (fun _ h => (h.sel [1, 2] (by decide) rfl)) ?_)
          refine n_step1 (f := 2) (i := 15) rfl (by kernel_rfl) ?_
          refine n_one (i := 15) rfl fun KN hKN => ?_
          refine l_callF (wg rfl rfl rfl) rfl Try.call30 rfl (fun w1 hM => c_refWrongBuckets _ b tier w1 (hM.sl 2 rfl)) ?_
          refine l_nil (hKN _ _ (fun _ h => (h.sel [1, 2] (by decide) rfl)) ?_)
          refine n_run (f := 0) [16, 17] rfl rfl (by kernel_rfl) (by kernel_rfl) (fun _ h => (h.sel [1, 2] (by decide) rfl)) fun KS hKS => ?_
          refine s_val (wg rfl rfl rfl) (r_neqS (a := (Roll.wrong b tier)) (b := (Roll.wrong b tier)) rfl rfl eqv45) rfl ?_
          refine s_val wn (r_pick rfl rfl) rfl ?_
          refine s_end hKS ?_
          refine n_done (by kernel_rfl) (e_cut hK3 (sc rfl (sc rfl (sc rfl (sc rfl (sc rfl (sc rfl sn)))))) (fun _ h => (h.sel [1, 2] (by decide) rfl)))
        ·
          refine n_one (i := 4) rfl fun KN hKN => ?_
          refine l_insert 0 (KeyT.int Try.underlying3) ([(0, 1, 10)] : List (Nat × Int × Int)) 1 2 60 wn rfl rfl rfl rfl Try.underlying55 (by simp) ?_
          refine l_nil (hKN _ _ (fun _ h => (h.sel [1, 2] (by decide) rfl)) ?_)
          refine n_run (f := 12) [5] rfl rfl (by kernel_rfl) (by kernel_rfl) (fun _ h => (h.sel [1, 2] (by decide) rfl)) fun KS hKS => ?_
          refine s_val wn (r_move rfl) rfl ?_
          refine s_end hKS ?_
          refine n_step2 (f := 11) (i := 1) (j := 7) rfl (by kernel_rfl) ?_ ?_
          ·
            refine n_one (i := 1) rfl fun KN hKN => ?_
            refine l_callF wn rfl Try.call28 rfl (fun w1 hM => c_Step tier w1) ?_
            refine l_nil (hKN _ _ (fun _ h => (h.sel [1, 2] (by decide) rfl)) ?_)
            refine n_step1 (f := 10) (i := 7) rfl (by kernel_rfl) ?_
            refine n_one (i := 7) rfl fun KN hKN => ?_
            refine l_val wn (rv_i (Roll.step_assoc tier 0 1) (r_lookup 0 (KeyT.int Try.underlying3) (fun _ => Iff.rfl) (nd ([1, 2] : List Int) rfl (by decide)) rfl rfl rfl Try.underlying55 inf3)) rfl ?_
            refine l_nil (hKN _ _ (fun _ h => (h.sel [1, 2] (by decide) rfl)) ?_)
            refine n_run (f := 4) [8, 9, 10, 11, 13, 14] rfl rfl (by kernel_rfl) (by kernel_rfl) (fun _ h => (h.sel [1, 2] (by decide) rfl)) fun KS hKS => ?_
            refine s_val wn (r_neq rfl rfl) rfl ?_
            refine s_val wn (r_move rfl) rfl ?_
            refine s_litf (t := 18) rfl (fun h => h rfl) ?_
            refine s_val (wg rfl rfl rfl) (r_move rfl) rfl ?_
            refine s_val (wg rfl rfl rfl) (r_move rfl) rfl ?_
            refine s_val (wg rfl rfl rfl) (r_move rfl) rfl ?_
            refine s_val (wg rfl rfl rfl) (r_move rfl) rfl ?_
            refine s_end hKS ?_
            refine n_step1 (f := 3) (i := 12) rfl (by kernel_rfl) ?_
            refine n_one (i := 12) rfl fun KN hKN => ?_
            refine l_callF (wg rfl rfl rfl) rfl Try.call29 rfl (fun w1 hM => c_rollWrong _ b tier w1 (hM.sl 2 rfl)) ?_
            refine l_nil (hKN _ _ (fun _ h => (h.sel [1, 2] (by decide) rfl)) ?_)
            refine n_step1 (f := 2) (i := 15) rfl (by kernel_rfl) ?_
            refine n_one (i := 15) rfl fun KN hKN => ?_
            refine l_callF (wg rfl rfl rfl) rfl Try.call30 rfl (fun w1 hM => c_refWrongBuckets _ b tier w1 (hM.sl 2 rfl)) ?_
            refine l_nil (hKN _ _ (fun _ h => (h.sel [1, 2] (by decide) rfl)) ?_)
            refine n_run (f := 0) [16, 17] rfl rfl (by kernel_rfl) (by kernel_rfl) (fun _ h => (h.sel [1, 2] (by decide) rfl)) fun KS hKS => ?_
            refine s_val (wg rfl rfl rfl) (r_neqS (a := (Roll.wrong b tier)) (b := (Roll.wrong b tier)) rfl rfl eqv45) rfl ?_
            refine s_val wn (r_pick rfl rfl) rfl ?_
            refine s_end hKS ?_
            refine n_done (by kernel_rfl) (e_cut hK3 (sc rfl (sc rfl (sc rfl (sc rfl (sc rfl (sc rfl sn)))))) (fun _ h => (h.sel [1, 2] (by decide) rfl)))
          ·
            refine n_one (i := 7) rfl fun KN hKN => ?_
            refine l_val wn (rv_i (Roll.step_assoc tier 0 1) (r_lookup 0 (KeyT.int Try.underlying3) (fun _ => Iff.rfl) (nd ([1, 2] : List Int) rfl (by decide)) rfl rfl rfl Try.underlying55 inf3)) rfl ?_
            refine l_nil (hKN _ _ (fun _ h => (h.sel [1, 2] (by decide) rfl)) ?_)
            refine n_step1 (f := 10) (i := 1) rfl (by kernel_rfl) ?_
            refine n_one (i := 1) rfl fun KN hKN => ?_
            refine l_callF wn rfl Try.call28 rfl (fun w1 hM => c_Step tier w1) ?_
            refine l_nil (hKN _ _ (fun _ h => (h.sel [1, 2] (by decide) rfl)) ?_)
            refine n_run (f := 4) [8, 9, 10, 11, 13, 14] rfl rfl (by kernel_rfl) (by kernel_rfl) (fun _ h => (h.sel [1, 2] (by decide) rfl)) fun KS hKS => ?_
            refine s_val wn (r_neq rfl rfl) rfl ?_
            refine s_val wn (r_move rfl) rfl ?_
            refine s_litf (t := 18) rfl (fun h => h rfl) ?_
            refine s_val (wg rfl rfl rfl) (r_move rfl) rfl ?_
            refine s_val (wg rfl rfl rfl) (r_move rfl) rfl ?_
            refine s_val (wg rfl rfl rfl) (r_move rfl) rfl ?_
            refine s_val (wg rfl rfl rfl) (r_move rfl) rfl ?_
            refine s_end hKS ?_
            refine n_step1 (f := 3) (i := 12) rfl (by kernel_rfl) ?_
            refine n_one (i := 12) rfl fun KN hKN => ?_
            refine l_callF (wg rfl rfl rfl) rfl Try.call29 rfl (fun w1 hM => c_rollWrong _ b tier w1 (hM.sl 2 rfl)) ?_
            refine l_nil (hKN _ _ (fun _ h => (h.sel [1, 2] (by decide) rfl)) ?_)
            refine n_step1 (f := 2) (i := 15) rfl (by kernel_rfl) ?_
            refine n_one (i := 15) rfl fun KN hKN => ?_
            refine l_callF (wg rfl rfl rfl) rfl Try.call30 rfl (fun w1 hM => c_refWrongBuckets _ b tier w1 (hM.sl 2 rfl)) ?_
            refine l_nil (hKN _ _ (fun _ h => (h.sel [1, 2] (by decide) rfl)) ?_)
            refine n_run (f := 0) [16, 17] rfl rfl (by kernel_rfl) (by kernel_rfl) (fun _ h => (h.sel [1, 2] (by decide) rfl)) fun KS hKS => ?_
            refine s_val (wg rfl rfl rfl) (r_neqS (a := (Roll.wrong b tier)) (b := (Roll.wrong b tier)) rfl rfl eqv45) rfl ?_
            refine s_val wn (r_pick rfl rfl) rfl ?_
            refine s_end hKS ?_
            refine n_done (by kernel_rfl) (e_cut hK3 (sc rfl (sc rfl (sc rfl (sc rfl (sc rfl (sc rfl sn)))))) (fun _ h => (h.sel [1, 2] (by decide) rfl)))
      ·
        refine n_one (i := 4) rfl fun KN hKN => ?_
        refine l_insert 0 (KeyT.int Try.underlying3) ([] : List (Nat × Int × Int)) 0 2 60 wn rfl rfl rfl rfl Try.underlying55 (by simp) ?_
        refine l_nil (hKN _ _ (fun _ h => (h.sel [1, 2] (by decide) rfl)) ?_)
        refine n_step2 (f := 13) (i := 1) (j := 3) rfl (by kernel_rfl) ?_ ?_
        ·
          refine n_one (i := 1) rfl fun KN hKN => ?_
          refine l_callF wn rfl Try.call28 rfl (fun w1 hM => c_Step tier w1) ?_
          refine l_nil (hKN _ _ (fun _ h => (h.sel [1, 2] (by decide) rfl)) ?_)
          refine n_step1 (f := 12) (i := 3) rfl (by kernel_rfl) ?_
          refine n_one (i := 3) rfl fun KN hKN => ?_
          refine l_insert 0 (KeyT.int Try.underlying3) ([(0, 2, 60)] : List (Nat × Int × Int)) 1 1 10 wn rfl rfl rfl rfl Try.underlying55 (by simp) ?_
          refine l_nil (hKN _ _ (fun _ h => (h.sel [1, 2] (by decide) rfl)) ?_)
          refine n_run (f := 11) [5] rfl rfl (by kernel_rfl) (by kernel_rfl) (fun _ h => (h.sel [1, 2] (by decide) rfl)) fun KS hKS => ?_
          refine s_val wn (r_move rfl) rfl ?_
          refine s_end hKS ?_
          refine n_step1 (f := 10) (i := 7) rfl (by kernel_rfl) ?_
          refine n_one (i := 7) rfl fun KN hKN => ?_
          refine l_val wn (rv_i (Roll.step_assoc' tier 0 1) (r_lookup 0 (KeyT.int Try.underlying3) (fun _ => Iff.rfl) (nd ([2, 1] : List Int) rfl (by decide)) rfl rfl rfl Try.underlying55 inf3)) rfl ?_
          refine l_nil (hKN _ _ (fun _ h => (h.sel [1, 2] (by decide) rfl)) ?_)
          refine n_run (f := 4) [8, 9, 10, 11, 13, 14] rfl rfl (by kernel_rfl) (by kernel_rfl) (fun _ h => (h.sel [1, 2] (by decide) rfl)) fun KS hKS => ?_
          refine s_val wn (r_neq rfl rfl) rfl ?_
          refine s_val wn (r_move rfl) rfl ?_
          refine s_litf (t := 18) rfl (fun h => h rfl) ?_
          refine s_val (wg rfl rfl rfl) (r_move rfl) rfl ?_
          refine s_val (wg rfl rfl rfl) (r_move rfl) rfl ?_
          refine s_val (wg rfl rfl rfl) (r_move rfl) rfl ?_
          refine s_val (wg rfl rfl rfl) (r_move rfl) rfl ?_
          refine s_end hKS ?_
          refine n_step1 (f := 3) (i := 12) rfl (by kernel_rfl) ?_
          refine n_one (i := 12) rfl fun KN hKN => ?_
          refine l_callF (wg rfl rfl rfl) rfl Try.call29 rfl (fun w1 hM => c_rollWrong _ b tier w1 (hM.sl 2 rfl)) ?_
          refine l_nil (hKN _ _ (fun _ h => (h.sel [1, 2] (by decide) rfl)) ?_)
          refine n_step1 (f := 2) (i := 15) rfl (by kernel_rfl) ?_
          refine n_one (i := 15) rfl fun KN hKN => ?_
          refine l_callF (wg rfl rfl rfl) rfl Try.call30 rfl (fun w1 hM => c_refWrongBuckets _ b tier w1 (hM.sl 2 rfl)) ?_
          refine l_nil (hKN _ _ (fun _ h => (h.sel [1, 2] (by decide) rfl)) ?_)
          refine n_run (f := 0) [16, 17] rfl rfl (by kernel_rfl) (by kernel_rfl) (fun _ h => (h.sel [1, 2] (by decide) rfl)) fun KS hKS => ?_
          refine s_val (wg rfl rfl rfl) (r_neqS (a := (Roll.wrong b tier)) (b := (Roll.wrong b tier)) rfl rfl eqv45) rfl ?_
          refine s_val wn (r_pick rfl rfl) rfl ?_
          refine s_end hKS ?_
          refine n_done (by kernel_rfl) (e_cut hK3 (sc rfl (sc rfl (sc rfl (sc rfl (sc rfl (sc rfl sn)))))) (fun _ h => (h.sel [1, 2] (by decide) rfl)))
        ·
          refine n_one (i := 3) rfl fun KN hKN => ?_
          refine l_insert 0 (KeyT.int Try.underlying3) ([(0, 2, 60)] : List (Nat × Int × Int)) 1 1 10 wn rfl rfl rfl rfl Try.underlying55 (by simp) ?_
          refine l_nil (hKN _ _ (fun _ h => (h.sel [1, 2] (by decide) rfl)) ?_)
          refine n_run (f := 12) [5] rfl rfl (by kernel_rfl) (by kernel_rfl) (fun _ h => (h.sel [1, 2] (by decide) rfl)) fun KS hKS => ?_
          refine s_val wn (r_move rfl) rfl ?_
          refine s_end hKS ?_
          refine n_step2 (f := 11) (i := 1) (j := 7) rfl (by kernel_rfl) ?_ ?_
          ·
            refine n_one (i := 1) rfl fun KN hKN => ?_
            refine l_callF wn rfl Try.call28 rfl (fun w1 hM => c_Step tier w1) ?_
            refine l_nil (hKN _ _ (fun _ h => (h.sel [1, 2] (by decide) rfl)) ?_)
            refine n_step1 (f := 10) (i := 7) rfl (by kernel_rfl) ?_
            refine n_one (i := 7) rfl fun KN hKN => ?_
            refine l_val wn (rv_i (Roll.step_assoc' tier 0 1) (r_lookup 0 (KeyT.int Try.underlying3) (fun _ => Iff.rfl) (nd ([2, 1] : List Int) rfl (by decide)) rfl rfl rfl Try.underlying55 inf3)) rfl ?_
            refine l_nil (hKN _ _ (fun _ h => (h.sel [1, 2] (by decide) rfl)) ?_)
            refine n_run (f := 4) [8, 9, 10, 11, 13, 14] rfl rfl (by kernel_rfl) (by kernel_rfl) (fun _ h => (h.sel [1, 2] (by decide) rfl)) fun KS hKS => ?_
            refine s_val wn (r_neq rfl rfl) rfl ?_
            refine s_val wn (r_move rfl) rfl ?_
            refine s_litf (t := 18) rfl (fun h => h rfl) ?_
            refine s_val (wg rfl rfl rfl) (r_move rfl) rfl ?_
            refine s_val (wg rfl rfl rfl) (r_move rfl) rfl ?_
            refine s_val (wg rfl rfl rfl) (r_move rfl) rfl ?_
            refine s_val (wg rfl rfl rfl) (r_move rfl) rfl ?_
            refine s_end hKS ?_
            refine n_step1 (f := 3) (i := 12) rfl (by kernel_rfl) ?_
            refine n_one (i := 12) rfl fun KN hKN => ?_
            refine l_callF (wg rfl rfl rfl) rfl Try.call29 rfl (fun w1 hM => c_rollWrong _ b tier w1 (hM.sl 2 rfl)) ?_
            refine l_nil (hKN _ _ (fun _ h => (h.sel [1, 2] (by decide) rfl)) ?_)
            refine n_step1 (f := 2) (i := 15) rfl (by kernel_rfl) ?_
            refine n_one (i := 15) rfl fun KN hKN => ?_
            refine l_callF (wg rfl rfl rfl) rfl Try.call30 rfl (fun w1 hM => c_refWrongBuckets _ b tier w1 (hM.sl 2 rfl)) ?_
            refine l_nil (hKN _ _ (fun _ h => (h.sel [1, 2] (by decide) rfl)) ?_)
            refine n_run (f := 0) [16, 17] rfl rfl (by kernel_rfl) (by kernel_rfl) (fun _ h => (h.sel [1, 2] (by decide) rfl)) fun KS hKS => ?_
            refine s_val (wg rfl rfl rfl) (r_neqS (a := (Roll.wrong b tier)) (b := (Roll.wrong b tier)) rfl rfl eqv45) rfl ?_
            refine s_val wn (r_pick rfl rfl) rfl ?_
            refine s_end hKS ?_
            refine n_done (by kernel_rfl) (e_cut hK3 (sc rfl (sc rfl (sc rfl (sc rfl (sc rfl (sc rfl sn)))))) (fun _ h => (h.sel [1, 2] (by decide) rfl)))
          ·
            refine n_one (i := 7) rfl fun KN hKN => ?_
            refine l_val wn (rv_i (Roll.step_assoc' tier 0 1) (r_lookup 0 (KeyT.int Try.underlying3) (fun _ => Iff.rfl) (nd ([2, 1] : List Int) rfl (by decide)) rfl rfl rfl Try.underlying55 inf3)) rfl ?_
            refine l_nil (hKN _ _ (fun _ h => (h.sel [1, 2] (by decide) rfl)) ?_)
            refine n_step1 (f := 10) (i := 1) rfl (by kernel_rfl) ?_
            refine n_one (i := 1) rfl fun KN hKN => ?_
            refine l_callF wn rfl Try.call28 rfl (fun w1 hM => c_Step tier w1) ?_
            refine l_nil (hKN _ _ (fun _ h => (h.sel [1, 2] (by decide) rfl)) ?_)
            refine n_run (f := 4) [8, 9, 10, 11, 13, 14] rfl rfl (by kernel_rfl) (by kernel_rfl) (fun _ h => (h.sel [1, 2] (by decide) rfl)) fun KS hKS => ?_
            refine s_val wn (r_neq rfl rfl) rfl ?_
            refine s_val wn (r_move rfl) rfl ?_
            refine s_litf (t := 18) rfl (fun h => h rfl) ?_
            refine s_val (wg rfl rfl rfl) (r_move rfl) rfl ?_
            refine s_val (wg rfl rfl rfl) (r_move rfl) rfl ?_
            refine s_val (wg rfl rfl rfl) (r_move rfl) rfl ?_
            refine s_val (wg rfl rfl rfl) (r_move rfl) rfl ?_
            refine s_end hKS ?_
            refine n_step1 (f := 3) (i := 12) rfl (by kernel_rfl) ?_
            refine n_one (i := 12) rfl fun KN hKN => ?_
            refine l_callF (wg rfl rfl rfl) rfl Try.call29 rfl (fun w1 hM => c_rollWrong _ b tier w1 (hM.sl 2 rfl)) ?_
            refine l_nil (hKN _ _ (fun _ h => (h.sel [1, 2] (by decide) rfl)) ?_)
            refine n_step1 (f := 2) (i := 15) rfl (by kernel_rfl) ?_
            refine n_one (i := 15) rfl fun KN hKN => ?_
            refine l_callF (wg rfl rfl rfl) rfl Try.call30 rfl (fun w1 hM => c_refWrongBuckets _ b tier w1 (hM.sl 2 rfl)) ?_
            refine l_nil (hKN _ _ (fun _ h => (h.sel [1, 2] (by decide) rfl)) ?_)
            refine n_run (f := 0) [16, 17] rfl rfl (by kernel_rfl) (by kernel_rfl) (fun _ h => (h.sel [1, 2] (by decide) rfl)) fun KS hKS => ?_
            refine s_val (wg rfl rfl rfl) (r_neqS (a := (Roll.wrong b tier)) (b := (Roll.wrong b tier)) rfl rfl eqv45) rfl ?_
            refine s_val wn (r_pick rfl rfl) rfl ?_
            refine s_end hKS ?_
            refine n_done (by kernel_rfl) (e_cut hK3 (sc rfl (sc rfl (sc rfl (sc rfl (sc rfl (sc rfl sn)))))) (fun _ h => (h.sel [1, 2] (by decide) rfl)))
  ·
    refine c_false rfl (decide_eq_false (fun h => h rfl)) ?_
    refine c_skip (e_go hK2 ?_)
    refine c_seq fun K4 hK4 => ?_
    refine c_cut [(0, .slice lA l.length lc), (1, .slice bA b.length bc), (42, .bool (decide (((Roll.wrong b tier).err = 0) ∧ ((Roll.of b frm to) ≠ (Roll.of b frm to)))))] (Mem w no [slO (In w) 2 sampleE (.slice lA l.length lc) l, slO (In w) 8 bucketE (.slice bA b.length bc) b]) (fun K5 hK5 => ?_) ?_
    ·
      refine c_region ?_
      refine l_val wn (r_move rfl) rfl ?_
      refine l_val wn (r_move rfl) rfl ?_
      refine l_callF wn rfl Try.call30 rfl (fun w1 hM => c_refWrongBuckets _ b tier w1 (hM.sl 1 rfl)) ?_
      refine l_val wn (r_fieldv rfl fld45_0 fty45_0 flat43 rfl) rfl ?_
      refine l_val wn (r_eql rfl rfl) rfl ?_
      refine l_val wn (r_move rfl) rfl ?_
      refine l_case (t := 32) rfl (fun h1 => ?_) (fun h1 => ?_)
      ·
        have hlb := (Roll.rightB_of h1).1.len
        refine l_val (wg rfl rfl rfl) (r_move rfl) rfl ?_
        refine l_val (wg rfl rfl rfl) (r_move rfl) rfl ?_
        refine l_val (wg rfl rfl rfl) (r_move rfl) rfl ?_
        refine l_callF (wg rfl rfl rfl) rfl Try.call31 rfl (fun w1 hM => c_rollOf _ b frm to w1 (hM.sl 1 rfl)) ?_
        refine l_val (wg rfl rfl rfl) (r_move rfl) rfl ?_
        refine l_val (wg rfl rfl rfl) (r_move rfl) rfl ?_
        refine l_val (wg rfl rfl rfl) (r_move rfl) rfl ?_
        refine l_callF (wg rfl rfl rfl) rfl Try.call32 rfl (fun w1 hM => c_refIn _ b frm to w1 (hM.sl 1 rfl)) ?_
        refine l_val (wg rfl rfl rfl) (r_neqS (a := (Roll.of b frm to)) (b := (Roll.of b frm to)) rfl rfl eqv24) rfl ?_
        refine l_val wn (r_pick rfl rfl) rfl ?_
        refine l_nil (e_cut hK5 (sc rfl (sc rfl (sc (jp (iff_and_right h1 Iff.rfl)) sn))) (fun _ h => h))
      ·
        refine l_skip (wg rfl rfl rfl) rfl ?_
        refine l_skip (wg rfl rfl rfl) rfl ?_
        refine l_skip (wg rfl rfl rfl) rfl ?_
        refine l_skip (wg rfl rfl rfl) rfl ?_
        refine l_skip (wg rfl rfl rfl) rfl ?_
        refine l_skip (wg rfl rfl rfl) rfl ?_
        refine l_skip (wg rfl rfl rfl) rfl ?_
        refine l_skip (wg rfl rfl rfl) rfl ?_
        refine l_skip (wg rfl rfl rfl) rfl ?_
        refine l_val wn (r_pick rfl rfl) rfl ?_
        refine l_nil (e_cut hK5 (sc rfl (sc rfl (sc (jf (fun g => h1 g.1)) sn))) (fun _ h => h))
    ·
      refine c_cond rfl (fun h2 => ?_) (fun h2 => ?_)
      ·
        refine c_seq fun K6 hK6 => ?_
        refine c_region ?_
        refine l_val wn (r_assign rfl) rfl ?_
        refine l_nil (e_go hK6 ?_)
        refine c_ret (e_then_r (e_ret1 (.inl rfl) Try.results10 (rv_tmp rfl) fun w1 hM => ?_))
        exact absurd h2 (fun g => g.2 rfl)
      ·
        refine c_skip (e_go hK4 ?_)
        refine c_seq fun K7 hK7 => ?_
        refine c_cut [(0, .slice lA l.length lc), (54, .bool (decide (((Roll.wrong b 1).err = 0) ∧ (¬ ((Roll.greater b) = (Roll.greater b))))))] (Mem w no [slO (In w) 2 sampleE (.slice lA l.length lc) l, slO (In w) 8 bucketE (.slice bA b.length bc) b]) (fun K8 hK8 => ?_) ?_
        ·
          refine c_region ?_
          refine l_val wn (r_move rfl) rfl ?_
          refine l_callF wn rfl Try.call30 rfl (fun w1 hM => c_refWrongBuckets _ b 1 w1 (hM.sl 1 rfl)) ?_
          refine l_val wn (r_fieldv rfl fld45_0 fty45_0 flat43 rfl) rfl ?_
          refine l_val wn (r_eql rfl rfl) rfl ?_
          refine l_val wn (r_move rfl) rfl ?_
          refine l_case (t := 47) rfl (fun h3 => ?_) (fun h3 => ?_)
          ·
            have hlb := (Roll.rightB_of h3).1.len
            refine l_val (wg rfl rfl rfl) (r_move rfl) rfl ?_
            refine l_callL (Roll.greater b) (wg rfl rfl rfl) rfl Try.call26 rfl (fun w1 hM => c_Greater _ b w1 (hM.sl 1 rfl) (by first | assumption | omega | (simp only [List.length_cons, List.length_nil]; omega) | exact Nat.le_trans (Roll.up_len _ _) (by first | omega | simp))) fun A1 cp1 hc1 hm1 hA1 => ?_
            refine l_val (wg rfl rfl rfl) (r_move rfl) rfl ?_
            refine l_callL (Roll.greater b) (wg rfl rfl rfl) rfl Try.call33 rfl (fun w1 hM => c_refGreater _ b w1 (hM.sl 2 rfl) (by exact (Roll.rightB_of (by assumption)).1.rises) (by first | assumption | omega | exact Nat.le_trans (Roll.up_len _ _) (by first | omega | simp))) fun A2 cp2 hc2 hm2 hA2 => ?_
            refine l_callF (wg rfl rfl rfl) rfl Try.call25 rfl (fun w1 hM => c_SameBuckets _ (Roll.greater b) _ (Roll.greater b) w1 (RowSl encBucket hM 1 rfl) (RowSl encBucket hM 0 rfl)) ?_
            refine l_val (wg rfl rfl rfl) (r_not rfl) rfl ?_
            refine l_val wn (r_pick rfl rfl) rfl ?_
            refine l_nil (e_cut hK8 (sc rfl (sc (jp (iff_and_right h3 Iff.rfl)) sn)) (fun _ h => (h.sel [2, 3] (by decide) rfl)))
          ·
            refine l_skip (wg rfl rfl rfl) rfl ?_
            refine l_skip (wg rfl rfl rfl) rfl ?_
            refine l_skip (wg rfl rfl rfl) rfl ?_
            refine l_skip (wg rfl rfl rfl) rfl ?_
            refine l_skip (wg rfl rfl rfl) rfl ?_
            refine l_skip (wg rfl rfl rfl) rfl ?_
            refine l_val wn (r_pick rfl rfl) rfl ?_
            refine l_nil (e_cut hK8 (sc rfl (sc (jf (fun g => h3 g.1)) sn)) (fun _ h => h))
        ·
          refine c_cond rfl (fun h4 => ?_) (fun h4 => ?_)
          ·
            refine c_seq fun K9 hK9 => ?_
            refine c_region ?_
            refine l_val wn (r_assign rfl) rfl ?_
            refine l_nil (e_go hK9 ?_)
            refine c_ret (e_then_r (e_ret1 (.inl rfl) Try.results10 (rv_tmp rfl) fun w1 hM => ?_))
            exact absurd h4 (fun g => g.2 rfl)
          ·
            refine c_skip (e_go hK7 ?_)
            refine c_seq fun K10 hK10 => ?_
            refine c_seq fun K11 hK11 => ?_
            refine c_region ?_
            refine l_val wn (r_move rfl) rfl ?_
            refine l_callF wn rfl Try.call34 rfl (fun w1 hM => c_refWrong _ l w1 (hM.sl 0 rfl)) ?_
            refine l_val wn (r_fieldv rfl fld45_0 fty45_0 flat43 rfl) rfl ?_
            refine l_val wn (r_neq rfl rfl) rfl ?_
            refine l_nil (e_go hK11 ?_)
            refine c_cond rfl (fun h5 => ?_) (fun h5 => ?_)
            ·
              refine c_seq fun K12 hK12 => ?_
              refine c_region ?_
              refine l_val wn (r_assign rfl) rfl ?_
              refine l_nil (e_go hK12 ?_)
              refine c_ret (e_then_r (e_ret1 (.inl rfl) Try.results10 (rv_tmp rfl) fun w1 hM => ?_))
              exact ret_ok (by first | rfl | (rw [decide_eq_true]; rfl)) hM
            ·
              have hrt := Codec.right_of (Classical.not_not.1 h5)
              have hr := Roll.rises_of hrt
              have hln := hrt.len
              have HO : ∀ x ∈ l, -9223372036854775808 ≤ x.value ∧ x.value ≤ 9223372036854775807 := fun x hx => by have := hrt.rng x hx; omega
              refine c_skip (e_go hK10 ?_)
              refine c_seq fun K13 hK13 => ?_
              refine c_region ?_
              refine l_val wn (r_move rfl) rfl ?_
              refine l_callL (Roll.up l 1) wn rfl Try.call27 rfl (fun w1 hM => c_Up _ l 1 w1 (hM.sl 0 rfl) (by first | assumption | omega | (simp only [List.length_cons, List.length_nil]; omega) | exact Nat.le_trans (Roll.up_len _ _) (by first | omega | simp))) fun A3 cp3 hc3 hm3 hA3 => ?_
              refine l_val wn (r_move rfl) rfl ?_
              refine l_callL (Roll.up l 1) wn rfl Try.call35 rfl (fun w1 hM => c_refBuckets10 _ l w1 (hM.sl 1 rfl) (by assumption) (by first | assumption | omega | exact Nat.le_trans (Roll.up_len _ _) (by first | omega | simp)) (by assumption)) fun A4 cp4 hc4 hm4 hA4 => ?_
              refine l_callF wn rfl Try.call25 rfl (fun w1 hM => c_SameBuckets _ (Roll.up l 1) _ (Roll.up l 1) w1 (RowSl encBucket hM 1 rfl) (RowSl encBucket hM 0 rfl)) ?_
              refine l_val wn (r_move rfl) rfl ?_
              refine l_litt (t := 64) rfl rfl ?_
              refine l_val (wg rfl rfl rfl) (r_move rfl) rfl ?_
              refine l_callL (Roll.up l 2) (wg rfl rfl rfl) rfl Try.call27 rfl (fun w1 hM => c_Up _ l 2 w1 (hM.sl 2 rfl) (by first | assumption | omega | (simp only [List.length_cons, List.length_nil]; omega) | exact Nat.le_trans (Roll.up_len _ _) (by first | omega | simp))) fun A5 cp5 hc5 hm5 hA5 => ?_
              refine l_val (wg rfl rfl rfl) (r_move rfl) rfl ?_
              refine l_callL (Roll.up l 2) (wg rfl rfl rfl) rfl Try.call35 rfl (fun w1 hM => c_refBuckets60 _ l w1 (hM.sl 3 rfl) (by assumption) (by first | assumption | omega | exact Nat.le_trans (Roll.up_len _ _) (by first | omega | simp)) (by assumption)) fun A6 cp6 hc6 hm6 hA6 => ?_
              refine l_callF (wg rfl rfl rfl) rfl Try.call25 rfl (fun w1 hM => c_SameBuckets _ (Roll.up l 2) _ (Roll.up l 2) w1 (RowSl encBucket hM 1 rfl) (RowSl encBucket hM 0 rfl)) ?_
              refine l_val wn (r_pick rfl rfl) rfl ?_
              refine l_val wn (r_move rfl) rfl ?_
              refine l_litt (t := 71) rfl rfl ?_
              refine l_val (wg rfl rfl rfl) (r_move rfl) rfl ?_
              refine l_callL (Roll.up l 0) (wg rfl rfl rfl) rfl Try.call27 rfl (fun w1 hM => c_Up _ l 0 w1 (hM.sl 4 rfl) (by first | assumption | omega | (simp only [List.length_cons, List.length_nil]; omega) | exact Nat.le_trans (Roll.up_len _ _) (by first | omega | simp))) fun A7 cp7 hc7 hm7 hA7 => ?_
              refine l_val (wg rfl rfl rfl) (r_len rfl Try.underlying48) rfl ?_
              refine l_val (wg rfl rfl rfl) (r_eql rfl rfl) rfl ?_
              refine l_val wn (r_pick rfl rfl) rfl ?_
              refine l_val wn (r_assign rfl) rfl ?_
              refine l_nil (e_go hK13 ?_)
              refine c_ret (e_ret1 (.inl rfl) Try.results10 (rv_tmp rfl) fun w1 hM => ?_)
              exact ret_ok (by first | rfl | (rw [decide_eq_true]; rfl)) hM

end Go.Proofs.Yteogkbpcibnifaa
