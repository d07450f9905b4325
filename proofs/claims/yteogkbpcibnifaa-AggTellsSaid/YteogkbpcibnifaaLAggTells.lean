/-
  Walks: what each function hands back.
-/
import Derived.Test.YteogkbpcibnifaaWref1
import Derived.Test.YteogkbpcibnifaaRd
import Derived.Test.YteogkbpcibnifaaPAgg
namespace Go.Proofs.Yteogkbpcibnifaa
open Ex
set_option linter.unusedVariables false
set_option linter.unusedSimpArgs false
theorem law_AggTells (lv : Value) (l : List Sample) (a : Sum) (b : Sum) (word : ByteArray) (v : Int) (w : World) (hl : FlatSl (In w) 2 sampleE lv l w) (HO1 : ∀ x ∈ l, okSample x) (_o1 : okSum a) (_o2 : okSum b) (_o3 : okStr word) (HV : ok64 v) :
    Calls Try.prog 3 #[lv, .agg (sumE a).toArray, .agg (sumE b).toArray, .string word, .int .i64 v] w (Ret w (.bool true)) := by
  obtain ⟨lA, lc, rfl, hlc, hlm, hlA⟩ := hl.form
  have HO : ∀ x ∈ l, -9223372036854775808 ≤ x.value ∧ x.value ≤ 9223372036854775807 := fun x hx => (HO1 x hx).2
  refine fstart (N := 84) (vals := [.slice lA l.length lc, .agg (sumE a).toArray, .agg (sumE b).toArray, .string word, .int .i64 v]) (S := Mem w no [slO (In w) 2 sampleE (.slice lA l.length lc) l]) Try.func3 rfl rfl rfl (Mem.ofDats (dc (dl hl) dn)) ?_
  refine c_seq fun K1 hK1 => ?_
  refine c_region ?_
  refine l_box wn rfl rfl fun b6 => ?_
  refine l_box wn rfl rfl fun b7 => ?_
  refine l_val wn (r_assign rfl) rfl ?_
  refine l_nil (e_go hK1 ?_)
  refine c_seq fun K2 hK2 => ?_
  refine c_cut [(3, .string word), (6, .pointer (some ⟨b6, 0, none⟩)), (39, .bool (decide ((Agg.one v) ≠ (Agg.of ([(⟨0, v⟩ : Sample)] : List Sample)))))] (Mem w no [.blk b7 [.int .i64 b.count, .int .i64 b.total, .int .i64 b.min, .int .i64 b.max, .int .i64 b.first, .int .i64 b.last, .int .i64 b.rise] 24, .blk b6 [.int .i64 a.count, .int .i64 a.total, .int .i64 a.min, .int .i64 a.max, .int .i64 a.first, .int .i64 a.last, .int .i64 a.rise] 24, slO (In w) 2 sampleE (.slice lA l.length lc) l]) (fun K3 hK3 => ?_) ?_
  ·
    refine c_nodes (Mem w no [.blk b7 [.int .i64 b.count, .int .i64 b.total, .int .i64 b.min, .int .i64 b.max, .int .i64 b.first, .int .i64 b.last, .int .i64 b.rise] 24, .blk b6 [.int .i64 a.count, .int .i64 a.total, .int .i64 a.min, .int .i64 a.max, .int .i64 a.first, .int .i64 a.last, .int .i64 a.rise] 24, slO (In w) 2 sampleE (.slice lA l.length lc) l]) mix (fun _ h => h.drew) rfl ?_
    refine n_run (f := 21) [0, 2] rfl rfl (by kernel_rfl) (by kernel_rfl) (fun _ h => h) fun KS hKS => ?_
    refine s_val wn (r_move rfl) rfl ?_
    refine s_val wn (r_move rfl) rfl ?_
    refine s_end hKS ?_
    refine n_step1 (f := 20) (i := 1) rfl (by kernel_rfl) ?_
    refine n_one (i := 1) rfl fun KN hKN => ?_
    refine l_callF wn rfl Try.call13 rfl (fun w1 hM => c_Of _ l w1 (hM.sl 2 rfl)) ?_
    refine l_nil (hKN _ _ (fun _ h => h) ?_)
    refine n_step1 (f := 19) (i := 3) rfl (by kernel_rfl) ?_
    refine n_one (i := 3) rfl fun KN hKN => ?_
    refine l_callF wn rfl Try.call14 rfl (fun w1 hM => c_refOf _ l w1 (hM.sl 2 rfl) (by first | omega | (simp only [List.length_cons, List.length_nil]; omega)) (by first | exact HO | (intro x hx; obtain rfl := List.mem_singleton.1 hx; exact HV))) ?_
    refine l_nil (hKN _ _ (fun _ h => h) ?_)
    refine n_run (f := 13) [4, 5, 6, 7, 9, 10] rfl rfl (by kernel_rfl) (by kernel_rfl) (fun _ h => h) fun KS hKS => ?_
    refine s_val wn (r_neqS (a := (Agg.of l)) (b := (Agg.of l)) rfl rfl eqv24) rfl ?_
    refine s_val wn (r_move rfl) rfl ?_
    refine s_litf (t := 22) rfl (fun h => h rfl) ?_
    refine s_val (wg rfl rfl rfl) (r_lbn 1 [.int .i64 a.count, .int .i64 a.total, .int .i64 a.min, .int .i64 a.max, .int .i64 a.first, .int .i64 a.last, .int .i64 a.rise] rfl rfl rfl rfl agg24 inf24) rfl ?_
    refine s_val (wg rfl rfl rfl) (r_lbn 0 [.int .i64 b.count, .int .i64 b.total, .int .i64 b.min, .int .i64 b.max, .int .i64 b.first, .int .i64 b.last, .int .i64 b.rise] rfl rfl rfl rfl agg24 inf24) rfl ?_
    refine s_val (wg rfl rfl rfl) (r_lbn 1 [.int .i64 a.count, .int .i64 a.total, .int .i64 a.min, .int .i64 a.max, .int .i64 a.first, .int .i64 a.last, .int .i64 a.rise] rfl rfl rfl rfl agg24 inf24) rfl ?_
    refine s_val (wg rfl rfl rfl) (r_lbn 0 [.int .i64 b.count, .int .i64 b.total, .int .i64 b.min, .int .i64 b.max, .int .i64 b.first, .int .i64 b.last, .int .i64 b.rise] rfl rfl rfl rfl agg24 inf24) rfl ?_
    refine s_end hKS ?_
    refine n_step1 (f := 12) (i := 8) rfl (by kernel_rfl) ?_
    refine n_one (i := 8) rfl fun KN hKN => ?_
    refine l_callF (wg rfl rfl rfl) rfl Try.call15 rfl (fun w1 hM => c_Join a b w1) ?_
    refine l_nil (hKN _ _ (fun _ h => h) ?_)
    refine n_step1 (f := 11) (i := 11) rfl (by kernel_rfl) ?_
    refine n_one (i := 11) rfl fun KN hKN => ?_
    refine l_callF (wg rfl rfl rfl) rfl Try.call16 rfl (fun w1 hM => c_refJoin a b w1) ?_
    refine l_nil (hKN _ _ (fun _ h => h) ?_)
    refine n_run (f := 5) [12, 13, 14, 15, 17, 18] rfl rfl (by kernel_rfl) (by kernel_rfl) (fun _ h => h) fun KS hKS => ?_
    refine s_val (wg rfl rfl rfl) (r_neqS (a := (Agg.join a b)) (b := (Agg.join a b)) rfl rfl eqv24) rfl ?_
    refine s_val wn (r_pick rfl rfl) rfl ?_
    refine s_val wn (r_move rfl) rfl ?_
    refine s_litf (t := 31) rfl (fun h => h rfl) ?_
    refine s_val (wg rfl rfl rfl) (r_move rfl) rfl ?_
    refine s_val (wg rfl rfl rfl) (r_move rfl) rfl ?_
    refine s_val (wg rfl rfl rfl) (r_build [.int .i64 0, .int .i64 v] pl29 inf29 rfl rfl) rfl ?_
    refine s_end hKS ?_
    refine n_step2 (f := 4) (i := 16) (j := 19) rfl (by kernel_rfl) ?_ ?_
    ·
      refine n_one (i := 16) rfl fun KN hKN => ?_
      refine l_callF (wg rfl rfl rfl) rfl Try.call17 rfl (fun w1 hM => c_One v w1) ?_
      refine l_nil (hKN _ _ (fun _ h => h) ?_)
      refine n_step1 (f := 3) (i := 19) rfl (by kernel_rfl) ?_
      refine n_one (i := 19) rfl fun KN hKN => ?_
      refine l_bsL sampleE ([(⟨0, v⟩ : Sample)] : List Sample) (wg rfl rfl rfl) Try.underlying22 inf29 rfl rfl rfl rfl (by decide) (by decide) rfl fun b36 => ?_
      refine l_nil (hKN _ _ (fun _ h => (h.sel [1, 2, 3] (by decide) rfl)) ?_)
      refine n_step1 (f := 2) (i := 20) rfl (by kernel_rfl) ?_
      refine n_one (i := 20) rfl fun KN hKN => ?_
      refine l_callF (wg rfl rfl rfl) rfl Try.call14 rfl (fun w1 hM => c_refOf _ ([(⟨0, v⟩ : Sample)] : List Sample) w1 (RowSl encSample hM 0 rfl) (by first | omega | (simp only [List.length_cons, List.length_nil]; omega)) (by first | exact HO | (intro x hx; obtain rfl := List.mem_singleton.1 hx; exact HV))) ?_
      refine l_nil (hKN _ _ (fun _ h => (h.sel [1, 2, 3] (by decide) rfl)) ?_)
      refine n_run (f := 0) [21, 22] rfl rfl (by kernel_rfl) (by kernel_rfl) (fun _ h => (h.sel [1, 2, 3] (by decide) rfl)) fun KS hKS => ?_
      refine s_val (wg rfl rfl rfl) (r_neqS (a := (Agg.one v)) (b := (Agg.of ([(⟨0, v⟩ : Sample)] : List Sample))) rfl rfl eqv24) rfl ?_
      refine s_val wn (r_pick rfl rfl) rfl ?_
      refine s_end hKS ?_
      refine n_done (by kernel_rfl) (e_cut hK3 (sc rfl (sc rfl (sc rfl sn))) (fun _ h => (h.sel [1, 2, 3] (by decide) rfl)))
    ·
      refine n_one (i := 19) rfl fun KN hKN => ?_
      refine l_bsL sampleE ([(⟨0, v⟩ : Sample)] : List Sample) (wg rfl rfl rfl) Try.underlying22 inf29 rfl rfl rfl rfl (by decide) (by decide) rfl fun b36 => ?_
      refine l_nil (hKN _ _ (fun _ h => (h.sel [1, 2, 3] (by decide) rfl)) ?_)
      refine n_step1 (f := 3) (i := 16) rfl (by kernel_rfl) ?_
      refine n_one (i := 16) rfl fun KN hKN => ?_
      refine l_callF (wg rfl rfl rfl) rfl Try.call17 rfl (fun w1 hM => c_One v w1) ?_
      refine l_nil (hKN _ _ (fun _ h => (h.sel [1, 2, 3] (by decide) rfl)) ?_)
      refine n_step1 (f := 2) (i := 20) rfl (by kernel_rfl) ?_
      refine n_one (i := 20) rfl fun KN hKN => ?_
      refine l_callF (wg rfl rfl rfl) rfl Try.call14 rfl (fun w1 hM => c_refOf _ ([(⟨0, v⟩ : Sample)] : List Sample) w1 (RowSl encSample hM 0 rfl) (by first | omega | (simp only [List.length_cons, List.length_nil]; omega)) (by first | exact HO | (intro x hx; obtain rfl := List.mem_singleton.1 hx; exact HV))) ?_
      refine l_nil (hKN _ _ (fun _ h => (h.sel [1, 2, 3] (by decide) rfl)) ?_)
      refine n_run (f := 0) [21, 22] rfl rfl (by kernel_rfl) (by kernel_rfl) (fun _ h => (h.sel [1, 2, 3] (by decide) rfl)) fun KS hKS => ?_
      refine s_val (wg rfl rfl rfl) (r_neqS (a := (Agg.one v)) (b := (Agg.of ([(⟨0, v⟩ : Sample)] : List Sample))) rfl rfl eqv24) rfl ?_
      refine s_val wn (r_pick rfl rfl) rfl ?_
      refine s_end hKS ?_
      refine n_done (by kernel_rfl) (e_cut hK3 (sc rfl (sc rfl (sc rfl sn))) (fun _ h => (h.sel [1, 2, 3] (by decide) rfl)))
  ·
    refine c_cond rfl (fun h1 => ?_) (fun h1 => ?_)
    ·
      refine c_seq fun K4 hK4 => ?_
      refine c_region ?_
      refine l_val wn (r_assign rfl) rfl ?_
      refine l_nil (e_go hK4 ?_)
      refine c_ret (e_then_r (e_ret1 (.inl rfl) Try.results3 (rv_tmp rfl) fun w1 hM => ?_))
      exact absurd h1 (by rw [Agg.of_one]; simp)
    ·
      refine c_skip (e_go hK2 ?_)
      refine c_seq fun K5 hK5 => ?_
      refine c_seq fun K6 hK6 => ?_
      refine c_region ?_
      refine l_callL Agg.words wn rfl Try.call18 rfl (fun w1 hM => c_Words  w1) fun A1 cp1 hc1 hm1 hA1 => ?_
      refine l_val wn (r_move rfl) rfl ?_
      refine l_bsL strE ([word] : List ByteArray) wn Try.underlying30 inf9 rfl rfl rfl rfl (by decide) (by decide) rfl fun b42 => ?_
      refine l_app 1 Agg.words ([word] : List ByteArray) encString wn rfl rfl rfl (fun _ hM => (RowSl encString hM 0 rfl)) Try.underlying30 inf9 rfl rfl (by simp only [List.length_append, List.length_cons, List.length_nil, show Agg.words.length = 8 from rfl]; omega) rfl fun A2 cp2 hc2 hm2 hA2 => ?_
      refine l_val wn (r_len rfl Try.underlying30) rfl ?_
      refine l_val wn (r_move rfl) rfl ?_
      refine l_nil (e_go hK6 ?_)
      refine c_block ?_
      refine c_loop1 (fun (k : Nat) => [(6, .pointer (some ⟨b6, 0, none⟩)), (43, .slice A2 ((Agg.words ++ ([word] : List ByteArray)).length) cp2), (44, .int .i64 ((Agg.words ++ ([word] : List ByteArray)).length : Int)), (45, .int .i64 (k : Int))]) (fun (k : Nat) => [Row (.slice (some ⟨b42, 0, none⟩) 1 1) 9 1 strE ([word] : List ByteArray), Row (.slice A2 ((Agg.words ++ ([word] : List ByteArray)).length) cp2) 9 1 strE (Agg.words ++ ([word] : List ByteArray)), .blk b7 [.int .i64 b.count, .int .i64 b.total, .int .i64 b.min, .int .i64 b.max, .int .i64 b.first, .int .i64 b.last, .int .i64 b.rise] 24, .blk b6 [.int .i64 a.count, .int .i64 a.total, .int .i64 a.min, .int .i64 a.max, .int .i64 a.first, .int .i64 a.last, .int .i64 a.rise] 24, slO (In w) 2 sampleE (.slice lA l.length lc) l]) (fun (k : Nat) => k ≤ (Agg.words ++ [word]).length) (fun (k : Nat) => (Agg.words ++ [word]).length - k) 0 (sc rfl (sc rfl (sc rfl (sc (ji (by omega)) sn)))) (fun _ h => h) ?_ (fun k hI1 => ?_)
      · omega
      ·
        refine c_seq fun K7 hK7 => ?_
        refine c_region ?_
        refine l_val wn (r_lss rfl rfl) rfl ?_
        refine l_nil (e_go hK7 ?_)
        refine c_seq fun K8 hK8 => ?_
        refine c_cond rfl (fun h2 => ?_) (fun h2 => ?_)
        ·
          refine c_skip (e_go hK8 ?_)
          refine c_seq fun K9 hK9 => ?_
          refine c_block ?_
          refine c_seq fun K10 hK10 => ?_
          refine c_region ?_
          refine l_val wn (r_move rfl) rfl ?_
          obtain ⟨ad1, hd1⟩ := hA2 (ne_nil (i := k) (by first | omega | decide | (simp only [List.length_cons, List.length_nil, List.length_append, List.length_take, List.length_set]; omega)))
          refine l_val wn (r_ia (i := k) rfl hd1 rfl (by omega) (by first | omega | decide | (simp only [List.length_cons, List.length_nil, List.length_append, List.length_take, List.length_set]; omega)) Try.underlying30 inf9) rfl ?_
          obtain ⟨s1, hs1⟩ : ∃ x, (Agg.words ++ ([word] : List ByteArray))[k]? = some x := ⟨_, List.getElem?_eq_getElem (by first | omega | decide | (simp only [List.length_cons, List.length_nil, List.length_append, List.length_take, List.length_set]; omega))⟩
          refine l_val wn (r_rl 1 encString rfl rfl hd1 hs1 rfl flat9) rfl ?_
          refine l_val wn (r_assign rfl) rfl ?_
          refine l_val wn (r_assign rfl) rfl ?_
          refine l_nil (e_go hK10 ?_)
          refine c_seq fun K11 hK11 => ?_
          refine c_region ?_
          refine l_val wn (r_move rfl) rfl ?_
          refine l_val wn (r_lbn 3 [.int .i64 a.count, .int .i64 a.total, .int .i64 a.min, .int .i64 a.max, .int .i64 a.first, .int .i64 a.last, .int .i64 a.rise] rfl rfl rfl rfl agg24 inf24) rfl ?_
          refine l_callF wn rfl Try.call19 rfl (fun w1 hM => c_Value s1 a w1) ?_
          refine l_val wn (r_move rfl) rfl ?_
          refine l_val wn (r_extract rfl rfl) rfl ?_
          refine l_val wn (r_extract rfl rfl) rfl ?_
          refine l_val wn (r_assign rfl) rfl ?_
          refine l_val wn (r_assign rfl) rfl ?_
          refine l_nil (e_go hK11 ?_)
          refine c_seq fun K12 hK12 => ?_
          refine c_region ?_
          refine l_val wn (r_move rfl) rfl ?_
          refine l_val wn (r_lbn 3 [.int .i64 a.count, .int .i64 a.total, .int .i64 a.min, .int .i64 a.max, .int .i64 a.first, .int .i64 a.last, .int .i64 a.rise] rfl rfl rfl rfl agg24 inf24) rfl ?_
          refine l_callF wn rfl Try.call20 rfl (fun w1 hM => c_refWord s1 a w1) ?_
          refine l_val wn (r_move rfl) rfl ?_
          refine l_val wn (r_extract rfl rfl) rfl ?_
          refine l_val wn (r_extract rfl rfl) rfl ?_
          refine l_val wn (r_assign rfl) rfl ?_
          refine l_val wn (r_assign rfl) rfl ?_
          refine l_nil (e_go hK12 ?_)
          refine c_cut [(6, .pointer (some ⟨b6, 0, none⟩)), (43, .slice A2 ((Agg.words ++ ([word] : List ByteArray)).length) cp2), (44, .int .i64 ((Agg.words ++ ([word] : List ByteArray)).length : Int)), (45, .int .i64 (k : Int)), (82, .bool (decide (((k : Int) < 8) ∧ (((!(Agg.value s1 a).2) = true) ∧ (0 < a.count)))))] (Mem w no [Row (.slice (some ⟨b42, 0, none⟩) 1 1) 9 1 strE ([word] : List ByteArray), Row (.slice A2 ((Agg.words ++ ([word] : List ByteArray)).length) cp2) 9 1 strE (Agg.words ++ ([word] : List ByteArray)), .blk b7 [.int .i64 b.count, .int .i64 b.total, .int .i64 b.min, .int .i64 b.max, .int .i64 b.first, .int .i64 b.last, .int .i64 b.rise] 24, .blk b6 [.int .i64 a.count, .int .i64 a.total, .int .i64 a.min, .int .i64 a.max, .int .i64 a.first, .int .i64 a.last, .int .i64 a.rise] 24, slO (In w) 2 sampleE (.slice lA l.length lc) l]) (fun K13 hK13 => ?_) ?_
          ·
            refine c_region ?_
            refine l_val wn (r_move rfl) rfl ?_
            refine l_val wn (r_move rfl) rfl ?_
            refine l_val wn (r_neq rfl rfl) rfl ?_
            refine l_val wn (r_move rfl) rfl ?_
            refine l_litf (t := 65) rfl (fun h => h rfl) ?_
            refine l_val (wg rfl rfl rfl) (r_move rfl) rfl ?_
            refine l_val (wg rfl rfl rfl) (r_move rfl) rfl ?_
            refine l_val (wg rfl rfl rfl) (r_bneq rfl rfl flat4 Try.underlying4) rfl ?_
            refine l_val wn (r_pick rfl rfl) rfl ?_
            refine l_val wn (r_move rfl) rfl ?_
            refine l_litf (t := 70) rfl (fun h => h rfl) ?_
            refine l_val (wg rfl rfl rfl) (r_move rfl) rfl ?_
            refine l_val (wg rfl rfl rfl) (r_lss rfl rfl) rfl ?_
            refine l_val (wg rfl rfl rfl) (r_move rfl) rfl ?_
            refine l_case (t := 73) rfl (fun h3 => ?_) (fun h3 => ?_)
            ·
              refine l_val (wg rfl rfl rfl) (r_move rfl) rfl ?_
              refine l_val (wg rfl rfl rfl) (r_notb rfl) rfl ?_
              refine l_val (wg rfl rfl rfl) (r_pick rfl rfl) rfl ?_
              refine l_val (wg rfl rfl rfl) (r_move rfl) rfl ?_
              refine l_caseb (t := 77) rfl (fun h4 => ?_) (fun h4 => ?_)
              ·
                refine l_val (wg rfl rfl rfl) (r_fa rfl fld24_0) rfl ?_
                refine l_val (wg rfl rfl rfl) (r_lb 3 rfl rfl rfl flat3) rfl ?_
                refine l_val (wg rfl rfl rfl) (r_gtr rfl rfl) rfl ?_
                refine l_val (wg rfl rfl rfl) (r_pick rfl rfl) rfl ?_
                refine l_val wn (r_pick rfl rfl) rfl ?_
                refine l_nil (e_cut hK13 (sc rfl (sc rfl (sc rfl (sc rfl (sc (jp (iff_and_right h3 (iff_and_right h4 Iff.rfl))) sn))))) (fun _ h => h))
              ·
                refine l_skip (wg rfl rfl rfl) rfl ?_
                refine l_skip (wg rfl rfl rfl) rfl ?_
                refine l_skip (wg rfl rfl rfl) rfl ?_
                refine l_val (wg rfl rfl rfl) (r_pick rfl rfl) rfl ?_
                refine l_val wn (r_pick rfl rfl) rfl ?_
                refine l_nil (e_cut hK13 (sc rfl (sc rfl (sc rfl (sc rfl (sc (jf (fun g => (fun g => h4 g.1) g.2)) sn))))) (fun _ h => h))
            ·
              refine l_skip (wg rfl rfl rfl) rfl ?_
              refine l_skip (wg rfl rfl rfl) rfl ?_
              refine l_val (wg rfl rfl rfl) (r_pick rfl rfl) rfl ?_
              refine l_val (wg rfl rfl rfl) (r_move rfl) rfl ?_
              refine l_skip (wg rfl rfl rfl) rfl ?_
              refine l_skip (wg rfl rfl rfl) rfl ?_
              refine l_skip (wg rfl rfl rfl) rfl ?_
              refine l_val (wg rfl rfl rfl) (r_pick rfl rfl) rfl ?_
              refine l_val wn (r_pick rfl rfl) rfl ?_
              refine l_nil (e_cut hK13 (sc rfl (sc rfl (sc rfl (sc rfl (sc (jf (fun g => h3 g.1)) sn))))) (fun _ h => h))
          ·
            refine c_cond rfl (fun h5 => ?_) (fun h5 => ?_)
            ·
              refine c_seq fun K14 hK14 => ?_
              refine c_region ?_
              refine l_val wn (r_assign rfl) rfl ?_
              refine l_nil (e_go hK14 ?_)
              refine c_ret (e_in_r (e_then_r (e_loop1_r (e_in_r (e_then_r (e_ret1 (.inl rfl) Try.results3 (rv_tmp rfl) fun w1 hM => ?_))))))
              exact absurd h5 (by intro q; simp at q; obtain ⟨q1, q2, q3⟩ := q; rw [Agg.value_words (by omega) hs1 q3] at q2; cases q2)
            ·
              refine c_skip (e_in_n (e_go hK9 ?_))
              refine c_region ?_
              refine l_val wn (r_addn rfl rfl (by omega)) rfl ?_
              refine l_val wn (r_move rfl) rfl ?_
              refine l_nil (e_round1 (k + 1) (sc rfl (sc rfl (sc rfl (sc (ji (by omega)) sn)))) (fun _ h => h) ?_ ?_)
              · omega
              · omega
        ·
          refine c_exit (e_then_x (e_loop1_x (e_in_hit (e_go hK5 ?_))))
          refine c_seq fun K15 hK15 => ?_
          refine c_region ?_
          refine l_val wn (r_assign rfl) rfl ?_
          refine l_nil (e_go hK15 ?_)
          refine c_ret (e_ret1 (.inl rfl) Try.results3 (rv_tmp rfl) fun w1 hM => ?_)
          exact ret_ok rfl hM

end Go.Proofs.Yteogkbpcibnifaa
