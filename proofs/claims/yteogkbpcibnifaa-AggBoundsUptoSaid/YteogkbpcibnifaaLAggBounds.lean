/-
  Walks: what each function hands back.
-/
import Derived.Test.YteogkbpcibnifaaWagg
import Derived.Test.YteogkbpcibnifaaPAgg
namespace Go.Proofs.Yteogkbpcibnifaa
open Ex
set_option linter.unusedVariables false
set_option linter.unusedSimpArgs false
theorem law_AggBounds (lv : Value) (l : List Sample) (w : World) (hl : FlatSl (In w) 2 sampleE lv l w) (b0 : l.length ≤ 1048576) :
    Calls Try.prog 6 #[lv] w (Ret w (.bool true)) := by
  obtain ⟨lA, lc, rfl, hlc, hlm, hlA⟩ := hl.form
  refine fstart (N := 87) (vals := [.slice lA l.length lc]) (S := Mem w no [slO (In w) 2 sampleE (.slice lA l.length lc) l]) Try.func6 rfl rfl rfl (Mem.ofDats (dc (dl hl) dn)) ?_
  refine c_seq fun K1 hK1 => ?_
  refine c_region ?_
  refine l_val wn (r_assign rfl) rfl ?_
  refine l_nil (e_go hK1 ?_)
  refine c_seq fun K2 hK2 => ?_
  refine c_seq fun K3 hK3 => ?_
  refine c_region ?_
  refine l_callF wn rfl Try.call21 rfl (fun w1 hM => c_alive2  w1) ?_
  refine l_val wn (r_notb rfl) rfl ?_
  refine l_nil (e_go hK3 ?_)
  refine c_false rfl rfl ?_
  refine c_skip (e_go hK2 ?_)
  refine c_seq fun K4 hK4 => ?_
  refine c_seq fun K5 hK5 => ?_
  refine c_region ?_
  refine l_val wn (r_move rfl) rfl ?_
  refine l_val wn (r_len rfl Try.underlying22) rfl ?_
  refine l_val wn (r_move rfl) rfl ?_
  refine l_nil (e_go hK5 ?_)
  refine c_block ?_
  refine c_loop1 (fun (k : Nat) => [(0, .slice lA l.length lc), (12, .slice lA l.length lc), (13, .int .i64 (l.length : Int)), (14, .int .i64 (k : Int))]) (fun (k : Nat) => [slO (In w) 2 sampleE (.slice lA l.length lc) l]) (fun (k : Nat) => k ≤ l.length ∧ ∀ x ∈ l.take k, -1000000000 ≤ x.value ∧ x.value ≤ 1000000000) (fun (k : Nat) => l.length - k) 0 (sc rfl (sc rfl (sc rfl (sc (ji (by omega)) sn)))) (fun _ h => h) ?_ (fun k hI1 => ?_)
  · simp
  ·
    refine c_seq fun K6 hK6 => ?_
    refine c_region ?_
    refine l_val wn (r_lss rfl rfl) rfl ?_
    refine l_nil (e_go hK6 ?_)
    refine c_seq fun K7 hK7 => ?_
    refine c_cond rfl (fun h1 => ?_) (fun h1 => ?_)
    ·
      refine c_skip (e_go hK7 ?_)
      refine c_seq fun K8 hK8 => ?_
      refine c_block ?_
      refine c_seq fun K9 hK9 => ?_
      refine c_region ?_
      obtain ⟨ad1, hd1⟩ := hlA (ne_nil (i := k) (by omega))
      refine l_val wn (r_ia (i := k) rfl hd1 rfl (by omega) (by first | omega | (simp only [List.length_cons, List.length_nil, List.length_append, List.length_take, List.length_set]; omega)) Try.underlying22 inf29) rfl ?_
      obtain ⟨s1, hs1⟩ : ∃ x, l[k]? = some x := ⟨_, List.getElem?_eq_getElem (by first | omega | (simp only [List.length_cons, List.length_nil, List.length_append, List.length_take, List.length_set]; omega))⟩
      refine l_val wn (r_eln 0 [.int .i64 s1.time, .int .i64 s1.value] rfl rfl hd1 hs1 rfl rfl agg29 inf29) rfl ?_
      refine l_alloc wn inf29 rfl fun b4 => ?_
      refine l_stn 0 wn rfl rfl rfl inf29 rfl rfl rfl ?_
      refine l_nil (e_go hK9 ?_)
      refine c_cut [(0, .slice lA l.length lc), (12, .slice lA l.length lc), (13, .int .i64 (l.length : Int)), (14, .int .i64 (k : Int)), (25, .bool (decide ((s1.value < (-1000000000)) ∨ (1000000000 < s1.value))))] (Mem w no [.blk b4 [.int .i64 s1.time, .int .i64 s1.value] 29, slO (In w) 2 sampleE (.slice lA l.length lc) l]) (fun K10 hK10 => ?_) ?_
      ·
        refine c_region ?_
        refine l_val wn (r_fa rfl fld29_1) rfl ?_
        refine l_val wn (r_lb 0 rfl rfl rfl flat3) rfl ?_
        refine l_val wn (r_lss rfl rfl) rfl ?_
        refine l_val wn (r_move rfl) rfl ?_
        refine l_case (t := 21) rfl (fun h2 => ?_) (fun h2 => ?_)
        ·
          refine l_skip (wg rfl rfl rfl) rfl ?_
          refine l_skip (wg rfl rfl rfl) rfl ?_
          refine l_skip (wg rfl rfl rfl) rfl ?_
          refine l_val wn (r_pick rfl rfl) rfl ?_
          refine l_nil (e_cut hK10 (sc rfl (sc rfl (sc rfl (sc rfl (sc (jt (Or.inl h2)) sn))))) (fun _ h => h))
        ·
          refine l_val (wg rfl rfl rfl) (r_fa rfl fld29_1) rfl ?_
          refine l_val (wg rfl rfl rfl) (r_lb 0 rfl rfl rfl flat3) rfl ?_
          refine l_val (wg rfl rfl rfl) (r_gtr rfl rfl) rfl ?_
          refine l_val wn (r_pick rfl rfl) rfl ?_
          refine l_nil (e_cut hK10 (sc rfl (sc rfl (sc rfl (sc rfl (sc (jp (iff_or_right h2 Iff.rfl)) sn))))) (fun _ h => h))
      ·
        refine c_cond rfl (fun h3 => ?_) (fun h3 => ?_)
        ·
          refine c_seq fun K11 hK11 => ?_
          refine c_region ?_
          refine l_val wn (r_assign rfl) rfl ?_
          refine l_nil (e_go hK11 ?_)
          refine c_ret (e_in_r (e_then_r (e_loop1_r (e_in_r (e_then_r (e_ret1 (.inl rfl) Try.results6 (rv_tmp rfl) fun w1 hM => ?_))))))
          exact ret_ok rfl hM
        ·
          refine c_skip (e_in_n (e_go hK8 ?_))
          refine c_region ?_
          refine l_val wn (r_addn rfl rfl (by omega)) rfl ?_
          refine l_val wn (r_move rfl) rfl ?_
          refine l_nil (e_round1 (k + 1) (sc rfl (sc rfl (sc rfl (sc (ji (by omega)) sn)))) (fun _ h => (h.sel [1] (by decide) rfl)) ?_ ?_)
          · exact ⟨by omega, all_take hs1 hI1.2 (by omega)⟩
          · omega
    ·
      have hall := all_done hI1.2 (by omega)
      refine c_exit (e_then_x (e_loop1_x (e_in_hit (e_go hK4 ?_))))
      refine c_seq fun K12 hK12 => ?_
      refine c_region ?_
      refine l_val wn (r_move rfl) rfl ?_
      refine l_callF wn rfl Try.call13 rfl (fun w1 hM => c_Of _ l w1 (hM.sl 0 rfl)) ?_
      refine l_alloc wn inf24 rfl fun b5 => ?_
      refine l_stn 0 wn rfl rfl rfl inf24 rfl rfl rfl ?_
      refine l_nil (e_go hK12 ?_)
      refine c_seq fun K13 hK13 => ?_
      refine c_seq fun K14 hK14 => ?_
      refine c_region ?_
      refine l_val wn (r_move rfl) rfl ?_
      refine l_val wn (r_len rfl Try.underlying22) rfl ?_
      refine l_val wn (r_eql rfl rfl) rfl ?_
      refine l_nil (e_go hK14 ?_)
      refine c_cond rfl (fun h4 => ?_) (fun h4 => ?_)
      ·
        refine c_seq fun K15 hK15 => ?_
        refine c_region ?_
        refine l_val wn (r_lbn 0 [.int .i64 ((Agg.of l).count), .int .i64 ((Agg.of l).total), .int .i64 ((Agg.of l).min), .int .i64 ((Agg.of l).max), .int .i64 ((Agg.of l).first), .int .i64 ((Agg.of l).last), .int .i64 ((Agg.of l).rise)] rfl rfl rfl rfl agg24 inf24) rfl ?_
        refine l_val wn (r_build [.int .i64 0, .int .i64 0, .int .i64 0, .int .i64 0, .int .i64 0, .int .i64 0, .int .i64 0] pl24 inf24 rfl rfl) rfl ?_
        refine l_val wn (r_eqlS (a := (Agg.of l)) (b := (⟨0, 0, 0, 0, 0, 0, 0⟩ : Sum)) rfl rfl eqv24) rfl ?_
        refine l_val wn (r_assign rfl) rfl ?_
        refine l_nil (e_go hK15 ?_)
        refine c_ret (e_then_r (e_ret1 (.inl rfl) Try.results6 (rv_tmp rfl) fun w1 hM => ?_))
        exact ret_ok (by rw [List.eq_nil_of_length_eq_zero (by omega : l.length = 0)]; simp [Agg.of_nil]) hM
      ·
        have hne : l ≠ [] := by rintro rfl; simp at h4
        have ht := Agg.total_between hne (by omega) hall
        have hct := (Agg.fits l hne (by omega) hall).count
        refine c_skip (e_go hK13 ?_)
        refine c_seq fun K16 hK16 => ?_
        refine c_seq fun K17 hK17 => ?_
        refine c_region ?_
        refine l_bsL strE ([⟨#[97, 118, 103]⟩, ⟨#[102, 105, 114, 115, 116]⟩, ⟨#[108, 97, 115, 116]⟩] : List ByteArray) wn Try.underlying30 inf9 rfl rfl rfl rfl (by decide) (by decide) rfl fun b35 => ?_
        refine l_val wn (r_len rfl Try.underlying30) rfl ?_
        refine l_val wn (r_move rfl) rfl ?_
        refine l_nil (e_go hK17 ?_)
        refine c_block ?_
        refine c_loop1 (fun (k : Nat) => [(0, .slice lA l.length lc), (5, .pointer (some ⟨b5, 0, none⟩)), (35, .slice (some ⟨b35, 0, none⟩) 3 3), (36, .int .i64 3), (37, .int .i64 (k : Int))]) (fun (k : Nat) => [Row (.slice (some ⟨b35, 0, none⟩) 3 3) 9 1 strE ([⟨#[97, 118, 103]⟩, ⟨#[102, 105, 114, 115, 116]⟩, ⟨#[108, 97, 115, 116]⟩] : List ByteArray), .blk b5 [.int .i64 ((Agg.of l).count), .int .i64 ((Agg.of l).total), .int .i64 ((Agg.of l).min), .int .i64 ((Agg.of l).max), .int .i64 ((Agg.of l).first), .int .i64 ((Agg.of l).last), .int .i64 ((Agg.of l).rise)] 24, slO (In w) 2 sampleE (.slice lA l.length lc) l]) (fun (k : Nat) => k ≤ 3) (fun (k : Nat) => 3 - k) 0 (sc rfl (sc rfl (sc rfl (sc rfl (sc (ji (by omega)) sn))))) (fun _ h => h) ?_ (fun k hI2 => ?_)
        · omega
        ·
          refine c_seq fun K18 hK18 => ?_
          refine c_region ?_
          refine l_val wn (r_lss rfl rfl) rfl ?_
          refine l_nil (e_go hK18 ?_)
          refine c_seq fun K19 hK19 => ?_
          refine c_cond rfl (fun h5 => ?_) (fun h5 => ?_)
          ·
            refine c_skip (e_go hK19 ?_)
            refine c_seq fun K20 hK20 => ?_
            refine c_block ?_
            refine c_seq fun K21 hK21 => ?_
            refine c_region ?_
            refine l_val wn (r_ia (i := k) rfl rfl rfl (by omega) (by first | omega | (simp only [List.length_cons, List.length_nil, List.length_append, List.length_take, List.length_set]; omega)) Try.underlying30 inf9) rfl ?_
            obtain ⟨s2, hs2⟩ : ∃ x, ([⟨#[97, 118, 103]⟩, ⟨#[102, 105, 114, 115, 116]⟩, ⟨#[108, 97, 115, 116]⟩] : List ByteArray)[k]? = some x := ⟨_, List.getElem?_eq_getElem (by first | omega | (simp only [List.length_cons, List.length_nil, List.length_append, List.length_take, List.length_set]; omega))⟩
            have hv := Agg.value_between hne (by omega) hall (List.mem_of_getElem? hs2)
            refine l_val wn (r_rl 0 encString rfl rfl rfl hs2 rfl flat9) rfl ?_
            refine l_val wn (r_assign rfl) rfl ?_
            refine l_nil (e_go hK21 ?_)
            refine c_seq fun K22 hK22 => ?_
            refine c_region ?_
            refine l_val wn (r_move rfl) rfl ?_
            refine l_val wn (r_lbn 1 [.int .i64 ((Agg.of l).count), .int .i64 ((Agg.of l).total), .int .i64 ((Agg.of l).min), .int .i64 ((Agg.of l).max), .int .i64 ((Agg.of l).first), .int .i64 ((Agg.of l).last), .int .i64 ((Agg.of l).rise)] rfl rfl rfl rfl agg24 inf24) rfl ?_
            refine l_callF wn rfl Try.call19 rfl (fun w1 hM => c_Value s2 (Agg.of l) w1) ?_
            refine l_val wn (r_move rfl) rfl ?_
            refine l_val wn (r_extract rfl rfl) rfl ?_
            refine l_val wn (r_extract rfl rfl) rfl ?_
            refine l_val wn (r_assign rfl) rfl ?_
            refine l_val wn (r_assign rfl) rfl ?_
            refine l_nil (e_go hK22 ?_)
            refine c_cut [(0, .slice lA l.length lc), (5, .pointer (some ⟨b5, 0, none⟩)), (35, .slice (some ⟨b35, 0, none⟩) 3 3), (36, .int .i64 3), (37, .int .i64 (k : Int)), (60, .bool (decide (((!(Agg.value s2 (Agg.of l)).2) = true) ∨ (((Agg.value s2 (Agg.of l)).1 < (Agg.of l).min) ∨ ((Agg.of l).max < (Agg.value s2 (Agg.of l)).1)))))] (Mem w no [Row (.slice (some ⟨b35, 0, none⟩) 3 3) 9 1 strE ([⟨#[97, 118, 103]⟩, ⟨#[102, 105, 114, 115, 116]⟩, ⟨#[108, 97, 115, 116]⟩] : List ByteArray), .blk b5 [.int .i64 ((Agg.of l).count), .int .i64 ((Agg.of l).total), .int .i64 ((Agg.of l).min), .int .i64 ((Agg.of l).max), .int .i64 ((Agg.of l).first), .int .i64 ((Agg.of l).last), .int .i64 ((Agg.of l).rise)] 24, slO (In w) 2 sampleE (.slice lA l.length lc) l]) (fun K23 hK23 => ?_) ?_
            ·
              refine c_region ?_
              refine l_val wn (r_move rfl) rfl ?_
              refine l_val wn (r_notb rfl) rfl ?_
              refine l_val wn (r_move rfl) rfl ?_
              refine l_caseb (t := 49) rfl (fun h6 => ?_) (fun h6 => ?_)
              ·
                refine l_skip (wg rfl rfl rfl) rfl ?_
                refine l_skip (wg rfl rfl rfl) rfl ?_
                refine l_skip (wg rfl rfl rfl) rfl ?_
                refine l_skip (wg rfl rfl rfl) rfl ?_
                refine l_val wn (r_pick rfl rfl) rfl ?_
                refine l_val wn (r_move rfl) rfl ?_
                refine l_skip (wg rfl rfl rfl) rfl ?_
                refine l_skip (wg rfl rfl rfl) rfl ?_
                refine l_skip (wg rfl rfl rfl) rfl ?_
                refine l_skip (wg rfl rfl rfl) rfl ?_
                refine l_val wn (r_pick rfl rfl) rfl ?_
                refine l_nil (e_cut hK23 (sc rfl (sc rfl (sc rfl (sc rfl (sc rfl (sc (jt (Or.inl h6)) sn)))))) (fun _ h => h))
              ·
                refine l_val (wg rfl rfl rfl) (r_move rfl) rfl ?_
                refine l_val (wg rfl rfl rfl) (r_fa rfl fld24_2) rfl ?_
                refine l_val (wg rfl rfl rfl) (r_lb 1 rfl rfl rfl flat3) rfl ?_
                refine l_val (wg rfl rfl rfl) (r_lss rfl rfl) rfl ?_
                refine l_val wn (r_pick rfl rfl) rfl ?_
                refine l_val wn (r_move rfl) rfl ?_
                refine l_case (t := 55) rfl (fun h7 => ?_) (fun h7 => ?_)
                ·
                  refine l_skip (wg rfl rfl rfl) rfl ?_
                  refine l_skip (wg rfl rfl rfl) rfl ?_
                  refine l_skip (wg rfl rfl rfl) rfl ?_
                  refine l_skip (wg rfl rfl rfl) rfl ?_
                  refine l_val wn (r_pick rfl rfl) rfl ?_
                  refine l_nil (e_cut hK23 (sc rfl (sc rfl (sc rfl (sc rfl (sc rfl (sc (jt (Or.inr (Or.inl h7))) sn)))))) (fun _ h => h))
                ·
                  refine l_val (wg rfl rfl rfl) (r_move rfl) rfl ?_
                  refine l_val (wg rfl rfl rfl) (r_fa rfl fld24_3) rfl ?_
                  refine l_val (wg rfl rfl rfl) (r_lb 1 rfl rfl rfl flat3) rfl ?_
                  refine l_val (wg rfl rfl rfl) (r_gtr rfl rfl) rfl ?_
                  refine l_val wn (r_pick rfl rfl) rfl ?_
                  refine l_nil (e_cut hK23 (sc rfl (sc rfl (sc rfl (sc rfl (sc rfl (sc (jp (iff_or_right h6 (iff_or_right h7 Iff.rfl))) sn)))))) (fun _ h => h))
            ·
              refine c_cond rfl (fun h8 => ?_) (fun h8 => ?_)
              ·
                refine c_seq fun K24 hK24 => ?_
                refine c_region ?_
                refine l_val wn (r_assign rfl) rfl ?_
                refine l_nil (e_go hK24 ?_)
                refine c_ret (e_in_r (e_then_r (e_loop1_r (e_in_r (e_then_r (e_ret1 (.inl rfl) Try.results6 (rv_tmp rfl) fun w1 hM => ?_))))))
                exact absurd h8 (by simp only [hv.1]; have := hv.2; simp; omega)
              ·
                refine c_skip (e_in_n (e_go hK20 ?_))
                refine c_region ?_
                refine l_val wn (r_addn rfl rfl (by omega)) rfl ?_
                refine l_val wn (r_move rfl) rfl ?_
                refine l_nil (e_round1 (k + 1) (sc rfl (sc rfl (sc rfl (sc rfl (sc (ji (by omega)) sn))))) (fun _ h => h) ?_ ?_)
                · omega
                · omega
          ·
            refine c_exit (e_then_x (e_loop1_x (e_in_hit (e_go hK16 ?_))))
            refine c_seq fun K25 hK25 => ?_
            refine c_region ?_
            refine l_val wn (r_fa rfl fld24_0) rfl ?_
            refine l_val wn (r_lb 1 rfl rfl rfl flat3) rfl ?_
            refine l_val wn (r_move rfl) rfl ?_
            refine l_val wn (r_len rfl Try.underlying22) rfl ?_
            refine l_val wn (r_eql rfl rfl) rfl ?_
            refine l_val wn (r_move rfl) rfl ?_
            refine l_case (t := 67) rfl (fun h9 => ?_) (fun h9 => ?_)
            ·
              refine l_val (wg rfl rfl rfl) (r_fa rfl fld24_1) rfl ?_
              refine l_val (wg rfl rfl rfl) (r_lb 1 rfl rfl rfl flat3) rfl ?_
              refine l_val (wg rfl rfl rfl) (r_fa rfl fld24_2) rfl ?_
              refine l_val (wg rfl rfl rfl) (r_lb 1 rfl rfl rfl flat3) rfl ?_
              refine l_val (wg rfl rfl rfl) (r_fa rfl fld24_0) rfl ?_
              refine l_val (wg rfl rfl rfl) (r_lb 1 rfl rfl rfl flat3) rfl ?_
              refine l_val (wg rfl rfl rfl) (r_mul rfl rfl) rfl ?_
              refine l_val (wg rfl rfl rfl) (r_geq rfl rfl) rfl ?_
              refine l_val wn (r_pick rfl rfl) rfl ?_
              refine l_val wn (r_move rfl) rfl ?_
              refine l_case (t := 77) rfl (fun h10 => ?_) (fun h10 => ?_)
              ·
                refine l_val (wg rfl rfl rfl) (r_fa rfl fld24_1) rfl ?_
                refine l_val (wg rfl rfl rfl) (r_lb 1 rfl rfl rfl flat3) rfl ?_
                refine l_val (wg rfl rfl rfl) (r_fa rfl fld24_3) rfl ?_
                refine l_val (wg rfl rfl rfl) (r_lb 1 rfl rfl rfl flat3) rfl ?_
                refine l_val (wg rfl rfl rfl) (r_fa rfl fld24_0) rfl ?_
                refine l_val (wg rfl rfl rfl) (r_lb 1 rfl rfl rfl flat3) rfl ?_
                refine l_val (wg rfl rfl rfl) (r_mul rfl rfl) rfl ?_
                refine l_val (wg rfl rfl rfl) (r_leq rfl rfl) rfl ?_
                refine l_val wn (r_pick rfl rfl) rfl ?_
                refine l_val wn (r_assign rfl) rfl ?_
                refine l_nil (e_go hK25 ?_)
                refine c_ret (e_ret1 (.inl rfl) Try.results6 (rv_tmp rfl) fun w1 hM => ?_)
                exact ret_ok (by first | exact absurd ht.1 h10 | exact absurd hct h10 | (rw [decide_eq_true ht.2])) hM
              ·
                refine l_skip (wg rfl rfl rfl) rfl ?_
                refine l_skip (wg rfl rfl rfl) rfl ?_
                refine l_skip (wg rfl rfl rfl) rfl ?_
                refine l_skip (wg rfl rfl rfl) rfl ?_
                refine l_skip (wg rfl rfl rfl) rfl ?_
                refine l_skip (wg rfl rfl rfl) rfl ?_
                refine l_skip (wg rfl rfl rfl) rfl ?_
                refine l_skip (wg rfl rfl rfl) rfl ?_
                refine l_val wn (r_pick rfl rfl) rfl ?_
                refine l_val wn (r_assign rfl) rfl ?_
                refine l_nil (e_go hK25 ?_)
                refine c_ret (e_ret1 (.inl rfl) Try.results6 (rv_tmp rfl) fun w1 hM => ?_)
                exact ret_ok (by first | exact absurd ht.1 h10 | exact absurd hct h10 | (rw [decide_eq_true ht.2])) hM
            ·
              refine l_skip (wg rfl rfl rfl) rfl ?_
              refine l_skip (wg rfl rfl rfl) rfl ?_
              refine l_skip (wg rfl rfl rfl) rfl ?_
              refine l_skip (wg rfl rfl rfl) rfl ?_
              refine l_skip (wg rfl rfl rfl) rfl ?_
              refine l_skip (wg rfl rfl rfl) rfl ?_
              refine l_skip (wg rfl rfl rfl) rfl ?_
              refine l_skip (wg rfl rfl rfl) rfl ?_
              refine l_val wn (r_pick rfl rfl) rfl ?_
              refine l_val wn (r_move rfl) rfl ?_
              refine l_skip (wg rfl rfl rfl) rfl ?_
              refine l_skip (wg rfl rfl rfl) rfl ?_
              refine l_skip (wg rfl rfl rfl) rfl ?_
              refine l_skip (wg rfl rfl rfl) rfl ?_
              refine l_skip (wg rfl rfl rfl) rfl ?_
              refine l_skip (wg rfl rfl rfl) rfl ?_
              refine l_skip (wg rfl rfl rfl) rfl ?_
              refine l_skip (wg rfl rfl rfl) rfl ?_
              refine l_val wn (r_pick rfl rfl) rfl ?_
              refine l_val wn (r_assign rfl) rfl ?_
              refine l_nil (e_go hK25 ?_)
              refine c_ret (e_ret1 (.inl rfl) Try.results6 (rv_tmp rfl) fun w1 hM => ?_)
              exact ret_ok (by first | exact absurd ht.1 h9 | exact absurd hct h9 | (rw [decide_eq_true ht.2])) hM

end Go.Proofs.Yteogkbpcibnifaa
