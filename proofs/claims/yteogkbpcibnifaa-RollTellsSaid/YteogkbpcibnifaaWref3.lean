/-
  Walks: what each function hands back.
-/
import Derived.Test.YteogkbpcibnifaaWref1
import Derived.Test.YteogkbpcibnifaaWroll
import Derived.Test.YteogkbpcibnifaaWcodec
namespace Go.Proofs.Yteogkbpcibnifaa
open Ex
set_option linter.unusedVariables false
set_option linter.unusedSimpArgs false
theorem c_refWrong (lv : Value) (l : List Sample) (w : World) (hl : FlatSl (In w) 2 sampleE lv l w)  :
    Calls Try.prog 34 #[lv] w (Ret w (.agg (faultE (Codec.wrong l)).toArray)) := by
  obtain ⟨lA, lc, rfl, hlc, hlm, hlA⟩ := hl.form
  refine fstart (N := 53) (vals := [.slice lA l.length lc]) (S := Mem w no [slO (In w) 2 sampleE (.slice lA l.length lc) l]) Try.func34 rfl rfl rfl (Mem.ofDats (dc (dl hl) dn)) ?_
  refine c_seq fun K1 hK1 => ?_
  refine c_region ?_
  refine l_alloc wn inf45 rfl fun b2 => ?_
  refine l_nil (e_go hK1 ?_)
  refine c_seq fun K2 hK2 => ?_
  refine c_seq fun K3 hK3 => ?_
  refine c_region ?_
  refine l_val wn (r_move rfl) rfl ?_
  refine l_val wn (r_len rfl Try.underlying22) rfl ?_
  refine l_val wn (r_gtr rfl rfl) rfl ?_
  refine l_nil (e_go hK3 ?_)
  refine c_cond rfl (fun h1 => ?_) (fun h1 => ?_)
  ·
    refine c_seq fun K4 hK4 => ?_
    refine c_region ?_
    refine l_val wn (r_build [.int .i64 5, .int .i64 0] pl45 inf45 rfl rfl) rfl ?_
    refine l_stn 0 wn rfl rfl rfl inf45 rfl rfl rfl ?_
    refine l_nil (e_go hK4 ?_)
    refine c_ret (e_then_r (e_ret1 (.inl rfl) Try.results34 (rv_cell 0 rfl rfl agg45 inf45 rfl) fun w1 hM => ?_))
    exact ret_agg (l1 := [.int .i64 5, .int .i64 0]) (by rw [Codec.wrong, if_pos (by omega)]) hM
  ·
    refine c_skip (e_go hK2 ?_)
    refine c_seq fun K5 hK5 => ?_
    refine c_seq fun K6 hK6 => ?_
    refine c_region ?_
    refine l_val wn (r_move rfl) rfl ?_
    refine l_val wn (r_len rfl Try.underlying22) rfl ?_
    refine l_val wn (r_move rfl) rfl ?_
    refine l_nil (e_go hK6 ?_)
    refine c_block ?_
    refine c_loop1 (fun (k : Nat) => [(0, .slice lA l.length lc), (2, .pointer (some ⟨b2, 0, none⟩)), (9, .slice lA l.length lc), (10, .int .i64 (l.length : Int)), (11, .int .i64 (k : Int))]) (fun (k : Nat) => [.blk b2 [.int .i64 0, .int .i64 0] 45, slO (In w) 2 sampleE (.slice lA l.length lc) l]) (fun (k : Nat) => k ≤ l.length ∧ Codec.wrongFrom 0 none l = Codec.wrongFrom k (Codec.prevOf l k) (l.drop k)) (fun (k : Nat) => l.length - k) 0 (sc rfl (sc rfl (sc rfl (sc rfl (sc (ji (by omega)) sn))))) (fun _ h => h) ?_ (fun k hI1 => ?_)
    · exact ⟨by omega, Codec.wrong_start l⟩
    ·
      refine c_seq fun K7 hK7 => ?_
      refine c_region ?_
      refine l_val wn (r_lss rfl rfl) rfl ?_
      refine l_nil (e_go hK7 ?_)
      refine c_seq fun K8 hK8 => ?_
      refine c_cond rfl (fun h2 => ?_) (fun h2 => ?_)
      ·
        refine c_skip (e_go hK8 ?_)
        refine c_seq fun K9 hK9 => ?_
        refine c_block ?_
        refine c_seq fun K10 hK10 => ?_
        refine c_region ?_
        refine l_val wn (r_move rfl) rfl ?_
        obtain ⟨ad1, hd1⟩ := hlA (ne_nil (i := k) (by first | omega | decide | (simp only [List.length_cons, List.length_nil, List.length_append, List.length_take, List.length_set]; omega)))
        refine l_val wn (r_ia (i := k) rfl hd1 rfl (by omega) (by first | omega | decide | (simp only [List.length_cons, List.length_nil, List.length_append, List.length_take, List.length_set]; omega)) Try.underlying22 inf29) rfl ?_
        obtain ⟨s1, hs1⟩ : ∃ x, l[k]? = some x := ⟨_, List.getElem?_eq_getElem (by first | omega | decide | (simp only [List.length_cons, List.length_nil, List.length_append, List.length_take, List.length_set]; omega))⟩
        refine l_val wn (r_eln 1 [.int .i64 s1.time, .int .i64 s1.value] rfl rfl hd1 hs1 rfl rfl agg29 inf29) rfl ?_
        refine l_alloc wn inf29 rfl fun b4 => ?_
        refine l_val wn (r_assign rfl) rfl ?_
        refine l_stn 0 wn rfl rfl rfl inf29 rfl rfl rfl ?_
        refine l_nil (e_go hK10 ?_)
        refine c_seq fun K11 hK11 => ?_
        refine c_cut [(0, .slice lA l.length lc), (2, .pointer (some ⟨b2, 0, none⟩)), (3, .int .i64 (k : Int)), (4, .pointer (some ⟨b4, 0, none⟩)), (9, .slice lA l.length lc), (10, .int .i64 (l.length : Int)), (11, .int .i64 (k : Int)), (33, .bool (decide ((s1.time < 0) ∨ ((1000000 < s1.time) ∨ ((1000000000 < s1.value) ∨ (s1.value < (-1000000000)))))))] (Mem w no [.blk b4 [.int .i64 s1.time, .int .i64 s1.value] 29, .blk b2 [.int .i64 0, .int .i64 0] 45, slO (In w) 2 sampleE (.slice lA l.length lc) l]) (fun K12 hK12 => ?_) ?_
        ·
          refine c_region ?_
          refine l_val wn (r_fa rfl fld29_0) rfl ?_
          refine l_val wn (r_lb 0 rfl rfl rfl flat3) rfl ?_
          refine l_val wn (r_lss rfl rfl) rfl ?_
          refine l_val wn (r_move rfl) rfl ?_
          refine l_case (t := 19) rfl (fun h3 => ?_) (fun h3 => ?_)
          ·
            refine l_skip (wg rfl rfl rfl) rfl ?_
            refine l_skip (wg rfl rfl rfl) rfl ?_
            refine l_skip (wg rfl rfl rfl) rfl ?_
            refine l_val wn (r_pick rfl rfl) rfl ?_
            refine l_val wn (r_move rfl) rfl ?_
            refine l_skip (wg rfl rfl rfl) rfl ?_
            refine l_skip (wg rfl rfl rfl) rfl ?_
            refine l_skip (wg rfl rfl rfl) rfl ?_
            refine l_val wn (r_pick rfl rfl) rfl ?_
            refine l_val wn (r_move rfl) rfl ?_
            refine l_skip (wg rfl rfl rfl) rfl ?_
            refine l_skip (wg rfl rfl rfl) rfl ?_
            refine l_skip (wg rfl rfl rfl) rfl ?_
            refine l_val wn (r_pick rfl rfl) rfl ?_
            refine l_nil (e_cut hK12 (sc rfl (sc rfl (sc rfl (sc rfl (sc rfl (sc rfl (sc rfl (sc (jt (Or.inl h3)) sn)))))))) (fun _ h => h))
          ·
            refine l_val (wg rfl rfl rfl) (r_fa rfl fld29_0) rfl ?_
            refine l_val (wg rfl rfl rfl) (r_lb 0 rfl rfl rfl flat3) rfl ?_
            refine l_val (wg rfl rfl rfl) (r_gtr rfl rfl) rfl ?_
            refine l_val wn (r_pick rfl rfl) rfl ?_
            refine l_val wn (r_move rfl) rfl ?_
            refine l_case (t := 24) rfl (fun h4 => ?_) (fun h4 => ?_)
            ·
              refine l_skip (wg rfl rfl rfl) rfl ?_
              refine l_skip (wg rfl rfl rfl) rfl ?_
              refine l_skip (wg rfl rfl rfl) rfl ?_
              refine l_val wn (r_pick rfl rfl) rfl ?_
              refine l_val wn (r_move rfl) rfl ?_
              refine l_skip (wg rfl rfl rfl) rfl ?_
              refine l_skip (wg rfl rfl rfl) rfl ?_
              refine l_skip (wg rfl rfl rfl) rfl ?_
              refine l_val wn (r_pick rfl rfl) rfl ?_
              refine l_nil (e_cut hK12 (sc rfl (sc rfl (sc rfl (sc rfl (sc rfl (sc rfl (sc rfl (sc (jt (Or.inr (Or.inl h4))) sn)))))))) (fun _ h => h))
            ·
              refine l_val (wg rfl rfl rfl) (r_fa rfl fld29_1) rfl ?_
              refine l_val (wg rfl rfl rfl) (r_lb 0 rfl rfl rfl flat3) rfl ?_
              refine l_val (wg rfl rfl rfl) (r_gtr rfl rfl) rfl ?_
              refine l_val wn (r_pick rfl rfl) rfl ?_
              refine l_val wn (r_move rfl) rfl ?_
              refine l_case (t := 29) rfl (fun h5 => ?_) (fun h5 => ?_)
              ·
                refine l_skip (wg rfl rfl rfl) rfl ?_
                refine l_skip (wg rfl rfl rfl) rfl ?_
                refine l_skip (wg rfl rfl rfl) rfl ?_
                refine l_val wn (r_pick rfl rfl) rfl ?_
                refine l_nil (e_cut hK12 (sc rfl (sc rfl (sc rfl (sc rfl (sc rfl (sc rfl (sc rfl (sc (jt (Or.inr (Or.inr (Or.inl h5)))) sn)))))))) (fun _ h => h))
              ·
                refine l_val (wg rfl rfl rfl) (r_fa rfl fld29_1) rfl ?_
                refine l_val (wg rfl rfl rfl) (r_lb 0 rfl rfl rfl flat3) rfl ?_
                refine l_val (wg rfl rfl rfl) (r_lss rfl rfl) rfl ?_
                refine l_val wn (r_pick rfl rfl) rfl ?_
                refine l_nil (e_cut hK12 (sc rfl (sc rfl (sc rfl (sc rfl (sc rfl (sc rfl (sc rfl (sc (jp (iff_or_right h3 (iff_or_right h4 (iff_or_right h5 Iff.rfl)))) sn)))))))) (fun _ h => h))
        ·
          refine c_cond rfl (fun h6 => ?_) (fun h6 => ?_)
          ·
            refine c_seq fun K13 hK13 => ?_
            refine c_region ?_
            refine l_val wn (r_move rfl) rfl ?_
            refine l_val wn (r_build [.int .i64 3, .int .i64 (k : Int)] pl45 inf45 rfl rfl) rfl ?_
            refine l_stn 1 wn rfl rfl rfl inf45 rfl rfl rfl ?_
            refine l_nil (e_go hK13 ?_)
            refine c_ret (e_then_r (e_in_r (e_then_r (e_loop1_r (e_in_r (e_then_r (e_ret1 (.inl rfl) Try.results34 (rv_cell 1 rfl rfl agg45 inf45 rfl) fun w1 hM => ?_)))))))
            exact ret_agg (l1 := [.int .i64 3, .int .i64 (k : Int)]) (by rw [Codec.wrong, if_neg (by omega), hI1.2, Codec.wrong_step hs1, if_pos (by unfold Codec.badRange; omega)]) hM
          ·
            refine c_skip (e_go hK11 ?_)
            refine c_seq fun K14 hK14 => ?_
            refine c_quiet mix (by kernel_rfl) (fun _ h => h.drew) ?_
            refine q_val wn (r_move rfl) rfl ?_
            refine q_val wn (r_gtr rfl rfl) rfl ?_
            refine q_val wn (r_move rfl) rfl ?_
            refine q_case (t := 38) rfl (fun h7 => ?_) (fun h7 => ?_)
            ·
              refine q_val (wg rfl rfl rfl) (r_fa rfl fld29_0) rfl ?_
              refine q_val (wg rfl rfl rfl) (r_lb 0 rfl rfl rfl flat3) rfl ?_
              refine q_val (wg rfl rfl rfl) (r_move rfl) rfl ?_
              refine q_val (wg rfl rfl rfl) (r_move rfl) rfl ?_
              refine q_val (wg rfl rfl rfl) (r_subn rfl rfl (by omega)) rfl ?_
              refine q_val (wg rfl rfl rfl) (r_ia (i := (k - 1)) rfl hd1 rfl (by omega) (by first | omega | decide | (simp only [List.length_cons, List.length_nil, List.length_append, List.length_take, List.length_set]; omega)) Try.underlying22 inf29) rfl ?_
              refine q_val (wg rfl rfl rfl) (r_fe rfl fld29_0) rfl ?_
              obtain ⟨s2, hs2⟩ : ∃ x, l[(k - 1)]? = some x := ⟨_, List.getElem?_eq_getElem (by first | omega | decide | (simp only [List.length_cons, List.length_nil, List.length_append, List.length_take, List.length_set]; omega))⟩
              refine q_val (wg rfl rfl rfl) (r_el 2 rfl rfl hd1 hs2 rfl flat3) rfl ?_
              refine q_val (wg rfl rfl rfl) (r_leq rfl rfl) rfl ?_
              refine q_val wn (r_pick rfl rfl) rfl ?_
              refine q_end (e_go hK14 ?_)
              refine c_cond rfl (fun h8 => ?_) (fun h8 => ?_)
              ·
                refine c_seq fun K15 hK15 => ?_
                refine c_region ?_
                refine l_val wn (r_move rfl) rfl ?_
                refine l_val wn (r_build [.int .i64 2, .int .i64 (k : Int)] pl45 inf45 rfl rfl) rfl ?_
                refine l_stn 1 wn rfl rfl rfl inf45 rfl rfl rfl ?_
                refine l_nil (e_go hK15 ?_)
                refine c_ret (e_in_r (e_then_r (e_loop1_r (e_in_r (e_then_r (e_ret1 (.inl rfl) Try.results34 (rv_cell 1 rfl rfl agg45 inf45 rfl) fun w1 hM => ?_))))))
                exact ret_agg (l1 := [.int .i64 2, .int .i64 (k : Int)]) (by rw [Codec.wrong, if_neg (by omega), hI1.2, Codec.wrong_step hs1, if_neg (by unfold Codec.badRange; omega), if_pos (by rw [Codec.prevOf, if_neg (by omega), hs2]; simp [Codec.notAhead]; omega)]) hM
              ·
                refine c_skip (e_in_n (e_go hK9 ?_))
                refine c_region ?_
                refine l_val wn (r_addn rfl rfl (by omega)) rfl ?_
                refine l_val wn (r_move rfl) rfl ?_
                refine l_nil (e_round1 (k + 1) (sc rfl (sc rfl (sc rfl (sc rfl (sc (ji (by omega)) sn))))) (fun _ h => (h.sel [1, 2] (by decide) rfl)) ?_ ?_)
                · exact ⟨by omega, by rw [hI1.2, Codec.wrong_step hs1, if_neg (by unfold Codec.badRange; omega), if_neg (by rw [Codec.prevOf, if_neg (by omega), hs2]; simp [Codec.notAhead]; omega)]⟩
                · omega
            ·
              refine q_skip (wg rfl rfl rfl) rfl ?_
              refine q_skip (wg rfl rfl rfl) rfl ?_
              refine q_skip (wg rfl rfl rfl) rfl ?_
              refine q_skip (wg rfl rfl rfl) rfl ?_
              refine q_skip (wg rfl rfl rfl) rfl ?_
              refine q_skip (wg rfl rfl rfl) rfl ?_
              refine q_skip (wg rfl rfl rfl) rfl ?_
              refine q_skip (wg rfl rfl rfl) rfl ?_
              refine q_skip (wg rfl rfl rfl) rfl ?_
              refine q_val wn (r_pick rfl rfl) rfl ?_
              refine q_end (e_go hK14 ?_)
              refine c_false rfl rfl ?_
              refine c_skip (e_in_n (e_go hK9 ?_))
              refine c_region ?_
              refine l_val wn (r_addn rfl rfl (by omega)) rfl ?_
              refine l_val wn (r_move rfl) rfl ?_
              refine l_nil (e_round1 (k + 1) (sc rfl (sc rfl (sc rfl (sc rfl (sc (ji (by omega)) sn))))) (fun _ h => (h.sel [1, 2] (by decide) rfl)) ?_ ?_)
              · exact ⟨by omega, by rw [hI1.2, Codec.wrong_step hs1, if_neg (by unfold Codec.badRange; omega), if_neg (by rw [Codec.prevOf, if_pos (by omega)]; simp [Codec.notAhead])]⟩
              · omega
      ·
        refine c_exit (e_then_x (e_loop1_x (e_in_hit (e_go hK5 ?_))))
        refine c_seq fun K16 hK16 => ?_
        refine c_region ?_
        refine l_val wn (r_build [.int .i64 0, .int .i64 0] pl45 inf45 rfl rfl) rfl ?_
        refine l_stn 0 wn rfl rfl rfl inf45 rfl rfl rfl ?_
        refine l_nil (e_go hK16 ?_)
        refine c_ret (e_ret1 (.inl rfl) Try.results34 (rv_cell 0 rfl rfl agg45 inf45 rfl) fun w1 hM => ?_)
        exact ret_agg (l1 := [.int .i64 0, .int .i64 0]) (by rw [Codec.wrong, if_neg (by omega), hI1.2, Codec.wrong_end (by omega)]) hM

theorem c_refIn (lv : Value) (l : List Bucket) (frm : Int) (to : Int) (w : World) (hl : FlatSl (In w) 8 bucketE lv l w)  :
    Calls Try.prog 32 #[lv, .int .i64 frm, .int .i64 to] w (Ret w (.agg (sumE (Roll.of l frm to)).toArray)) := by
  obtain ⟨lA, lc, rfl, hlc, hlm, hlA⟩ := hl.form
  refine fstart (N := 32) (vals := [.slice lA l.length lc, .int .i64 frm, .int .i64 to]) (S := Mem w no [slO (In w) 8 bucketE (.slice lA l.length lc) l]) Try.func32 rfl rfl rfl (Mem.ofDats (dc (dl hl) dn)) ?_
  refine c_seq fun K1 hK1 => ?_
  refine c_region ?_
  refine l_alloc wn inf24 rfl fun b6 => ?_
  refine l_nil (e_go hK1 ?_)
  refine c_seq fun K2 hK2 => ?_
  refine c_region ?_
  refine l_alloc wn inf24 rfl fun b7 => ?_
  refine l_nil (e_go hK2 ?_)
  refine c_seq fun K3 hK3 => ?_
  refine c_seq fun K4 hK4 => ?_
  refine c_region ?_
  refine l_val wn (r_move rfl) rfl ?_
  refine l_val wn (r_len rfl Try.underlying48) rfl ?_
  refine l_val wn (r_move rfl) rfl ?_
  refine l_nil (e_go hK4 ?_)
  refine c_block ?_
  refine c_loop1 (fun (k : Nat) => [(1, .int .i64 frm), (2, .int .i64 to), (6, .pointer (some ⟨b6, 0, none⟩)), (7, .pointer (some ⟨b7, 0, none⟩)), (10, .slice lA l.length lc), (11, .int .i64 (l.length : Int)), (12, .int .i64 (k : Int))]) (fun (k : Nat) => [.blk b7 [.int .i64 ((Roll.of (l.take k) frm to).count), .int .i64 ((Roll.of (l.take k) frm to).total), .int .i64 ((Roll.of (l.take k) frm to).min), .int .i64 ((Roll.of (l.take k) frm to).max), .int .i64 ((Roll.of (l.take k) frm to).first), .int .i64 ((Roll.of (l.take k) frm to).last), .int .i64 ((Roll.of (l.take k) frm to).rise)] 24, .blk b6 [.int .i64 0, .int .i64 0, .int .i64 0, .int .i64 0, .int .i64 0, .int .i64 0, .int .i64 0] 24, slO (In w) 8 bucketE (.slice lA l.length lc) l]) (fun (k : Nat) => k ≤ l.length) (fun (k : Nat) => l.length - k) 0 (sc rfl (sc rfl (sc rfl (sc rfl (sc rfl (sc rfl (sc (ji (by omega)) sn))))))) (fun _ h => h) ?_ (fun k hI1 => ?_)
  · omega
  ·
    refine c_seq fun K5 hK5 => ?_
    refine c_region ?_
    refine l_val wn (r_lss rfl rfl) rfl ?_
    refine l_nil (e_go hK5 ?_)
    refine c_seq fun K6 hK6 => ?_
    refine c_cond rfl (fun h1 => ?_) (fun h1 => ?_)
    ·
      refine c_skip (e_go hK6 ?_)
      refine c_seq fun K7 hK7 => ?_
      refine c_block ?_
      refine c_seq fun K8 hK8 => ?_
      refine c_region ?_
      obtain ⟨ad1, hd1⟩ := hlA (ne_nil (i := k) (by first | omega | decide | (simp only [List.length_cons, List.length_nil, List.length_append, List.length_take, List.length_set]; omega)))
      refine l_val wn (r_ia (i := k) rfl hd1 rfl (by omega) (by first | omega | decide | (simp only [List.length_cons, List.length_nil, List.length_append, List.length_take, List.length_set]; omega)) Try.underlying48 inf53) rfl ?_
      obtain ⟨s1, hs1⟩ : ∃ x, l[k]? = some x := ⟨_, List.getElem?_eq_getElem (by first | omega | decide | (simp only [List.length_cons, List.length_nil, List.length_append, List.length_take, List.length_set]; omega))⟩
      refine l_val wn (r_eln 2 [.int .i64 s1.at_, .int .i64 s1.sum.count, .int .i64 s1.sum.total, .int .i64 s1.sum.min, .int .i64 s1.sum.max, .int .i64 s1.sum.first, .int .i64 s1.sum.last, .int .i64 s1.sum.rise] rfl rfl hd1 hs1 rfl rfl agg53 inf53) rfl ?_
      refine l_alloc wn inf53 rfl fun b9 => ?_
      refine l_stn 0 wn rfl rfl rfl inf53 rfl rfl rfl ?_
      refine l_nil (e_go hK8 ?_)
      refine c_seq fun K9 hK9 => ?_
      refine c_region ?_
      refine l_val wn (r_move rfl) rfl ?_
      refine l_val wn (r_fa rfl fld53_0) rfl ?_
      refine l_val wn (r_lb 0 rfl rfl rfl flat3) rfl ?_
      refine l_val wn (r_leq rfl rfl) rfl ?_
      refine l_val wn (r_move rfl) rfl ?_
      refine l_case (t := 20) rfl (fun h2 => ?_) (fun h2 => ?_)
      ·
        refine l_val (wg rfl rfl rfl) (r_fa rfl fld53_0) rfl ?_
        refine l_val (wg rfl rfl rfl) (r_lb 0 rfl rfl rfl flat3) rfl ?_
        refine l_val (wg rfl rfl rfl) (r_move rfl) rfl ?_
        refine l_val (wg rfl rfl rfl) (r_lss rfl rfl) rfl ?_
        refine l_val wn (r_pick rfl rfl) rfl ?_
        refine l_nil (e_go hK9 ?_)
        refine c_cond rfl (fun h3 => ?_) (fun h3 => ?_)
        ·
          refine c_region ?_
          refine l_val wn (r_lbn 1 [.int .i64 ((Roll.of (l.take k) frm to).count), .int .i64 ((Roll.of (l.take k) frm to).total), .int .i64 ((Roll.of (l.take k) frm to).min), .int .i64 ((Roll.of (l.take k) frm to).max), .int .i64 ((Roll.of (l.take k) frm to).first), .int .i64 ((Roll.of (l.take k) frm to).last), .int .i64 ((Roll.of (l.take k) frm to).rise)] rfl rfl rfl rfl agg24 inf24) rfl ?_
          refine l_val wn (r_fa rfl fld53_1) rfl ?_
          refine l_val wn (r_lbn 0 [.int .i64 s1.sum.count, .int .i64 s1.sum.total, .int .i64 s1.sum.min, .int .i64 s1.sum.max, .int .i64 s1.sum.first, .int .i64 s1.sum.last, .int .i64 s1.sum.rise] rfl rfl rfl rfl agg24 inf24) rfl ?_
          refine l_callF wn rfl Try.call16 rfl (fun w1 hM => c_refJoin (Roll.of (l.take k) frm to) s1.sum w1) ?_
          refine l_stn 1 wn rfl rfl rfl inf24 rfl rfl rfl ?_
          refine l_nil (e_in_n (e_go hK7 ?_))
          refine c_region ?_
          refine l_val wn (r_addn rfl rfl (by omega)) rfl ?_
          refine l_val wn (r_move rfl) rfl ?_
          have hst := Roll.of_succ l frm to k s1 hs1
          rw [if_pos (by omega)] at hst
          refine l_nil (e_round1 (k + 1) (sc rfl (sc rfl (sc rfl (sc rfl (sc rfl (sc rfl (sc (ji (by omega)) sn))))))) (fun _ h => by rw [hst]; exact (h.sel [1, 2, 3] (by decide) rfl)) ?_ ?_)
          · omega
          · omega
        ·
          refine c_skip (e_in_n (e_go hK7 ?_))
          refine c_region ?_
          refine l_val wn (r_addn rfl rfl (by omega)) rfl ?_
          refine l_val wn (r_move rfl) rfl ?_
          have hst := Roll.of_succ l frm to k s1 hs1
          rw [if_neg (by omega)] at hst
          refine l_nil (e_round1 (k + 1) (sc rfl (sc rfl (sc rfl (sc rfl (sc rfl (sc rfl (sc (ji (by omega)) sn))))))) (fun _ h => by rw [hst]; exact (h.sel [1, 2, 3] (by decide) rfl)) ?_ ?_)
          · omega
          · omega
      ·
        refine l_skip (wg rfl rfl rfl) rfl ?_
        refine l_skip (wg rfl rfl rfl) rfl ?_
        refine l_skip (wg rfl rfl rfl) rfl ?_
        refine l_skip (wg rfl rfl rfl) rfl ?_
        refine l_val wn (r_pick rfl rfl) rfl ?_
        refine l_nil (e_go hK9 ?_)
        refine c_false rfl rfl ?_
        refine c_skip (e_in_n (e_go hK7 ?_))
        refine c_region ?_
        refine l_val wn (r_addn rfl rfl (by omega)) rfl ?_
        refine l_val wn (r_move rfl) rfl ?_
        have hst := Roll.of_succ l frm to k s1 hs1
        rw [if_neg (by omega)] at hst
        refine l_nil (e_round1 (k + 1) (sc rfl (sc rfl (sc rfl (sc rfl (sc rfl (sc rfl (sc (ji (by omega)) sn))))))) (fun _ h => by rw [hst]; exact (h.sel [1, 2, 3] (by decide) rfl)) ?_ ?_)
        · omega
        · omega
    ·
      refine c_exit (e_then_x (e_loop1_x (e_in_hit (e_go hK3 ?_))))
      refine c_seq fun K10 hK10 => ?_
      refine c_region ?_
      refine l_val wn (r_lbn 0 [.int .i64 ((Roll.of (l.take k) frm to).count), .int .i64 ((Roll.of (l.take k) frm to).total), .int .i64 ((Roll.of (l.take k) frm to).min), .int .i64 ((Roll.of (l.take k) frm to).max), .int .i64 ((Roll.of (l.take k) frm to).first), .int .i64 ((Roll.of (l.take k) frm to).last), .int .i64 ((Roll.of (l.take k) frm to).rise)] rfl rfl rfl rfl agg24 inf24) rfl ?_
      refine l_stn 1 wn rfl rfl rfl inf24 rfl rfl rfl ?_
      refine l_nil (e_go hK10 ?_)
      refine c_ret (e_ret1 (.inl rfl) Try.results32 (rv_cell 1 rfl rfl agg24 inf24 rfl) fun w1 hM => ?_)
      exact ret_agg (l1 := [.int .i64 ((Roll.of (l.take k) frm to).count), .int .i64 ((Roll.of (l.take k) frm to).total), .int .i64 ((Roll.of (l.take k) frm to).min), .int .i64 ((Roll.of (l.take k) frm to).max), .int .i64 ((Roll.of (l.take k) frm to).first), .int .i64 ((Roll.of (l.take k) frm to).last), .int .i64 ((Roll.of (l.take k) frm to).rise)]) (by rw [List.take_of_length_le (by omega)]) hM

theorem c_refWrongBuckets (lv : Value) (l : List Bucket) (tier : Int) (w : World) (hl : FlatSl (In w) 8 bucketE lv l w)  :
    Calls Try.prog 30 #[lv, .int .i64 tier] w (Ret w (.agg (faultE (Roll.wrong l tier)).toArray)) := by
  obtain ⟨lA, lc, rfl, hlc, hlm, hlA⟩ := hl.form
  refine fstart (N := 77) (vals := [.slice lA l.length lc, .int .i64 tier]) (S := Mem w no [slO (In w) 8 bucketE (.slice lA l.length lc) l]) Try.func30 rfl rfl rfl (Mem.ofDats (dc (dl hl) dn)) ?_
  refine c_seq fun K1 hK1 => ?_
  refine c_region ?_
  refine l_alloc wn inf45 rfl fun b4 => ?_
  refine l_nil (e_go hK1 ?_)
  refine c_seq fun K2 hK2 => ?_
  refine c_region ?_
  refine l_makeMap wn rfl fun b8 => ?_
  refine l_insert 0 (KeyT.int Try.underlying3) ([] : List (Nat × Int × Int)) 0 1 10 wn rfl rfl rfl rfl Try.underlying55 (by simp) ?_
  refine l_insert 0 (KeyT.int Try.underlying3) ([(0, 1, 10)] : List (Nat × Int × Int)) 1 2 60 wn rfl rfl rfl rfl Try.underlying55 (by simp) ?_
  refine l_val wn (r_move rfl) rfl ?_
  refine l_val wn (r_move rfl) rfl ?_
  refine l_val wn (rv_i (Roll.step_assoc tier 0 1) (r_lookup 0 (KeyT.int Try.underlying3) (fun _ => Iff.rfl) (nd ([1, 2] : List Int) rfl (by decide)) rfl rfl rfl Try.underlying55 inf3)) rfl ?_
  refine l_val wn (r_assign rfl) rfl ?_
  refine l_nil (e_go hK2 ?_)
  refine c_seq fun K3 hK3 => ?_
  refine c_seq fun K4 hK4 => ?_
  refine c_region ?_
  refine l_val wn (r_move rfl) rfl ?_
  refine l_val wn (r_eql rfl rfl) rfl ?_
  refine l_nil (e_go hK4 ?_)
  refine c_cond rfl (fun h1 => ?_) (fun h1 => ?_)
  ·
    refine c_seq fun K5 hK5 => ?_
    refine c_region ?_
    refine l_val wn (r_build [.int .i64 1, .int .i64 0] pl45 inf45 rfl rfl) rfl ?_
    refine l_stn 1 wn rfl rfl rfl inf45 rfl rfl rfl ?_
    refine l_nil (e_go hK5 ?_)
    refine c_ret (e_then_r (e_ret1 (.inl rfl) Try.results30 (rv_cell 1 rfl rfl agg45 inf45 rfl) fun w1 hM => ?_))
    exact ret_agg (l1 := [.int .i64 1, .int .i64 0]) (by rw [Roll.wrong, if_pos (by omega)]) hM
  ·
    have hsp := Roll.step_two h1
    refine c_skip (e_go hK3 ?_)
    refine c_seq fun K6 hK6 => ?_
    refine c_seq fun K7 hK7 => ?_
    refine c_region ?_
    refine l_val wn (r_move rfl) rfl ?_
    refine l_val wn (r_len rfl Try.underlying48) rfl ?_
    refine l_val wn (r_gtr rfl rfl) rfl ?_
    refine l_nil (e_go hK7 ?_)
    refine c_cond rfl (fun h2 => ?_) (fun h2 => ?_)
    ·
      refine c_seq fun K8 hK8 => ?_
      refine c_region ?_
      refine l_val wn (r_build [.int .i64 5, .int .i64 0] pl45 inf45 rfl rfl) rfl ?_
      refine l_stn 1 wn rfl rfl rfl inf45 rfl rfl rfl ?_
      refine l_nil (e_go hK8 ?_)
      refine c_ret (e_then_r (e_ret1 (.inl rfl) Try.results30 (rv_cell 1 rfl rfl agg45 inf45 rfl) fun w1 hM => ?_))
      exact ret_agg (l1 := [.int .i64 5, .int .i64 0]) (by rw [Roll.wrong, if_neg (by omega), if_pos (by omega)]) hM
    ·
      refine c_skip (e_go hK6 ?_)
      refine c_seq fun K9 hK9 => ?_
      refine c_seq fun K10 hK10 => ?_
      refine c_region ?_
      refine l_val wn (r_move rfl) rfl ?_
      refine l_val wn (r_len rfl Try.underlying48) rfl ?_
      refine l_val wn (r_move rfl) rfl ?_
      refine l_nil (e_go hK10 ?_)
      refine c_block ?_
      refine c_loop1 (fun (k : Nat) => [(0, .slice lA l.length lc), (4, .pointer (some ⟨b4, 0, none⟩)), (5, .int .i64 (Roll.step tier)), (19, .slice lA l.length lc), (20, .int .i64 (l.length : Int)), (21, .int .i64 (k : Int))]) (fun (k : Nat) => [.map b8 (ents (Value.int .i64) 0 ([(0, 1, 10), (1, 2, 60)] : List (Nat × Int × Int))) ([(0, 1, 10), (1, 2, 60)] : List (Nat × Int × Int)).length, .blk b4 [.int .i64 0, .int .i64 0] 45, slO (In w) 8 bucketE (.slice lA l.length lc) l]) (fun (k : Nat) => k ≤ l.length ∧ Roll.wrongFrom (Roll.step tier) 0 none l = Roll.wrongFrom (Roll.step tier) k (Roll.prevOf l k) (l.drop k)) (fun (k : Nat) => l.length - k) 0 (sc rfl (sc rfl (sc rfl (sc rfl (sc rfl (sc (ji (by omega)) sn)))))) (fun _ h => h) ?_ (fun k hI1 => ?_)
      · exact ⟨by omega, Roll.wrong_start l _⟩
      ·
        refine c_seq fun K11 hK11 => ?_
        refine c_region ?_
        refine l_val wn (r_lss rfl rfl) rfl ?_
        refine l_nil (e_go hK11 ?_)
        refine c_seq fun K12 hK12 => ?_
        refine c_cond rfl (fun h3 => ?_) (fun h3 => ?_)
        ·
          refine c_skip (e_go hK12 ?_)
          refine c_seq fun K13 hK13 => ?_
          refine c_block ?_
          refine c_seq fun K14 hK14 => ?_
          refine c_region ?_
          refine l_val wn (r_move rfl) rfl ?_
          obtain ⟨ad1, hd1⟩ := hlA (ne_nil (i := k) (by first | omega | decide | (simp only [List.length_cons, List.length_nil, List.length_append, List.length_take, List.length_set]; omega)))
          refine l_val wn (r_ia (i := k) rfl hd1 rfl (by omega) (by first | omega | decide | (simp only [List.length_cons, List.length_nil, List.length_append, List.length_take, List.length_set]; omega)) Try.underlying48 inf53) rfl ?_
          obtain ⟨s1, hs1⟩ : ∃ x, l[k]? = some x := ⟨_, List.getElem?_eq_getElem (by first | omega | decide | (simp only [List.length_cons, List.length_nil, List.length_append, List.length_take, List.length_set]; omega))⟩
          refine l_val wn (r_eln 2 [.int .i64 s1.at_, .int .i64 s1.sum.count, .int .i64 s1.sum.total, .int .i64 s1.sum.min, .int .i64 s1.sum.max, .int .i64 s1.sum.first, .int .i64 s1.sum.last, .int .i64 s1.sum.rise] rfl rfl hd1 hs1 rfl rfl agg53 inf53) rfl ?_
          refine l_alloc wn inf53 rfl fun b7 => ?_
          refine l_val wn (r_assign rfl) rfl ?_
          refine l_stn 0 wn rfl rfl rfl inf53 rfl rfl rfl ?_
          refine l_nil (e_go hK14 ?_)
          refine c_seq fun K15 hK15 => ?_
          refine c_cut [(0, .slice lA l.length lc), (4, .pointer (some ⟨b4, 0, none⟩)), (5, .int .i64 (Roll.step tier)), (6, .int .i64 (k : Int)), (7, .pointer (some ⟨b7, 0, none⟩)), (19, .slice lA l.length lc), (20, .int .i64 (l.length : Int)), (21, .int .i64 (k : Int)), (57, .bool (decide ((s1.at_ < 0) ∨ ((1000000 < s1.at_) ∨ ((((s1.at_ / (Roll.step tier)) * (Roll.step tier)) ≠ s1.at_) ∨ ((s1.sum.count < 1) ∨ ((Roll.step tier) < s1.sum.count)))))))] (Mem w no [.blk b7 [.int .i64 s1.at_, .int .i64 s1.sum.count, .int .i64 s1.sum.total, .int .i64 s1.sum.min, .int .i64 s1.sum.max, .int .i64 s1.sum.first, .int .i64 s1.sum.last, .int .i64 s1.sum.rise] 53, .map b8 (ents (Value.int .i64) 0 ([(0, 1, 10), (1, 2, 60)] : List (Nat × Int × Int))) ([(0, 1, 10), (1, 2, 60)] : List (Nat × Int × Int)).length, .blk b4 [.int .i64 0, .int .i64 0] 45, slO (In w) 8 bucketE (.slice lA l.length lc) l]) (fun K16 hK16 => ?_) ?_
          ·
            refine c_quiet mix (by kernel_rfl) (fun _ h => h.drew) ?_
            refine q_val wn (r_fa rfl fld53_0) rfl ?_
            refine q_val wn (r_lb 0 rfl rfl rfl flat3) rfl ?_
            refine q_val wn (r_lss rfl rfl) rfl ?_
            refine q_val wn (r_move rfl) rfl ?_
            refine q_case (t := 29) rfl (fun h4 => ?_) (fun h4 => ?_)
            ·
              refine q_skip (wg rfl rfl rfl) rfl ?_
              refine q_skip (wg rfl rfl rfl) rfl ?_
              refine q_skip (wg rfl rfl rfl) rfl ?_
              refine q_val wn (r_pick rfl rfl) rfl ?_
              refine q_val wn (r_move rfl) rfl ?_
              refine q_skip (wg rfl rfl rfl) rfl ?_
              refine q_skip (wg rfl rfl rfl) rfl ?_
              refine q_skip (wg rfl rfl rfl) rfl ?_
              refine q_skip (wg rfl rfl rfl) rfl ?_
              refine q_skip (wg rfl rfl rfl) rfl ?_
              refine q_skip (wg rfl rfl rfl) rfl ?_
              refine q_skip (wg rfl rfl rfl) rfl ?_
              refine q_skip (wg rfl rfl rfl) rfl ?_
              refine q_skip (wg rfl rfl rfl) rfl ?_
              refine q_val wn (r_pick rfl rfl) rfl ?_
              refine q_val wn (r_move rfl) rfl ?_
              refine q_skip (wg rfl rfl rfl) rfl ?_
              refine q_skip (wg rfl rfl rfl) rfl ?_
              refine q_skip (wg rfl rfl rfl) rfl ?_
              refine q_skip (wg rfl rfl rfl) rfl ?_
              refine q_val wn (r_pick rfl rfl) rfl ?_
              refine q_val wn (r_move rfl) rfl ?_
              refine q_skip (wg rfl rfl rfl) rfl ?_
              refine q_skip (wg rfl rfl rfl) rfl ?_
              refine q_skip (wg rfl rfl rfl) rfl ?_
              refine q_skip (wg rfl rfl rfl) rfl ?_
              refine q_skip (wg rfl rfl rfl) rfl ?_
              refine q_val wn (r_pick rfl rfl) rfl ?_
              refine q_end (e_cut hK16 (sc rfl (sc rfl (sc rfl (sc rfl (sc rfl (sc rfl (sc rfl (sc rfl (sc (jt (Or.inl h4)) sn))))))))) (fun _ h => h))
            ·
              refine q_val (wg rfl rfl rfl) (r_fa rfl fld53_0) rfl ?_
              refine q_val (wg rfl rfl rfl) (r_lb 0 rfl rfl rfl flat3) rfl ?_
              refine q_val (wg rfl rfl rfl) (r_gtr rfl rfl) rfl ?_
              refine q_val wn (r_pick rfl rfl) rfl ?_
              refine q_val wn (r_move rfl) rfl ?_
              refine q_case (t := 34) rfl (fun h5 => ?_) (fun h5 => ?_)
              ·
                refine q_skip (wg rfl rfl rfl) rfl ?_
                refine q_skip (wg rfl rfl rfl) rfl ?_
                refine q_skip (wg rfl rfl rfl) rfl ?_
                refine q_skip (wg rfl rfl rfl) rfl ?_
                refine q_skip (wg rfl rfl rfl) rfl ?_
                refine q_skip (wg rfl rfl rfl) rfl ?_
                refine q_skip (wg rfl rfl rfl) rfl ?_
                refine q_skip (wg rfl rfl rfl) rfl ?_
                refine q_skip (wg rfl rfl rfl) rfl ?_
                refine q_val wn (r_pick rfl rfl) rfl ?_
                refine q_val wn (r_move rfl) rfl ?_
                refine q_skip (wg rfl rfl rfl) rfl ?_
                refine q_skip (wg rfl rfl rfl) rfl ?_
                refine q_skip (wg rfl rfl rfl) rfl ?_
                refine q_skip (wg rfl rfl rfl) rfl ?_
                refine q_val wn (r_pick rfl rfl) rfl ?_
                refine q_val wn (r_move rfl) rfl ?_
                refine q_skip (wg rfl rfl rfl) rfl ?_
                refine q_skip (wg rfl rfl rfl) rfl ?_
                refine q_skip (wg rfl rfl rfl) rfl ?_
                refine q_skip (wg rfl rfl rfl) rfl ?_
                refine q_skip (wg rfl rfl rfl) rfl ?_
                refine q_val wn (r_pick rfl rfl) rfl ?_
                refine q_end (e_cut hK16 (sc rfl (sc rfl (sc rfl (sc rfl (sc rfl (sc rfl (sc rfl (sc rfl (sc (jt (Or.inr (Or.inl h5))) sn))))))))) (fun _ h => h))
              ·
                refine q_val (wg rfl rfl rfl) (r_fa rfl fld53_0) rfl ?_
                refine q_val (wg rfl rfl rfl) (r_lb 0 rfl rfl rfl flat3) rfl ?_
                refine q_val (wg rfl rfl rfl) (r_move rfl) rfl ?_
                refine q_val (wg rfl rfl rfl) (r_quon rfl rfl (by omega) (by omega)) rfl ?_
                refine q_val (wg rfl rfl rfl) (r_move rfl) rfl ?_
                refine q_val (wg rfl rfl rfl) (r_muln rfl rfl (by first | omega | (rcases hsp with e | e <;> rw [e] <;> omega))) rfl ?_
                refine q_val (wg rfl rfl rfl) (r_fa rfl fld53_0) rfl ?_
                refine q_val (wg rfl rfl rfl) (r_lb 0 rfl rfl rfl flat3) rfl ?_
                refine q_val (wg rfl rfl rfl) (r_neq rfl rfl) rfl ?_
                refine q_val wn (r_pick rfl rfl) rfl ?_
                refine q_val wn (r_move rfl) rfl ?_
                refine q_case (t := 45) rfl (fun h6 => ?_) (fun h6 => ?_)
                ·
                  refine q_skip (wg rfl rfl rfl) rfl ?_
                  refine q_skip (wg rfl rfl rfl) rfl ?_
                  refine q_skip (wg rfl rfl rfl) rfl ?_
                  refine q_skip (wg rfl rfl rfl) rfl ?_
                  refine q_val wn (r_pick rfl rfl) rfl ?_
                  refine q_val wn (r_move rfl) rfl ?_
                  refine q_skip (wg rfl rfl rfl) rfl ?_
                  refine q_skip (wg rfl rfl rfl) rfl ?_
                  refine q_skip (wg rfl rfl rfl) rfl ?_
                  refine q_skip (wg rfl rfl rfl) rfl ?_
                  refine q_skip (wg rfl rfl rfl) rfl ?_
                  refine q_val wn (r_pick rfl rfl) rfl ?_
                  refine q_end (e_cut hK16 (sc rfl (sc rfl (sc rfl (sc rfl (sc rfl (sc rfl (sc rfl (sc rfl (sc (jt (Or.inr (Or.inr (Or.inl h6)))) sn))))))))) (fun _ h => h))
                ·
                  refine q_val (wg rfl rfl rfl) (r_fa rfl fld53_1) rfl ?_
                  refine q_val (wg rfl rfl rfl) (r_fa rfl fld24_0) rfl ?_
                  refine q_val (wg rfl rfl rfl) (r_lb 0 rfl rfl rfl flat3) rfl ?_
                  refine q_val (wg rfl rfl rfl) (r_lss rfl rfl) rfl ?_
                  refine q_val wn (r_pick rfl rfl) rfl ?_
                  refine q_val wn (r_move rfl) rfl ?_
                  refine q_case (t := 51) rfl (fun h7 => ?_) (fun h7 => ?_)
                  ·
                    refine q_skip (wg rfl rfl rfl) rfl ?_
                    refine q_skip (wg rfl rfl rfl) rfl ?_
                    refine q_skip (wg rfl rfl rfl) rfl ?_
                    refine q_skip (wg rfl rfl rfl) rfl ?_
                    refine q_skip (wg rfl rfl rfl) rfl ?_
                    refine q_val wn (r_pick rfl rfl) rfl ?_
                    refine q_end (e_cut hK16 (sc rfl (sc rfl (sc rfl (sc rfl (sc rfl (sc rfl (sc rfl (sc rfl (sc (jt (Or.inr (Or.inr (Or.inr (Or.inl h7))))) sn))))))))) (fun _ h => h))
                  ·
                    refine q_val (wg rfl rfl rfl) (r_fa rfl fld53_1) rfl ?_
                    refine q_val (wg rfl rfl rfl) (r_fa rfl fld24_0) rfl ?_
                    refine q_val (wg rfl rfl rfl) (r_lb 0 rfl rfl rfl flat3) rfl ?_
                    refine q_val (wg rfl rfl rfl) (r_move rfl) rfl ?_
                    refine q_val (wg rfl rfl rfl) (r_gtr rfl rfl) rfl ?_
                    refine q_val wn (r_pick rfl rfl) rfl ?_
                    refine q_end (e_cut hK16 (sc rfl (sc rfl (sc rfl (sc rfl (sc rfl (sc rfl (sc rfl (sc rfl (sc (jp (iff_or_right h4 (iff_or_right h5 (iff_or_right h6 (iff_or_right h7 Iff.rfl))))) sn))))))))) (fun _ h => h))
          ·
            refine c_cond rfl (fun h8 => ?_) (fun h8 => ?_)
            ·
              refine c_seq fun K17 hK17 => ?_
              refine c_region ?_
              refine l_val wn (r_move rfl) rfl ?_
              refine l_val wn (r_build [.int .i64 3, .int .i64 (k : Int)] pl45 inf45 rfl rfl) rfl ?_
              refine l_stn 2 wn rfl rfl rfl inf45 rfl rfl rfl ?_
              refine l_nil (e_go hK17 ?_)
              refine c_ret (e_then_r (e_in_r (e_then_r (e_loop1_r (e_in_r (e_then_r (e_ret1 (.inl rfl) Try.results30 (rv_cell 2 rfl rfl agg45 inf45 rfl) fun w1 hM => ?_)))))))
              exact ret_agg (l1 := [.int .i64 3, .int .i64 (k : Int)]) (by rw [Roll.wrong, if_neg (by omega), if_neg (by omega), hI1.2, Roll.wrong_step hs1, if_pos ((Roll.badB_iff hsp).2 (by omega))]) hM
            ·
              refine c_skip (e_go hK15 ?_)
              refine c_seq fun K18 hK18 => ?_
              refine c_quiet mix (by kernel_rfl) (fun _ h => h.drew) ?_
              refine q_val wn (r_move rfl) rfl ?_
              refine q_val wn (r_gtr rfl rfl) rfl ?_
              refine q_val wn (r_move rfl) rfl ?_
              refine q_case (t := 62) rfl (fun h9 => ?_) (fun h9 => ?_)
              ·
                refine q_val (wg rfl rfl rfl) (r_fa rfl fld53_0) rfl ?_
                refine q_val (wg rfl rfl rfl) (r_lb 0 rfl rfl rfl flat3) rfl ?_
                refine q_val (wg rfl rfl rfl) (r_move rfl) rfl ?_
                refine q_val (wg rfl rfl rfl) (r_move rfl) rfl ?_
                refine q_val (wg rfl rfl rfl) (r_subn rfl rfl (by first | omega | (rcases hsp with e | e <;> rw [e] <;> omega))) rfl ?_
                refine q_val (wg rfl rfl rfl) (r_ia (i := (k - 1)) rfl hd1 rfl (by omega) (by first | omega | decide | (simp only [List.length_cons, List.length_nil, List.length_append, List.length_take, List.length_set]; omega)) Try.underlying48 inf53) rfl ?_
                refine q_val (wg rfl rfl rfl) (r_fe rfl fld53_0) rfl ?_
                obtain ⟨s2, hs2⟩ : ∃ x, l[(k - 1)]? = some x := ⟨_, List.getElem?_eq_getElem (by first | omega | decide | (simp only [List.length_cons, List.length_nil, List.length_append, List.length_take, List.length_set]; omega))⟩
                refine q_val (wg rfl rfl rfl) (r_el 3 rfl rfl hd1 hs2 rfl flat3) rfl ?_
                refine q_val (wg rfl rfl rfl) (r_leq rfl rfl) rfl ?_
                refine q_val wn (r_pick rfl rfl) rfl ?_
                refine q_end (e_go hK18 ?_)
                refine c_cond rfl (fun h10 => ?_) (fun h10 => ?_)
                ·
                  refine c_seq fun K19 hK19 => ?_
                  refine c_region ?_
                  refine l_val wn (r_move rfl) rfl ?_
                  refine l_val wn (r_build [.int .i64 2, .int .i64 (k : Int)] pl45 inf45 rfl rfl) rfl ?_
                  refine l_stn 2 wn rfl rfl rfl inf45 rfl rfl rfl ?_
                  refine l_nil (e_go hK19 ?_)
                  refine c_ret (e_in_r (e_then_r (e_loop1_r (e_in_r (e_then_r (e_ret1 (.inl rfl) Try.results30 (rv_cell 2 rfl rfl agg45 inf45 rfl) fun w1 hM => ?_))))))
                  exact ret_agg (l1 := [.int .i64 2, .int .i64 (k : Int)]) (by rw [Roll.wrong, if_neg (by omega), if_neg (by omega), hI1.2, Roll.wrong_step hs1, if_neg (fun g => absurd ((Roll.badB_iff hsp).1 g) (by omega)), if_pos (by rw [Roll.prevOf, if_neg (by omega), hs2]; simp [Roll.behind]; omega)]) hM
                ·
                  refine c_skip (e_in_n (e_go hK13 ?_))
                  refine c_region ?_
                  refine l_val wn (r_addn rfl rfl (by first | omega | (rcases hsp with e | e <;> rw [e] <;> omega))) rfl ?_
                  refine l_val wn (r_move rfl) rfl ?_
                  refine l_nil (e_round1 (k + 1) (sc rfl (sc rfl (sc rfl (sc rfl (sc rfl (sc (ji (by omega)) sn)))))) (fun _ h => (h.sel [1, 2, 3] (by decide) rfl)) ?_ ?_)
                  · exact ⟨by omega, by rw [hI1.2, Roll.wrong_step hs1, if_neg (fun g => absurd ((Roll.badB_iff hsp).1 g) (by omega)), if_neg (by rw [Roll.prevOf, if_neg (by omega), hs2]; simp [Roll.behind]; omega)]⟩
                  · omega
              ·
                refine q_skip (wg rfl rfl rfl) rfl ?_
                refine q_skip (wg rfl rfl rfl) rfl ?_
                refine q_skip (wg rfl rfl rfl) rfl ?_
                refine q_skip (wg rfl rfl rfl) rfl ?_
                refine q_skip (wg rfl rfl rfl) rfl ?_
                refine q_skip (wg rfl rfl rfl) rfl ?_
                refine q_skip (wg rfl rfl rfl) rfl ?_
                refine q_skip (wg rfl rfl rfl) rfl ?_
                refine q_skip (wg rfl rfl rfl) rfl ?_
                refine q_val wn (r_pick rfl rfl) rfl ?_
                refine q_end (e_go hK18 ?_)
                refine c_false rfl rfl ?_
                refine c_skip (e_in_n (e_go hK13 ?_))
                refine c_region ?_
                refine l_val wn (r_addn rfl rfl (by first | omega | (rcases hsp with e | e <;> rw [e] <;> omega))) rfl ?_
                refine l_val wn (r_move rfl) rfl ?_
                refine l_nil (e_round1 (k + 1) (sc rfl (sc rfl (sc rfl (sc rfl (sc rfl (sc (ji (by omega)) sn)))))) (fun _ h => (h.sel [1, 2, 3] (by decide) rfl)) ?_ ?_)
                · exact ⟨by omega, by rw [hI1.2, Roll.wrong_step hs1, if_neg (fun g => absurd ((Roll.badB_iff hsp).1 g) (by omega)), if_neg (by rw [Roll.prevOf, if_pos (by omega)]; simp [Roll.behind])]⟩
                · omega
        ·
          refine c_exit (e_then_x (e_loop1_x (e_in_hit (e_go hK9 ?_))))
          refine c_seq fun K20 hK20 => ?_
          refine c_region ?_
          refine l_val wn (r_build [.int .i64 0, .int .i64 0] pl45 inf45 rfl rfl) rfl ?_
          refine l_stn 1 wn rfl rfl rfl inf45 rfl rfl rfl ?_
          refine l_nil (e_go hK20 ?_)
          refine c_ret (e_ret1 (.inl rfl) Try.results30 (rv_cell 1 rfl rfl agg45 inf45 rfl) fun w1 hM => ?_)
          exact ret_agg (l1 := [.int .i64 0, .int .i64 0]) (by rw [Roll.wrong, if_neg (by omega), if_neg (by omega), hI1.2, Roll.wrong_end (by omega)]) hM

theorem c_refGreater (lv : Value) (l : List Bucket) (w : World) (hl : FlatSl (In w) 8 bucketE lv l w) (hr : Roll.Rises Bucket.at_ l) (hl1 : l.length ≤ 1048576) :
    Calls Try.prog 33 #[lv] w (RetL w 53 8 bucketE (Roll.greater l)) := by
  obtain ⟨lA, lc, rfl, hlc, hlm, hlA⟩ := hl.form
  refine fstart (N := 50) (vals := [.slice lA l.length lc]) (S := Mem w no [slO (In w) 8 bucketE (.slice lA l.length lc) l]) Try.func33 rfl rfl rfl (Mem.ofDats (dc (dl hl) dn)) ?_
  refine c_seq fun K1 hK1 => ?_
  refine c_region ?_
  refine l_nilRow (bucketE : Bucket → List Value) 53 8 ?_
  refine l_val wn (r_assign rfl) rfl ?_
  refine l_nil (e_go hK1 ?_)
  refine c_seq fun K2 hK2 => ?_
  refine c_region ?_
  refine l_nilRow (bucketE : Bucket → List Value) 53 8 ?_
  refine l_val wn (r_assign rfl) rfl ?_
  refine l_nil (e_go hK2 ?_)
  refine c_seq fun K3 hK3 => ?_
  refine c_seq fun K4 hK4 => ?_
  refine c_region ?_
  refine l_val wn (r_assign rfl) rfl ?_
  refine l_nil (e_go hK4 ?_)
  refine c_block ?_
  refine c_loop2 (fun (i : Nat) (vr : Value) => [(0, .slice lA l.length lc), (3, vr), (4, .int .i64 (i : Int))]) (fun (i : Nat) (vr : Value) => [Row vr 53 8 bucketE (Roll.greater (l.take i)), Row (.slice none 0 0) 53 8 bucketE ([] : List Bucket), slO (In w) 8 bucketE (.slice lA l.length lc) l]) (fun (i : Nat) (vr : Value) => i ≤ l.length ∧ Roll.Whole Bucket.at_ Bucket.sum 60 l i) (fun (i : Nat) (vr : Value) => l.length - i) 0 (.slice none 0 0) (sc rfl (sc rfl (sc (ji (by omega)) sn))) (fun _ h => h) ?_ (fun i vr hI1 => ?_)
  · exact ⟨by omega, Roll.Whole.start⟩
  ·
    have hlen := Nat.le_trans (Roll.greater_len (l.take i)) (List.length_take_le i l)
    refine c_open 0 (l := (Roll.greater (l.take i))) rfl fun A1 cp1 hv1 hc1 hm1 hA1 => ?_
    subst hv1
    refine c_seq fun K5 hK5 => ?_
    refine c_seq fun K6 hK6 => ?_
    refine c_region ?_
    refine l_val wn (r_move rfl) rfl ?_
    refine l_val wn (r_move rfl) rfl ?_
    refine l_val wn (r_len rfl Try.underlying48) rfl ?_
    refine l_val wn (r_lss rfl rfl) rfl ?_
    refine l_nil (e_go hK6 ?_)
    refine c_cond rfl (fun h1 => ?_) (fun h1 => ?_)
    ·
      refine c_skip (e_go hK5 ?_)
      refine c_block ?_
      refine c_seq fun K7 hK7 => ?_
      refine c_region ?_
      refine l_val wn (r_move rfl) rfl ?_
      refine l_val wn (r_move rfl) rfl ?_
      obtain ⟨ad1, hd1⟩ := hlA (ne_nil (i := i) (by first | omega | decide | (simp only [List.length_cons, List.length_nil, List.length_append, List.length_take, List.length_set]; omega)))
      refine l_val wn (r_ia (i := i) rfl hd1 rfl (by omega) (by first | omega | decide | (simp only [List.length_cons, List.length_nil, List.length_append, List.length_take, List.length_set]; omega)) Try.underlying48 inf53) rfl ?_
      refine l_val wn (r_fe rfl fld53_0) rfl ?_
      obtain ⟨s1, hs1⟩ : ∃ x, l[i]? = some x := ⟨_, List.getElem?_eq_getElem (by first | omega | decide | (simp only [List.length_cons, List.length_nil, List.length_append, List.length_take, List.length_set]; omega))⟩
      have hrgs1 := hr.rng s1 (List.mem_of_getElem? hs1)
      refine l_val wn (r_el 2 rfl rfl hd1 hs1 rfl flat3) rfl ?_
      refine l_val wn (r_quon rfl rfl (by omega) (by omega)) rfl ?_
      refine l_val wn (r_muln rfl rfl (by omega)) rfl ?_
      refine l_val wn (r_assign rfl) rfl ?_
      refine l_nil (e_go hK7 ?_)
      refine c_seq fun K8 hK8 => ?_
      refine c_region ?_
      refine l_val wn (r_move rfl) rfl ?_
      refine l_val wn (r_build [.int .i64 ((s1.at_ / 60) * 60), .int .i64 0, .int .i64 0, .int .i64 0, .int .i64 0, .int .i64 0, .int .i64 0, .int .i64 0] pl53 inf53 rfl rfl) rfl ?_
      refine l_alloc wn inf53 rfl fun b6 => ?_
      refine l_stn 0 wn rfl rfl rfl inf53 rfl rfl rfl ?_
      refine l_nil (e_go hK8 ?_)
      refine c_seq fun K9 hK9 => ?_
      refine c_block ?_
      refine c_loop1 (fun (j : Nat) => [(0, .slice lA l.length lc), (3, .slice A1 ((Roll.greater (l.take i)).length) cp1), (4, .int .i64 (j : Int)), (5, .int .i64 ((s1.at_ / 60) * 60)), (6, .pointer (some ⟨b6, 0, none⟩))]) (fun (j : Nat) => [.blk b6 [.int .i64 (s1.at_ / 60 * 60), .int .i64 ((Roll.gsum Bucket.sum ((l.take j).drop i)).count), .int .i64 ((Roll.gsum Bucket.sum ((l.take j).drop i)).total), .int .i64 ((Roll.gsum Bucket.sum ((l.take j).drop i)).min), .int .i64 ((Roll.gsum Bucket.sum ((l.take j).drop i)).max), .int .i64 ((Roll.gsum Bucket.sum ((l.take j).drop i)).first), .int .i64 ((Roll.gsum Bucket.sum ((l.take j).drop i)).last), .int .i64 ((Roll.gsum Bucket.sum ((l.take j).drop i)).rise)] 53, Row (.slice A1 ((Roll.greater (l.take i)).length) cp1) 53 8 bucketE (Roll.greater (l.take i)), Row (.slice none 0 0) 53 8 bucketE ([] : List Bucket), slO (In w) 8 bucketE (.slice lA l.length lc) l]) (fun (j : Nat) => Roll.Grp Bucket.at_ 60 l (s1.at_ / 60 * 60) i j) (fun (j : Nat) => l.length - j) i (sc rfl (sc rfl (sc rfl (sc rfl (sc rfl sn))))) (fun _ h => by rw [Roll.gsum_self]; exact h) ?_ (fun j hI2 => ?_)
      · exact Roll.Grp.start (by omega)
      ·
        have hle := hI2.le
        have hgl := hI2.len
        refine c_seq fun K10 hK10 => ?_
        refine c_seq fun K11 hK11 => ?_
        refine c_region ?_
        refine l_val wn (r_move rfl) rfl ?_
        refine l_val wn (r_move rfl) rfl ?_
        refine l_val wn (r_len rfl Try.underlying48) rfl ?_
        refine l_val wn (r_lss rfl rfl) rfl ?_
        refine l_val wn (r_move rfl) rfl ?_
        refine l_case (t := 24) rfl (fun h2 => ?_) (fun h2 => ?_)
        ·
          refine l_val (wg rfl rfl rfl) (r_move rfl) rfl ?_
          refine l_val (wg rfl rfl rfl) (r_move rfl) rfl ?_
          refine l_val (wg rfl rfl rfl) (r_ia (i := j) rfl hd1 rfl (by omega) (by first | omega | decide | (simp only [List.length_cons, List.length_nil, List.length_append, List.length_take, List.length_set]; omega)) Try.underlying48 inf53) rfl ?_
          refine l_val (wg rfl rfl rfl) (r_fe rfl fld53_0) rfl ?_
          obtain ⟨s2, hs2⟩ : ∃ x, l[j]? = some x := ⟨_, List.getElem?_eq_getElem (by first | omega | decide | (simp only [List.length_cons, List.length_nil, List.length_append, List.length_take, List.length_set]; omega))⟩
          have hrgs2 := hr.rng s2 (List.mem_of_getElem? hs2)
          refine l_val (wg rfl rfl rfl) (r_el 3 rfl rfl hd1 hs2 rfl flat3) rfl ?_
          refine l_val (wg rfl rfl rfl) (r_move rfl) rfl ?_
          refine l_val (wg rfl rfl rfl) (r_addn rfl rfl (by omega)) rfl ?_
          refine l_val (wg rfl rfl rfl) (r_lss rfl rfl) rfl ?_
          refine l_val wn (r_pick rfl rfl) rfl ?_
          refine l_nil (e_go hK11 ?_)
          refine c_cond rfl (fun h3 => ?_) (fun h3 => ?_)
          ·
            refine c_skip (e_go hK10 ?_)
            refine c_block ?_
            refine c_seq fun K12 hK12 => ?_
            refine c_quietT 9 mix (by kernel_rfl) (fun _ h => h.drew) fun _ hT1 => ?_
            refine q_val wn (r_fa rfl fld53_1) rfl ?_
            refine q_val wn (r_lbn 0 [.int .i64 ((Roll.gsum Bucket.sum ((l.take j).drop i)).count), .int .i64 ((Roll.gsum Bucket.sum ((l.take j).drop i)).total), .int .i64 ((Roll.gsum Bucket.sum ((l.take j).drop i)).min), .int .i64 ((Roll.gsum Bucket.sum ((l.take j).drop i)).max), .int .i64 ((Roll.gsum Bucket.sum ((l.take j).drop i)).first), .int .i64 ((Roll.gsum Bucket.sum ((l.take j).drop i)).last), .int .i64 ((Roll.gsum Bucket.sum ((l.take j).drop i)).rise)] rfl rfl rfl rfl agg24 inf24) rfl ?_
            refine q_val wn (r_move rfl) rfl ?_
            refine q_val wn (r_move rfl) rfl ?_
            refine q_val wn (r_ia (i := j) rfl hd1 rfl (by omega) (by first | omega | decide | (simp only [List.length_cons, List.length_nil, List.length_append, List.length_take, List.length_set]; omega)) Try.underlying48 inf53) rfl ?_
            refine q_val wn (r_fe rfl fld53_1) rfl ?_
            refine q_val wn (r_eln 3 [.int .i64 s2.sum.count, .int .i64 s2.sum.total, .int .i64 s2.sum.min, .int .i64 s2.sum.max, .int .i64 s2.sum.first, .int .i64 s2.sum.last, .int .i64 s2.sum.rise] rfl rfl hd1 hs2 rfl rfl agg24 inf24) rfl ?_
            refine q_callF wn rfl Try.call16 rfl (fun w1 hM => c_refJoin (Roll.gsum Bucket.sum ((l.take j).drop i)) s2.sum w1) ?_
            refine q_val wn (r_fa rfl fld53_1) rfl ?_
            refine q_tail hT1 ?_
            refine l_stn 0 wn rfl rfl rfl inf24 rfl rfl rfl ?_
            refine l_nil (e_go hK12 ?_)
            refine c_region ?_
            refine l_val wn (r_move rfl) rfl ?_
            refine l_val wn (r_addn rfl rfl (by omega)) rfl ?_
            refine l_val wn (r_assign rfl) rfl ?_
            refine l_nil (e_in_n (e_round1 (j + 1) (sc rfl (sc rfl (sc (ji (by omega)) (sc rfl (sc rfl sn))))) (fun _ h => by rw [Roll.gsum_succ hle hs2]; exact h) ?_ ?_))
            · exact Roll.Grp.step hI2 hr hs1 (by omega) hs2 (by omega)
            · omega
          ·
            refine c_exit (e_then_x (e_loop1_x (e_in_hit (e_go hK9 ?_))))
            refine c_region ?_
            refine l_val wn (r_move rfl) rfl ?_
            refine l_val wn (r_lbn 0 [.int .i64 (s1.at_ / 60 * 60), .int .i64 ((Roll.gsum Bucket.sum ((l.take j).drop i)).count), .int .i64 ((Roll.gsum Bucket.sum ((l.take j).drop i)).total), .int .i64 ((Roll.gsum Bucket.sum ((l.take j).drop i)).min), .int .i64 ((Roll.gsum Bucket.sum ((l.take j).drop i)).max), .int .i64 ((Roll.gsum Bucket.sum ((l.take j).drop i)).first), .int .i64 ((Roll.gsum Bucket.sum ((l.take j).drop i)).last), .int .i64 ((Roll.gsum Bucket.sum ((l.take j).drop i)).rise)] rfl rfl rfl rfl agg53 inf53) rfl ?_
            refine l_bsL bucketE ([(⟨s1.at_ / 60 * 60, (Roll.gsum Bucket.sum ((l.take j).drop i))⟩ : Bucket)] : List Bucket) wn Try.underlying48 inf53 rfl rfl rfl rfl (by decide) (by decide) rfl fun b47 => ?_
            refine l_app 2 (Roll.greater (l.take i)) ([(⟨s1.at_ / 60 * 60, (Roll.gsum Bucket.sum ((l.take j).drop i))⟩ : Bucket)] : List Bucket) encBucket wn rfl rfl rfl (fun _ hM => (RowSl encBucket hM 0 rfl)) Try.underlying48 inf53 rfl rfl (by simp only [List.length_append, List.length_cons, List.length_nil]; omega) rfl fun A2 cp2 hc2 hm2 hA2 => ?_
            refine l_val wn (r_assign rfl) rfl ?_
            have hd := Roll.Grp.done (s := Bucket.sum) (.inr rfl) hr hs1 hI1.2 hI2 (.inr ⟨_, hs2, by omega⟩)
            have hlt := hd.1
            have hgl := hI2.len
            have he : (Roll.greater (l.take j)) = (Roll.greater (l.take i)) ++ [⟨s1.at_ / 60 * 60, (Roll.gsum Bucket.sum ((l.take j).drop i))⟩] := hd.2.1
            refine l_nil (e_in_n (e_round2 j (.slice A2 (((Roll.greater (l.take i)) ++ ([(⟨s1.at_ / 60 * 60, (Roll.gsum Bucket.sum ((l.take j).drop i))⟩ : Bucket)] : List Bucket)).length) cp2) (sc rfl (sc rfl (sc rfl sn))) (fun _ h => by rw [he]; exact (h.sel [2, 3, 4] (by decide) rfl)) ?_ ?_))
            · exact ⟨hgl, hd.2.2⟩
            · omega
        ·
          refine l_skip (wg rfl rfl rfl) rfl ?_
          refine l_skip (wg rfl rfl rfl) rfl ?_
          refine l_skip (wg rfl rfl rfl) rfl ?_
          refine l_skip (wg rfl rfl rfl) rfl ?_
          refine l_skip (wg rfl rfl rfl) rfl ?_
          refine l_skip (wg rfl rfl rfl) rfl ?_
          refine l_skip (wg rfl rfl rfl) rfl ?_
          refine l_skip (wg rfl rfl rfl) rfl ?_
          refine l_val wn (r_pick rfl rfl) rfl ?_
          refine l_nil (e_go hK11 ?_)
          refine c_false rfl rfl ?_
          refine c_exit (e_then_x (e_loop1_x (e_in_hit (e_go hK9 ?_))))
          refine c_region ?_
          refine l_val wn (r_move rfl) rfl ?_
          refine l_val wn (r_lbn 0 [.int .i64 (s1.at_ / 60 * 60), .int .i64 ((Roll.gsum Bucket.sum ((l.take j).drop i)).count), .int .i64 ((Roll.gsum Bucket.sum ((l.take j).drop i)).total), .int .i64 ((Roll.gsum Bucket.sum ((l.take j).drop i)).min), .int .i64 ((Roll.gsum Bucket.sum ((l.take j).drop i)).max), .int .i64 ((Roll.gsum Bucket.sum ((l.take j).drop i)).first), .int .i64 ((Roll.gsum Bucket.sum ((l.take j).drop i)).last), .int .i64 ((Roll.gsum Bucket.sum ((l.take j).drop i)).rise)] rfl rfl rfl rfl agg53 inf53) rfl ?_
          refine l_bsL bucketE ([(⟨s1.at_ / 60 * 60, (Roll.gsum Bucket.sum ((l.take j).drop i))⟩ : Bucket)] : List Bucket) wn Try.underlying48 inf53 rfl rfl rfl rfl (by decide) (by decide) rfl fun b47 => ?_
          refine l_app 2 (Roll.greater (l.take i)) ([(⟨s1.at_ / 60 * 60, (Roll.gsum Bucket.sum ((l.take j).drop i))⟩ : Bucket)] : List Bucket) encBucket wn rfl rfl rfl (fun _ hM => (RowSl encBucket hM 0 rfl)) Try.underlying48 inf53 rfl rfl (by simp only [List.length_append, List.length_cons, List.length_nil]; omega) rfl fun A3 cp3 hc3 hm3 hA3 => ?_
          refine l_val wn (r_assign rfl) rfl ?_
          have hd := Roll.Grp.done (s := Bucket.sum) (.inr rfl) hr hs1 hI1.2 hI2 (.inl (by omega))
          have hlt := hd.1
          have hgl := hI2.len
          have he : (Roll.greater (l.take j)) = (Roll.greater (l.take i)) ++ [⟨s1.at_ / 60 * 60, (Roll.gsum Bucket.sum ((l.take j).drop i))⟩] := hd.2.1
          refine l_nil (e_in_n (e_round2 j (.slice A3 (((Roll.greater (l.take i)) ++ ([(⟨s1.at_ / 60 * 60, (Roll.gsum Bucket.sum ((l.take j).drop i))⟩ : Bucket)] : List Bucket)).length) cp3) (sc rfl (sc rfl (sc rfl sn))) (fun _ h => by rw [he]; exact (h.sel [2, 3, 4] (by decide) rfl)) ?_ ?_))
          · exact ⟨hgl, hd.2.2⟩
          · omega
    ·
      refine c_exit (e_then_x (e_loop2_x (e_in_hit (e_go hK3 ?_))))
      refine c_seq fun K13 hK13 => ?_
      refine c_region ?_
      refine l_val wn (r_move rfl) rfl ?_
      refine l_val wn (r_assign rfl) rfl ?_
      refine l_nil (e_go hK13 ?_)
      refine c_ret (e_ret1 (.inl rfl) Try.results33 (rv_tmp rfl) fun w1 hM => ?_)
      exact hM.retL' 0 rfl (by rw [List.take_of_length_le (by omega)])

set_option maxHeartbeats 2000000 in
theorem c_refBuckets10 (lv : Value) (l : List Sample) (w : World) (hl : FlatSl (In w) 2 sampleE lv l w) (hr : Roll.Rises Sample.time l) (hl1 : l.length ≤ 1048576) (HO : ∀ x ∈ l, -9223372036854775808 ≤ x.value ∧ x.value ≤ 9223372036854775807) :
    Calls Try.prog 35 #[lv, .int .i64 10] w (RetL w 53 8 bucketE (Roll.up l 1)) := by
  obtain ⟨lA, lc, rfl, hlc, hlm, hlA⟩ := hl.form
  have HOsub : ∀ i j : Nat, ∀ x ∈ (l.take j).drop i, -9223372036854775808 ≤ x.value ∧ x.value ≤ 9223372036854775807 := fun i j x hx => HO x (List.mem_of_mem_take (List.mem_of_mem_drop hx))
  refine fstart (N := 52) (vals := [.slice lA l.length lc, .int .i64 10]) (S := Mem w no [slO (In w) 2 sampleE (.slice lA l.length lc) l]) Try.func35 rfl rfl rfl (Mem.ofDats (dc (dl hl) dn)) ?_
  refine c_seq fun K1 hK1 => ?_
  refine c_region ?_
  refine l_nilRow (bucketE : Bucket → List Value) 53 8 ?_
  refine l_val wn (r_assign rfl) rfl ?_
  refine l_nil (e_go hK1 ?_)
  refine c_seq fun K2 hK2 => ?_
  refine c_region ?_
  refine l_nilRow (bucketE : Bucket → List Value) 53 8 ?_
  refine l_val wn (r_assign rfl) rfl ?_
  refine l_nil (e_go hK2 ?_)
  refine c_seq fun K3 hK3 => ?_
  refine c_seq fun K4 hK4 => ?_
  refine c_region ?_
  refine l_val wn (r_assign rfl) rfl ?_
  refine l_nil (e_go hK4 ?_)
  refine c_block ?_
  refine c_loop2 (fun (i : Nat) (vr : Value) => [(0, .slice lA l.length lc), (1, .int .i64 10), (5, vr), (6, .int .i64 (i : Int))]) (fun (i : Nat) (vr : Value) => [Row vr 53 8 bucketE (Roll.ups (l.take i) 10), Row (.slice none 0 0) 53 8 bucketE ([] : List Bucket), slO (In w) 2 sampleE (.slice lA l.length lc) l]) (fun (i : Nat) (vr : Value) => i ≤ l.length ∧ Roll.Whole Sample.time (fun x => Agg.one x.value) 10 l i) (fun (i : Nat) (vr : Value) => l.length - i) 0 (.slice none 0 0) (sc rfl (sc rfl (sc rfl (sc (ji (by omega)) sn)))) (fun _ h => h) ?_ (fun i vr hI1 => ?_)
  · exact ⟨by omega, Roll.Whole.start⟩
  ·
    have hlen := Nat.le_trans (Roll.ups_len (l.take i) 10) (List.length_take_le i l)
    refine c_open 0 (l := (Roll.ups (l.take i) 10)) rfl fun A1 cp1 hv1 hc1 hm1 hA1 => ?_
    subst hv1
    refine c_seq fun K5 hK5 => ?_
    refine c_seq fun K6 hK6 => ?_
    refine c_region ?_
    refine l_val wn (r_move rfl) rfl ?_
    refine l_val wn (r_move rfl) rfl ?_
    refine l_val wn (r_len rfl Try.underlying22) rfl ?_
    refine l_val wn (r_lss rfl rfl) rfl ?_
    refine l_nil (e_go hK6 ?_)
    refine c_cond rfl (fun h1 => ?_) (fun h1 => ?_)
    ·
      refine c_skip (e_go hK5 ?_)
      refine c_block ?_
      refine c_seq fun K7 hK7 => ?_
      refine c_region ?_
      refine l_val wn (r_move rfl) rfl ?_
      refine l_val wn (r_move rfl) rfl ?_
      obtain ⟨ad1, hd1⟩ := hlA (ne_nil (i := i) (by first | omega | decide | (simp only [List.length_cons, List.length_nil, List.length_append, List.length_take, List.length_set]; omega)))
      refine l_val wn (r_ia (i := i) rfl hd1 rfl (by omega) (by first | omega | decide | (simp only [List.length_cons, List.length_nil, List.length_append, List.length_take, List.length_set]; omega)) Try.underlying22 inf29) rfl ?_
      refine l_val wn (r_fe rfl fld29_0) rfl ?_
      obtain ⟨s1, hs1⟩ : ∃ x, l[i]? = some x := ⟨_, List.getElem?_eq_getElem (by first | omega | decide | (simp only [List.length_cons, List.length_nil, List.length_append, List.length_take, List.length_set]; omega))⟩
      have hrgs1 := hr.rng s1 (List.mem_of_getElem? hs1)
      refine l_val wn (r_el 2 rfl rfl hd1 hs1 rfl flat3) rfl ?_
      refine l_val wn (r_move rfl) rfl ?_
      refine l_val wn (r_quon rfl rfl (by omega) (by omega)) rfl ?_
      refine l_val wn (r_move rfl) rfl ?_
      refine l_val wn (r_muln rfl rfl (by omega)) rfl ?_
      refine l_val wn (r_assign rfl) rfl ?_
      refine l_nil (e_go hK7 ?_)
      refine c_seq fun K8 hK8 => ?_
      refine c_region ?_
      refine l_val wn (r_move rfl) rfl ?_
      refine l_val wn (r_assign rfl) rfl ?_
      refine l_nil (e_go hK8 ?_)
      refine c_seq fun K9 hK9 => ?_
      refine c_block ?_
      refine c_loop1 (fun (j : Nat) => [(0, .slice lA l.length lc), (1, .int .i64 10), (5, .slice A1 ((Roll.ups (l.take i) 10).length) cp1), (6, .int .i64 (i : Int)), (7, .int .i64 ((s1.time / 10) * 10)), (8, .int .i64 (j : Int))]) (fun (j : Nat) => [Row (.slice A1 ((Roll.ups (l.take i) 10).length) cp1) 53 8 bucketE (Roll.ups (l.take i) 10), Row (.slice none 0 0) 53 8 bucketE ([] : List Bucket), slO (In w) 2 sampleE (.slice lA l.length lc) l]) (fun (j : Nat) => Roll.Grp Sample.time 10 l (s1.time / 10 * 10) i j) (fun (j : Nat) => l.length - j) i (sc rfl (sc rfl (sc rfl (sc rfl (sc rfl (sc rfl sn)))))) (fun _ h => h) ?_ (fun j hI2 => ?_)
      · exact Roll.Grp.start (by omega)
      ·
        have hle := hI2.le
        have hgl := hI2.len
        refine c_seq fun K10 hK10 => ?_
        refine c_seq fun K11 hK11 => ?_
        refine c_region ?_
        refine l_val wn (r_move rfl) rfl ?_
        refine l_val wn (r_move rfl) rfl ?_
        refine l_val wn (r_len rfl Try.underlying22) rfl ?_
        refine l_val wn (r_lss rfl rfl) rfl ?_
        refine l_val wn (r_move rfl) rfl ?_
        refine l_case (t := 27) rfl (fun h2 => ?_) (fun h2 => ?_)
        ·
          refine l_val (wg rfl rfl rfl) (r_move rfl) rfl ?_
          refine l_val (wg rfl rfl rfl) (r_move rfl) rfl ?_
          refine l_val (wg rfl rfl rfl) (r_ia (i := j) rfl hd1 rfl (by omega) (by first | omega | decide | (simp only [List.length_cons, List.length_nil, List.length_append, List.length_take, List.length_set]; omega)) Try.underlying22 inf29) rfl ?_
          refine l_val (wg rfl rfl rfl) (r_fe rfl fld29_0) rfl ?_
          obtain ⟨s2, hs2⟩ : ∃ x, l[j]? = some x := ⟨_, List.getElem?_eq_getElem (by first | omega | decide | (simp only [List.length_cons, List.length_nil, List.length_append, List.length_take, List.length_set]; omega))⟩
          have hrgs2 := hr.rng s2 (List.mem_of_getElem? hs2)
          refine l_val (wg rfl rfl rfl) (r_el 2 rfl rfl hd1 hs2 rfl flat3) rfl ?_
          refine l_val (wg rfl rfl rfl) (r_move rfl) rfl ?_
          refine l_val (wg rfl rfl rfl) (r_move rfl) rfl ?_
          refine l_val (wg rfl rfl rfl) (r_addn rfl rfl (by omega)) rfl ?_
          refine l_val (wg rfl rfl rfl) (r_lss rfl rfl) rfl ?_
          refine l_val wn (r_pick rfl rfl) rfl ?_
          refine l_nil (e_go hK11 ?_)
          refine c_cond rfl (fun h3 => ?_) (fun h3 => ?_)
          ·
            refine c_skip (e_go hK10 ?_)
            refine c_block ?_
            refine c_region ?_
            refine l_val wn (r_move rfl) rfl ?_
            refine l_val wn (r_addn rfl rfl (by omega)) rfl ?_
            refine l_val wn (r_assign rfl) rfl ?_
            refine l_nil (e_in_n (e_round1 (j + 1) (sc rfl (sc rfl (sc rfl (sc rfl (sc rfl (sc (ji (by omega)) sn)))))) (fun _ h => h) ?_ ?_))
            · exact Roll.Grp.step hI2 hr hs1 (by omega) hs2 (by omega)
            · omega
          ·
            refine c_exit (e_then_x (e_loop1_x (e_in_hit (e_go hK9 ?_))))
            refine c_seq fun K12 hK12 => ?_
            refine c_region ?_
            refine l_val wn (r_move rfl) rfl ?_
            refine l_val wn (r_move rfl) rfl ?_
            refine l_val wn (r_move rfl) rfl ?_
            refine l_val wn (r_move rfl) rfl ?_
            refine l_val wn (r_move rfl) rfl ?_
            refine l_dslD 2 (lo := i) (hi := j) ((l.take j).drop i) wn rfl rfl (lo1 rfl (by omega)) (hi1 rfl (by omega)) (by first | omega | decide | (simp only [List.length_cons, List.length_nil, List.length_append, List.length_take, List.length_set]; omega)) (by first | omega | decide | (simp only [List.length_cons, List.length_nil, List.length_append, List.length_take, List.length_set]; omega)) (by first | omega | decide | (simp only [List.length_cons, List.length_nil, List.length_append, List.length_take, List.length_set]; omega)) (by first | rfl | simp | (rw [List.take_length]; done)) Try.underlying22 inf29 rfl fun A2 cp2 hc2 hm2 hA2 => ?_
            refine l_callF wn rfl Try.call14 rfl (fun w1 hM => c_refOf _ ((l.take j).drop i) w1 (hM.sl 0 rfl) (by first | omega | (simp only [List.length_cons, List.length_nil]; omega) | (simp only [List.length_drop, List.length_take]; omega)) (by first | exact HO | exact HOsub _ _ | (intro x hx; obtain rfl := List.mem_singleton.1 hx; exact HV))) ?_
            refine l_val wn (r_build [.int .i64 ((s1.time / 10) * 10), .int .i64 ((Agg.of ((l.take j).drop i)).count), .int .i64 ((Agg.of ((l.take j).drop i)).total), .int .i64 ((Agg.of ((l.take j).drop i)).min), .int .i64 ((Agg.of ((l.take j).drop i)).max), .int .i64 ((Agg.of ((l.take j).drop i)).first), .int .i64 ((Agg.of ((l.take j).drop i)).last), .int .i64 ((Agg.of ((l.take j).drop i)).rise)] pl53 inf53 rfl rfl) rfl ?_
            refine l_bsL bucketE ([(⟨((s1.time / 10) * 10), (Agg.of ((l.take j).drop i))⟩ : Bucket)] : List Bucket) wn Try.underlying48 inf53 rfl rfl rfl rfl (by decide) (by decide) rfl fun b48 => ?_
            refine l_app 2 (Roll.ups (l.take i) 10) ([(⟨((s1.time / 10) * 10), (Agg.of ((l.take j).drop i))⟩ : Bucket)] : List Bucket) encBucket wn rfl rfl rfl (fun _ hM => (RowSl encBucket hM 0 rfl)) Try.underlying48 inf53 rfl rfl (by simp only [List.length_append, List.length_cons, List.length_nil]; omega) rfl fun A3 cp3 hc3 hm3 hA3 => ?_
            refine l_val wn (r_assign rfl) rfl ?_
            refine l_nil (e_go hK12 ?_)
            refine c_region ?_
            refine l_val wn (r_move rfl) rfl ?_
            refine l_val wn (r_assign rfl) rfl ?_
            have hd := Roll.Grp.done (s := (fun x => Agg.one x.value)) (.inl rfl) hr hs1 hI1.2 hI2 (.inr ⟨_, hs2, by omega⟩)
            have hlt := hd.1
            have hgl := hI2.len
            have he : (Roll.ups (l.take j) 10) = (Roll.ups (l.take i) 10) ++ [⟨s1.time / 10 * 10, (Agg.of ((l.take j).drop i))⟩] := hd.2.1
            refine l_nil (e_in_n (e_round2 j (.slice A3 (((Roll.ups (l.take i) 10) ++ ([(⟨((s1.time / 10) * 10), (Agg.of ((l.take j).drop i))⟩ : Bucket)] : List Bucket)).length) cp3) (sc rfl (sc rfl (sc rfl (sc rfl sn)))) (fun _ h => by rw [he]; exact (h.sel [2, 3, 4] (by decide) rfl)) ?_ ?_))
            · exact ⟨hgl, hd.2.2⟩
            · omega
        ·
          refine l_skip (wg rfl rfl rfl) rfl ?_
          refine l_skip (wg rfl rfl rfl) rfl ?_
          refine l_skip (wg rfl rfl rfl) rfl ?_
          refine l_skip (wg rfl rfl rfl) rfl ?_
          refine l_skip (wg rfl rfl rfl) rfl ?_
          refine l_skip (wg rfl rfl rfl) rfl ?_
          refine l_skip (wg rfl rfl rfl) rfl ?_
          refine l_skip (wg rfl rfl rfl) rfl ?_
          refine l_skip (wg rfl rfl rfl) rfl ?_
          refine l_val wn (r_pick rfl rfl) rfl ?_
          refine l_nil (e_go hK11 ?_)
          refine c_false rfl rfl ?_
          refine c_exit (e_then_x (e_loop1_x (e_in_hit (e_go hK9 ?_))))
          refine c_seq fun K13 hK13 => ?_
          refine c_region ?_
          refine l_val wn (r_move rfl) rfl ?_
          refine l_val wn (r_move rfl) rfl ?_
          refine l_val wn (r_move rfl) rfl ?_
          refine l_val wn (r_move rfl) rfl ?_
          refine l_val wn (r_move rfl) rfl ?_
          refine l_dslD 2 (lo := i) (hi := j) ((l.take j).drop i) wn rfl rfl (lo1 rfl (by omega)) (hi1 rfl (by omega)) (by first | omega | decide | (simp only [List.length_cons, List.length_nil, List.length_append, List.length_take, List.length_set]; omega)) (by first | omega | decide | (simp only [List.length_cons, List.length_nil, List.length_append, List.length_take, List.length_set]; omega)) (by first | omega | decide | (simp only [List.length_cons, List.length_nil, List.length_append, List.length_take, List.length_set]; omega)) (by first | rfl | simp | (rw [List.take_length]; done)) Try.underlying22 inf29 rfl fun A4 cp4 hc4 hm4 hA4 => ?_
          refine l_callF wn rfl Try.call14 rfl (fun w1 hM => c_refOf _ ((l.take j).drop i) w1 (hM.sl 0 rfl) (by first | omega | (simp only [List.length_cons, List.length_nil]; omega) | (simp only [List.length_drop, List.length_take]; omega)) (by first | exact HO | exact HOsub _ _ | (intro x hx; obtain rfl := List.mem_singleton.1 hx; exact HV))) ?_
          refine l_val wn (r_build [.int .i64 ((s1.time / 10) * 10), .int .i64 ((Agg.of ((l.take j).drop i)).count), .int .i64 ((Agg.of ((l.take j).drop i)).total), .int .i64 ((Agg.of ((l.take j).drop i)).min), .int .i64 ((Agg.of ((l.take j).drop i)).max), .int .i64 ((Agg.of ((l.take j).drop i)).first), .int .i64 ((Agg.of ((l.take j).drop i)).last), .int .i64 ((Agg.of ((l.take j).drop i)).rise)] pl53 inf53 rfl rfl) rfl ?_
          refine l_bsL bucketE ([(⟨((s1.time / 10) * 10), (Agg.of ((l.take j).drop i))⟩ : Bucket)] : List Bucket) wn Try.underlying48 inf53 rfl rfl rfl rfl (by decide) (by decide) rfl fun b48 => ?_
          refine l_app 2 (Roll.ups (l.take i) 10) ([(⟨((s1.time / 10) * 10), (Agg.of ((l.take j).drop i))⟩ : Bucket)] : List Bucket) encBucket wn rfl rfl rfl (fun _ hM => (RowSl encBucket hM 0 rfl)) Try.underlying48 inf53 rfl rfl (by simp only [List.length_append, List.length_cons, List.length_nil]; omega) rfl fun A5 cp5 hc5 hm5 hA5 => ?_
          refine l_val wn (r_assign rfl) rfl ?_
          refine l_nil (e_go hK13 ?_)
          refine c_region ?_
          refine l_val wn (r_move rfl) rfl ?_
          refine l_val wn (r_assign rfl) rfl ?_
          have hd := Roll.Grp.done (s := (fun x => Agg.one x.value)) (.inl rfl) hr hs1 hI1.2 hI2 (.inl (by omega))
          have hlt := hd.1
          have hgl := hI2.len
          have he : (Roll.ups (l.take j) 10) = (Roll.ups (l.take i) 10) ++ [⟨s1.time / 10 * 10, (Agg.of ((l.take j).drop i))⟩] := hd.2.1
          refine l_nil (e_in_n (e_round2 j (.slice A5 (((Roll.ups (l.take i) 10) ++ ([(⟨((s1.time / 10) * 10), (Agg.of ((l.take j).drop i))⟩ : Bucket)] : List Bucket)).length) cp5) (sc rfl (sc rfl (sc rfl (sc rfl sn)))) (fun _ h => by rw [he]; exact (h.sel [2, 3, 4] (by decide) rfl)) ?_ ?_))
          · exact ⟨hgl, hd.2.2⟩
          · omega
    ·
      refine c_exit (e_then_x (e_loop2_x (e_in_hit (e_go hK3 ?_))))
      refine c_seq fun K14 hK14 => ?_
      refine c_region ?_
      refine l_val wn (r_move rfl) rfl ?_
      refine l_val wn (r_assign rfl) rfl ?_
      refine l_nil (e_go hK14 ?_)
      refine c_ret (e_ret1 (.inl rfl) Try.results35 (rv_tmp rfl) fun w1 hM => ?_)
      exact hM.retL' 0 rfl (by rw [List.take_of_length_le (by omega)]; rfl)

set_option maxHeartbeats 2000000 in
theorem c_refBuckets60 (lv : Value) (l : List Sample) (w : World) (hl : FlatSl (In w) 2 sampleE lv l w) (hr : Roll.Rises Sample.time l) (hl1 : l.length ≤ 1048576) (HO : ∀ x ∈ l, -9223372036854775808 ≤ x.value ∧ x.value ≤ 9223372036854775807) :
    Calls Try.prog 35 #[lv, .int .i64 60] w (RetL w 53 8 bucketE (Roll.up l 2)) := by
  obtain ⟨lA, lc, rfl, hlc, hlm, hlA⟩ := hl.form
  have HOsub : ∀ i j : Nat, ∀ x ∈ (l.take j).drop i, -9223372036854775808 ≤ x.value ∧ x.value ≤ 9223372036854775807 := fun i j x hx => HO x (List.mem_of_mem_take (List.mem_of_mem_drop hx))
  refine fstart (N := 52) (vals := [.slice lA l.length lc, .int .i64 60]) (S := Mem w no [slO (In w) 2 sampleE (.slice lA l.length lc) l]) Try.func35 rfl rfl rfl (Mem.ofDats (dc (dl hl) dn)) ?_
  refine c_seq fun K1 hK1 => ?_
  refine c_region ?_
  refine l_nilRow (bucketE : Bucket → List Value) 53 8 ?_
  refine l_val wn (r_assign rfl) rfl ?_
  refine l_nil (e_go hK1 ?_)
  refine c_seq fun K2 hK2 => ?_
  refine c_region ?_
  refine l_nilRow (bucketE : Bucket → List Value) 53 8 ?_
  refine l_val wn (r_assign rfl) rfl ?_
  refine l_nil (e_go hK2 ?_)
  refine c_seq fun K3 hK3 => ?_
  refine c_seq fun K4 hK4 => ?_
  refine c_region ?_
  refine l_val wn (r_assign rfl) rfl ?_
  refine l_nil (e_go hK4 ?_)
  refine c_block ?_
  refine c_loop2 (fun (i : Nat) (vr : Value) => [(0, .slice lA l.length lc), (1, .int .i64 60), (5, vr), (6, .int .i64 (i : Int))]) (fun (i : Nat) (vr : Value) => [Row vr 53 8 bucketE (Roll.ups (l.take i) 60), Row (.slice none 0 0) 53 8 bucketE ([] : List Bucket), slO (In w) 2 sampleE (.slice lA l.length lc) l]) (fun (i : Nat) (vr : Value) => i ≤ l.length ∧ Roll.Whole Sample.time (fun x => Agg.one x.value) 60 l i) (fun (i : Nat) (vr : Value) => l.length - i) 0 (.slice none 0 0) (sc rfl (sc rfl (sc rfl (sc (ji (by omega)) sn)))) (fun _ h => h) ?_ (fun i vr hI1 => ?_)
  · exact ⟨by omega, Roll.Whole.start⟩
  ·
    have hlen := Nat.le_trans (Roll.ups_len (l.take i) 60) (List.length_take_le i l)
    refine c_open 0 (l := (Roll.ups (l.take i) 60)) rfl fun A1 cp1 hv1 hc1 hm1 hA1 => ?_
    subst hv1
    refine c_seq fun K5 hK5 => ?_
    refine c_seq fun K6 hK6 => ?_
    refine c_region ?_
    refine l_val wn (r_move rfl) rfl ?_
    refine l_val wn (r_move rfl) rfl ?_
    refine l_val wn (r_len rfl Try.underlying22) rfl ?_
    refine l_val wn (r_lss rfl rfl) rfl ?_
    refine l_nil (e_go hK6 ?_)
    refine c_cond rfl (fun h1 => ?_) (fun h1 => ?_)
    ·
      refine c_skip (e_go hK5 ?_)
      refine c_block ?_
      refine c_seq fun K7 hK7 => ?_
      refine c_region ?_
      refine l_val wn (r_move rfl) rfl ?_
      refine l_val wn (r_move rfl) rfl ?_
      obtain ⟨ad1, hd1⟩ := hlA (ne_nil (i := i) (by first | omega | decide | (simp only [List.length_cons, List.length_nil, List.length_append, List.length_take, List.length_set]; omega)))
      refine l_val wn (r_ia (i := i) rfl hd1 rfl (by omega) (by first | omega | decide | (simp only [List.length_cons, List.length_nil, List.length_append, List.length_take, List.length_set]; omega)) Try.underlying22 inf29) rfl ?_
      refine l_val wn (r_fe rfl fld29_0) rfl ?_
      obtain ⟨s1, hs1⟩ : ∃ x, l[i]? = some x := ⟨_, List.getElem?_eq_getElem (by first | omega | decide | (simp only [List.length_cons, List.length_nil, List.length_append, List.length_take, List.length_set]; omega))⟩
      have hrgs1 := hr.rng s1 (List.mem_of_getElem? hs1)
      refine l_val wn (r_el 2 rfl rfl hd1 hs1 rfl flat3) rfl ?_
      refine l_val wn (r_move rfl) rfl ?_
      refine l_val wn (r_quon rfl rfl (by omega) (by omega)) rfl ?_
      refine l_val wn (r_move rfl) rfl ?_
      refine l_val wn (r_muln rfl rfl (by omega)) rfl ?_
      refine l_val wn (r_assign rfl) rfl ?_
      refine l_nil (e_go hK7 ?_)
      refine c_seq fun K8 hK8 => ?_
      refine c_region ?_
      refine l_val wn (r_move rfl) rfl ?_
      refine l_val wn (r_assign rfl) rfl ?_
      refine l_nil (e_go hK8 ?_)
      refine c_seq fun K9 hK9 => ?_
      refine c_block ?_
      refine c_loop1 (fun (j : Nat) => [(0, .slice lA l.length lc), (1, .int .i64 60), (5, .slice A1 ((Roll.ups (l.take i) 60).length) cp1), (6, .int .i64 (i : Int)), (7, .int .i64 ((s1.time / 60) * 60)), (8, .int .i64 (j : Int))]) (fun (j : Nat) => [Row (.slice A1 ((Roll.ups (l.take i) 60).length) cp1) 53 8 bucketE (Roll.ups (l.take i) 60), Row (.slice none 0 0) 53 8 bucketE ([] : List Bucket), slO (In w) 2 sampleE (.slice lA l.length lc) l]) (fun (j : Nat) => Roll.Grp Sample.time 60 l (s1.time / 60 * 60) i j) (fun (j : Nat) => l.length - j) i (sc rfl (sc rfl (sc rfl (sc rfl (sc rfl (sc rfl sn)))))) (fun _ h => h) ?_ (fun j hI2 => ?_)
      · exact Roll.Grp.start (by omega)
      ·
        have hle := hI2.le
        have hgl := hI2.len
        refine c_seq fun K10 hK10 => ?_
        refine c_seq fun K11 hK11 => ?_
        refine c_region ?_
        refine l_val wn (r_move rfl) rfl ?_
        refine l_val wn (r_move rfl) rfl ?_
        refine l_val wn (r_len rfl Try.underlying22) rfl ?_
        refine l_val wn (r_lss rfl rfl) rfl ?_
        refine l_val wn (r_move rfl) rfl ?_
        refine l_case (t := 27) rfl (fun h2 => ?_) (fun h2 => ?_)
        ·
          refine l_val (wg rfl rfl rfl) (r_move rfl) rfl ?_
          refine l_val (wg rfl rfl rfl) (r_move rfl) rfl ?_
          refine l_val (wg rfl rfl rfl) (r_ia (i := j) rfl hd1 rfl (by omega) (by first | omega | decide | (simp only [List.length_cons, List.length_nil, List.length_append, List.length_take, List.length_set]; omega)) Try.underlying22 inf29) rfl ?_
          refine l_val (wg rfl rfl rfl) (r_fe rfl fld29_0) rfl ?_
          obtain ⟨s2, hs2⟩ : ∃ x, l[j]? = some x := ⟨_, List.getElem?_eq_getElem (by first | omega | decide | (simp only [List.length_cons, List.length_nil, List.length_append, List.length_take, List.length_set]; omega))⟩
          have hrgs2 := hr.rng s2 (List.mem_of_getElem? hs2)
          refine l_val (wg rfl rfl rfl) (r_el 2 rfl rfl hd1 hs2 rfl flat3) rfl ?_
          refine l_val (wg rfl rfl rfl) (r_move rfl) rfl ?_
          refine l_val (wg rfl rfl rfl) (r_move rfl) rfl ?_
          refine l_val (wg rfl rfl rfl) (r_addn rfl rfl (by omega)) rfl ?_
          refine l_val (wg rfl rfl rfl) (r_lss rfl rfl) rfl ?_
          refine l_val wn (r_pick rfl rfl) rfl ?_
          refine l_nil (e_go hK11 ?_)
          refine c_cond rfl (fun h3 => ?_) (fun h3 => ?_)
          ·
            refine c_skip (e_go hK10 ?_)
            refine c_block ?_
            refine c_region ?_
            refine l_val wn (r_move rfl) rfl ?_
            refine l_val wn (r_addn rfl rfl (by omega)) rfl ?_
            refine l_val wn (r_assign rfl) rfl ?_
            refine l_nil (e_in_n (e_round1 (j + 1) (sc rfl (sc rfl (sc rfl (sc rfl (sc rfl (sc (ji (by omega)) sn)))))) (fun _ h => h) ?_ ?_))
            · exact Roll.Grp.step hI2 hr hs1 (by omega) hs2 (by omega)
            · omega
          ·
            refine c_exit (e_then_x (e_loop1_x (e_in_hit (e_go hK9 ?_))))
            refine c_seq fun K12 hK12 => ?_
            refine c_region ?_
            refine l_val wn (r_move rfl) rfl ?_
            refine l_val wn (r_move rfl) rfl ?_
            refine l_val wn (r_move rfl) rfl ?_
            refine l_val wn (r_move rfl) rfl ?_
            refine l_val wn (r_move rfl) rfl ?_
            refine l_dslD 2 (lo := i) (hi := j) ((l.take j).drop i) wn rfl rfl (lo1 rfl (by omega)) (hi1 rfl (by omega)) (by first | omega | decide | (simp only [List.length_cons, List.length_nil, List.length_append, List.length_take, List.length_set]; omega)) (by first | omega | decide | (simp only [List.length_cons, List.length_nil, List.length_append, List.length_take, List.length_set]; omega)) (by first | omega | decide | (simp only [List.length_cons, List.length_nil, List.length_append, List.length_take, List.length_set]; omega)) (by first | rfl | simp | (rw [List.take_length]; done)) Try.underlying22 inf29 rfl fun A2 cp2 hc2 hm2 hA2 => ?_
            refine l_callF wn rfl Try.call14 rfl (fun w1 hM => c_refOf _ ((l.take j).drop i) w1 (hM.sl 0 rfl) (by first | omega | (simp only [List.length_cons, List.length_nil]; omega) | (simp only [List.length_drop, List.length_take]; omega)) (by first | exact HO | exact HOsub _ _ | (intro x hx; obtain rfl := List.mem_singleton.1 hx; exact HV))) ?_
            refine l_val wn (r_build [.int .i64 ((s1.time / 60) * 60), .int .i64 ((Agg.of ((l.take j).drop i)).count), .int .i64 ((Agg.of ((l.take j).drop i)).total), .int .i64 ((Agg.of ((l.take j).drop i)).min), .int .i64 ((Agg.of ((l.take j).drop i)).max), .int .i64 ((Agg.of ((l.take j).drop i)).first), .int .i64 ((Agg.of ((l.take j).drop i)).last), .int .i64 ((Agg.of ((l.take j).drop i)).rise)] pl53 inf53 rfl rfl) rfl ?_
            refine l_bsL bucketE ([(⟨((s1.time / 60) * 60), (Agg.of ((l.take j).drop i))⟩ : Bucket)] : List Bucket) wn Try.underlying48 inf53 rfl rfl rfl rfl (by decide) (by decide) rfl fun b48 => ?_
            refine l_app 2 (Roll.ups (l.take i) 60) ([(⟨((s1.time / 60) * 60), (Agg.of ((l.take j).drop i))⟩ : Bucket)] : List Bucket) encBucket wn rfl rfl rfl (fun _ hM => (RowSl encBucket hM 0 rfl)) Try.underlying48 inf53 rfl rfl (by simp only [List.length_append, List.length_cons, List.length_nil]; omega) rfl fun A3 cp3 hc3 hm3 hA3 => ?_
            refine l_val wn (r_assign rfl) rfl ?_
            refine l_nil (e_go hK12 ?_)
            refine c_region ?_
            refine l_val wn (r_move rfl) rfl ?_
            refine l_val wn (r_assign rfl) rfl ?_
            have hd := Roll.Grp.done (s := (fun x => Agg.one x.value)) (.inr rfl) hr hs1 hI1.2 hI2 (.inr ⟨_, hs2, by omega⟩)
            have hlt := hd.1
            have hgl := hI2.len
            have he : (Roll.ups (l.take j) 60) = (Roll.ups (l.take i) 60) ++ [⟨s1.time / 60 * 60, (Agg.of ((l.take j).drop i))⟩] := hd.2.1
            refine l_nil (e_in_n (e_round2 j (.slice A3 (((Roll.ups (l.take i) 60) ++ ([(⟨((s1.time / 60) * 60), (Agg.of ((l.take j).drop i))⟩ : Bucket)] : List Bucket)).length) cp3) (sc rfl (sc rfl (sc rfl (sc rfl sn)))) (fun _ h => by rw [he]; exact (h.sel [2, 3, 4] (by decide) rfl)) ?_ ?_))
            · exact ⟨hgl, hd.2.2⟩
            · omega
        ·
          refine l_skip (wg rfl rfl rfl) rfl ?_
          refine l_skip (wg rfl rfl rfl) rfl ?_
          refine l_skip (wg rfl rfl rfl) rfl ?_
          refine l_skip (wg rfl rfl rfl) rfl ?_
          refine l_skip (wg rfl rfl rfl) rfl ?_
          refine l_skip (wg rfl rfl rfl) rfl ?_
          refine l_skip (wg rfl rfl rfl) rfl ?_
          refine l_skip (wg rfl rfl rfl) rfl ?_
          refine l_skip (wg rfl rfl rfl) rfl ?_
          refine l_val wn (r_pick rfl rfl) rfl ?_
          refine l_nil (e_go hK11 ?_)
          refine c_false rfl rfl ?_
          refine c_exit (e_then_x (e_loop1_x (e_in_hit (e_go hK9 ?_))))
          refine c_seq fun K13 hK13 => ?_
          refine c_region ?_
          refine l_val wn (r_move rfl) rfl ?_
          refine l_val wn (r_move rfl) rfl ?_
          refine l_val wn (r_move rfl) rfl ?_
          refine l_val wn (r_move rfl) rfl ?_
          refine l_val wn (r_move rfl) rfl ?_
          refine l_dslD 2 (lo := i) (hi := j) ((l.take j).drop i) wn rfl rfl (lo1 rfl (by omega)) (hi1 rfl (by omega)) (by first | omega | decide | (simp only [List.length_cons, List.length_nil, List.length_append, List.length_take, List.length_set]; omega)) (by first | omega | decide | (simp only [List.length_cons, List.length_nil, List.length_append, List.length_take, List.length_set]; omega)) (by first | omega | decide | (simp only [List.length_cons, List.length_nil, List.length_append, List.length_take, List.length_set]; omega)) (by first | rfl | simp | (rw [List.take_length]; done)) Try.underlying22 inf29 rfl fun A4 cp4 hc4 hm4 hA4 => ?_
          refine l_callF wn rfl Try.call14 rfl (fun w1 hM => c_refOf _ ((l.take j).drop i) w1 (hM.sl 0 rfl) (by first | omega | (simp only [List.length_cons, List.length_nil]; omega) | (simp only [List.length_drop, List.length_take]; omega)) (by first | exact HO | exact HOsub _ _ | (intro x hx; obtain rfl := List.mem_singleton.1 hx; exact HV))) ?_
          refine l_val wn (r_build [.int .i64 ((s1.time / 60) * 60), .int .i64 ((Agg.of ((l.take j).drop i)).count), .int .i64 ((Agg.of ((l.take j).drop i)).total), .int .i64 ((Agg.of ((l.take j).drop i)).min), .int .i64 ((Agg.of ((l.take j).drop i)).max), .int .i64 ((Agg.of ((l.take j).drop i)).first), .int .i64 ((Agg.of ((l.take j).drop i)).last), .int .i64 ((Agg.of ((l.take j).drop i)).rise)] pl53 inf53 rfl rfl) rfl ?_
          refine l_bsL bucketE ([(⟨((s1.time / 60) * 60), (Agg.of ((l.take j).drop i))⟩ : Bucket)] : List Bucket) wn Try.underlying48 inf53 rfl rfl rfl rfl (by decide) (by decide) rfl fun b48 => ?_
          refine l_app 2 (Roll.ups (l.take i) 60) ([(⟨((s1.time / 60) * 60), (Agg.of ((l.take j).drop i))⟩ : Bucket)] : List Bucket) encBucket wn rfl rfl rfl (fun _ hM => (RowSl encBucket hM 0 rfl)) Try.underlying48 inf53 rfl rfl (by simp only [List.length_append, List.length_cons, List.length_nil]; omega) rfl fun A5 cp5 hc5 hm5 hA5 => ?_
          refine l_val wn (r_assign rfl) rfl ?_
          refine l_nil (e_go hK13 ?_)
          refine c_region ?_
          refine l_val wn (r_move rfl) rfl ?_
          refine l_val wn (r_assign rfl) rfl ?_
          have hd := Roll.Grp.done (s := (fun x => Agg.one x.value)) (.inr rfl) hr hs1 hI1.2 hI2 (.inl (by omega))
          have hlt := hd.1
          have hgl := hI2.len
          have he : (Roll.ups (l.take j) 60) = (Roll.ups (l.take i) 60) ++ [⟨s1.time / 60 * 60, (Agg.of ((l.take j).drop i))⟩] := hd.2.1
          refine l_nil (e_in_n (e_round2 j (.slice A5 (((Roll.ups (l.take i) 60) ++ ([(⟨((s1.time / 60) * 60), (Agg.of ((l.take j).drop i))⟩ : Bucket)] : List Bucket)).length) cp5) (sc rfl (sc rfl (sc rfl (sc rfl sn)))) (fun _ h => by rw [he]; exact (h.sel [2, 3, 4] (by decide) rfl)) ?_ ?_))
          · exact ⟨hgl, hd.2.2⟩
          · omega
    ·
      refine c_exit (e_then_x (e_loop2_x (e_in_hit (e_go hK3 ?_))))
      refine c_seq fun K14 hK14 => ?_
      refine c_region ?_
      refine l_val wn (r_move rfl) rfl ?_
      refine l_val wn (r_assign rfl) rfl ?_
      refine l_nil (e_go hK14 ?_)
      refine c_ret (e_ret1 (.inl rfl) Try.results35 (rv_tmp rfl) fun w1 hM => ?_)
      exact hM.retL' 0 rfl (by rw [List.take_of_length_le (by omega)]; rfl)

end Go.Proofs.Yteogkbpcibnifaa
