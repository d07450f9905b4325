/-
  Walks: what each function hands back.
-/
import Derived.Test.YtnbkennlmnnbeaaWref1
import Derived.Test.YtnbkennlmnnbeaaWroll
import Derived.Test.YtnbkennlmnnbeaaWcodec
namespace Go.Proofs.Ytnbkennlmnnbeaa
open Ex
set_option linter.unusedVariables false
set_option linter.unusedSimpArgs false
theorem c_refWrong (lv : Value) (l : List Sample) (w : World) (hl : FlatSl (In w) 2 sampleE lv l w)  :
    Calls Try.prog 53 #[lv] w (Ret w (.agg (faultE (Codec.wrong l)).toArray)) := by
 obtain ⟨lA, lc, rfl, hlc, hlm, hlA⟩ := hl.form
 refine fstart (N := 53) (vals := [.slice lA l.length lc]) (S := Mem w no [slO (In w) 2 sampleE (.slice lA l.length lc) l]) Try.func53 rfl rfl rfl (Mem.ofDats (dc (dl hl) dn)) ?_
 refine c_seq fun _ hK1 => ?_
 refine c_region ?_
 refine l_alloc wn inf81 rfl fun b2 => ?_
 refine l_nil (e_go hK1 ?_)
 refine c_seq fun _ hK2 => ?_
 refine c_seq fun _ hK3 => ?_
 refine c_region ?_
 refine l_val wn (r_move rfl) rfl ?_
 refine l_val wn (r_len rfl Try.underlying24) rfl ?_
 refine l_val wn (r_gtr rfl rfl) rfl ?_
 refine l_nil (e_go hK3 ?_)
 refine c_cond rfl (fun h1 => ?_) (fun h1 => ?_)
 · refine c_seq fun _ hK4 => ?_
   refine c_region ?_
   refine l_val wn (r_build [.int .i64 5, .int .i64 0] pl81 inf81 rfl rfl) rfl ?_
   refine l_stn 0 wn rfl rfl rfl inf81 rfl rfl rfl ?_
   refine l_nil (e_go hK4 ?_)
   refine c_ret (e_then_r (e_ret1 (.inl rfl) Try.results53 (rv_cell 0 rfl rfl agg81 inf81 rfl) fun w1 hM => ?_))
   exact ret_agg (l1 := [.int .i64 5, .int .i64 0]) (by rw [Codec.wrong, if_pos (by omega)]) hM
 refine c_skip (e_go hK2 ?_)
 refine c_seq fun _ hK5 => ?_
 refine c_seq fun _ hK6 => ?_
 refine c_region ?_
 refine l_val wn (r_move rfl) rfl ?_
 refine l_val wn (r_len rfl Try.underlying24) rfl ?_
 refine l_val wn (r_move rfl) rfl ?_
 refine l_nil (e_go hK6 ?_)
 refine c_block ?_
 refine c_loop1 (fun (k : Nat) => [(0, .slice lA l.length lc), (2, .pointer (some ⟨b2, 0, none⟩)), (9, .slice lA l.length lc), (10, .int .i64 (l.length : Int)), (11, .int .i64 (k : Int))]) (fun (k : Nat) => [.blk b2 [.int .i64 0, .int .i64 0] 81, slO (In w) 2 sampleE (.slice lA l.length lc) l]) (fun (k : Nat) => k ≤ l.length ∧ Codec.wrongFrom 0 none l = Codec.wrongFrom k (Codec.prevOf l k) (l.drop k)) (fun (k : Nat) => l.length - k) 0 (sc rfl (sc rfl (sc rfl (sc rfl (sc (ji (by omega)) sn))))) (fun _ h => h) ?_ (fun k hI1 => ?_)
 · exact ⟨by omega, Codec.wrong_start l⟩
 refine c_seq fun _ hK7 => ?_
 refine c_region ?_
 refine l_val wn (r_lss rfl rfl) rfl ?_
 refine l_nil (e_go hK7 ?_)
 refine c_seq fun _ hK8 => ?_
 refine c_cond rfl (fun h2 => ?_) (fun h2 => ?_)
 · refine c_skip (e_go hK8 ?_)
   refine c_seq fun _ hK9 => ?_
   refine c_block ?_
   refine c_seq fun _ hK10 => ?_
   refine c_region ?_
   refine l_val wn (r_move rfl) rfl ?_
   obtain ⟨ad1, hd1⟩ := hlA (ne_nil (i := k) (by first | omega | decide | (simp only [List.length_cons, List.length_nil, List.length_append, List.length_take, List.length_set]; omega)))
   refine l_val wn (r_ia (i := k) rfl hd1 rfl (by omega) (by first | omega | decide | (simp only [List.length_cons, List.length_nil, List.length_append, List.length_take, List.length_set]; omega)) Try.underlying24 inf39) rfl ?_
   obtain ⟨s1, hs1⟩ : ∃ x, l[k]? = some x := ⟨_, List.getElem?_eq_getElem (by first | omega | decide | (simp only [List.length_cons, List.length_nil, List.length_append, List.length_take, List.length_set]; omega))⟩
   refine l_val wn (r_eln 1 [.int .i64 s1.time, .int .i64 s1.value] rfl rfl hd1 hs1 rfl rfl agg39 inf39) rfl ?_
   refine l_alloc wn inf39 rfl fun b4 => ?_
   refine l_val wn (r_assign rfl) rfl ?_
   refine l_stn 0 wn rfl rfl rfl inf39 rfl rfl rfl ?_
   refine l_nil (e_go hK10 ?_)
   refine c_seq fun _ hK11 => ?_
   refine c_cut [(0, .slice lA l.length lc), (2, .pointer (some ⟨b2, 0, none⟩)), (3, .int .i64 (k : Int)), (4, .pointer (some ⟨b4, 0, none⟩)), (9, .slice lA l.length lc), (10, .int .i64 (l.length : Int)), (11, .int .i64 (k : Int)), (33, .bool (decide ((s1.time < 0) ∨ ((1000000 < s1.time) ∨ ((1000000000 < s1.value) ∨ (s1.value < (-1000000000)))))))] (Mem w no [.blk b4 [.int .i64 s1.time, .int .i64 s1.value] 39, .blk b2 [.int .i64 0, .int .i64 0] 81, slO (In w) 2 sampleE (.slice lA l.length lc) l]) (fun _ hK12 => ?_) ?_
   · refine c_region ?_
     refine l_val wn (r_fa rfl fld39_0) rfl ?_
     refine l_val wn (r_lb 0 rfl rfl rfl flat3) rfl ?_
     refine l_val wn (r_lss rfl rfl) rfl ?_
     refine l_val wn (r_move rfl) rfl ?_
     refine l_case (t := 19) rfl (fun h3 => ?_) (fun h3 => ?_)
     · refine l_skip (wg rfl rfl rfl) rfl ?_
       refine l_skip (wg rfl rfl rfl) rfl ?_
       refine l_skip (wg rfl rfl rfl) rfl ?_
       refine l_val wn (r_pick rfl rfl) rfl ?_
       refine l_val wn (r_move rfl) rfl ?_
       refine l_skip (wg rfl rfl rfl) rfl ?_
       refine l_skip (wg rfl rfl rfl) rfl ?_
       refine l_skip (wg rfl rfl rfl) rfl ?_
       refine l_val wn (r_pick rfl rfl) rfl ?_
       refine l_val wn (r_move rfl) rfl ?_
       refine l_skip (wg rfl rfl rfl) rfl ?_
       refine l_skip (wg rfl rfl rfl) rfl ?_
       refine l_skip (wg rfl rfl rfl) rfl ?_
       refine l_val wn (r_pick rfl rfl) rfl ?_
       refine l_nil (e_cut hK12 (sc rfl (sc rfl (sc rfl (sc rfl (sc rfl (sc rfl (sc rfl (sc (jt (Or.inl h3)) sn)))))))) (fun _ h => h))
     refine l_val (wg rfl rfl rfl) (r_fa rfl fld39_0) rfl ?_
     refine l_val (wg rfl rfl rfl) (r_lb 0 rfl rfl rfl flat3) rfl ?_
     refine l_val (wg rfl rfl rfl) (r_gtr rfl rfl) rfl ?_
     refine l_val wn (r_pick rfl rfl) rfl ?_
     refine l_val wn (r_move rfl) rfl ?_
     refine l_case (t := 24) rfl (fun h4 => ?_) (fun h4 => ?_)
     · refine l_skip (wg rfl rfl rfl) rfl ?_
       refine l_skip (wg rfl rfl rfl) rfl ?_
       refine l_skip (wg rfl rfl rfl) rfl ?_
       refine l_val wn (r_pick rfl rfl) rfl ?_
       refine l_val wn (r_move rfl) rfl ?_
       refine l_skip (wg rfl rfl rfl) rfl ?_
       refine l_skip (wg rfl rfl rfl) rfl ?_
       refine l_skip (wg rfl rfl rfl) rfl ?_
       refine l_val wn (r_pick rfl rfl) rfl ?_
       refine l_nil (e_cut hK12 (sc rfl (sc rfl (sc rfl (sc rfl (sc rfl (sc rfl (sc rfl (sc (jt (Or.inr (Or.inl h4))) sn)))))))) (fun _ h => h))
     refine l_val (wg rfl rfl rfl) (r_fa rfl fld39_1) rfl ?_
     refine l_val (wg rfl rfl rfl) (r_lb 0 rfl rfl rfl flat3) rfl ?_
     refine l_val (wg rfl rfl rfl) (r_gtr rfl rfl) rfl ?_
     refine l_val wn (r_pick rfl rfl) rfl ?_
     refine l_val wn (r_move rfl) rfl ?_
     refine l_case (t := 29) rfl (fun h5 => ?_) (fun h5 => ?_)
     · refine l_skip (wg rfl rfl rfl) rfl ?_
       refine l_skip (wg rfl rfl rfl) rfl ?_
       refine l_skip (wg rfl rfl rfl) rfl ?_
       refine l_val wn (r_pick rfl rfl) rfl ?_
       refine l_nil (e_cut hK12 (sc rfl (sc rfl (sc rfl (sc rfl (sc rfl (sc rfl (sc rfl (sc (jt (Or.inr (Or.inr (Or.inl h5)))) sn)))))))) (fun _ h => h))
     refine l_val (wg rfl rfl rfl) (r_fa rfl fld39_1) rfl ?_
     refine l_val (wg rfl rfl rfl) (r_lb 0 rfl rfl rfl flat3) rfl ?_
     refine l_val (wg rfl rfl rfl) (r_lss rfl rfl) rfl ?_
     refine l_val wn (r_pick rfl rfl) rfl ?_
     refine l_nil (e_cut hK12 (sc rfl (sc rfl (sc rfl (sc rfl (sc rfl (sc rfl (sc rfl (sc (jp (iff_or_right h3 (iff_or_right h4 (iff_or_right h5 Iff.rfl)))) sn)))))))) (fun _ h => h))
   refine c_cond rfl (fun h6 => ?_) (fun h6 => ?_)
   · refine c_seq fun _ hK13 => ?_
     refine c_region ?_
     refine l_val wn (r_move rfl) rfl ?_
     refine l_val wn (r_build [.int .i64 3, .int .i64 (k : Int)] pl81 inf81 rfl rfl) rfl ?_
     refine l_stn 1 wn rfl rfl rfl inf81 rfl rfl rfl ?_
     refine l_nil (e_go hK13 ?_)
     refine c_ret (e_then_r (e_in_r (e_then_r (e_loop1_r (e_in_r (e_then_r (e_ret1 (.inl rfl) Try.results53 (rv_cell 1 rfl rfl agg81 inf81 rfl) fun w1 hM => ?_)))))))
     exact ret_agg (l1 := [.int .i64 3, .int .i64 (k : Int)]) (by rw [Codec.wrong, if_neg (by omega), hI1.2, Codec.wrong_step hs1, if_pos (by unfold Codec.badRange; omega)]) hM
   refine c_skip (e_go hK11 ?_)
   refine c_seq fun _ hK14 => ?_
   refine c_quiet mix (by kernel_rfl) (fun _ h => h.drew) ?_
   refine q_val wn (r_move rfl) rfl ?_
   refine q_val wn (r_gtr rfl rfl) rfl ?_
   refine q_val wn (r_move rfl) rfl ?_
   refine q_case (t := 38) rfl (fun h7 => ?_) (fun h7 => ?_)
   · refine q_val (wg rfl rfl rfl) (r_fa rfl fld39_0) rfl ?_
     refine q_val (wg rfl rfl rfl) (r_lb 0 rfl rfl rfl flat3) rfl ?_
     refine q_val (wg rfl rfl rfl) (r_move rfl) rfl ?_
     refine q_val (wg rfl rfl rfl) (r_move rfl) rfl ?_
     refine q_val (wg rfl rfl rfl) (r_subn rfl rfl (by omega)) rfl ?_
     refine q_val (wg rfl rfl rfl) (r_ia (i := (k - 1)) rfl hd1 rfl (by omega) (by first | omega | decide | (simp only [List.length_cons, List.length_nil, List.length_append, List.length_take, List.length_set]; omega)) Try.underlying24 inf39) rfl ?_
     refine q_val (wg rfl rfl rfl) (r_fe rfl fld39_0) rfl ?_
     obtain ⟨s2, hs2⟩ : ∃ x, l[(k - 1)]? = some x := ⟨_, List.getElem?_eq_getElem (by first | omega | decide | (simp only [List.length_cons, List.length_nil, List.length_append, List.length_take, List.length_set]; omega))⟩
     refine q_val (wg rfl rfl rfl) (r_el 2 rfl rfl hd1 hs2 rfl flat3) rfl ?_
     refine q_val (wg rfl rfl rfl) (r_leq rfl rfl) rfl ?_
     refine q_val wn (r_pick rfl rfl) rfl ?_
     refine q_end (e_go hK14 ?_)
     refine c_cond rfl (fun h8 => ?_) (fun h8 => ?_)
     · refine c_seq fun _ hK15 => ?_
       refine c_region ?_
       refine l_val wn (r_move rfl) rfl ?_
       refine l_val wn (r_build [.int .i64 2, .int .i64 (k : Int)] pl81 inf81 rfl rfl) rfl ?_
       refine l_stn 1 wn rfl rfl rfl inf81 rfl rfl rfl ?_
       refine l_nil (e_go hK15 ?_)
       refine c_ret (e_in_r (e_then_r (e_loop1_r (e_in_r (e_then_r (e_ret1 (.inl rfl) Try.results53 (rv_cell 1 rfl rfl agg81 inf81 rfl) fun w1 hM => ?_))))))
       exact ret_agg (l1 := [.int .i64 2, .int .i64 (k : Int)]) (by rw [Codec.wrong, if_neg (by omega), hI1.2, Codec.wrong_step hs1, if_neg (by unfold Codec.badRange; omega), if_pos (by rw [Codec.prevOf, if_neg (by omega), hs2]; simp [Codec.notAhead]; omega)]) hM
     refine c_skip (e_in_n (e_go hK9 ?_))
     refine c_region ?_
     refine l_val wn (r_addn rfl rfl (by omega)) rfl ?_
     refine l_val wn (r_move rfl) rfl ?_
     refine l_nil (e_round1 (k + 1) (sc rfl (sc rfl (sc rfl (sc rfl (sc (ji (by omega)) sn))))) (fun _ h => (h.sel [1, 2] (by decide) rfl)) ?_ ?_)
     · exact ⟨by omega, by rw [hI1.2, Codec.wrong_step hs1, if_neg (by unfold Codec.badRange; omega), if_neg (by rw [Codec.prevOf, if_neg (by omega), hs2]; simp [Codec.notAhead]; omega)]⟩
     omega
   refine q_skip (wg rfl rfl rfl) rfl ?_
   refine q_skip (wg rfl rfl rfl) rfl ?_
   refine q_skip (wg rfl rfl rfl) rfl ?_
   refine q_skip (wg rfl rfl rfl) rfl ?_
   refine q_skip (wg rfl rfl rfl) rfl ?_
   refine q_skip (wg rfl rfl rfl) rfl ?_
   refine q_skip (wg rfl rfl rfl) rfl ?_
   refine q_skip (wg rfl rfl rfl) rfl ?_
   refine q_skip (wg rfl rfl rfl) rfl ?_
   refine q_val wn (r_pick rfl rfl) rfl ?_
   refine q_end (e_go hK14 ?_)
   refine c_false rfl rfl ?_
   refine c_skip (e_in_n (e_go hK9 ?_))
   refine c_region ?_
   refine l_val wn (r_addn rfl rfl (by omega)) rfl ?_
   refine l_val wn (r_move rfl) rfl ?_
   refine l_nil (e_round1 (k + 1) (sc rfl (sc rfl (sc rfl (sc rfl (sc (ji (by omega)) sn))))) (fun _ h => (h.sel [1, 2] (by decide) rfl)) ?_ ?_)
   · exact ⟨by omega, by rw [hI1.2, Codec.wrong_step hs1, if_neg (by unfold Codec.badRange; omega), if_neg (by rw [Codec.prevOf, if_pos (by omega)]; simp [Codec.notAhead])]⟩
   omega
 refine c_exit (e_then_x (e_loop1_x (e_in_hit (e_go hK5 ?_))))
 refine c_seq fun _ hK16 => ?_
 refine c_region ?_
 refine l_val wn (r_build [.int .i64 0, .int .i64 0] pl81 inf81 rfl rfl) rfl ?_
 refine l_stn 0 wn rfl rfl rfl inf81 rfl rfl rfl ?_
 refine l_nil (e_go hK16 ?_)
 refine c_ret (e_ret1 (.inl rfl) Try.results53 (rv_cell 0 rfl rfl agg81 inf81 rfl) fun w1 hM => ?_)
 exact ret_agg (l1 := [.int .i64 0, .int .i64 0]) (by rw [Codec.wrong, if_neg (by omega), hI1.2, Codec.wrong_end (by omega)]) hM

theorem c_refIn (lv : Value) (l : List Bucket) (frm : Int) (to : Int) (w : World) (hl : FlatSl (In w) 8 bucketE lv l w)  :
    Calls Try.prog 60 #[lv, .int .i64 frm, .int .i64 to] w (Ret w (.agg (sumE (Roll.of l frm to)).toArray)) := by
 obtain ⟨lA, lc, rfl, hlc, hlm, hlA⟩ := hl.form
 refine fstart (N := 32) (vals := [.slice lA l.length lc, .int .i64 frm, .int .i64 to]) (S := Mem w no [slO (In w) 8 bucketE (.slice lA l.length lc) l]) Try.func60 rfl rfl rfl (Mem.ofDats (dc (dl hl) dn)) ?_
 refine c_seq fun _ hK1 => ?_
 refine c_region ?_
 refine l_alloc wn inf35 rfl fun b6 => ?_
 refine l_nil (e_go hK1 ?_)
 refine c_seq fun _ hK2 => ?_
 refine c_region ?_
 refine l_alloc wn inf35 rfl fun b7 => ?_
 refine l_nil (e_go hK2 ?_)
 refine c_seq fun _ hK3 => ?_
 refine c_seq fun _ hK4 => ?_
 refine c_region ?_
 refine l_val wn (r_move rfl) rfl ?_
 refine l_val wn (r_len rfl Try.underlying25) rfl ?_
 refine l_val wn (r_move rfl) rfl ?_
 refine l_nil (e_go hK4 ?_)
 refine c_block ?_
 refine c_loop1 (fun (k : Nat) => [(1, .int .i64 frm), (2, .int .i64 to), (6, .pointer (some ⟨b6, 0, none⟩)), (7, .pointer (some ⟨b7, 0, none⟩)), (10, .slice lA l.length lc), (11, .int .i64 (l.length : Int)), (12, .int .i64 (k : Int))]) (fun (k : Nat) => [.blk b7 [.int .i64 ((Roll.of (l.take k) frm to).count), .int .i64 ((Roll.of (l.take k) frm to).total), .int .i64 ((Roll.of (l.take k) frm to).min), .int .i64 ((Roll.of (l.take k) frm to).max), .int .i64 ((Roll.of (l.take k) frm to).first), .int .i64 ((Roll.of (l.take k) frm to).last), .int .i64 ((Roll.of (l.take k) frm to).rise)] 35, .blk b6 [.int .i64 0, .int .i64 0, .int .i64 0, .int .i64 0, .int .i64 0, .int .i64 0, .int .i64 0] 35, slO (In w) 8 bucketE (.slice lA l.length lc) l]) (fun (k : Nat) => k ≤ l.length) (fun (k : Nat) => l.length - k) 0 (sc rfl (sc rfl (sc rfl (sc rfl (sc rfl (sc rfl (sc (ji (by omega)) sn))))))) (fun _ h => h) ?_ (fun k hI1 => ?_)
 · omega
 refine c_seq fun _ hK5 => ?_
 refine c_region ?_
 refine l_val wn (r_lss rfl rfl) rfl ?_
 refine l_nil (e_go hK5 ?_)
 refine c_seq fun _ hK6 => ?_
 refine c_cond rfl (fun h1 => ?_) (fun h1 => ?_)
 · refine c_skip (e_go hK6 ?_)
   refine c_seq fun _ hK7 => ?_
   refine c_block ?_
   refine c_seq fun _ hK8 => ?_
   refine c_region ?_
   obtain ⟨ad1, hd1⟩ := hlA (ne_nil (i := k) (by first | omega | decide | (simp only [List.length_cons, List.length_nil, List.length_append, List.length_take, List.length_set]; omega)))
   refine l_val wn (r_ia (i := k) rfl hd1 rfl (by omega) (by first | omega | decide | (simp only [List.length_cons, List.length_nil, List.length_append, List.length_take, List.length_set]; omega)) Try.underlying25 inf78) rfl ?_
   obtain ⟨s1, hs1⟩ : ∃ x, l[k]? = some x := ⟨_, List.getElem?_eq_getElem (by first | omega | decide | (simp only [List.length_cons, List.length_nil, List.length_append, List.length_take, List.length_set]; omega))⟩
   refine l_val wn (r_eln 2 [.int .i64 s1.at_, .int .i64 s1.sum.count, .int .i64 s1.sum.total, .int .i64 s1.sum.min, .int .i64 s1.sum.max, .int .i64 s1.sum.first, .int .i64 s1.sum.last, .int .i64 s1.sum.rise] rfl rfl hd1 hs1 rfl rfl agg78 inf78) rfl ?_
   refine l_alloc wn inf78 rfl fun b9 => ?_
   refine l_stn 0 wn rfl rfl rfl inf78 rfl rfl rfl ?_
   refine l_nil (e_go hK8 ?_)
   refine c_seq fun _ hK9 => ?_
   refine c_region ?_
   refine l_val wn (r_move rfl) rfl ?_
   refine l_val wn (r_fa rfl fld78_0) rfl ?_
   refine l_val wn (r_lb 0 rfl rfl rfl flat3) rfl ?_
   refine l_val wn (r_leq rfl rfl) rfl ?_
   refine l_val wn (r_move rfl) rfl ?_
   refine l_case (t := 20) rfl (fun h2 => ?_) (fun h2 => ?_)
   · refine l_val (wg rfl rfl rfl) (r_fa rfl fld78_0) rfl ?_
     refine l_val (wg rfl rfl rfl) (r_lb 0 rfl rfl rfl flat3) rfl ?_
     refine l_val (wg rfl rfl rfl) (r_move rfl) rfl ?_
     refine l_val (wg rfl rfl rfl) (r_lss rfl rfl) rfl ?_
     refine l_val wn (r_pick rfl rfl) rfl ?_
     refine l_nil (e_go hK9 ?_)
     refine c_cond rfl (fun h3 => ?_) (fun h3 => ?_)
     · refine c_region ?_
       refine l_val wn (r_lbn 1 [.int .i64 ((Roll.of (l.take k) frm to).count), .int .i64 ((Roll.of (l.take k) frm to).total), .int .i64 ((Roll.of (l.take k) frm to).min), .int .i64 ((Roll.of (l.take k) frm to).max), .int .i64 ((Roll.of (l.take k) frm to).first), .int .i64 ((Roll.of (l.take k) frm to).last), .int .i64 ((Roll.of (l.take k) frm to).rise)] rfl rfl rfl rfl agg35 inf35) rfl ?_
       refine l_val wn (r_fa rfl fld78_1) rfl ?_
       refine l_val wn (r_lbn 0 [.int .i64 s1.sum.count, .int .i64 s1.sum.total, .int .i64 s1.sum.min, .int .i64 s1.sum.max, .int .i64 s1.sum.first, .int .i64 s1.sum.last, .int .i64 s1.sum.rise] rfl rfl rfl rfl agg35 inf35) rfl ?_
       refine l_callF wn rfl Try.call46 rfl (fun w1 hM => c_refJoin (Roll.of (l.take k) frm to) s1.sum w1) ?_
       refine l_stn 1 wn rfl rfl rfl inf35 rfl rfl rfl ?_
       refine l_nil (e_in_n (e_go hK7 ?_))
       refine c_region ?_
       refine l_val wn (r_addn rfl rfl (by omega)) rfl ?_
       refine l_val wn (r_move rfl) rfl ?_
       have hst := Roll.of_succ l frm to k s1 hs1
       rw [if_pos (by omega)] at hst
       refine l_nil (e_round1 (k + 1) (sc rfl (sc rfl (sc rfl (sc rfl (sc rfl (sc rfl (sc (ji (by omega)) sn))))))) (fun _ h => by rw [hst]; exact (h.sel [1, 2, 3] (by decide) rfl)) ?_ ?_)
       · omega
       omega
     refine c_skip (e_in_n (e_go hK7 ?_))
     refine c_region ?_
     refine l_val wn (r_addn rfl rfl (by omega)) rfl ?_
     refine l_val wn (r_move rfl) rfl ?_
     have hst := Roll.of_succ l frm to k s1 hs1
     rw [if_neg (by omega)] at hst
     refine l_nil (e_round1 (k + 1) (sc rfl (sc rfl (sc rfl (sc rfl (sc rfl (sc rfl (sc (ji (by omega)) sn))))))) (fun _ h => by rw [hst]; exact (h.sel [1, 2, 3] (by decide) rfl)) ?_ ?_)
     · omega
     omega
   refine l_skip (wg rfl rfl rfl) rfl ?_
   refine l_skip (wg rfl rfl rfl) rfl ?_
   refine l_skip (wg rfl rfl rfl) rfl ?_
   refine l_skip (wg rfl rfl rfl) rfl ?_
   refine l_val wn (r_pick rfl rfl) rfl ?_
   refine l_nil (e_go hK9 ?_)
   refine c_false rfl rfl ?_
   refine c_skip (e_in_n (e_go hK7 ?_))
   refine c_region ?_
   refine l_val wn (r_addn rfl rfl (by omega)) rfl ?_
   refine l_val wn (r_move rfl) rfl ?_
   have hst := Roll.of_succ l frm to k s1 hs1
   rw [if_neg (by omega)] at hst
   refine l_nil (e_round1 (k + 1) (sc rfl (sc rfl (sc rfl (sc rfl (sc rfl (sc rfl (sc (ji (by omega)) sn))))))) (fun _ h => by rw [hst]; exact (h.sel [1, 2, 3] (by decide) rfl)) ?_ ?_)
   · omega
   omega
 refine c_exit (e_then_x (e_loop1_x (e_in_hit (e_go hK3 ?_))))
 refine c_seq fun _ hK10 => ?_
 refine c_region ?_
 refine l_val wn (r_lbn 0 [.int .i64 ((Roll.of (l.take k) frm to).count), .int .i64 ((Roll.of (l.take k) frm to).total), .int .i64 ((Roll.of (l.take k) frm to).min), .int .i64 ((Roll.of (l.take k) frm to).max), .int .i64 ((Roll.of (l.take k) frm to).first), .int .i64 ((Roll.of (l.take k) frm to).last), .int .i64 ((Roll.of (l.take k) frm to).rise)] rfl rfl rfl rfl agg35 inf35) rfl ?_
 refine l_stn 1 wn rfl rfl rfl inf35 rfl rfl rfl ?_
 refine l_nil (e_go hK10 ?_)
 refine c_ret (e_ret1 (.inl rfl) Try.results60 (rv_cell 1 rfl rfl agg35 inf35 rfl) fun w1 hM => ?_)
 exact ret_agg (l1 := [.int .i64 ((Roll.of (l.take k) frm to).count), .int .i64 ((Roll.of (l.take k) frm to).total), .int .i64 ((Roll.of (l.take k) frm to).min), .int .i64 ((Roll.of (l.take k) frm to).max), .int .i64 ((Roll.of (l.take k) frm to).first), .int .i64 ((Roll.of (l.take k) frm to).last), .int .i64 ((Roll.of (l.take k) frm to).rise)]) (by rw [List.take_of_length_le (by omega)]) hM

theorem c_refWrongBuckets (lv : Value) (l : List Bucket) (tier : Int) (w : World) (hl : FlatSl (In w) 8 bucketE lv l w)  :
    Calls Try.prog 54 #[lv, .int .i64 tier] w (Ret w (.agg (faultE (Roll.wrong l tier)).toArray)) := by
 obtain ⟨lA, lc, rfl, hlc, hlm, hlA⟩ := hl.form
 refine fstart (N := 77) (vals := [.slice lA l.length lc, .int .i64 tier]) (S := Mem w no [slO (In w) 8 bucketE (.slice lA l.length lc) l]) Try.func54 rfl rfl rfl (Mem.ofDats (dc (dl hl) dn)) ?_
 refine c_seq fun _ hK1 => ?_
 refine c_region ?_
 refine l_alloc wn inf81 rfl fun b4 => ?_
 refine l_nil (e_go hK1 ?_)
 refine c_seq fun _ hK2 => ?_
 refine c_region ?_
 refine l_makeMap wn rfl fun b8 => ?_
 refine l_insert 0 (KeyT.int Try.underlying3) ([] : List (Nat × Int × Int)) 0 1 10 wn rfl rfl rfl rfl Try.underlying107 (by simp) ?_
 refine l_insert 0 (KeyT.int Try.underlying3) ([(0, 1, 10)] : List (Nat × Int × Int)) 1 2 60 wn rfl rfl rfl rfl Try.underlying107 (by simp) ?_
 refine l_val wn (r_move rfl) rfl ?_
 refine l_val wn (r_move rfl) rfl ?_
 refine l_val wn (rv_i (Roll.step_assoc tier 0 1) (r_lookup 0 (KeyT.int Try.underlying3) (fun _ => Iff.rfl) (nd ([1, 2] : List Int) rfl (by decide)) rfl rfl rfl Try.underlying107 inf3)) rfl ?_
 refine l_val wn (r_assign rfl) rfl ?_
 refine l_nil (e_go hK2 ?_)
 refine c_seq fun _ hK3 => ?_
 refine c_seq fun _ hK4 => ?_
 refine c_region ?_
 refine l_val wn (r_move rfl) rfl ?_
 refine l_val wn (r_eql rfl rfl) rfl ?_
 refine l_nil (e_go hK4 ?_)
 refine c_cond rfl (fun h1 => ?_) (fun h1 => ?_)
 · refine c_seq fun _ hK5 => ?_
   refine c_region ?_
   refine l_val wn (r_build [.int .i64 1, .int .i64 0] pl81 inf81 rfl rfl) rfl ?_
   refine l_stn 1 wn rfl rfl rfl inf81 rfl rfl rfl ?_
   refine l_nil (e_go hK5 ?_)
   refine c_ret (e_then_r (e_ret1 (.inl rfl) Try.results54 (rv_cell 1 rfl rfl agg81 inf81 rfl) fun w1 hM => ?_))
   exact ret_agg (l1 := [.int .i64 1, .int .i64 0]) (by rw [Roll.wrong, if_pos (by omega)]) hM
 have hsp := Roll.step_two h1
 refine c_skip (e_go hK3 ?_)
 refine c_seq fun _ hK6 => ?_
 refine c_seq fun _ hK7 => ?_
 refine c_region ?_
 refine l_val wn (r_move rfl) rfl ?_
 refine l_val wn (r_len rfl Try.underlying25) rfl ?_
 refine l_val wn (r_gtr rfl rfl) rfl ?_
 refine l_nil (e_go hK7 ?_)
 refine c_cond rfl (fun h2 => ?_) (fun h2 => ?_)
 · refine c_seq fun _ hK8 => ?_
   refine c_region ?_
   refine l_val wn (r_build [.int .i64 5, .int .i64 0] pl81 inf81 rfl rfl) rfl ?_
   refine l_stn 1 wn rfl rfl rfl inf81 rfl rfl rfl ?_
   refine l_nil (e_go hK8 ?_)
   refine c_ret (e_then_r (e_ret1 (.inl rfl) Try.results54 (rv_cell 1 rfl rfl agg81 inf81 rfl) fun w1 hM => ?_))
   exact ret_agg (l1 := [.int .i64 5, .int .i64 0]) (by rw [Roll.wrong, if_neg (by omega), if_pos (by omega)]) hM
 refine c_skip (e_go hK6 ?_)
 refine c_seq fun _ hK9 => ?_
 refine c_seq fun _ hK10 => ?_
 refine c_region ?_
 refine l_val wn (r_move rfl) rfl ?_
 refine l_val wn (r_len rfl Try.underlying25) rfl ?_
 refine l_val wn (r_move rfl) rfl ?_
 refine l_nil (e_go hK10 ?_)
 refine c_block ?_
 refine c_loop1 (fun (k : Nat) => [(0, .slice lA l.length lc), (4, .pointer (some ⟨b4, 0, none⟩)), (5, .int .i64 (Roll.step tier)), (19, .slice lA l.length lc), (20, .int .i64 (l.length : Int)), (21, .int .i64 (k : Int))]) (fun (k : Nat) => [.map b8 (ents (Value.int .i64) 0 ([(0, 1, 10), (1, 2, 60)] : List (Nat × Int × Int))) ([(0, 1, 10), (1, 2, 60)] : List (Nat × Int × Int)).length, .blk b4 [.int .i64 0, .int .i64 0] 81, slO (In w) 8 bucketE (.slice lA l.length lc) l]) (fun (k : Nat) => k ≤ l.length ∧ Roll.wrongFrom (Roll.step tier) 0 none l = Roll.wrongFrom (Roll.step tier) k (Roll.prevOf l k) (l.drop k)) (fun (k : Nat) => l.length - k) 0 (sc rfl (sc rfl (sc rfl (sc rfl (sc rfl (sc (ji (by omega)) sn)))))) (fun _ h => h) ?_ (fun k hI1 => ?_)
 · exact ⟨by omega, Roll.wrong_start l _⟩
 refine c_seq fun _ hK11 => ?_
 refine c_region ?_
 refine l_val wn (r_lss rfl rfl) rfl ?_
 refine l_nil (e_go hK11 ?_)
 refine c_seq fun _ hK12 => ?_
 refine c_cond rfl (fun h3 => ?_) (fun h3 => ?_)
 · refine c_skip (e_go hK12 ?_)
   refine c_seq fun _ hK13 => ?_
   refine c_block ?_
   refine c_seq fun _ hK14 => ?_
   refine c_region ?_
   refine l_val wn (r_move rfl) rfl ?_
   obtain ⟨ad1, hd1⟩ := hlA (ne_nil (i := k) (by first | omega | decide | (simp only [List.length_cons, List.length_nil, List.length_append, List.length_take, List.length_set]; omega)))
   refine l_val wn (r_ia (i := k) rfl hd1 rfl (by omega) (by first | omega | decide | (simp only [List.length_cons, List.length_nil, List.length_append, List.length_take, List.length_set]; omega)) Try.underlying25 inf78) rfl ?_
   obtain ⟨s1, hs1⟩ : ∃ x, l[k]? = some x := ⟨_, List.getElem?_eq_getElem (by first | omega | decide | (simp only [List.length_cons, List.length_nil, List.length_append, List.length_take, List.length_set]; omega))⟩
   refine l_val wn (r_eln 2 [.int .i64 s1.at_, .int .i64 s1.sum.count, .int .i64 s1.sum.total, .int .i64 s1.sum.min, .int .i64 s1.sum.max, .int .i64 s1.sum.first, .int .i64 s1.sum.last, .int .i64 s1.sum.rise] rfl rfl hd1 hs1 rfl rfl agg78 inf78) rfl ?_
   refine l_alloc wn inf78 rfl fun b7 => ?_
   refine l_val wn (r_assign rfl) rfl ?_
   refine l_stn 0 wn rfl rfl rfl inf78 rfl rfl rfl ?_
   refine l_nil (e_go hK14 ?_)
   refine c_seq fun _ hK15 => ?_
   refine c_cut [(0, .slice lA l.length lc), (4, .pointer (some ⟨b4, 0, none⟩)), (5, .int .i64 (Roll.step tier)), (6, .int .i64 (k : Int)), (7, .pointer (some ⟨b7, 0, none⟩)), (19, .slice lA l.length lc), (20, .int .i64 (l.length : Int)), (21, .int .i64 (k : Int)), (57, .bool (decide ((s1.at_ < 0) ∨ ((1000000 < s1.at_) ∨ ((((s1.at_ / (Roll.step tier)) * (Roll.step tier)) ≠ s1.at_) ∨ ((s1.sum.count < 1) ∨ ((Roll.step tier) < s1.sum.count)))))))] (Mem w no [.blk b7 [.int .i64 s1.at_, .int .i64 s1.sum.count, .int .i64 s1.sum.total, .int .i64 s1.sum.min, .int .i64 s1.sum.max, .int .i64 s1.sum.first, .int .i64 s1.sum.last, .int .i64 s1.sum.rise] 78, .map b8 (ents (Value.int .i64) 0 ([(0, 1, 10), (1, 2, 60)] : List (Nat × Int × Int))) ([(0, 1, 10), (1, 2, 60)] : List (Nat × Int × Int)).length, .blk b4 [.int .i64 0, .int .i64 0] 81, slO (In w) 8 bucketE (.slice lA l.length lc) l]) (fun _ hK16 => ?_) ?_
   · refine c_quiet mix (by kernel_rfl) (fun _ h => h.drew) ?_
     refine q_val wn (r_fa rfl fld78_0) rfl ?_
     refine q_val wn (r_lb 0 rfl rfl rfl flat3) rfl ?_
     refine q_val wn (r_lss rfl rfl) rfl ?_
     refine q_val wn (r_move rfl) rfl ?_
     refine q_case (t := 29) rfl (fun h4 => ?_) (fun h4 => ?_)
     · refine q_skip (wg rfl rfl rfl) rfl ?_
       refine q_skip (wg rfl rfl rfl) rfl ?_
       refine q_skip (wg rfl rfl rfl) rfl ?_
       refine q_val wn (r_pick rfl rfl) rfl ?_
       refine q_val wn (r_move rfl) rfl ?_
       refine q_skip (wg rfl rfl rfl) rfl ?_
       refine q_skip (wg rfl rfl rfl) rfl ?_
       refine q_skip (wg rfl rfl rfl) rfl ?_
       refine q_skip (wg rfl rfl rfl) rfl ?_
       refine q_skip (wg rfl rfl rfl) rfl ?_
       refine q_skip (wg rfl rfl rfl) rfl ?_
       refine q_skip (wg rfl rfl rfl) rfl ?_
       refine q_skip (wg rfl rfl rfl) rfl ?_
       refine q_skip (wg rfl rfl rfl) rfl ?_
       refine q_val wn (r_pick rfl rfl) rfl ?_
       refine q_val wn (r_move rfl) rfl ?_
       refine q_skip (wg rfl rfl rfl) rfl ?_
       refine q_skip (wg rfl rfl rfl) rfl ?_
       refine q_skip (wg rfl rfl rfl) rfl ?_
       refine q_skip (wg rfl rfl rfl) rfl ?_
       refine q_val wn (r_pick rfl rfl) rfl ?_
       refine q_val wn (r_move rfl) rfl ?_
       refine q_skip (wg rfl rfl rfl) rfl ?_
       refine q_skip (wg rfl rfl rfl) rfl ?_
       refine q_skip (wg rfl rfl rfl) rfl ?_
       refine q_skip (wg rfl rfl rfl) rfl ?_
       refine q_skip (wg rfl rfl rfl) rfl ?_
       refine q_val wn (r_pick rfl rfl) rfl ?_
       refine q_end (e_cut hK16 (sc rfl (sc rfl (sc rfl (sc rfl (sc rfl (sc rfl (sc rfl (sc rfl (sc (jt (Or.inl h4)) sn))))))))) (fun _ h => h))
     refine q_val (wg rfl rfl rfl) (r_fa rfl fld78_0) rfl ?_
     refine q_val (wg rfl rfl rfl) (r_lb 0 rfl rfl rfl flat3) rfl ?_
     refine q_val (wg rfl rfl rfl) (r_gtr rfl rfl) rfl ?_
     refine q_val wn (r_pick rfl rfl) rfl ?_
     refine q_val wn (r_move rfl) rfl ?_
     refine q_case (t := 34) rfl (fun h5 => ?_) (fun h5 => ?_)
     · refine q_skip (wg rfl rfl rfl) rfl ?_
       refine q_skip (wg rfl rfl rfl) rfl ?_
       refine q_skip (wg rfl rfl rfl) rfl ?_
       refine q_skip (wg rfl rfl rfl) rfl ?_
       refine q_skip (wg rfl rfl rfl) rfl ?_
       refine q_skip (wg rfl rfl rfl) rfl ?_
       refine q_skip (wg rfl rfl rfl) rfl ?_
       refine q_skip (wg rfl rfl rfl) rfl ?_
       refine q_skip (wg rfl rfl rfl) rfl ?_
       refine q_val wn (r_pick rfl rfl) rfl ?_
       refine q_val wn (r_move rfl) rfl ?_
       refine q_skip (wg rfl rfl rfl) rfl ?_
       refine q_skip (wg rfl rfl rfl) rfl ?_
       refine q_skip (wg rfl rfl rfl) rfl ?_
       refine q_skip (wg rfl rfl rfl) rfl ?_
       refine q_val wn (r_pick rfl rfl) rfl ?_
       refine q_val wn (r_move rfl) rfl ?_
       refine q_skip (wg rfl rfl rfl) rfl ?_
       refine q_skip (wg rfl rfl rfl) rfl ?_
       refine q_skip (wg rfl rfl rfl) rfl ?_
       refine q_skip (wg rfl rfl rfl) rfl ?_
       refine q_skip (wg rfl rfl rfl) rfl ?_
       refine q_val wn (r_pick rfl rfl) rfl ?_
       refine q_end (e_cut hK16 (sc rfl (sc rfl (sc rfl (sc rfl (sc rfl (sc rfl (sc rfl (sc rfl (sc (jt (Or.inr (Or.inl h5))) sn))))))))) (fun _ h => h))
     refine q_val (wg rfl rfl rfl) (r_fa rfl fld78_0) rfl ?_
     refine q_val (wg rfl rfl rfl) (r_lb 0 rfl rfl rfl flat3) rfl ?_
     refine q_val (wg rfl rfl rfl) (r_move rfl) rfl ?_
     refine q_val (wg rfl rfl rfl) (r_quon rfl rfl (by omega) (by omega)) rfl ?_
     refine q_val (wg rfl rfl rfl) (r_move rfl) rfl ?_
     refine q_val (wg rfl rfl rfl) (r_muln rfl rfl (by first | omega | (rcases hsp with e | e <;> rw [e] <;> omega))) rfl ?_
     refine q_val (wg rfl rfl rfl) (r_fa rfl fld78_0) rfl ?_
     refine q_val (wg rfl rfl rfl) (r_lb 0 rfl rfl rfl flat3) rfl ?_
     refine q_val (wg rfl rfl rfl) (r_neq rfl rfl) rfl ?_
     refine q_val wn (r_pick rfl rfl) rfl ?_
     refine q_val wn (r_move rfl) rfl ?_
     refine q_case (t := 45) rfl (fun h6 => ?_) (fun h6 => ?_)
     · refine q_skip (wg rfl rfl rfl) rfl ?_
       refine q_skip (wg rfl rfl rfl) rfl ?_
       refine q_skip (wg rfl rfl rfl) rfl ?_
       refine q_skip (wg rfl rfl rfl) rfl ?_
       refine q_val wn (r_pick rfl rfl) rfl ?_
       refine q_val wn (r_move rfl) rfl ?_
       refine q_skip (wg rfl rfl rfl) rfl ?_
       refine q_skip (wg rfl rfl rfl) rfl ?_
       refine q_skip (wg rfl rfl rfl) rfl ?_
       refine q_skip (wg rfl rfl rfl) rfl ?_
       refine q_skip (wg rfl rfl rfl) rfl ?_
       refine q_val wn (r_pick rfl rfl) rfl ?_
       refine q_end (e_cut hK16 (sc rfl (sc rfl (sc rfl (sc rfl (sc rfl (sc rfl (sc rfl (sc rfl (sc (jt (Or.inr (Or.inr (Or.inl h6)))) sn))))))))) (fun _ h => h))
     refine q_val (wg rfl rfl rfl) (r_fa rfl fld78_1) rfl ?_
     refine q_val (wg rfl rfl rfl) (r_fa rfl fld35_0) rfl ?_
     refine q_val (wg rfl rfl rfl) (r_lb 0 rfl rfl rfl flat3) rfl ?_
     refine q_val (wg rfl rfl rfl) (r_lss rfl rfl) rfl ?_
     refine q_val wn (r_pick rfl rfl) rfl ?_
     refine q_val wn (r_move rfl) rfl ?_
     refine q_case (t := 51) rfl (fun h7 => ?_) (fun h7 => ?_)
     · refine q_skip (wg rfl rfl rfl) rfl ?_
       refine q_skip (wg rfl rfl rfl) rfl ?_
       refine q_skip (wg rfl rfl rfl) rfl ?_
       refine q_skip (wg rfl rfl rfl) rfl ?_
       refine q_skip (wg rfl rfl rfl) rfl ?_
       refine q_val wn (r_pick rfl rfl) rfl ?_
       refine q_end (e_cut hK16 (sc rfl (sc rfl (sc rfl (sc rfl (sc rfl (sc rfl (sc rfl (sc rfl (sc (jt (Or.inr (Or.inr (Or.inr (Or.inl h7))))) sn))))))))) (fun _ h => h))
     refine q_val (wg rfl rfl rfl) (r_fa rfl fld78_1) rfl ?_
     refine q_val (wg rfl rfl rfl) (r_fa rfl fld35_0) rfl ?_
     refine q_val (wg rfl rfl rfl) (r_lb 0 rfl rfl rfl flat3) rfl ?_
     refine q_val (wg rfl rfl rfl) (r_move rfl) rfl ?_
     refine q_val (wg rfl rfl rfl) (r_gtr rfl rfl) rfl ?_
     refine q_val wn (r_pick rfl rfl) rfl ?_
     refine q_end (e_cut hK16 (sc rfl (sc rfl (sc rfl (sc rfl (sc rfl (sc rfl (sc rfl (sc rfl (sc (jp (iff_or_right h4 (iff_or_right h5 (iff_or_right h6 (iff_or_right h7 Iff.rfl))))) sn))))))))) (fun _ h => h))
   refine c_cond rfl (fun h8 => ?_) (fun h8 => ?_)
   · refine c_seq fun _ hK17 => ?_
     refine c_region ?_
     refine l_val wn (r_move rfl) rfl ?_
     refine l_val wn (r_build [.int .i64 3, .int .i64 (k : Int)] pl81 inf81 rfl rfl) rfl ?_
     refine l_stn 2 wn rfl rfl rfl inf81 rfl rfl rfl ?_
     refine l_nil (e_go hK17 ?_)
     refine c_ret (e_then_r (e_in_r (e_then_r (e_loop1_r (e_in_r (e_then_r (e_ret1 (.inl rfl) Try.results54 (rv_cell 2 rfl rfl agg81 inf81 rfl) fun w1 hM => ?_)))))))
     exact ret_agg (l1 := [.int .i64 3, .int .i64 (k : Int)]) (by rw [Roll.wrong, if_neg (by omega), if_neg (by omega), hI1.2, Roll.wrong_step hs1, if_pos ((Roll.badB_iff hsp).2 (by omega))]) hM
   refine c_skip (e_go hK15 ?_)
   refine c_seq fun _ hK18 => ?_
   refine c_quiet mix (by kernel_rfl) (fun _ h => h.drew) ?_
   refine q_val wn (r_move rfl) rfl ?_
   refine q_val wn (r_gtr rfl rfl) rfl ?_
   refine q_val wn (r_move rfl) rfl ?_
   refine q_case (t := 62) rfl (fun h9 => ?_) (fun h9 => ?_)
   · refine q_val (wg rfl rfl rfl) (r_fa rfl fld78_0) rfl ?_
     refine q_val (wg rfl rfl rfl) (r_lb 0 rfl rfl rfl flat3) rfl ?_
     refine q_val (wg rfl rfl rfl) (r_move rfl) rfl ?_
     refine q_val (wg rfl rfl rfl) (r_move rfl) rfl ?_
     refine q_val (wg rfl rfl rfl) (r_subn rfl rfl (by first | omega | (rcases hsp with e | e <;> rw [e] <;> omega))) rfl ?_
     refine q_val (wg rfl rfl rfl) (r_ia (i := (k - 1)) rfl hd1 rfl (by omega) (by first | omega | decide | (simp only [List.length_cons, List.length_nil, List.length_append, List.length_take, List.length_set]; omega)) Try.underlying25 inf78) rfl ?_
     refine q_val (wg rfl rfl rfl) (r_fe rfl fld78_0) rfl ?_
     obtain ⟨s2, hs2⟩ : ∃ x, l[(k - 1)]? = some x := ⟨_, List.getElem?_eq_getElem (by first | omega | decide | (simp only [List.length_cons, List.length_nil, List.length_append, List.length_take, List.length_set]; omega))⟩
     refine q_val (wg rfl rfl rfl) (r_el 3 rfl rfl hd1 hs2 rfl flat3) rfl ?_
     refine q_val (wg rfl rfl rfl) (r_leq rfl rfl) rfl ?_
     refine q_val wn (r_pick rfl rfl) rfl ?_
     refine q_end (e_go hK18 ?_)
     refine c_cond rfl (fun h10 => ?_) (fun h10 => ?_)
     · refine c_seq fun _ hK19 => ?_
       refine c_region ?_
       refine l_val wn (r_move rfl) rfl ?_
       refine l_val wn (r_build [.int .i64 2, .int .i64 (k : Int)] pl81 inf81 rfl rfl) rfl ?_
       refine l_stn 2 wn rfl rfl rfl inf81 rfl rfl rfl ?_
       refine l_nil (e_go hK19 ?_)
       refine c_ret (e_in_r (e_then_r (e_loop1_r (e_in_r (e_then_r (e_ret1 (.inl rfl) Try.results54 (rv_cell 2 rfl rfl agg81 inf81 rfl) fun w1 hM => ?_))))))
       exact ret_agg (l1 := [.int .i64 2, .int .i64 (k : Int)]) (by rw [Roll.wrong, if_neg (by omega), if_neg (by omega), hI1.2, Roll.wrong_step hs1, if_neg (fun g => absurd ((Roll.badB_iff hsp).1 g) (by omega)), if_pos (by rw [Roll.prevOf, if_neg (by omega), hs2]; simp [Roll.behind]; omega)]) hM
     refine c_skip (e_in_n (e_go hK13 ?_))
     refine c_region ?_
     refine l_val wn (r_addn rfl rfl (by first | omega | (rcases hsp with e | e <;> rw [e] <;> omega))) rfl ?_
     refine l_val wn (r_move rfl) rfl ?_
     refine l_nil (e_round1 (k + 1) (sc rfl (sc rfl (sc rfl (sc rfl (sc rfl (sc (ji (by omega)) sn)))))) (fun _ h => (h.sel [1, 2, 3] (by decide) rfl)) ?_ ?_)
     · exact ⟨by omega, by rw [hI1.2, Roll.wrong_step hs1, if_neg (fun g => absurd ((Roll.badB_iff hsp).1 g) (by omega)), if_neg (by rw [Roll.prevOf, if_neg (by omega), hs2]; simp [Roll.behind]; omega)]⟩
     omega
   refine q_skip (wg rfl rfl rfl) rfl ?_
   refine q_skip (wg rfl rfl rfl) rfl ?_
   refine q_skip (wg rfl rfl rfl) rfl ?_
   refine q_skip (wg rfl rfl rfl) rfl ?_
   refine q_skip (wg rfl rfl rfl) rfl ?_
   refine q_skip (wg rfl rfl rfl) rfl ?_
   refine q_skip (wg rfl rfl rfl) rfl ?_
   refine q_skip (wg rfl rfl rfl) rfl ?_
   refine q_skip (wg rfl rfl rfl) rfl ?_
   refine q_val wn (r_pick rfl rfl) rfl ?_
   refine q_end (e_go hK18 ?_)
   refine c_false rfl rfl ?_
   refine c_skip (e_in_n (e_go hK13 ?_))
   refine c_region ?_
   refine l_val wn (r_addn rfl rfl (by first | omega | (rcases hsp with e | e <;> rw [e] <;> omega))) rfl ?_
   refine l_val wn (r_move rfl) rfl ?_
   refine l_nil (e_round1 (k + 1) (sc rfl (sc rfl (sc rfl (sc rfl (sc rfl (sc (ji (by omega)) sn)))))) (fun _ h => (h.sel [1, 2, 3] (by decide) rfl)) ?_ ?_)
   · exact ⟨by omega, by rw [hI1.2, Roll.wrong_step hs1, if_neg (fun g => absurd ((Roll.badB_iff hsp).1 g) (by omega)), if_neg (by rw [Roll.prevOf, if_pos (by omega)]; simp [Roll.behind])]⟩
   omega
 refine c_exit (e_then_x (e_loop1_x (e_in_hit (e_go hK9 ?_))))
 refine c_seq fun _ hK20 => ?_
 refine c_region ?_
 refine l_val wn (r_build [.int .i64 0, .int .i64 0] pl81 inf81 rfl rfl) rfl ?_
 refine l_stn 1 wn rfl rfl rfl inf81 rfl rfl rfl ?_
 refine l_nil (e_go hK20 ?_)
 refine c_ret (e_ret1 (.inl rfl) Try.results54 (rv_cell 1 rfl rfl agg81 inf81 rfl) fun w1 hM => ?_)
 exact ret_agg (l1 := [.int .i64 0, .int .i64 0]) (by rw [Roll.wrong, if_neg (by omega), if_neg (by omega), hI1.2, Roll.wrong_end (by omega)]) hM

end Go.Proofs.Ytnbkennlmnnbeaa
