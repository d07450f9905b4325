/-
  Walks: what each function hands back.
-/
import Derived.Test.YtnbkennlmnnbeaaWplay
namespace Go.Proofs.Ytnbkennlmnnbeaa
open Ex
set_option linter.unusedVariables false
set_option linter.unusedSimpArgs false
set_option maxHeartbeats 2000000 in
theorem law_ShelfKeeps (lv : Value) (l : List ShAct) (w : World) (hl : FlatSl (In w) 5 actE lv l w)  :
    Calls Try.prog 7 #[lv] w (Ret w (.bool true)) := by
  obtain ⟨lA, lc, rfl, hlc, hlm, hlA⟩ := hl.form
  have hpl := Sh.play_len l
  refine fstart (N := 91) (vals := [.slice lA l.length lc]) (S := Mem w ⟨no, In w⟩ [slP 5 actE (.slice lA l.length lc) l]) Try.func7 rfl rfl rfl (Mem.ofDatsP (fun _ h => h) (dc (dlp hl) dn)) ?_
  refine c_seq fun K1 hK1 => ?_
  refine c_region ?_
  refine l_val wn (r_assign rfl) rfl ?_
  refine l_nil (e_go hK1 ?_)
  refine c_seq fun K2 hK2 => ?_
  refine c_seq fun K3 hK3 => ?_
  refine c_region ?_
  refine l_callF wn rfl Try.call29 rfl (fun w1 hM => c_alive7  w1) ?_
  refine l_val wn (r_notb rfl) rfl ?_
  refine l_nil (e_go hK3 ?_)
  refine c_false rfl rfl ?_
  refine c_skip (e_go hK2 ?_)
  refine c_seq fun K4 hK4 => ?_
  refine c_region ?_
  refine l_val wn (r_move rfl) rfl ?_
  refine l_callShL ((Sh.play l).1) ((Sh.play l).2) wn rfl Try.call30 rfl (fun w1 Pb hM pp => c_play _ l Pb w1 pp.lt (pp.sl 0 rfl)) fun A1 cp1 A2 cp2 A3 cp3 A4 cp4 A5 cp5 hb1 hA1 hA2 hA3 hA4 hA5 => ?_
  refine l_val wn (r_move rfl) rfl ?_
  refine l_val wn (r_extract rfl rfl) rfl ?_
  refine l_val wn (r_extract rfl rfl) rfl ?_
  refine l_alloc wn inf27 rfl fun b3 => ?_
  refine l_stn 0 wn rfl rfl rfl inf27 rfl rfl rfl ?_
  refine l_val wn (r_assign rfl) rfl ?_
  refine l_nil (e_go hK4 ?_)
  refine c_seq fun K5 hK5 => ?_
  refine c_region ?_
  refine l_nilRow (sampleE : Sample → List Value) 39 2 ?_
  refine l_val wn (r_assign rfl) rfl ?_
  refine l_nilRow (sampleE : Sample → List Value) 39 2 ?_
  refine l_val wn (r_assign rfl) rfl ?_
  refine l_nilRow (sampleE : Sample → List Value) 39 2 ?_
  refine l_val wn (r_assign rfl) rfl ?_
  refine l_nil (e_go hK5 ?_)
  refine c_seq fun K6 hK6 => ?_
  refine c_seq fun K7 hK7 => ?_
  refine c_region ?_
  refine l_val wn (r_move rfl) rfl ?_
  refine l_val wn (r_len rfl Try.underlying24) rfl ?_
  refine l_val wn (r_move rfl) rfl ?_
  refine l_nil (e_go hK7 ?_)
  refine c_block ?_
  refine c_loop4 (fun (k : Nat) (vr5 : Value) (vr6 : Value) (vr7 : Value) => [(3, .pointer (some ⟨b3, 0, none⟩)), (5, vr5), (6, vr6), (7, vr7), (17, .slice A5 (((Sh.play l).2).length) cp5), (18, .int .i64 (((Sh.play l).2).length : Int)), (19, .int .i64 (k : Int))]) (fun (k : Nat) (vr5 : Value) (vr6 : Value) (vr7 : Value) => [Row vr7 39 2 sampleE (Roll.inT ((Sh.play l).2.take k) (Sh.play l).1.coarseFrom (Sh.play l).1.coarseTo), Row vr6 39 2 sampleE (Roll.inT ((Sh.play l).2.take k) (Sh.play l).1.fineFrom (Sh.play l).1.fineTo), Row vr5 39 2 sampleE (Sh.fromS ((Sh.play l).2.take k) (Sh.play l).1.rawFrom), .blk b3 [.slice A1 (((Sh.play l).1).series.length) cp1, .slice A2 (((Sh.play l).1).raw.length) cp2, .slice A3 (((Sh.play l).1).fine.length) cp3, .slice A4 (((Sh.play l).1).coarse.length) cp4, .int .i64 (((Sh.play l).1).rawFrom), .int .i64 (((Sh.play l).1).fineFrom), .int .i64 (((Sh.play l).1).fineTo), .int .i64 (((Sh.play l).1).coarseFrom), .int .i64 (((Sh.play l).1).coarseTo)] 27, slP 2 labelE (.slice A1 (((Sh.play l).1).series.length) cp1) (((Sh.play l).1).series), slP 2 sampleE (.slice A2 (((Sh.play l).1).raw.length) cp2) (((Sh.play l).1).raw), slP 8 bucketE (.slice A3 (((Sh.play l).1).fine.length) cp3) (((Sh.play l).1).fine), slP 8 bucketE (.slice A4 (((Sh.play l).1).coarse.length) cp4) (((Sh.play l).1).coarse), slP 2 sampleE (.slice A5 (((Sh.play l).2).length) cp5) ((Sh.play l).2), slP 5 actE (.slice lA l.length lc) l]) (fun (k : Nat) (vr5 : Value) (vr6 : Value) (vr7 : Value) => k ≤ (Sh.play l).2.length) (fun (k : Nat) (vr5 : Value) (vr6 : Value) (vr7 : Value) => (Sh.play l).2.length - k) 0 (.slice none 0 0) (.slice none 0 0) (.slice none 0 0) (sc rfl (sc rfl (sc rfl (sc rfl (sc rfl (sc rfl (sc (ji (by omega)) sn))))))) (fun _ h => h) ?_ (fun k vr5 vr6 vr7 hI1 => ?_)
  · omega
  ·
    have hlen0 := Nat.le_trans (Sh.fromS_len ((Sh.play l).2.take k) (Sh.play l).1.rawFrom) (List.length_take_le k (Sh.play l).2)
    have hlen1 := Nat.le_trans (Roll.inT_len ((Sh.play l).2.take k) (Sh.play l).1.fineFrom (Sh.play l).1.fineTo) (List.length_take_le k (Sh.play l).2)
    have hlen2 := Nat.le_trans (Roll.inT_len ((Sh.play l).2.take k) (Sh.play l).1.coarseFrom (Sh.play l).1.coarseTo) (List.length_take_le k (Sh.play l).2)
    refine c_open 2 (l := (Sh.fromS ((Sh.play l).2.take k) (Sh.play l).1.rawFrom)) rfl fun A6 cp6 hv1 hc1 hm1 hA6 => ?_
    subst hv1
    refine c_open 1 (l := (Roll.inT ((Sh.play l).2.take k) (Sh.play l).1.fineFrom (Sh.play l).1.fineTo)) rfl fun A7 cp7 hv2 hc2 hm2 hA7 => ?_
    subst hv2
    refine c_open 0 (l := (Roll.inT ((Sh.play l).2.take k) (Sh.play l).1.coarseFrom (Sh.play l).1.coarseTo)) rfl fun A8 cp8 hv3 hc3 hm3 hA8 => ?_
    subst hv3
    refine c_seq fun K8 hK8 => ?_
    refine c_region ?_
    refine l_val wn (r_lss rfl rfl) rfl ?_
    refine l_nil (e_go hK8 ?_)
    refine c_seq fun K9 hK9 => ?_
    refine c_cond rfl (fun h1 => ?_) (fun h1 => ?_)
    ·
      refine c_skip (e_go hK9 ?_)
      refine c_seq fun K10 hK10 => ?_
      refine c_block ?_
      refine c_seq fun K11 hK11 => ?_
      refine c_region ?_
      obtain ⟨ad1, hd1⟩ := hA5 (ne_nil (i := k) (by first | omega | decide | (simp only [List.length_cons, List.length_nil, List.length_append, List.length_take, List.length_set]; omega)))
      refine l_val wn (r_ia (i := k) rfl hd1 rfl (by omega) (by first | omega | decide | (simp only [List.length_cons, List.length_nil, List.length_append, List.length_take, List.length_set]; omega)) Try.underlying24 inf39) rfl ?_
      obtain ⟨s1, hs1⟩ : ∃ x, ((Sh.play l).2)[k]? = some x := ⟨_, List.getElem?_eq_getElem (by first | omega | decide | (simp only [List.length_cons, List.length_nil, List.length_append, List.length_take, List.length_set]; omega))⟩
      refine l_val wn (r_pln 8 [.int .i64 s1.time, .int .i64 s1.value] rfl rfl hd1 hs1 rfl rfl agg39 inf39) rfl ?_
      refine l_alloc wn inf39 rfl fun b9 => ?_
      refine l_stn 0 wn rfl rfl rfl inf39 rfl rfl rfl ?_
      refine l_nil (e_go hK11 ?_)
      refine c_seq fun K12 hK12 => ?_
      refine c_seq fun K13 hK13 => ?_
      refine c_region ?_
      refine l_val wn (r_fa rfl fld39_0) rfl ?_
      refine l_val wn (r_lb 0 rfl rfl rfl flat3) rfl ?_
      refine l_val wn (r_fa rfl fld27_4) rfl ?_
      refine l_val wn (r_lb 4 rfl rfl rfl flat3) rfl ?_
      refine l_val wn (r_geq rfl rfl) rfl ?_
      refine l_nil (e_go hK13 ?_)
      refine c_cond rfl (fun h2 => ?_) (fun h2 => ?_)
      ·
        refine c_region ?_
        refine l_val wn (r_move rfl) rfl ?_
        refine l_val wn (r_lbn 0 [.int .i64 s1.time, .int .i64 s1.value] rfl rfl rfl rfl agg39 inf39) rfl ?_
        refine l_bsL sampleE ([s1] : List Sample) wn Try.underlying24 inf39 rfl rfl rfl rfl (by decide) (by decide) rfl fun b30 => ?_
        refine l_app 4 (Sh.fromS ((Sh.play l).2.take k) (Sh.play l).1.rawFrom) ([s1] : List Sample) encSample wn rfl rfl rfl (fun _ hM => (RowSl encSample hM 0 rfl)) Try.underlying24 inf39 rfl rfl (by simp only [List.length_append, List.length_cons, List.length_nil]; omega) rfl fun A9 cp9 hc4 hm4 hA9 => ?_
        refine l_val wn (r_assign rfl) rfl ?_
        refine l_nil (e_go hK12 ?_)
        refine c_seq fun K14 hK14 => ?_
        refine c_seq fun K15 hK15 => ?_
        refine c_region ?_
        refine l_val wn (r_fa rfl fld39_0) rfl ?_
        refine l_val wn (r_lb 1 rfl rfl rfl flat3) rfl ?_
        refine l_val wn (r_fa rfl fld27_5) rfl ?_
        refine l_val wn (r_lb 5 rfl rfl rfl flat3) rfl ?_
        refine l_val wn (r_geq rfl rfl) rfl ?_
        refine l_val wn (r_move rfl) rfl ?_
        refine l_case (t := 37) rfl (fun h3 => ?_) (fun h3 => ?_)
        ·
          refine l_val (wg rfl rfl rfl) (r_fa rfl fld39_0) rfl ?_
          refine l_val (wg rfl rfl rfl) (r_lb 1 rfl rfl rfl flat3) rfl ?_
          refine l_val (wg rfl rfl rfl) (r_fa rfl fld27_6) rfl ?_
          refine l_val (wg rfl rfl rfl) (r_lb 5 rfl rfl rfl flat3) rfl ?_
          refine l_val (wg rfl rfl rfl) (r_lss rfl rfl) rfl ?_
          refine l_val wn (r_pick rfl rfl) rfl ?_
          refine l_nil (e_go hK15 ?_)
          refine c_cond rfl (fun h4 => ?_) (fun h4 => ?_)
          ·
            refine c_region ?_
            refine l_val wn (r_move rfl) rfl ?_
            refine l_val wn (r_lbn 1 [.int .i64 s1.time, .int .i64 s1.value] rfl rfl rfl rfl agg39 inf39) rfl ?_
            refine l_bsL sampleE ([s1] : List Sample) wn Try.underlying24 inf39 rfl rfl rfl rfl (by decide) (by decide) rfl fun b46 => ?_
            refine l_app 4 (Roll.inT ((Sh.play l).2.take k) (Sh.play l).1.fineFrom (Sh.play l).1.fineTo) ([s1] : List Sample) encSample wn rfl rfl rfl (fun _ hM => (RowSl encSample hM 0 rfl)) Try.underlying24 inf39 rfl rfl (by simp only [List.length_append, List.length_cons, List.length_nil]; omega) rfl fun A10 cp10 hc5 hm5 hA10 => ?_
            refine l_val wn (r_assign rfl) rfl ?_
            refine l_nil (e_go hK14 ?_)
            refine c_seq fun K16 hK16 => ?_
            refine c_region ?_
            refine l_val wn (r_fa rfl fld39_0) rfl ?_
            refine l_val wn (r_lb 2 rfl rfl rfl flat3) rfl ?_
            refine l_val wn (r_fa rfl fld27_7) rfl ?_
            refine l_val wn (r_lb 6 rfl rfl rfl flat3) rfl ?_
            refine l_val wn (r_geq rfl rfl) rfl ?_
            refine l_val wn (r_move rfl) rfl ?_
            refine l_case (t := 53) rfl (fun h5 => ?_) (fun h5 => ?_)
            ·
              refine l_val (wg rfl rfl rfl) (r_fa rfl fld39_0) rfl ?_
              refine l_val (wg rfl rfl rfl) (r_lb 2 rfl rfl rfl flat3) rfl ?_
              refine l_val (wg rfl rfl rfl) (r_fa rfl fld27_8) rfl ?_
              refine l_val (wg rfl rfl rfl) (r_lb 6 rfl rfl rfl flat3) rfl ?_
              refine l_val (wg rfl rfl rfl) (r_lss rfl rfl) rfl ?_
              refine l_val wn (r_pick rfl rfl) rfl ?_
              refine l_nil (e_go hK16 ?_)
              refine c_cond rfl (fun h6 => ?_) (fun h6 => ?_)
              ·
                refine c_region ?_
                refine l_val wn (r_move rfl) rfl ?_
                refine l_val wn (r_lbn 2 [.int .i64 s1.time, .int .i64 s1.value] rfl rfl rfl rfl agg39 inf39) rfl ?_
                refine l_bsL sampleE ([s1] : List Sample) wn Try.underlying24 inf39 rfl rfl rfl rfl (by decide) (by decide) rfl fun b62 => ?_
                refine l_app 4 (Roll.inT ((Sh.play l).2.take k) (Sh.play l).1.coarseFrom (Sh.play l).1.coarseTo) ([s1] : List Sample) encSample wn rfl rfl rfl (fun _ hM => (RowSl encSample hM 0 rfl)) Try.underlying24 inf39 rfl rfl (by simp only [List.length_append, List.length_cons, List.length_nil]; omega) rfl fun A11 cp11 hc6 hm6 hA11 => ?_
                refine l_val wn (r_assign rfl) rfl ?_
                refine l_nil (e_in_n (e_go hK10 ?_))
                refine c_region ?_
                refine l_val wn (r_addn rfl rfl (by omega)) rfl ?_
                refine l_val wn (r_move rfl) rfl ?_
                refine l_nil (e_round4 (k + 1) (.slice A9 (((Sh.fromS ((Sh.play l).2.take k) (Sh.play l).1.rawFrom) ++ ([s1] : List Sample)).length) cp9) (.slice A10 (((Roll.inT ((Sh.play l).2.take k) (Sh.play l).1.fineFrom (Sh.play l).1.fineTo) ++ ([s1] : List Sample)).length) cp10) (.slice A11 (((Roll.inT ((Sh.play l).2.take k) (Sh.play l).1.coarseFrom (Sh.play l).1.coarseTo) ++ ([s1] : List Sample)).length) cp11) (sc rfl (sc rfl (sc rfl (sc rfl (sc rfl (sc rfl (sc (ji (by omega)) sn))))))) (fun _ h => by rw [(Sh.fromS_succ (f := (Sh.play l).1.rawFrom) hs1).trans (if_pos (by omega)), (Roll.inT_succ (a := (Sh.play l).1.fineFrom) (b := (Sh.play l).1.fineTo) hs1).trans (if_pos (by omega)), (Roll.inT_succ (a := (Sh.play l).1.coarseFrom) (b := (Sh.play l).1.coarseTo) hs1).trans (if_pos (by omega))]; exact (h.sel [4, 5, 6, 7, 8, 9, 10, 11, 12, 13] (by decide) rfl)) ?_ ?_)
                · omega
                · omega
              ·
                refine c_skip (e_in_n (e_go hK10 ?_))
                refine c_region ?_
                refine l_val wn (r_addn rfl rfl (by omega)) rfl ?_
                refine l_val wn (r_move rfl) rfl ?_
                refine l_nil (e_round4 (k + 1) (.slice A9 (((Sh.fromS ((Sh.play l).2.take k) (Sh.play l).1.rawFrom) ++ ([s1] : List Sample)).length) cp9) (.slice A10 (((Roll.inT ((Sh.play l).2.take k) (Sh.play l).1.fineFrom (Sh.play l).1.fineTo) ++ ([s1] : List Sample)).length) cp10) (.slice A8 ((Roll.inT ((Sh.play l).2.take k) (Sh.play l).1.coarseFrom (Sh.play l).1.coarseTo).length) cp8) (sc rfl (sc rfl (sc rfl (sc rfl (sc rfl (sc rfl (sc (ji (by omega)) sn))))))) (fun _ h => by rw [(Sh.fromS_succ (f := (Sh.play l).1.rawFrom) hs1).trans (if_pos (by omega)), (Roll.inT_succ (a := (Sh.play l).1.fineFrom) (b := (Sh.play l).1.fineTo) hs1).trans (if_pos (by omega)), (Roll.inT_succ (a := (Sh.play l).1.coarseFrom) (b := (Sh.play l).1.coarseTo) hs1).trans (if_neg (by omega))]; exact (h.sel [3, 4, 5, 6, 7, 8, 9, 10, 11, 12] (by decide) rfl)) ?_ ?_)
                · omega
                · omega
            ·
              refine l_skip (wg rfl rfl rfl) rfl ?_
              refine l_skip (wg rfl rfl rfl) rfl ?_
              refine l_skip (wg rfl rfl rfl) rfl ?_
              refine l_skip (wg rfl rfl rfl) rfl ?_
              refine l_skip (wg rfl rfl rfl) rfl ?_
              refine l_val wn (r_pick rfl rfl) rfl ?_
              refine l_nil (e_go hK16 ?_)
              refine c_false rfl rfl ?_
              refine c_skip (e_in_n (e_go hK10 ?_))
              refine c_region ?_
              refine l_val wn (r_addn rfl rfl (by omega)) rfl ?_
              refine l_val wn (r_move rfl) rfl ?_
              refine l_nil (e_round4 (k + 1) (.slice A9 (((Sh.fromS ((Sh.play l).2.take k) (Sh.play l).1.rawFrom) ++ ([s1] : List Sample)).length) cp9) (.slice A10 (((Roll.inT ((Sh.play l).2.take k) (Sh.play l).1.fineFrom (Sh.play l).1.fineTo) ++ ([s1] : List Sample)).length) cp10) (.slice A8 ((Roll.inT ((Sh.play l).2.take k) (Sh.play l).1.coarseFrom (Sh.play l).1.coarseTo).length) cp8) (sc rfl (sc rfl (sc rfl (sc rfl (sc rfl (sc rfl (sc (ji (by omega)) sn))))))) (fun _ h => by rw [(Sh.fromS_succ (f := (Sh.play l).1.rawFrom) hs1).trans (if_pos (by omega)), (Roll.inT_succ (a := (Sh.play l).1.fineFrom) (b := (Sh.play l).1.fineTo) hs1).trans (if_pos (by omega)), (Roll.inT_succ (a := (Sh.play l).1.coarseFrom) (b := (Sh.play l).1.coarseTo) hs1).trans (if_neg (by omega))]; exact (h.sel [3, 4, 5, 6, 7, 8, 9, 10, 11, 12] (by decide) rfl)) ?_ ?_)
              · omega
              · omega
          ·
            refine c_skip (e_go hK14 ?_)
            refine c_seq fun K17 hK17 => ?_
            refine c_region ?_
            refine l_val wn (r_fa rfl fld39_0) rfl ?_
            refine l_val wn (r_lb 1 rfl rfl rfl flat3) rfl ?_
            refine l_val wn (r_fa rfl fld27_7) rfl ?_
            refine l_val wn (r_lb 5 rfl rfl rfl flat3) rfl ?_
            refine l_val wn (r_geq rfl rfl) rfl ?_
            refine l_val wn (r_move rfl) rfl ?_
            refine l_case (t := 53) rfl (fun h7 => ?_) (fun h7 => ?_)
            ·
              refine l_val (wg rfl rfl rfl) (r_fa rfl fld39_0) rfl ?_
              refine l_val (wg rfl rfl rfl) (r_lb 1 rfl rfl rfl flat3) rfl ?_
              refine l_val (wg rfl rfl rfl) (r_fa rfl fld27_8) rfl ?_
              refine l_val (wg rfl rfl rfl) (r_lb 5 rfl rfl rfl flat3) rfl ?_
              refine l_val (wg rfl rfl rfl) (r_lss rfl rfl) rfl ?_
              refine l_val wn (r_pick rfl rfl) rfl ?_
              refine l_nil (e_go hK17 ?_)
              refine c_cond rfl (fun h8 => ?_) (fun h8 => ?_)
              ·
                refine c_region ?_
                refine l_val wn (r_move rfl) rfl ?_
                refine l_val wn (r_lbn 1 [.int .i64 s1.time, .int .i64 s1.value] rfl rfl rfl rfl agg39 inf39) rfl ?_
                refine l_bsL sampleE ([s1] : List Sample) wn Try.underlying24 inf39 rfl rfl rfl rfl (by decide) (by decide) rfl fun b62 => ?_
                refine l_app 3 (Roll.inT ((Sh.play l).2.take k) (Sh.play l).1.coarseFrom (Sh.play l).1.coarseTo) ([s1] : List Sample) encSample wn rfl rfl rfl (fun _ hM => (RowSl encSample hM 0 rfl)) Try.underlying24 inf39 rfl rfl (by simp only [List.length_append, List.length_cons, List.length_nil]; omega) rfl fun A12 cp12 hc7 hm7 hA12 => ?_
                refine l_val wn (r_assign rfl) rfl ?_
                refine l_nil (e_in_n (e_go hK10 ?_))
                refine c_region ?_
                refine l_val wn (r_addn rfl rfl (by omega)) rfl ?_
                refine l_val wn (r_move rfl) rfl ?_
                refine l_nil (e_round4 (k + 1) (.slice A9 (((Sh.fromS ((Sh.play l).2.take k) (Sh.play l).1.rawFrom) ++ ([s1] : List Sample)).length) cp9) (.slice A7 ((Roll.inT ((Sh.play l).2.take k) (Sh.play l).1.fineFrom (Sh.play l).1.fineTo).length) cp7) (.slice A12 (((Roll.inT ((Sh.play l).2.take k) (Sh.play l).1.coarseFrom (Sh.play l).1.coarseTo) ++ ([s1] : List Sample)).length) cp12) (sc rfl (sc rfl (sc rfl (sc rfl (sc rfl (sc rfl (sc (ji (by omega)) sn))))))) (fun _ h => by rw [(Sh.fromS_succ (f := (Sh.play l).1.rawFrom) hs1).trans (if_pos (by omega)), (Roll.inT_succ (a := (Sh.play l).1.fineFrom) (b := (Sh.play l).1.fineTo) hs1).trans (if_neg (by omega)), (Roll.inT_succ (a := (Sh.play l).1.coarseFrom) (b := (Sh.play l).1.coarseTo) hs1).trans (if_pos (by omega))]; exact (h.sel [3, 4, 5, 6, 7, 8, 9, 10, 11, 12] (by decide) rfl)) ?_ ?_)
                · omega
                · omega
              ·
                refine c_skip (e_in_n (e_go hK10 ?_))
                refine c_region ?_
                refine l_val wn (r_addn rfl rfl (by omega)) rfl ?_
                refine l_val wn (r_move rfl) rfl ?_
                refine l_nil (e_round4 (k + 1) (.slice A9 (((Sh.fromS ((Sh.play l).2.take k) (Sh.play l).1.rawFrom) ++ ([s1] : List Sample)).length) cp9) (.slice A7 ((Roll.inT ((Sh.play l).2.take k) (Sh.play l).1.fineFrom (Sh.play l).1.fineTo).length) cp7) (.slice A8 ((Roll.inT ((Sh.play l).2.take k) (Sh.play l).1.coarseFrom (Sh.play l).1.coarseTo).length) cp8) (sc rfl (sc rfl (sc rfl (sc rfl (sc rfl (sc rfl (sc (ji (by omega)) sn))))))) (fun _ h => by rw [(Sh.fromS_succ (f := (Sh.play l).1.rawFrom) hs1).trans (if_pos (by omega)), (Roll.inT_succ (a := (Sh.play l).1.fineFrom) (b := (Sh.play l).1.fineTo) hs1).trans (if_neg (by omega)), (Roll.inT_succ (a := (Sh.play l).1.coarseFrom) (b := (Sh.play l).1.coarseTo) hs1).trans (if_neg (by omega))]; exact (h.sel [2, 3, 4, 5, 6, 7, 8, 9, 10, 11] (by decide) rfl)) ?_ ?_)
                · omega
                · omega
            ·
              refine l_skip (wg rfl rfl rfl) rfl ?_
              refine l_skip (wg rfl rfl rfl) rfl ?_
              refine l_skip (wg rfl rfl rfl) rfl ?_
              refine l_skip (wg rfl rfl rfl) rfl ?_
              refine l_skip (wg rfl rfl rfl) rfl ?_
              refine l_val wn (r_pick rfl rfl) rfl ?_
              refine l_nil (e_go hK17 ?_)
              refine c_false rfl rfl ?_
              refine c_skip (e_in_n (e_go hK10 ?_))
              refine c_region ?_
              refine l_val wn (r_addn rfl rfl (by omega)) rfl ?_
              refine l_val wn (r_move rfl) rfl ?_
              refine l_nil (e_round4 (k + 1) (.slice A9 (((Sh.fromS ((Sh.play l).2.take k) (Sh.play l).1.rawFrom) ++ ([s1] : List Sample)).length) cp9) (.slice A7 ((Roll.inT ((Sh.play l).2.take k) (Sh.play l).1.fineFrom (Sh.play l).1.fineTo).length) cp7) (.slice A8 ((Roll.inT ((Sh.play l).2.take k) (Sh.play l).1.coarseFrom (Sh.play l).1.coarseTo).length) cp8) (sc rfl (sc rfl (sc rfl (sc rfl (sc rfl (sc rfl (sc (ji (by omega)) sn))))))) (fun _ h => by rw [(Sh.fromS_succ (f := (Sh.play l).1.rawFrom) hs1).trans (if_pos (by omega)), (Roll.inT_succ (a := (Sh.play l).1.fineFrom) (b := (Sh.play l).1.fineTo) hs1).trans (if_neg (by omega)), (Roll.inT_succ (a := (Sh.play l).1.coarseFrom) (b := (Sh.play l).1.coarseTo) hs1).trans (if_neg (by omega))]; exact (h.sel [2, 3, 4, 5, 6, 7, 8, 9, 10, 11] (by decide) rfl)) ?_ ?_)
              · omega
              · omega
        ·
          refine l_skip (wg rfl rfl rfl) rfl ?_
          refine l_skip (wg rfl rfl rfl) rfl ?_
          refine l_skip (wg rfl rfl rfl) rfl ?_
          refine l_skip (wg rfl rfl rfl) rfl ?_
          refine l_skip (wg rfl rfl rfl) rfl ?_
          refine l_val wn (r_pick rfl rfl) rfl ?_
          refine l_nil (e_go hK15 ?_)
          refine c_false rfl rfl ?_
          refine c_skip (e_go hK14 ?_)
          refine c_seq fun K18 hK18 => ?_
          refine c_region ?_
          refine l_val wn (r_fa rfl fld39_0) rfl ?_
          refine l_val wn (r_lb 1 rfl rfl rfl flat3) rfl ?_
          refine l_val wn (r_fa rfl fld27_7) rfl ?_
          refine l_val wn (r_lb 5 rfl rfl rfl flat3) rfl ?_
          refine l_val wn (r_geq rfl rfl) rfl ?_
          refine l_val wn (r_move rfl) rfl ?_
          refine l_case (t := 53) rfl (fun h9 => ?_) (fun h9 => ?_)
          ·
            refine l_val (wg rfl rfl rfl) (r_fa rfl fld39_0) rfl ?_
            refine l_val (wg rfl rfl rfl) (r_lb 1 rfl rfl rfl flat3) rfl ?_
            refine l_val (wg rfl rfl rfl) (r_fa rfl fld27_8) rfl ?_
            refine l_val (wg rfl rfl rfl) (r_lb 5 rfl rfl rfl flat3) rfl ?_
            refine l_val (wg rfl rfl rfl) (r_lss rfl rfl) rfl ?_
            refine l_val wn (r_pick rfl rfl) rfl ?_
            refine l_nil (e_go hK18 ?_)
            refine c_cond rfl (fun h10 => ?_) (fun h10 => ?_)
            ·
              refine c_region ?_
              refine l_val wn (r_move rfl) rfl ?_
              refine l_val wn (r_lbn 1 [.int .i64 s1.time, .int .i64 s1.value] rfl rfl rfl rfl agg39 inf39) rfl ?_
              refine l_bsL sampleE ([s1] : List Sample) wn Try.underlying24 inf39 rfl rfl rfl rfl (by decide) (by decide) rfl fun b62 => ?_
              refine l_app 3 (Roll.inT ((Sh.play l).2.take k) (Sh.play l).1.coarseFrom (Sh.play l).1.coarseTo) ([s1] : List Sample) encSample wn rfl rfl rfl (fun _ hM => (RowSl encSample hM 0 rfl)) Try.underlying24 inf39 rfl rfl (by simp only [List.length_append, List.length_cons, List.length_nil]; omega) rfl fun A13 cp13 hc8 hm8 hA13 => ?_
              refine l_val wn (r_assign rfl) rfl ?_
              refine l_nil (e_in_n (e_go hK10 ?_))
              refine c_region ?_
              refine l_val wn (r_addn rfl rfl (by omega)) rfl ?_
              refine l_val wn (r_move rfl) rfl ?_
              refine l_nil (e_round4 (k + 1) (.slice A9 (((Sh.fromS ((Sh.play l).2.take k) (Sh.play l).1.rawFrom) ++ ([s1] : List Sample)).length) cp9) (.slice A7 ((Roll.inT ((Sh.play l).2.take k) (Sh.play l).1.fineFrom (Sh.play l).1.fineTo).length) cp7) (.slice A13 (((Roll.inT ((Sh.play l).2.take k) (Sh.play l).1.coarseFrom (Sh.play l).1.coarseTo) ++ ([s1] : List Sample)).length) cp13) (sc rfl (sc rfl (sc rfl (sc rfl (sc rfl (sc rfl (sc (ji (by omega)) sn))))))) (fun _ h => by rw [(Sh.fromS_succ (f := (Sh.play l).1.rawFrom) hs1).trans (if_pos (by omega)), (Roll.inT_succ (a := (Sh.play l).1.fineFrom) (b := (Sh.play l).1.fineTo) hs1).trans (if_neg (by omega)), (Roll.inT_succ (a := (Sh.play l).1.coarseFrom) (b := (Sh.play l).1.coarseTo) hs1).trans (if_pos (by omega))]; exact (h.sel [3, 4, 5, 6, 7, 8, 9, 10, 11, 12] (by decide) rfl)) ?_ ?_)
              · omega
              · omega
            ·
              refine c_skip (e_in_n (e_go hK10 ?_))
              refine c_region ?_
              refine l_val wn (r_addn rfl rfl (by omega)) rfl ?_
              refine l_val wn (r_move rfl) rfl ?_
              refine l_nil (e_round4 (k + 1) (.slice A9 (((Sh.fromS ((Sh.play l).2.take k) (Sh.play l).1.rawFrom) ++ ([s1] : List Sample)).length) cp9) (.slice A7 ((Roll.inT ((Sh.play l).2.take k) (Sh.play l).1.fineFrom (Sh.play l).1.fineTo).length) cp7) (.slice A8 ((Roll.inT ((Sh.play l).2.take k) (Sh.play l).1.coarseFrom (Sh.play l).1.coarseTo).length) cp8) (sc rfl (sc rfl (sc rfl (sc rfl (sc rfl (sc rfl (sc (ji (by omega)) sn))))))) (fun _ h => by rw [(Sh.fromS_succ (f := (Sh.play l).1.rawFrom) hs1).trans (if_pos (by omega)), (Roll.inT_succ (a := (Sh.play l).1.fineFrom) (b := (Sh.play l).1.fineTo) hs1).trans (if_neg (by omega)), (Roll.inT_succ (a := (Sh.play l).1.coarseFrom) (b := (Sh.play l).1.coarseTo) hs1).trans (if_neg (by omega))]; exact (h.sel [2, 3, 4, 5, 6, 7, 8, 9, 10, 11] (by decide) rfl)) ?_ ?_)
              · omega
              · omega
          ·
            refine l_skip (wg rfl rfl rfl) rfl ?_
            refine l_skip (wg rfl rfl rfl) rfl ?_
            refine l_skip (wg rfl rfl rfl) rfl ?_
            refine l_skip (wg rfl rfl rfl) rfl ?_
            refine l_skip (wg rfl rfl rfl) rfl ?_
            refine l_val wn (r_pick rfl rfl) rfl ?_
            refine l_nil (e_go hK18 ?_)
            refine c_false rfl rfl ?_
            refine c_skip (e_in_n (e_go hK10 ?_))
            refine c_region ?_
            refine l_val wn (r_addn rfl rfl (by omega)) rfl ?_
            refine l_val wn (r_move rfl) rfl ?_
            refine l_nil (e_round4 (k + 1) (.slice A9 (((Sh.fromS ((Sh.play l).2.take k) (Sh.play l).1.rawFrom) ++ ([s1] : List Sample)).length) cp9) (.slice A7 ((Roll.inT ((Sh.play l).2.take k) (Sh.play l).1.fineFrom (Sh.play l).1.fineTo).length) cp7) (.slice A8 ((Roll.inT ((Sh.play l).2.take k) (Sh.play l).1.coarseFrom (Sh.play l).1.coarseTo).length) cp8) (sc rfl (sc rfl (sc rfl (sc rfl (sc rfl (sc rfl (sc (ji (by omega)) sn))))))) (fun _ h => by rw [(Sh.fromS_succ (f := (Sh.play l).1.rawFrom) hs1).trans (if_pos (by omega)), (Roll.inT_succ (a := (Sh.play l).1.fineFrom) (b := (Sh.play l).1.fineTo) hs1).trans (if_neg (by omega)), (Roll.inT_succ (a := (Sh.play l).1.coarseFrom) (b := (Sh.play l).1.coarseTo) hs1).trans (if_neg (by omega))]; exact (h.sel [2, 3, 4, 5, 6, 7, 8, 9, 10, 11] (by decide) rfl)) ?_ ?_)
            · omega
            · omega
      ·
        refine c_skip (e_go hK12 ?_)
        refine c_seq fun K19 hK19 => ?_
        refine c_seq fun K20 hK20 => ?_
        refine c_region ?_
        refine l_val wn (r_fa rfl fld39_0) rfl ?_
        refine l_val wn (r_lb 0 rfl rfl rfl flat3) rfl ?_
        refine l_val wn (r_fa rfl fld27_5) rfl ?_
        refine l_val wn (r_lb 4 rfl rfl rfl flat3) rfl ?_
        refine l_val wn (r_geq rfl rfl) rfl ?_
        refine l_val wn (r_move rfl) rfl ?_
        refine l_case (t := 37) rfl (fun h11 => ?_) (fun h11 => ?_)
        ·
          refine l_val (wg rfl rfl rfl) (r_fa rfl fld39_0) rfl ?_
          refine l_val (wg rfl rfl rfl) (r_lb 0 rfl rfl rfl flat3) rfl ?_
          refine l_val (wg rfl rfl rfl) (r_fa rfl fld27_6) rfl ?_
          refine l_val (wg rfl rfl rfl) (r_lb 4 rfl rfl rfl flat3) rfl ?_
          refine l_val (wg rfl rfl rfl) (r_lss rfl rfl) rfl ?_
          refine l_val wn (r_pick rfl rfl) rfl ?_
          refine l_nil (e_go hK20 ?_)
          refine c_cond rfl (fun h12 => ?_) (fun h12 => ?_)
          ·
            refine c_region ?_
            refine l_val wn (r_move rfl) rfl ?_
            refine l_val wn (r_lbn 0 [.int .i64 s1.time, .int .i64 s1.value] rfl rfl rfl rfl agg39 inf39) rfl ?_
            refine l_bsL sampleE ([s1] : List Sample) wn Try.underlying24 inf39 rfl rfl rfl rfl (by decide) (by decide) rfl fun b46 => ?_
            refine l_app 3 (Roll.inT ((Sh.play l).2.take k) (Sh.play l).1.fineFrom (Sh.play l).1.fineTo) ([s1] : List Sample) encSample wn rfl rfl rfl (fun _ hM => (RowSl encSample hM 0 rfl)) Try.underlying24 inf39 rfl rfl (by simp only [List.length_append, List.length_cons, List.length_nil]; omega) rfl fun A14 cp14 hc9 hm9 hA14 => ?_
            refine l_val wn (r_assign rfl) rfl ?_
            refine l_nil (e_go hK19 ?_)
            refine c_seq fun K21 hK21 => ?_
            refine c_region ?_
            refine l_val wn (r_fa rfl fld39_0) rfl ?_
            refine l_val wn (r_lb 1 rfl rfl rfl flat3) rfl ?_
            refine l_val wn (r_fa rfl fld27_7) rfl ?_
            refine l_val wn (r_lb 5 rfl rfl rfl flat3) rfl ?_
            refine l_val wn (r_geq rfl rfl) rfl ?_
            refine l_val wn (r_move rfl) rfl ?_
            refine l_case (t := 53) rfl (fun h13 => ?_) (fun h13 => ?_)
            ·
              refine l_val (wg rfl rfl rfl) (r_fa rfl fld39_0) rfl ?_
              refine l_val (wg rfl rfl rfl) (r_lb 1 rfl rfl rfl flat3) rfl ?_
              refine l_val (wg rfl rfl rfl) (r_fa rfl fld27_8) rfl ?_
              refine l_val (wg rfl rfl rfl) (r_lb 5 rfl rfl rfl flat3) rfl ?_
              refine l_val (wg rfl rfl rfl) (r_lss rfl rfl) rfl ?_
              refine l_val wn (r_pick rfl rfl) rfl ?_
              refine l_nil (e_go hK21 ?_)
              refine c_cond rfl (fun h14 => ?_) (fun h14 => ?_)
              ·
                refine c_region ?_
                refine l_val wn (r_move rfl) rfl ?_
                refine l_val wn (r_lbn 1 [.int .i64 s1.time, .int .i64 s1.value] rfl rfl rfl rfl agg39 inf39) rfl ?_
                refine l_bsL sampleE ([s1] : List Sample) wn Try.underlying24 inf39 rfl rfl rfl rfl (by decide) (by decide) rfl fun b62 => ?_
                refine l_app 3 (Roll.inT ((Sh.play l).2.take k) (Sh.play l).1.coarseFrom (Sh.play l).1.coarseTo) ([s1] : List Sample) encSample wn rfl rfl rfl (fun _ hM => (RowSl encSample hM 0 rfl)) Try.underlying24 inf39 rfl rfl (by simp only [List.length_append, List.length_cons, List.length_nil]; omega) rfl fun A15 cp15 hc10 hm10 hA15 => ?_
                refine l_val wn (r_assign rfl) rfl ?_
                refine l_nil (e_in_n (e_go hK10 ?_))
                refine c_region ?_
                refine l_val wn (r_addn rfl rfl (by omega)) rfl ?_
                refine l_val wn (r_move rfl) rfl ?_
                refine l_nil (e_round4 (k + 1) (.slice A6 ((Sh.fromS ((Sh.play l).2.take k) (Sh.play l).1.rawFrom).length) cp6) (.slice A14 (((Roll.inT ((Sh.play l).2.take k) (Sh.play l).1.fineFrom (Sh.play l).1.fineTo) ++ ([s1] : List Sample)).length) cp14) (.slice A15 (((Roll.inT ((Sh.play l).2.take k) (Sh.play l).1.coarseFrom (Sh.play l).1.coarseTo) ++ ([s1] : List Sample)).length) cp15) (sc rfl (sc rfl (sc rfl (sc rfl (sc rfl (sc rfl (sc (ji (by omega)) sn))))))) (fun _ h => by rw [(Sh.fromS_succ (f := (Sh.play l).1.rawFrom) hs1).trans (if_neg (by omega)), (Roll.inT_succ (a := (Sh.play l).1.fineFrom) (b := (Sh.play l).1.fineTo) hs1).trans (if_pos (by omega)), (Roll.inT_succ (a := (Sh.play l).1.coarseFrom) (b := (Sh.play l).1.coarseTo) hs1).trans (if_pos (by omega))]; exact (h.sel [3, 4, 5, 6, 7, 8, 9, 10, 11, 12] (by decide) rfl)) ?_ ?_)
                · omega
                · omega
              ·
                refine c_skip (e_in_n (e_go hK10 ?_))
                refine c_region ?_
                refine l_val wn (r_addn rfl rfl (by omega)) rfl ?_
                refine l_val wn (r_move rfl) rfl ?_
                refine l_nil (e_round4 (k + 1) (.slice A6 ((Sh.fromS ((Sh.play l).2.take k) (Sh.play l).1.rawFrom).length) cp6) (.slice A14 (((Roll.inT ((Sh.play l).2.take k) (Sh.play l).1.fineFrom (Sh.play l).1.fineTo) ++ ([s1] : List Sample)).length) cp14) (.slice A8 ((Roll.inT ((Sh.play l).2.take k) (Sh.play l).1.coarseFrom (Sh.play l).1.coarseTo).length) cp8) (sc rfl (sc rfl (sc rfl (sc rfl (sc rfl (sc rfl (sc (ji (by omega)) sn))))))) (fun _ h => by rw [(Sh.fromS_succ (f := (Sh.play l).1.rawFrom) hs1).trans (if_neg (by omega)), (Roll.inT_succ (a := (Sh.play l).1.fineFrom) (b := (Sh.play l).1.fineTo) hs1).trans (if_pos (by omega)), (Roll.inT_succ (a := (Sh.play l).1.coarseFrom) (b := (Sh.play l).1.coarseTo) hs1).trans (if_neg (by omega))]; exact (h.sel [2, 3, 4, 5, 6, 7, 8, 9, 10, 11] (by decide) rfl)) ?_ ?_)
                · omega
                · omega
            ·
              refine l_skip (wg rfl rfl rfl) rfl ?_
              refine l_skip (wg rfl rfl rfl) rfl ?_
              refine l_skip (wg rfl rfl rfl) rfl ?_
              refine l_skip (wg rfl rfl rfl) rfl ?_
              refine l_skip (wg rfl rfl rfl) rfl ?_
              refine l_val wn (r_pick rfl rfl) rfl ?_
              refine l_nil (e_go hK21 ?_)
              refine c_false rfl rfl ?_
              refine c_skip (e_in_n (e_go hK10 ?_))
              refine c_region ?_
              refine l_val wn (r_addn rfl rfl (by omega)) rfl ?_
              refine l_val wn (r_move rfl) rfl ?_
              refine l_nil (e_round4 (k + 1) (.slice A6 ((Sh.fromS ((Sh.play l).2.take k) (Sh.play l).1.rawFrom).length) cp6) (.slice A14 (((Roll.inT ((Sh.play l).2.take k) (Sh.play l).1.fineFrom (Sh.play l).1.fineTo) ++ ([s1] : List Sample)).length) cp14) (.slice A8 ((Roll.inT ((Sh.play l).2.take k) (Sh.play l).1.coarseFrom (Sh.play l).1.coarseTo).length) cp8) (sc rfl (sc rfl (sc rfl (sc rfl (sc rfl (sc rfl (sc (ji (by omega)) sn))))))) (fun _ h => by rw [(Sh.fromS_succ (f := (Sh.play l).1.rawFrom) hs1).trans (if_neg (by omega)), (Roll.inT_succ (a := (Sh.play l).1.fineFrom) (b := (Sh.play l).1.fineTo) hs1).trans (if_pos (by omega)), (Roll.inT_succ (a := (Sh.play l).1.coarseFrom) (b := (Sh.play l).1.coarseTo) hs1).trans (if_neg (by omega))]; exact (h.sel [2, 3, 4, 5, 6, 7, 8, 9, 10, 11] (by decide) rfl)) ?_ ?_)
              · omega
              · omega
          ·
            refine c_skip (e_go hK19 ?_)
            refine c_seq fun K22 hK22 => ?_
            refine c_region ?_
            refine l_val wn (r_fa rfl fld39_0) rfl ?_
            refine l_val wn (r_lb 0 rfl rfl rfl flat3) rfl ?_
            refine l_val wn (r_fa rfl fld27_7) rfl ?_
            refine l_val wn (r_lb 4 rfl rfl rfl flat3) rfl ?_
            refine l_val wn (r_geq rfl rfl) rfl ?_
            refine l_val wn (r_move rfl) rfl ?_
            refine l_case (t := 53) rfl (fun h15 => ?_) (fun h15 => ?_)
            ·
              refine l_val (wg rfl rfl rfl) (r_fa rfl fld39_0) rfl ?_
              refine l_val (wg rfl rfl rfl) (r_lb 0 rfl rfl rfl flat3) rfl ?_
              refine l_val (wg rfl rfl rfl) (r_fa rfl fld27_8) rfl ?_
              refine l_val (wg rfl rfl rfl) (r_lb 4 rfl rfl rfl flat3) rfl ?_
              refine l_val (wg rfl rfl rfl) (r_lss rfl rfl) rfl ?_
              refine l_val wn (r_pick rfl rfl) rfl ?_
              refine l_nil (e_go hK22 ?_)
              refine c_cond rfl (fun h16 => ?_) (fun h16 => ?_)
              ·
                refine c_region ?_
                refine l_val wn (r_move rfl) rfl ?_
                refine l_val wn (r_lbn 0 [.int .i64 s1.time, .int .i64 s1.value] rfl rfl rfl rfl agg39 inf39) rfl ?_
                refine l_bsL sampleE ([s1] : List Sample) wn Try.underlying24 inf39 rfl rfl rfl rfl (by decide) (by decide) rfl fun b62 => ?_
                refine l_app 2 (Roll.inT ((Sh.play l).2.take k) (Sh.play l).1.coarseFrom (Sh.play l).1.coarseTo) ([s1] : List Sample) encSample wn rfl rfl rfl (fun _ hM => (RowSl encSample hM 0 rfl)) Try.underlying24 inf39 rfl rfl (by simp only [List.length_append, List.length_cons, List.length_nil]; omega) rfl fun A16 cp16 hc11 hm11 hA16 => ?_
                refine l_val wn (r_assign rfl) rfl ?_
                refine l_nil (e_in_n (e_go hK10 ?_))
                refine c_region ?_
                refine l_val wn (r_addn rfl rfl (by omega)) rfl ?_
                refine l_val wn (r_move rfl) rfl ?_
                refine l_nil (e_round4 (k + 1) (.slice A6 ((Sh.fromS ((Sh.play l).2.take k) (Sh.play l).1.rawFrom).length) cp6) (.slice A7 ((Roll.inT ((Sh.play l).2.take k) (Sh.play l).1.fineFrom (Sh.play l).1.fineTo).length) cp7) (.slice A16 (((Roll.inT ((Sh.play l).2.take k) (Sh.play l).1.coarseFrom (Sh.play l).1.coarseTo) ++ ([s1] : List Sample)).length) cp16) (sc rfl (sc rfl (sc rfl (sc rfl (sc rfl (sc rfl (sc (ji (by omega)) sn))))))) (fun _ h => by rw [(Sh.fromS_succ (f := (Sh.play l).1.rawFrom) hs1).trans (if_neg (by omega)), (Roll.inT_succ (a := (Sh.play l).1.fineFrom) (b := (Sh.play l).1.fineTo) hs1).trans (if_neg (by omega)), (Roll.inT_succ (a := (Sh.play l).1.coarseFrom) (b := (Sh.play l).1.coarseTo) hs1).trans (if_pos (by omega))]; exact (h.sel [2, 3, 4, 5, 6, 7, 8, 9, 10, 11] (by decide) rfl)) ?_ ?_)
                · omega
                · omega
              ·
                refine c_skip (e_in_n (e_go hK10 ?_))
                refine c_region ?_
                refine l_val wn (r_addn rfl rfl (by omega)) rfl ?_
                refine l_val wn (r_move rfl) rfl ?_
                refine l_nil (e_round4 (k + 1) (.slice A6 ((Sh.fromS ((Sh.play l).2.take k) (Sh.play l).1.rawFrom).length) cp6) (.slice A7 ((Roll.inT ((Sh.play l).2.take k) (Sh.play l).1.fineFrom (Sh.play l).1.fineTo).length) cp7) (.slice A8 ((Roll.inT ((Sh.play l).2.take k) (Sh.play l).1.coarseFrom (Sh.play l).1.coarseTo).length) cp8) (sc rfl (sc rfl (sc rfl (sc rfl (sc rfl (sc rfl (sc (ji (by omega)) sn))))))) (fun _ h => by rw [(Sh.fromS_succ (f := (Sh.play l).1.rawFrom) hs1).trans (if_neg (by omega)), (Roll.inT_succ (a := (Sh.play l).1.fineFrom) (b := (Sh.play l).1.fineTo) hs1).trans (if_neg (by omega)), (Roll.inT_succ (a := (Sh.play l).1.coarseFrom) (b := (Sh.play l).1.coarseTo) hs1).trans (if_neg (by omega))]; exact (h.sel [1, 2, 3, 4, 5, 6, 7, 8, 9, 10] (by decide) rfl)) ?_ ?_)
                · omega
                · omega
            ·
              refine l_skip (wg rfl rfl rfl) rfl ?_
              refine l_skip (wg rfl rfl rfl) rfl ?_
              refine l_skip (wg rfl rfl rfl) rfl ?_
              refine l_skip (wg rfl rfl rfl) rfl ?_
              refine l_skip (wg rfl rfl rfl) rfl ?_
              refine l_val wn (r_pick rfl rfl) rfl ?_
              refine l_nil (e_go hK22 ?_)
              refine c_false rfl rfl ?_
              refine c_skip (e_in_n (e_go hK10 ?_))
              refine c_region ?_
              refine l_val wn (r_addn rfl rfl (by omega)) rfl ?_
              refine l_val wn (r_move rfl) rfl ?_
              refine l_nil (e_round4 (k + 1) (.slice A6 ((Sh.fromS ((Sh.play l).2.take k) (Sh.play l).1.rawFrom).length) cp6) (.slice A7 ((Roll.inT ((Sh.play l).2.take k) (Sh.play l).1.fineFrom (Sh.play l).1.fineTo).length) cp7) (.slice A8 ((Roll.inT ((Sh.play l).2.take k) (Sh.play l).1.coarseFrom (Sh.play l).1.coarseTo).length) cp8) (sc rfl (sc rfl (sc rfl (sc rfl (sc rfl (sc rfl (sc (ji (by omega)) sn))))))) (fun _ h => by rw [(Sh.fromS_succ (f := (Sh.play l).1.rawFrom) hs1).trans (if_neg (by omega)), (Roll.inT_succ (a := (Sh.play l).1.fineFrom) (b := (Sh.play l).1.fineTo) hs1).trans (if_neg (by omega)), (Roll.inT_succ (a := (Sh.play l).1.coarseFrom) (b := (Sh.play l).1.coarseTo) hs1).trans (if_neg (by omega))]; exact (h.sel [1, 2, 3, 4, 5, 6, 7, 8, 9, 10] (by decide) rfl)) ?_ ?_)
              · omega
              · omega
        ·
          refine l_skip (wg rfl rfl rfl) rfl ?_
          refine l_skip (wg rfl rfl rfl) rfl ?_
          refine l_skip (wg rfl rfl rfl) rfl ?_
          refine l_skip (wg rfl rfl rfl) rfl ?_
          refine l_skip (wg rfl rfl rfl) rfl ?_
          refine l_val wn (r_pick rfl rfl) rfl ?_
          refine l_nil (e_go hK20 ?_)
          refine c_false rfl rfl ?_
          refine c_skip (e_go hK19 ?_)
          refine c_seq fun K23 hK23 => ?_
          refine c_region ?_
          refine l_val wn (r_fa rfl fld39_0) rfl ?_
          refine l_val wn (r_lb 0 rfl rfl rfl flat3) rfl ?_
          refine l_val wn (r_fa rfl fld27_7) rfl ?_
          refine l_val wn (r_lb 4 rfl rfl rfl flat3) rfl ?_
          refine l_val wn (r_geq rfl rfl) rfl ?_
          refine l_val wn (r_move rfl) rfl ?_
          refine l_case (t := 53) rfl (fun h17 => ?_) (fun h17 => ?_)
          ·
            refine l_val (wg rfl rfl rfl) (r_fa rfl fld39_0) rfl ?_
            refine l_val (wg rfl rfl rfl) (r_lb 0 rfl rfl rfl flat3) rfl ?_
            refine l_val (wg rfl rfl rfl) (r_fa rfl fld27_8) rfl ?_
            refine l_val (wg rfl rfl rfl) (r_lb 4 rfl rfl rfl flat3) rfl ?_
            refine l_val (wg rfl rfl rfl) (r_lss rfl rfl) rfl ?_
            refine l_val wn (r_pick rfl rfl) rfl ?_
            refine l_nil (e_go hK23 ?_)
            refine c_cond rfl (fun h18 => ?_) (fun h18 => ?_)
            ·
              refine c_region ?_
              refine l_val wn (r_move rfl) rfl ?_
              refine l_val wn (r_lbn 0 [.int .i64 s1.time, .int .i64 s1.value] rfl rfl rfl rfl agg39 inf39) rfl ?_
              refine l_bsL sampleE ([s1] : List Sample) wn Try.underlying24 inf39 rfl rfl rfl rfl (by decide) (by decide) rfl fun b62 => ?_
              refine l_app 2 (Roll.inT ((Sh.play l).2.take k) (Sh.play l).1.coarseFrom (Sh.play l).1.coarseTo) ([s1] : List Sample) encSample wn rfl rfl rfl (fun _ hM => (RowSl encSample hM 0 rfl)) Try.underlying24 inf39 rfl rfl (by simp only [List.length_append, List.length_cons, List.length_nil]; omega) rfl fun A17 cp17 hc12 hm12 hA17 => ?_
              refine l_val wn (r_assign rfl) rfl ?_
              refine l_nil (e_in_n (e_go hK10 ?_))
              refine c_region ?_
              refine l_val wn (r_addn rfl rfl (by omega)) rfl ?_
              refine l_val wn (r_move rfl) rfl ?_
              refine l_nil (e_round4 (k + 1) (.slice A6 ((Sh.fromS ((Sh.play l).2.take k) (Sh.play l).1.rawFrom).length) cp6) (.slice A7 ((Roll.inT ((Sh.play l).2.take k) (Sh.play l).1.fineFrom (Sh.play l).1.fineTo).length) cp7) (.slice A17 (((Roll.inT ((Sh.play l).2.take k) (Sh.play l).1.coarseFrom (Sh.play l).1.coarseTo) ++ ([s1] : List Sample)).length) cp17) (sc rfl (sc rfl (sc rfl (sc rfl (sc rfl (sc rfl (sc (ji (by omega)) sn))))))) (fun _ h => by rw [(Sh.fromS_succ (f := (Sh.play l).1.rawFrom) hs1).trans (if_neg (by omega)), (Roll.inT_succ (a := (Sh.play l).1.fineFrom) (b := (Sh.play l).1.fineTo) hs1).trans (if_neg (by omega)), (Roll.inT_succ (a := (Sh.play l).1.coarseFrom) (b := (Sh.play l).1.coarseTo) hs1).trans (if_pos (by omega))]; exact (h.sel [2, 3, 4, 5, 6, 7, 8, 9, 10, 11] (by decide) rfl)) ?_ ?_)
              · omega
              · omega
            ·
              refine c_skip (e_in_n (e_go hK10 ?_))
              refine c_region ?_
              refine l_val wn (r_addn rfl rfl (by omega)) rfl ?_
              refine l_val wn (r_move rfl) rfl ?_
              refine l_nil (e_round4 (k + 1) (.slice A6 ((Sh.fromS ((Sh.play l).2.take k) (Sh.play l).1.rawFrom).length) cp6) (.slice A7 ((Roll.inT ((Sh.play l).2.take k) (Sh.play l).1.fineFrom (Sh.play l).1.fineTo).length) cp7) (.slice A8 ((Roll.inT ((Sh.play l).2.take k) (Sh.play l).1.coarseFrom (Sh.play l).1.coarseTo).length) cp8) (sc rfl (sc rfl (sc rfl (sc rfl (sc rfl (sc rfl (sc (ji (by omega)) sn))))))) (fun _ h => by rw [(Sh.fromS_succ (f := (Sh.play l).1.rawFrom) hs1).trans (if_neg (by omega)), (Roll.inT_succ (a := (Sh.play l).1.fineFrom) (b := (Sh.play l).1.fineTo) hs1).trans (if_neg (by omega)), (Roll.inT_succ (a := (Sh.play l).1.coarseFrom) (b := (Sh.play l).1.coarseTo) hs1).trans (if_neg (by omega))]; exact (h.sel [1, 2, 3, 4, 5, 6, 7, 8, 9, 10] (by decide) rfl)) ?_ ?_)
              · omega
              · omega
          ·
            refine l_skip (wg rfl rfl rfl) rfl ?_
            refine l_skip (wg rfl rfl rfl) rfl ?_
            refine l_skip (wg rfl rfl rfl) rfl ?_
            refine l_skip (wg rfl rfl rfl) rfl ?_
            refine l_skip (wg rfl rfl rfl) rfl ?_
            refine l_val wn (r_pick rfl rfl) rfl ?_
            refine l_nil (e_go hK23 ?_)
            refine c_false rfl rfl ?_
            refine c_skip (e_in_n (e_go hK10 ?_))
            refine c_region ?_
            refine l_val wn (r_addn rfl rfl (by omega)) rfl ?_
            refine l_val wn (r_move rfl) rfl ?_
            refine l_nil (e_round4 (k + 1) (.slice A6 ((Sh.fromS ((Sh.play l).2.take k) (Sh.play l).1.rawFrom).length) cp6) (.slice A7 ((Roll.inT ((Sh.play l).2.take k) (Sh.play l).1.fineFrom (Sh.play l).1.fineTo).length) cp7) (.slice A8 ((Roll.inT ((Sh.play l).2.take k) (Sh.play l).1.coarseFrom (Sh.play l).1.coarseTo).length) cp8) (sc rfl (sc rfl (sc rfl (sc rfl (sc rfl (sc rfl (sc (ji (by omega)) sn))))))) (fun _ h => by rw [(Sh.fromS_succ (f := (Sh.play l).1.rawFrom) hs1).trans (if_neg (by omega)), (Roll.inT_succ (a := (Sh.play l).1.fineFrom) (b := (Sh.play l).1.fineTo) hs1).trans (if_neg (by omega)), (Roll.inT_succ (a := (Sh.play l).1.coarseFrom) (b := (Sh.play l).1.coarseTo) hs1).trans (if_neg (by omega))]; exact (h.sel [1, 2, 3, 4, 5, 6, 7, 8, 9, 10] (by decide) rfl)) ?_ ?_)
            · omega
            · omega
    ·
      have hk1 : (Sh.play l).2.take k = (Sh.play l).2 := List.take_of_length_le (by omega)
      rw [hk1]
      have hl1 := Sh.fromS_len (Sh.play l).2 (Sh.play l).1.rawFrom
      have hl2 := Roll.inT_len (Sh.play l).2 (Sh.play l).1.fineFrom (Sh.play l).1.fineTo
      have hl3 := Roll.inT_len (Sh.play l).2 (Sh.play l).1.coarseFrom (Sh.play l).1.coarseTo
      refine c_exit (e_then_x (e_loop4_x (e_in_hit (e_go hK6 ?_))))
      refine c_seq fun K24 hK24 => ?_
      refine c_nodes (Mem w ⟨no, In w⟩ [Row (.slice A8 ((Roll.inT (Sh.play l).2 (Sh.play l).1.coarseFrom (Sh.play l).1.coarseTo).length) cp8) 39 2 sampleE (Roll.inT (Sh.play l).2 (Sh.play l).1.coarseFrom (Sh.play l).1.coarseTo), Row (.slice A7 ((Roll.inT (Sh.play l).2 (Sh.play l).1.fineFrom (Sh.play l).1.fineTo).length) cp7) 39 2 sampleE (Roll.inT (Sh.play l).2 (Sh.play l).1.fineFrom (Sh.play l).1.fineTo), Row (.slice A6 ((Sh.fromS (Sh.play l).2 (Sh.play l).1.rawFrom).length) cp6) 39 2 sampleE (Sh.fromS (Sh.play l).2 (Sh.play l).1.rawFrom), .blk b3 [.slice A1 (((Sh.play l).1).series.length) cp1, .slice A2 (((Sh.play l).1).raw.length) cp2, .slice A3 (((Sh.play l).1).fine.length) cp3, .slice A4 (((Sh.play l).1).coarse.length) cp4, .int .i64 (((Sh.play l).1).rawFrom), .int .i64 (((Sh.play l).1).fineFrom), .int .i64 (((Sh.play l).1).fineTo), .int .i64 (((Sh.play l).1).coarseFrom), .int .i64 (((Sh.play l).1).coarseTo)] 27, slP 2 labelE (.slice A1 (((Sh.play l).1).series.length) cp1) (((Sh.play l).1).series), slP 2 sampleE (.slice A2 (((Sh.play l).1).raw.length) cp2) (((Sh.play l).1).raw), slP 8 bucketE (.slice A3 (((Sh.play l).1).fine.length) cp3) (((Sh.play l).1).fine), slP 8 bucketE (.slice A4 (((Sh.play l).1).coarse.length) cp4) (((Sh.play l).1).coarse), slP 2 sampleE (.slice A5 (((Sh.play l).2).length) cp5) ((Sh.play l).2), slP 5 actE (.slice lA l.length lc) l]) mix (fun _ h => h.drew) rfl ?_
      refine n_run (f := 24) [0, 1, 2] rfl rfl (by kernel_rfl) (by kernel_rfl) (fun _ h => h) fun KS hKS => ?_
      refine s_val wn (r_fa rfl fld27_1) rfl ?_
      refine s_val wn (r_lb 3 rfl rfl rfl flat24) rfl ?_
      refine s_val wn (r_move rfl) rfl ?_
      refine s_end hKS ?_
      refine n_step1 (f := 23) (i := 3) rfl (by kernel_rfl) ?_
      refine n_one (i := 3) rfl fun KN hKN => ?_
      refine l_callF wn rfl Try.call31 rfl (fun w1 hM => c_SameSamples _ (((Sh.play l).1).raw) _ (Sh.fromS (Sh.play l).2 (Sh.play l).1.rawFrom) w1 (hM.slp 5 rfl) (RowSl encSample hM 2 rfl)) ?_
      refine l_nil (hKN _ _ (fun _ h => h) ?_)
      refine n_run (f := 19) [4, 5, 6, 7] rfl rfl (by kernel_rfl) (by kernel_rfl) (fun _ h => h) fun KS hKS => ?_
      refine s_val wn (r_move rfl) rfl ?_
      refine s_litt (t := 69) rfl (Sh.keeps_raw l) ?_
      refine s_val (wg rfl rfl rfl) (r_fa rfl fld27_2) rfl ?_
      refine s_val (wg rfl rfl rfl) (r_lb 3 rfl rfl rfl flat25) rfl ?_
      refine s_val (wg rfl rfl rfl) (r_move rfl) rfl ?_
      refine s_end hKS ?_
      refine n_step1 (f := 18) (i := 8) rfl (by kernel_rfl) ?_
      refine n_one (i := 8) rfl fun KN hKN => ?_
      refine l_callL (Roll.up (Roll.inT (Sh.play l).2 (Sh.play l).1.fineFrom (Sh.play l).1.fineTo) 1) (wg rfl rfl rfl) rfl Try.call33 rfl (fun w1 hM => c_Up _ (Roll.inT (Sh.play l).2 (Sh.play l).1.fineFrom (Sh.play l).1.fineTo) 1 w1 (RowSl encSample hM 1 rfl) (by first | assumption | omega | (simp only [List.length_cons, List.length_nil]; omega) | exact Nat.le_trans (Roll.up_len _ _) (by first | omega | simp))) fun A18 cp18 hc13 hm13 hA18 => ?_
      refine l_nil (hKN _ _ (fun _ h => (h.sel [1, 2, 3, 4, 5, 6, 7, 8, 9, 10] (by decide) rfl)) ?_)
      refine n_step1 (f := 17) (i := 9) rfl (by kernel_rfl) ?_
      refine n_one (i := 9) rfl fun KN hKN => ?_
      refine l_callF (wg rfl rfl rfl) rfl Try.call32 rfl (fun w1 hM => c_SameBuckets _ (((Sh.play l).1).fine) _ (Roll.up (Roll.inT (Sh.play l).2 (Sh.play l).1.fineFrom (Sh.play l).1.fineTo) 1) w1 (hM.slp 7 rfl) (RowSl encBucket hM 0 rfl)) ?_
      refine l_nil (hKN _ _ (fun _ h => (h.sel [1, 2, 3, 4, 5, 6, 7, 8, 9, 10] (by decide) rfl)) ?_)
      refine n_run (f := 12) [10, 11, 12, 13, 14] rfl rfl (by kernel_rfl) (by kernel_rfl) (fun _ h => (h.sel [1, 2, 3, 4, 5, 6, 7, 8, 9, 10] (by decide) rfl)) fun KS hKS => ?_
      refine s_val wn (r_pick rfl rfl) rfl ?_
      refine s_val wn (r_move rfl) rfl ?_
      refine s_litt (t := 76) rfl (Sh.keeps_fine l) ?_
      refine s_val (wg rfl rfl rfl) (r_fa rfl fld27_3) rfl ?_
      refine s_val (wg rfl rfl rfl) (r_lb 3 rfl rfl rfl flat25) rfl ?_
      refine s_val (wg rfl rfl rfl) (r_move rfl) rfl ?_
      refine s_end hKS ?_
      refine n_step1 (f := 11) (i := 15) rfl (by kernel_rfl) ?_
      refine n_one (i := 15) rfl fun KN hKN => ?_
      refine l_callL (Roll.up (Roll.inT (Sh.play l).2 (Sh.play l).1.coarseFrom (Sh.play l).1.coarseTo) 2) (wg rfl rfl rfl) rfl Try.call33 rfl (fun w1 hM => c_Up _ (Roll.inT (Sh.play l).2 (Sh.play l).1.coarseFrom (Sh.play l).1.coarseTo) 2 w1 (RowSl encSample hM 1 rfl) (by first | assumption | omega | (simp only [List.length_cons, List.length_nil]; omega) | exact Nat.le_trans (Roll.up_len _ _) (by first | omega | simp))) fun A19 cp19 hc14 hm14 hA19 => ?_
      refine l_nil (hKN _ _ (fun _ h => (h.sel [2, 3, 4, 5, 6, 7, 8, 9, 10, 11] (by decide) rfl)) ?_)
      refine n_step1 (f := 10) (i := 16) rfl (by kernel_rfl) ?_
      refine n_one (i := 16) rfl fun KN hKN => ?_
      refine l_callF (wg rfl rfl rfl) rfl Try.call32 rfl (fun w1 hM => c_SameBuckets _ (((Sh.play l).1).coarse) _ (Roll.up (Roll.inT (Sh.play l).2 (Sh.play l).1.coarseFrom (Sh.play l).1.coarseTo) 2) w1 (hM.slp 9 rfl) (RowSl encBucket hM 0 rfl)) ?_
      refine l_nil (hKN _ _ (fun _ h => (h.sel [2, 3, 4, 5, 6, 7, 8, 9, 10, 11] (by decide) rfl)) ?_)
      refine n_run (f := 5) [17, 18, 19, 21, 22] rfl rfl (by kernel_rfl) (by kernel_rfl) (fun _ h => (h.sel [2, 3, 4, 5, 6, 7, 8, 9, 10, 11] (by decide) rfl)) fun KS hKS => ?_
      refine s_val wn (r_pick rfl rfl) rfl ?_
      refine s_val wn (r_move rfl) rfl ?_
      refine s_litt (t := 83) rfl (Sh.keeps_coarse l) ?_
      refine s_val (wg rfl rfl rfl) (r_move rfl) rfl ?_
      refine s_val (wg rfl rfl rfl) (r_fa rfl fld27_1) rfl ?_
      refine s_val (wg rfl rfl rfl) (r_lb 3 rfl rfl rfl flat24) rfl ?_
      refine s_end hKS ?_
      refine n_step1 (f := 4) (i := 20) rfl (by kernel_rfl) ?_
      refine n_one (i := 20) rfl fun KN hKN => ?_
      refine l_callF (wg rfl rfl rfl) rfl Try.call34 rfl (fun w1 hM => c_Of _ (Sh.fromS (Sh.play l).2 (Sh.play l).1.rawFrom) w1 (RowSl encSample hM 4 rfl)) ?_
      refine l_nil (hKN _ _ (fun _ h => (h.sel [2, 3, 4, 5, 6, 7, 8, 9, 10, 11] (by decide) rfl)) ?_)
      refine n_step1 (f := 3) (i := 23) rfl (by kernel_rfl) ?_
      refine n_one (i := 23) rfl fun KN hKN => ?_
      refine l_callF (wg rfl rfl rfl) rfl Try.call34 rfl (fun w1 hM => c_Of _ (((Sh.play l).1).raw) w1 (hM.slp 7 rfl)) ?_
      refine l_nil (hKN _ _ (fun _ h => (h.sel [2, 3, 4, 5, 6, 7, 8, 9, 10, 11] (by decide) rfl)) ?_)
      refine n_run (f := 0) [24, 25, 26] rfl rfl (by kernel_rfl) (by kernel_rfl) (fun _ h => (h.sel [2, 3, 4, 5, 6, 7, 8, 9, 10, 11] (by decide) rfl)) fun KS hKS => ?_
      refine s_val (wg rfl rfl rfl) (r_eqlS (a := (Agg.of (Sh.fromS (Sh.play l).2 (Sh.play l).1.rawFrom))) (b := (Agg.of (((Sh.play l).1).raw))) rfl rfl eqv35) rfl ?_
      refine s_val wn (r_pick rfl rfl) rfl ?_
      refine s_val wn (r_assign rfl) rfl ?_
      refine s_end hKS ?_
      refine n_done (by kernel_rfl) (e_go hK24 ?_)
      refine c_ret (e_ret1 (.inl rfl) Try.results7 (rv_tmp rfl) fun w1 hM => ?_)
      exact ret_ok (by first | rfl | (exact congrArg Value.bool (decide_eq_true (by first | rfl | (rw [← Sh.keeps_raw l]))))) hM

end Go.Proofs.Ytnbkennlmnnbeaa
