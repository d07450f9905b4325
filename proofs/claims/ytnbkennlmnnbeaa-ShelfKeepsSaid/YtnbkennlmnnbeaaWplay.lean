/-
  Walks: what each function hands back.
-/
import Derived.Test.YtnbkennlmnnbeaaLShelfTwice
import Derived.Test.YtnbkennlmnnbeaaPShelf5
namespace Go.Proofs.Ytnbkennlmnnbeaa
open Ex
set_option linter.unusedVariables false
set_option linter.unusedSimpArgs false
set_option maxHeartbeats 1000000 in
theorem c_play (lv : Value) (l : List ShAct) (P0 : Nat → Prop) (w : World) (hP0 : ∀ b, P0 b → b < w.heap.size) (hl : FlatSl P0 5 actE lv l w)  :
    Calls Try.prog 30 #[lv] w (RetShL w P0 (Sh.play l).1 (Sh.play l).2) := by
  obtain ⟨lA, lc, rfl, hlc, hlm, hlA⟩ := hl.form
  refine fstart (N := 65) (vals := [.slice lA l.length lc]) (S := Mem w ⟨no, P0⟩ [slP 5 actE (.slice lA l.length lc) l]) Try.func30 rfl rfl rfl (Mem.ofDatsP hP0 (dc (dlp hl) dn)) ?_
  refine c_seq fun K1 hK1 => ?_
  refine c_region ?_
  refine l_alloc wn inf27 rfl fun b2 => ?_
  refine l_nilRow (sampleE : Sample → List Value) 39 2 ?_
  refine l_val wn (r_assign rfl) rfl ?_
  refine l_nil (e_go hK1 ?_)
  refine c_seq fun K2 hK2 => ?_
  refine c_region ?_
  refine l_val wn (r_build [.string ⟨#[97]⟩, .string ⟨#[98]⟩] pl89 inf89 rfl rfl) rfl ?_
  refine l_bsL labelE ([(⟨⟨#[97]⟩, ⟨#[98]⟩⟩ : Label)] : List Label) wn Try.underlying23 inf89 rfl rfl rfl rfl (by decide) (by decide) rfl fun b11 => ?_
  refine l_seal 0 encLabel rfl rfl ?_
  refine l_callSh (fun u => u) (⟨([(⟨⟨#[97]⟩, ⟨#[98]⟩⟩ : Label)] : List Label), [], [], [], 0, 0, 0, 0, 0⟩ : Shelf) wn rfl Try.call22 rfl (fun w1 Pb hM pp => c_new _ ([(⟨⟨#[97]⟩, ⟨#[98]⟩⟩ : Label)] : List Label) Pb w1 pp.lt (pp.sl 0 rfl) (by first | omega | simp)) fun A1 cp1 A2 cp2 A3 cp3 A4 cp4 hb1 hA1 hA2 hA3 hA4 => ?_
  refine l_alloc wn inf27 rfl fun b4 => ?_
  refine l_stn 0 wn rfl rfl rfl inf27 rfl rfl rfl ?_
  refine l_nil (e_go hK2 ?_)
  refine c_seq fun K3 hK3 => ?_
  refine c_region ?_
  refine l_nilRow (sampleE : Sample → List Value) 39 2 ?_
  refine l_val wn (r_assign rfl) rfl ?_
  refine l_nil (e_go hK3 ?_)
  refine c_seq fun K4 hK4 => ?_
  refine c_seq fun K5 hK5 => ?_
  refine c_region ?_
  refine l_val wn (r_move rfl) rfl ?_
  refine l_val wn (r_len rfl Try.underlying52) rfl ?_
  refine l_val wn (r_move rfl) rfl ?_
  refine l_nil (e_go hK5 ?_)
  refine c_block ?_
  refine c_loop6 (fun (k : Nat) (vr : Value) (vb4_0 : Value) (vb4_1 : Value) (vb4_2 : Value) (vb4_3 : Value) => [(2, .pointer (some ⟨b2, 0, none⟩)), (4, .pointer (some ⟨b4, 0, none⟩)), (5, vr), (13, .slice lA l.length lc), (14, .int .i64 (l.length : Int)), (15, .int .i64 (k : Int))]) (fun (k : Nat) (vr : Value) (vb4_0 : Value) (vb4_1 : Value) (vb4_2 : Value) (vb4_3 : Value) => [Row vr 39 2 sampleE ((Sh.play (l.take k)).2), .blk b4 [vb4_0, vb4_1, vb4_2, vb4_3, .int .i64 (((Sh.play (l.take k)).1).rawFrom), .int .i64 (((Sh.play (l.take k)).1).fineFrom), .int .i64 (((Sh.play (l.take k)).1).fineTo), .int .i64 (((Sh.play (l.take k)).1).coarseFrom), .int .i64 (((Sh.play (l.take k)).1).coarseTo)] 27, slP 2 labelE vb4_0 (((Sh.play (l.take k)).1).series), slP 2 sampleE vb4_1 (((Sh.play (l.take k)).1).raw), slP 8 bucketE vb4_2 (((Sh.play (l.take k)).1).fine), slP 8 bucketE vb4_3 (((Sh.play (l.take k)).1).coarse), slP 2 labelE (.slice (some ⟨b11, 0, none⟩) 1 1) ([(⟨⟨#[97]⟩, ⟨#[98]⟩⟩ : Label)] : List Label), Row (.slice none 0 0) 39 2 sampleE ([] : List Sample), .blk b2 [.slice none 0 0, .slice none 0 0, .slice none 0 0, .slice none 0 0, .int .i64 0, .int .i64 0, .int .i64 0, .int .i64 0, .int .i64 0] 27, slP 5 actE (.slice lA l.length lc) l]) (fun (k : Nat) (vr : Value) (vb4_0 : Value) (vb4_1 : Value) (vb4_2 : Value) (vb4_3 : Value) => k ≤ l.length) (fun (k : Nat) (vr : Value) (vb4_0 : Value) (vb4_1 : Value) (vb4_2 : Value) (vb4_3 : Value) => l.length - k) 0 (.slice none 0 0) (.slice A1 ((⟨([(⟨⟨#[97]⟩, ⟨#[98]⟩⟩ : Label)] : List Label), [], [], [], 0, 0, 0, 0, 0⟩ : Shelf).series.length) cp1) (.slice A2 ((⟨([(⟨⟨#[97]⟩, ⟨#[98]⟩⟩ : Label)] : List Label), [], [], [], 0, 0, 0, 0, 0⟩ : Shelf).raw.length) cp2) (.slice A3 ((⟨([(⟨⟨#[97]⟩, ⟨#[98]⟩⟩ : Label)] : List Label), [], [], [], 0, 0, 0, 0, 0⟩ : Shelf).fine.length) cp3) (.slice A4 ((⟨([(⟨⟨#[97]⟩, ⟨#[98]⟩⟩ : Label)] : List Label), [], [], [], 0, 0, 0, 0, 0⟩ : Shelf).coarse.length) cp4) (sc rfl (sc rfl (sc rfl (sc rfl (sc rfl (sc (ji (by omega)) sn)))))) (fun _ h => h) ?_ (fun k vr vb4_0 vb4_1 vb4_2 vb4_3 hI1 => ?_)
  · omega
  ·
    have hlen := Sh.play_len (l.take k)
    refine c_open 0 (l := ((Sh.play (l.take k)).2)) rfl fun A5 cp5 hv1 hc1 hm1 hA5 => ?_
    subst hv1
    refine c_openP 2 (l := (((Sh.play (l.take k)).1).series)) rfl fun A6 cp6 hv2 hc2 hm2 hA6 => ?_
    subst hv2
    refine c_openP 3 (l := (((Sh.play (l.take k)).1).raw)) rfl fun A7 cp7 hv3 hc3 hm3 hA7 => ?_
    subst hv3
    refine c_openP 4 (l := (((Sh.play (l.take k)).1).fine)) rfl fun A8 cp8 hv4 hc4 hm4 hA8 => ?_
    subst hv4
    refine c_openP 5 (l := (((Sh.play (l.take k)).1).coarse)) rfl fun A9 cp9 hv5 hc5 hm5 hA9 => ?_
    subst hv5
    refine c_seq fun K6 hK6 => ?_
    refine c_region ?_
    refine l_val wn (r_lss rfl rfl) rfl ?_
    refine l_nil (e_go hK6 ?_)
    refine c_seq fun K7 hK7 => ?_
    refine c_cond rfl (fun h1 => ?_) (fun h1 => ?_)
    ·
      refine c_skip (e_go hK7 ?_)
      refine c_seq fun K8 hK8 => ?_
      refine c_block ?_
      refine c_seq fun K9 hK9 => ?_
      refine c_region ?_
      obtain ⟨ad1, hd1⟩ := hlA (ne_nil (i := k) (by first | omega | decide | (simp only [List.length_cons, List.length_nil, List.length_append, List.length_take, List.length_set]; omega)))
      refine l_val wn (r_ia (i := k) rfl hd1 rfl (by omega) (by first | omega | decide | (simp only [List.length_cons, List.length_nil, List.length_append, List.length_take, List.length_set]; omega)) Try.underlying52 inf99) rfl ?_
      obtain ⟨s1, hs1⟩ : ∃ x, l[k]? = some x := ⟨_, List.getElem?_eq_getElem (by first | omega | decide | (simp only [List.length_cons, List.length_nil, List.length_append, List.length_take, List.length_set]; omega))⟩
      refine l_val wn (r_pln 9 [.int .i64 s1.kind, .int .i64 s1.sample.time, .int .i64 s1.sample.value, .int .i64 s1.tier, .int .i64 s1.to] rfl rfl hd1 hs1 rfl rfl agg99 inf99) rfl ?_
      refine l_alloc wn inf99 rfl fun b7 => ?_
      refine l_stn 0 wn rfl rfl rfl inf99 rfl rfl rfl ?_
      refine l_nil (e_go hK9 ?_)
      refine c_seq fun K10 hK10 => ?_
      refine c_region ?_
      refine l_val wn (r_lbn 2 [.slice A6 ((((Sh.play (l.take k)).1).series).length) cp6, .slice A7 ((((Sh.play (l.take k)).1).raw).length) cp7, .slice A8 ((((Sh.play (l.take k)).1).fine).length) cp8, .slice A9 ((((Sh.play (l.take k)).1).coarse).length) cp9, .int .i64 (((Sh.play (l.take k)).1).rawFrom), .int .i64 (((Sh.play (l.take k)).1).fineFrom), .int .i64 (((Sh.play (l.take k)).1).fineTo), .int .i64 (((Sh.play (l.take k)).1).coarseFrom), .int .i64 (((Sh.play (l.take k)).1).coarseTo)] rfl rfl rfl rfl agg27 inf27) rfl ?_
      refine l_alloc wn inf27 rfl fun b8 => ?_
      refine l_stn 0 wn rfl rfl rfl inf27 rfl rfl rfl ?_
      refine l_val wn (r_assign rfl) rfl ?_
      refine l_nil (e_go hK10 ?_)
      refine c_seq fun K11 hK11 => ?_
      refine c_seq fun K12 hK12 => ?_
      refine c_region ?_
      refine l_val wn (r_fa rfl fld99_0) rfl ?_
      refine l_val wn (r_lb 1 rfl rfl rfl flat3) rfl ?_
      refine l_nil (e_go hK12 ?_)
      refine c_block ?_
      refine c_seq fun K13 hK13 => ?_
      refine c_region ?_
      refine l_val wn (r_eql rfl rfl) rfl ?_
      refine l_val wn (r_assign rfl) rfl ?_
      refine l_nil (e_go hK13 ?_)
      refine c_cond rfl (fun h2 => ?_) (fun h2 => ?_)
      ·
        refine c_region ?_
        refine l_val wn (r_lbn 3 [.slice A6 ((((Sh.play (l.take k)).1).series).length) cp6, .slice A7 ((((Sh.play (l.take k)).1).raw).length) cp7, .slice A8 ((((Sh.play (l.take k)).1).fine).length) cp8, .slice A9 ((((Sh.play (l.take k)).1).coarse).length) cp9, .int .i64 (((Sh.play (l.take k)).1).rawFrom), .int .i64 (((Sh.play (l.take k)).1).fineFrom), .int .i64 (((Sh.play (l.take k)).1).fineTo), .int .i64 (((Sh.play (l.take k)).1).coarseFrom), .int .i64 (((Sh.play (l.take k)).1).coarseTo)] rfl rfl rfl rfl agg27 inf27) rfl ?_
        refine l_val wn (r_fa rfl fld99_1) rfl ?_
        refine l_val wn (r_lbn 1 [.int .i64 s1.sample.time, .int .i64 s1.sample.value] rfl rfl rfl rfl agg39 inf39) rfl ?_
        refine l_callSh (fun u => .tuple (List.toArray [u, .int .i64 ((Sh.append ((Sh.play (l.take k)).1) s1.sample).2)])) ((Sh.append ((Sh.play (l.take k)).1) s1.sample).1) wn rfl Try.call23 rfl (fun w1 Pb hM pp => c_append _ _ _ _ ((Sh.play (l.take k)).1) s1.sample Pb w1 pp.lt (pp.sl 4 rfl) (pp.sl 5 rfl) (pp.sl 6 rfl) (pp.sl 7 rfl)) fun A10 cp10 A11 cp11 A12 cp12 A13 cp13 hb2 hA10 hA11 hA12 hA13 => ?_
        refine l_val wn (r_move rfl) rfl ?_
        refine l_val wn (r_extract rfl rfl) rfl ?_
        refine l_val wn (r_extract rfl rfl) rfl ?_
        refine l_stn 4 wn rfl rfl rfl inf27 rfl rfl rfl ?_
        refine l_val wn (r_assign rfl) rfl ?_
        refine l_nil (e_in_n (e_go hK11 ?_))
        refine c_seq fun K14 hK14 => ?_
        refine c_seq fun K15 hK15 => ?_
        refine c_region ?_
        refine l_val wn (r_move rfl) rfl ?_
        refine l_val wn (r_neq rfl rfl) rfl ?_
        refine l_nil (e_go hK15 ?_)
        refine c_cond rfl (fun h3 => ?_) (fun h3 => ?_)
        ·
          refine c_exit (e_then_x (e_in_hit (e_go hK8 ?_)))
          refine c_region ?_
          refine l_val wn (r_addn rfl rfl (by omega)) rfl ?_
          refine l_val wn (r_move rfl) rfl ?_
          refine l_nil (e_round6 (k + 1) (.slice A5 (((Sh.play (l.take k)).2).length) cp5) (.slice A6 ((((Sh.play (l.take k)).1).series).length) cp6) (.slice A7 ((((Sh.play (l.take k)).1).raw).length) cp7) (.slice A8 ((((Sh.play (l.take k)).1).fine).length) cp8) (.slice A9 ((((Sh.play (l.take k)).1).coarse).length) cp9) (sc rfl (sc rfl (sc rfl (sc rfl (sc rfl (sc (ji (by omega)) sn)))))) (fun _ h => by rw [(Sh.play_succ hs1).trans (Sh.step_app_no h2 h3)]; (try dsimp only); exact (h.sel [6, 7, 8, 9, 10, 11, 12, 13, 14, 15] (by decide) rfl)) ?_ ?_)
          · omega
          · omega
        ·
          refine c_skip (e_go hK14 ?_)
          refine c_seq fun K16 hK16 => ?_
          refine c_seq fun K17 hK17 => ?_
          refine c_region ?_
          refine l_val wn (r_fa rfl fld99_0) rfl ?_
          refine l_val wn (r_lb 5 rfl rfl rfl flat3) rfl ?_
          refine l_val wn (r_eql rfl rfl) rfl ?_
          refine l_nil (e_go hK17 ?_)
          refine c_true rfl (decide_eq_true h2) ?_
          refine c_region ?_
          refine l_val wn (r_move rfl) rfl ?_
          refine l_val wn (r_fa rfl fld99_1) rfl ?_
          refine l_val wn (r_lbn 5 [.int .i64 s1.sample.time, .int .i64 s1.sample.value] rfl rfl rfl rfl agg39 inf39) rfl ?_
          refine l_bsL sampleE ([s1.sample] : List Sample) wn Try.underlying24 inf39 rfl rfl rfl rfl (by decide) (by decide) rfl fun b59 => ?_
          refine l_app 7 ((Sh.play (l.take k)).2) ([s1.sample] : List Sample) encSample wn rfl rfl rfl (fun _ hM => (RowSl encSample hM 0 rfl)) Try.underlying24 inf39 rfl rfl (by simp only [List.length_append, List.length_cons, List.length_nil]; omega) rfl fun A14 cp14 hc6 hm6 hA14 => ?_
          refine l_val wn (r_assign rfl) rfl ?_
          refine l_nil (e_go hK16 ?_)
          refine c_region ?_
          refine l_val wn (r_lbn 5 [.slice A10 (((Sh.append ((Sh.play (l.take k)).1) s1.sample).1).series.length) cp10, .slice A11 (((Sh.append ((Sh.play (l.take k)).1) s1.sample).1).raw.length) cp11, .slice A12 (((Sh.append ((Sh.play (l.take k)).1) s1.sample).1).fine.length) cp12, .slice A13 (((Sh.append ((Sh.play (l.take k)).1) s1.sample).1).coarse.length) cp13, .int .i64 (((Sh.append ((Sh.play (l.take k)).1) s1.sample).1).rawFrom), .int .i64 (((Sh.append ((Sh.play (l.take k)).1) s1.sample).1).fineFrom), .int .i64 (((Sh.append ((Sh.play (l.take k)).1) s1.sample).1).fineTo), .int .i64 (((Sh.append ((Sh.play (l.take k)).1) s1.sample).1).coarseFrom), .int .i64 (((Sh.append ((Sh.play (l.take k)).1) s1.sample).1).coarseTo)] rfl rfl rfl rfl agg27 inf27) rfl ?_
          refine l_stn 8 wn rfl rfl rfl inf27 rfl rfl rfl ?_
          refine l_nil (e_in_n (e_go hK8 ?_))
          refine c_region ?_
          refine l_val wn (r_addn rfl rfl (by omega)) rfl ?_
          refine l_val wn (r_move rfl) rfl ?_
          refine l_nil (e_round6 (k + 1) (.slice A14 ((((Sh.play (l.take k)).2) ++ ([s1.sample] : List Sample)).length) cp14) (.slice A10 (((Sh.append ((Sh.play (l.take k)).1) s1.sample).1).series.length) cp10) (.slice A11 (((Sh.append ((Sh.play (l.take k)).1) s1.sample).1).raw.length) cp11) (.slice A12 (((Sh.append ((Sh.play (l.take k)).1) s1.sample).1).fine.length) cp12) (.slice A13 (((Sh.append ((Sh.play (l.take k)).1) s1.sample).1).coarse.length) cp13) (sc rfl (sc rfl (sc rfl (sc rfl (sc rfl (sc (ji (by omega)) sn)))))) (fun _ h => by rw [(Sh.play_succ hs1).trans (Sh.step_app h2 h3)]; (try dsimp only); exact (h.sel [7, 8, 1, 2, 3, 4, 13, 14, 15, 16] (by decide) rfl)) ?_ ?_)
          · omega
          · omega
      ·
        refine c_seq fun K18 hK18 => ?_
        refine c_region ?_
        refine l_val wn (r_eql rfl rfl) rfl ?_
        refine l_val wn (r_assign rfl) rfl ?_
        refine l_nil (e_go hK18 ?_)
        refine c_cond rfl (fun h4 => ?_) (fun h4 => ?_)
        ·
          refine c_region ?_
          refine l_val wn (r_lbn 3 [.slice A6 ((((Sh.play (l.take k)).1).series).length) cp6, .slice A7 ((((Sh.play (l.take k)).1).raw).length) cp7, .slice A8 ((((Sh.play (l.take k)).1).fine).length) cp8, .slice A9 ((((Sh.play (l.take k)).1).coarse).length) cp9, .int .i64 (((Sh.play (l.take k)).1).rawFrom), .int .i64 (((Sh.play (l.take k)).1).fineFrom), .int .i64 (((Sh.play (l.take k)).1).fineTo), .int .i64 (((Sh.play (l.take k)).1).coarseFrom), .int .i64 (((Sh.play (l.take k)).1).coarseTo)] rfl rfl rfl rfl agg27 inf27) rfl ?_
          refine l_val wn (r_fa rfl fld99_3) rfl ?_
          refine l_val wn (r_lb 1 rfl rfl rfl flat3) rfl ?_
          refine l_callSh (fun u => .tuple (List.toArray [u, .int .i64 ((Sh.roll ((Sh.play (l.take k)).1) s1.to).2)])) ((Sh.roll ((Sh.play (l.take k)).1) s1.to).1) wn rfl Try.call25 rfl (fun w1 Pb hM pp => c_roll _ _ _ _ ((Sh.play (l.take k)).1) s1.to Pb w1 pp.lt (pp.sl 4 rfl) (pp.sl 5 rfl) (pp.sl 6 rfl) (pp.sl 7 rfl)) fun A15 cp15 A16 cp16 A17 cp17 A18 cp18 hb3 hA15 hA16 hA17 hA18 => ?_
          refine l_val wn (r_move rfl) rfl ?_
          refine l_val wn (r_extract rfl rfl) rfl ?_
          refine l_val wn (r_extract rfl rfl) rfl ?_
          refine l_stn 4 wn rfl rfl rfl inf27 rfl rfl rfl ?_
          refine l_val wn (r_assign rfl) rfl ?_
          refine l_nil (e_in_n (e_go hK11 ?_))
          refine c_seq fun K19 hK19 => ?_
          refine c_seq fun K20 hK20 => ?_
          refine c_region ?_
          refine l_val wn (r_move rfl) rfl ?_
          refine l_val wn (r_neq rfl rfl) rfl ?_
          refine l_nil (e_go hK20 ?_)
          refine c_cond rfl (fun h5 => ?_) (fun h5 => ?_)
          ·
            refine c_exit (e_then_x (e_in_hit (e_go hK8 ?_)))
            refine c_region ?_
            refine l_val wn (r_addn rfl rfl (by omega)) rfl ?_
            refine l_val wn (r_move rfl) rfl ?_
            refine l_nil (e_round6 (k + 1) (.slice A5 (((Sh.play (l.take k)).2).length) cp5) (.slice A6 ((((Sh.play (l.take k)).1).series).length) cp6) (.slice A7 ((((Sh.play (l.take k)).1).raw).length) cp7) (.slice A8 ((((Sh.play (l.take k)).1).fine).length) cp8) (.slice A9 ((((Sh.play (l.take k)).1).coarse).length) cp9) (sc rfl (sc rfl (sc rfl (sc rfl (sc rfl (sc (ji (by omega)) sn)))))) (fun _ h => by rw [(Sh.play_succ hs1).trans (Sh.step_roll_no h2 h4 h5)]; (try dsimp only); exact (h.sel [6, 7, 8, 9, 10, 11, 12, 13, 14, 15] (by decide) rfl)) ?_ ?_)
            · omega
            · omega
          ·
            refine c_skip (e_go hK19 ?_)
            refine c_seq fun K21 hK21 => ?_
            refine c_seq fun K22 hK22 => ?_
            refine c_region ?_
            refine l_val wn (r_fa rfl fld99_0) rfl ?_
            refine l_val wn (r_lb 5 rfl rfl rfl flat3) rfl ?_
            refine l_val wn (r_eql rfl rfl) rfl ?_
            refine l_nil (e_go hK22 ?_)
            refine c_false rfl (decide_eq_false h2) ?_
            refine c_skip (e_go hK21 ?_)
            refine c_region ?_
            refine l_val wn (r_lbn 4 [.slice A15 (((Sh.roll ((Sh.play (l.take k)).1) s1.to).1).series.length) cp15, .slice A16 (((Sh.roll ((Sh.play (l.take k)).1) s1.to).1).raw.length) cp16, .slice A17 (((Sh.roll ((Sh.play (l.take k)).1) s1.to).1).fine.length) cp17, .slice A18 (((Sh.roll ((Sh.play (l.take k)).1) s1.to).1).coarse.length) cp18, .int .i64 (((Sh.roll ((Sh.play (l.take k)).1) s1.to).1).rawFrom), .int .i64 (((Sh.roll ((Sh.play (l.take k)).1) s1.to).1).fineFrom), .int .i64 (((Sh.roll ((Sh.play (l.take k)).1) s1.to).1).fineTo), .int .i64 (((Sh.roll ((Sh.play (l.take k)).1) s1.to).1).coarseFrom), .int .i64 (((Sh.roll ((Sh.play (l.take k)).1) s1.to).1).coarseTo)] rfl rfl rfl rfl agg27 inf27) rfl ?_
            refine l_stn 7 wn rfl rfl rfl inf27 rfl rfl rfl ?_
            refine l_nil (e_in_n (e_go hK8 ?_))
            refine c_region ?_
            refine l_val wn (r_addn rfl rfl (by omega)) rfl ?_
            refine l_val wn (r_move rfl) rfl ?_
            refine l_nil (e_round6 (k + 1) (.slice A5 (((Sh.play (l.take k)).2).length) cp5) (.slice A15 (((Sh.roll ((Sh.play (l.take k)).1) s1.to).1).series.length) cp15) (.slice A16 (((Sh.roll ((Sh.play (l.take k)).1) s1.to).1).raw.length) cp16) (.slice A17 (((Sh.roll ((Sh.play (l.take k)).1) s1.to).1).fine.length) cp17) (.slice A18 (((Sh.roll ((Sh.play (l.take k)).1) s1.to).1).coarse.length) cp18) (sc rfl (sc rfl (sc rfl (sc rfl (sc rfl (sc (ji (by omega)) sn)))))) (fun _ h => by rw [(Sh.play_succ hs1).trans (Sh.step_roll h2 h4 h5)]; (try dsimp only); exact (h.sel [6, 7, 0, 1, 2, 3, 12, 13, 14, 15] (by decide) rfl)) ?_ ?_)
            · omega
            · omega
        ·
          refine c_seq fun K23 hK23 => ?_
          refine c_region ?_
          refine l_val wn (r_eql rfl rfl) rfl ?_
          refine l_val wn (r_assign rfl) rfl ?_
          refine l_nil (e_go hK23 ?_)
          refine c_cond rfl (fun h6 => ?_) (fun h6 => ?_)
          ·
            refine c_region ?_
            refine l_val wn (r_lbn 3 [.slice A6 ((((Sh.play (l.take k)).1).series).length) cp6, .slice A7 ((((Sh.play (l.take k)).1).raw).length) cp7, .slice A8 ((((Sh.play (l.take k)).1).fine).length) cp8, .slice A9 ((((Sh.play (l.take k)).1).coarse).length) cp9, .int .i64 (((Sh.play (l.take k)).1).rawFrom), .int .i64 (((Sh.play (l.take k)).1).fineFrom), .int .i64 (((Sh.play (l.take k)).1).fineTo), .int .i64 (((Sh.play (l.take k)).1).coarseFrom), .int .i64 (((Sh.play (l.take k)).1).coarseTo)] rfl rfl rfl rfl agg27 inf27) rfl ?_
            refine l_val wn (r_fa rfl fld99_2) rfl ?_
            refine l_val wn (r_lb 1 rfl rfl rfl flat3) rfl ?_
            refine l_val wn (r_fa rfl fld99_3) rfl ?_
            refine l_val wn (r_lb 1 rfl rfl rfl flat3) rfl ?_
            refine l_callSh (fun u => .tuple (List.toArray [u, .int .i64 ((Sh.forget ((Sh.play (l.take k)).1) s1.tier s1.to).2)])) ((Sh.forget ((Sh.play (l.take k)).1) s1.tier s1.to).1) wn rfl Try.call27 rfl (fun w1 Pb hM pp => c_forget _ _ _ _ ((Sh.play (l.take k)).1) s1.tier s1.to Pb w1 pp.lt (pp.sl 4 rfl) (pp.sl 5 rfl) (pp.sl 6 rfl) (pp.sl 7 rfl)) fun A19 cp19 A20 cp20 A21 cp21 A22 cp22 hb4 hA19 hA20 hA21 hA22 => ?_
            refine l_val wn (r_move rfl) rfl ?_
            refine l_val wn (r_extract rfl rfl) rfl ?_
            refine l_val wn (r_extract rfl rfl) rfl ?_
            refine l_stn 4 wn rfl rfl rfl inf27 rfl rfl rfl ?_
            refine l_val wn (r_assign rfl) rfl ?_
            refine l_nil (e_in_n (e_go hK11 ?_))
            refine c_seq fun K24 hK24 => ?_
            refine c_seq fun K25 hK25 => ?_
            refine c_region ?_
            refine l_val wn (r_move rfl) rfl ?_
            refine l_val wn (r_neq rfl rfl) rfl ?_
            refine l_nil (e_go hK25 ?_)
            refine c_cond rfl (fun h7 => ?_) (fun h7 => ?_)
            ·
              refine c_exit (e_then_x (e_in_hit (e_go hK8 ?_)))
              refine c_region ?_
              refine l_val wn (r_addn rfl rfl (by omega)) rfl ?_
              refine l_val wn (r_move rfl) rfl ?_
              refine l_nil (e_round6 (k + 1) (.slice A5 (((Sh.play (l.take k)).2).length) cp5) (.slice A6 ((((Sh.play (l.take k)).1).series).length) cp6) (.slice A7 ((((Sh.play (l.take k)).1).raw).length) cp7) (.slice A8 ((((Sh.play (l.take k)).1).fine).length) cp8) (.slice A9 ((((Sh.play (l.take k)).1).coarse).length) cp9) (sc rfl (sc rfl (sc rfl (sc rfl (sc rfl (sc (ji (by omega)) sn)))))) (fun _ h => by rw [(Sh.play_succ hs1).trans (Sh.step_forget_no h2 h4 h6 h7)]; (try dsimp only); exact (h.sel [6, 7, 8, 9, 10, 11, 12, 13, 14, 15] (by decide) rfl)) ?_ ?_)
              · omega
              · omega
            ·
              refine c_skip (e_go hK24 ?_)
              refine c_seq fun K26 hK26 => ?_
              refine c_seq fun K27 hK27 => ?_
              refine c_region ?_
              refine l_val wn (r_fa rfl fld99_0) rfl ?_
              refine l_val wn (r_lb 5 rfl rfl rfl flat3) rfl ?_
              refine l_val wn (r_eql rfl rfl) rfl ?_
              refine l_nil (e_go hK27 ?_)
              refine c_false rfl (decide_eq_false h2) ?_
              refine c_skip (e_go hK26 ?_)
              refine c_region ?_
              refine l_val wn (r_lbn 4 [.slice A19 (((Sh.forget ((Sh.play (l.take k)).1) s1.tier s1.to).1).series.length) cp19, .slice A20 (((Sh.forget ((Sh.play (l.take k)).1) s1.tier s1.to).1).raw.length) cp20, .slice A21 (((Sh.forget ((Sh.play (l.take k)).1) s1.tier s1.to).1).fine.length) cp21, .slice A22 (((Sh.forget ((Sh.play (l.take k)).1) s1.tier s1.to).1).coarse.length) cp22, .int .i64 (((Sh.forget ((Sh.play (l.take k)).1) s1.tier s1.to).1).rawFrom), .int .i64 (((Sh.forget ((Sh.play (l.take k)).1) s1.tier s1.to).1).fineFrom), .int .i64 (((Sh.forget ((Sh.play (l.take k)).1) s1.tier s1.to).1).fineTo), .int .i64 (((Sh.forget ((Sh.play (l.take k)).1) s1.tier s1.to).1).coarseFrom), .int .i64 (((Sh.forget ((Sh.play (l.take k)).1) s1.tier s1.to).1).coarseTo)] rfl rfl rfl rfl agg27 inf27) rfl ?_
              refine l_stn 7 wn rfl rfl rfl inf27 rfl rfl rfl ?_
              refine l_nil (e_in_n (e_go hK8 ?_))
              refine c_region ?_
              refine l_val wn (r_addn rfl rfl (by omega)) rfl ?_
              refine l_val wn (r_move rfl) rfl ?_
              refine l_nil (e_round6 (k + 1) (.slice A5 (((Sh.play (l.take k)).2).length) cp5) (.slice A19 (((Sh.forget ((Sh.play (l.take k)).1) s1.tier s1.to).1).series.length) cp19) (.slice A20 (((Sh.forget ((Sh.play (l.take k)).1) s1.tier s1.to).1).raw.length) cp20) (.slice A21 (((Sh.forget ((Sh.play (l.take k)).1) s1.tier s1.to).1).fine.length) cp21) (.slice A22 (((Sh.forget ((Sh.play (l.take k)).1) s1.tier s1.to).1).coarse.length) cp22) (sc rfl (sc rfl (sc rfl (sc rfl (sc rfl (sc (ji (by omega)) sn)))))) (fun _ h => by rw [(Sh.play_succ hs1).trans (Sh.step_forget h2 h4 h6 h7)]; (try dsimp only); exact (h.sel [6, 7, 0, 1, 2, 3, 12, 13, 14, 15] (by decide) rfl)) ?_ ?_)
              · omega
              · omega
          ·
            refine c_skip (e_in_n (e_go hK11 ?_))
            refine c_seq fun K28 hK28 => ?_
            refine c_seq fun K29 hK29 => ?_
            refine c_region ?_
            refine l_val wn (r_move rfl) rfl ?_
            refine l_val wn (r_neq rfl rfl) rfl ?_
            refine l_nil (e_go hK29 ?_)
            refine c_true rfl (decide_eq_true (by decide)) ?_
            refine c_exit (e_then_x (e_in_hit (e_go hK8 ?_)))
            refine c_region ?_
            refine l_val wn (r_addn rfl rfl (by omega)) rfl ?_
            refine l_val wn (r_move rfl) rfl ?_
            refine l_nil (e_round6 (k + 1) (.slice A5 (((Sh.play (l.take k)).2).length) cp5) (.slice A6 ((((Sh.play (l.take k)).1).series).length) cp6) (.slice A7 ((((Sh.play (l.take k)).1).raw).length) cp7) (.slice A8 ((((Sh.play (l.take k)).1).fine).length) cp8) (.slice A9 ((((Sh.play (l.take k)).1).coarse).length) cp9) (sc rfl (sc rfl (sc rfl (sc rfl (sc rfl (sc (ji (by omega)) sn)))))) (fun _ h => by rw [(Sh.play_succ hs1).trans (Sh.step_none h2 h4 h6)]; (try dsimp only); exact (h.sel [2, 3, 4, 5, 6, 7, 8, 9, 10, 11] (by decide) rfl)) ?_ ?_)
            · omega
            · omega
    ·
      refine c_exit (e_then_x (e_loop6_x (e_in_hit (e_go hK4 ?_))))
      refine c_seq fun K30 hK30 => ?_
      refine c_region ?_
      refine l_val wn (r_lbn 1 [.slice A6 ((((Sh.play (l.take k)).1).series).length) cp6, .slice A7 ((((Sh.play (l.take k)).1).raw).length) cp7, .slice A8 ((((Sh.play (l.take k)).1).fine).length) cp8, .slice A9 ((((Sh.play (l.take k)).1).coarse).length) cp9, .int .i64 (((Sh.play (l.take k)).1).rawFrom), .int .i64 (((Sh.play (l.take k)).1).fineFrom), .int .i64 (((Sh.play (l.take k)).1).fineTo), .int .i64 (((Sh.play (l.take k)).1).coarseFrom), .int .i64 (((Sh.play (l.take k)).1).coarseTo)] rfl rfl rfl rfl agg27 inf27) rfl ?_
      refine l_val wn (r_move rfl) rfl ?_
      refine l_stn 8 wn rfl rfl rfl inf27 rfl rfl rfl ?_
      refine l_val wn (r_assign rfl) rfl ?_
      refine l_nil (e_go hK30 ?_)
      refine c_ret (e_ret2 (.inl rfl) Try.results30 (rv_cell 8 rfl rfl agg27 inf27 rfl) (rv_tmp rfl) fun w1 hM => ?_)
      have hM := hM.sealRow encSample (i := 0) rfl rfl
      exact hM.retShL (s' := ((Sh.play (l.take k)).1)) (l' := (Sh.play (l.take k)).2) rfl (by rw [List.take_of_length_le (by omega)]) (by rw [List.take_of_length_le (by omega)]) (fun _ pp => pp.sl 2 rfl) (fun _ pp => pp.sl 3 rfl) (fun _ pp => pp.sl 4 rfl) (fun _ pp => pp.sl 5 rfl) (fun _ pp => pp.sl 0 rfl)

end Go.Proofs.Ytnbkennlmnnbeaa
