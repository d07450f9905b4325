/-
  Walks: what each function hands back.
-/
import Derived.Test.YtnbkennlmnnbeaaWmade
namespace Go.Proofs.Ytnbkennlmnnbeaa
open Ex
set_option linter.unusedVariables false
set_option linter.unusedSimpArgs false
set_option maxHeartbeats 1000000 in
theorem law_PlanGone (lv : Value) (l : List Sample) (ro : Int) (a : Int) (b : Int) (f : Int) (t : Int) (w : World) (hl : FlatSl (In w) 2 sampleE lv l w)  :
    Calls Try.prog 10 #[lv, .int .i64 ro, .int .i64 a, .int .i64 b, .int .i64 f, .int .i64 t] w (Ret w (.bool true)) := by
 obtain ⟨lA, lc, rfl, hlc, hlm, hlA⟩ := hl.form
 refine fstart (N := 79) (vals := [.slice lA l.length lc, .int .i64 ro, .int .i64 a, .int .i64 b, .int .i64 f, .int .i64 t]) (S := Mem w ⟨no, In w⟩ [slP 2 sampleE (.slice lA l.length lc) l]) Try.func10 rfl rfl rfl (Mem.ofDatsP (fun _ h => h) (dc (dlp hl) dn)) ?_
 refine c_seq fun _ hK1 => ?_
 refine c_region ?_
 refine l_val wn (r_assign rfl) rfl ?_
 refine l_nil (e_go hK1 ?_)
 refine c_seq fun _ hK2 => ?_
 refine c_seq fun _ hK3 => ?_
 refine c_region ?_
 refine l_callF wn rfl Try.call35 rfl (fun w1 hM => c_alive8  w1) ?_
 refine l_val wn (r_notb rfl) rfl ?_
 refine l_nil (e_go hK3 ?_)
 refine c_false rfl rfl ?_
 refine c_skip (e_go hK2 ?_)
 refine c_seq fun _ hK4 => ?_
 refine c_region ?_
 refine l_val wn (r_move rfl) rfl ?_
 refine l_val wn (r_move rfl) rfl ?_
 refine l_val wn (r_move rfl) rfl ?_
 refine l_val wn (r_move rfl) rfl ?_
 refine l_bsL intE ([a, b] : List Int) wn Try.underlying62 inf3 rfl rfl rfl rfl (by decide) (by decide) rfl fun b24 => ?_
 refine l_seal 0 encInt rfl rfl ?_
 refine l_callSh (fun u => .tuple (List.toArray [u, .bool ((Sh.made l ro ([a, b] : List Int)).2)])) ((Sh.made l ro ([a, b] : List Int)).1) wn rfl Try.call36 rfl (fun w1 Pb hM pp => c_made _ l ro _ ([a, b] : List Int) Pb w1 pp.lt (pp.sl 1 rfl) (pp.sl 0 rfl)) fun A1 cp1 A2 cp2 A3 cp3 A4 cp4 hb1 hA1 hA2 hA3 hA4 => ?_
 refine l_val wn (r_move rfl) rfl ?_
 refine l_val wn (r_extract rfl rfl) rfl ?_
 refine l_val wn (r_extract rfl rfl) rfl ?_
 refine l_alloc wn inf27 rfl fun b13 => ?_
 refine l_stn 0 wn rfl rfl rfl inf27 rfl rfl rfl ?_
 refine l_val wn (r_assign rfl) rfl ?_
 refine l_nil (e_go hK4 ?_)
 refine c_seq fun _ hK5 => ?_
 refine c_cut [(4, .int .i64 f), (5, .int .i64 t), (13, .pointer (some ⟨b13, 0, none⟩)), (69, .bool (decide (((!(Sh.made l ro ([a, b] : List Int)).2) = true) ∨ ((f < 0) ∨ ((t < f) ∨ ((1000000 < t) ∨ (((f % 60) ≠ 0) ∨ ((((t % 60) ≠ 0) ∧ ((t < ((Sh.made l ro ([a, b] : List Int)).1).coarseTo) ∨ (((t % 10) ≠ 0) ∧ (t < ((Sh.made l ro ([a, b] : List Int)).1).fineTo)))) ∨ (¬ ((t % 60) ≠ 0) ∧ (((t % 10) ≠ 0) ∧ (t < ((Sh.made l ro ([a, b] : List Int)).1).fineTo)))))))))))] (Mem w ⟨no, In w⟩ [.blk b13 [.slice A1 (((Sh.made l ro ([a, b] : List Int)).1).series.length) cp1, .slice A2 (((Sh.made l ro ([a, b] : List Int)).1).raw.length) cp2, .slice A3 (((Sh.made l ro ([a, b] : List Int)).1).fine.length) cp3, .slice A4 (((Sh.made l ro ([a, b] : List Int)).1).coarse.length) cp4, .int .i64 (((Sh.made l ro ([a, b] : List Int)).1).rawFrom), .int .i64 (((Sh.made l ro ([a, b] : List Int)).1).fineFrom), .int .i64 (((Sh.made l ro ([a, b] : List Int)).1).fineTo), .int .i64 (((Sh.made l ro ([a, b] : List Int)).1).coarseFrom), .int .i64 (((Sh.made l ro ([a, b] : List Int)).1).coarseTo)] 27, slP 2 labelE (.slice A1 (((Sh.made l ro ([a, b] : List Int)).1).series.length) cp1) (((Sh.made l ro ([a, b] : List Int)).1).series), slP 2 sampleE (.slice A2 (((Sh.made l ro ([a, b] : List Int)).1).raw.length) cp2) (((Sh.made l ro ([a, b] : List Int)).1).raw), slP 8 bucketE (.slice A3 (((Sh.made l ro ([a, b] : List Int)).1).fine.length) cp3) (((Sh.made l ro ([a, b] : List Int)).1).fine), slP 8 bucketE (.slice A4 (((Sh.made l ro ([a, b] : List Int)).1).coarse.length) cp4) (((Sh.made l ro ([a, b] : List Int)).1).coarse), slP 1 intE (.slice (some ⟨b24, 0, none⟩) 2 2) ([a, b] : List Int), slP 2 sampleE (.slice lA l.length lc) l]) (fun _ hK6 => ?_) ?_
 · refine c_region ?_
   refine l_val wn (r_move rfl) rfl ?_
   refine l_val wn (r_notb rfl) rfl ?_
   refine l_val wn (r_move rfl) rfl ?_
   refine l_caseb (t := 30) rfl (fun h1 => ?_) (fun h1 => ?_)
   · refine l_skip (wg rfl rfl rfl) rfl ?_
     refine l_skip (wg rfl rfl rfl) rfl ?_
     refine l_val wn (r_pick rfl rfl) rfl ?_
     refine l_val wn (r_move rfl) rfl ?_
     refine l_skip (wg rfl rfl rfl) rfl ?_
     refine l_skip (wg rfl rfl rfl) rfl ?_
     refine l_skip (wg rfl rfl rfl) rfl ?_
     refine l_val wn (r_pick rfl rfl) rfl ?_
     refine l_val wn (r_move rfl) rfl ?_
     refine l_skip (wg rfl rfl rfl) rfl ?_
     refine l_skip (wg rfl rfl rfl) rfl ?_
     refine l_val wn (r_pick rfl rfl) rfl ?_
     refine l_val wn (r_move rfl) rfl ?_
     refine l_skip (wg rfl rfl rfl) rfl ?_
     refine l_skip (wg rfl rfl rfl) rfl ?_
     refine l_skip (wg rfl rfl rfl) rfl ?_
     refine l_val wn (r_pick rfl rfl) rfl ?_
     refine l_val wn (r_move rfl) rfl ?_
     refine l_skip (wg rfl rfl rfl) rfl ?_
     refine l_skip (wg rfl rfl rfl) rfl ?_
     refine l_skip (wg rfl rfl rfl) rfl ?_
     refine l_skip (wg rfl rfl rfl) rfl ?_
     refine l_skip (wu rfl rfl) rfl ?_
     refine l_skip (wu rfl rfl) rfl ?_
     refine l_skip (wu rfl rfl) rfl ?_
     refine l_skip (wu rfl rfl) rfl ?_
     refine l_skip (wg rfl rfl rfl) rfl ?_
     refine l_val wn (r_pick rfl rfl) rfl ?_
     refine l_val wn (r_move rfl) rfl ?_
     refine l_skip (wg rfl rfl rfl) rfl ?_
     refine l_skip (wg rfl rfl rfl) rfl ?_
     refine l_skip (wg rfl rfl rfl) rfl ?_
     refine l_skip (wg rfl rfl rfl) rfl ?_
     refine l_skip (wu rfl rfl) rfl ?_
     refine l_skip (wu rfl rfl) rfl ?_
     refine l_skip (wu rfl rfl) rfl ?_
     refine l_skip (wu rfl rfl) rfl ?_
     refine l_skip (wg rfl rfl rfl) rfl ?_
     refine l_val wn (r_pick rfl rfl) rfl ?_
     refine l_nil (e_cut hK6 (sc rfl (sc rfl (sc rfl (sc (jt (Or.inl h1)) sn)))) (fun _ h => h))
   refine l_val (wg rfl rfl rfl) (r_move rfl) rfl ?_
   refine l_val (wg rfl rfl rfl) (r_lss rfl rfl) rfl ?_
   refine l_val wn (r_pick rfl rfl) rfl ?_
   refine l_val wn (r_move rfl) rfl ?_
   refine l_case (t := 34) rfl (fun h2 => ?_) (fun h2 => ?_)
   · refine l_skip (wg rfl rfl rfl) rfl ?_
     refine l_skip (wg rfl rfl rfl) rfl ?_
     refine l_skip (wg rfl rfl rfl) rfl ?_
     refine l_val wn (r_pick rfl rfl) rfl ?_
     refine l_val wn (r_move rfl) rfl ?_
     refine l_skip (wg rfl rfl rfl) rfl ?_
     refine l_skip (wg rfl rfl rfl) rfl ?_
     refine l_val wn (r_pick rfl rfl) rfl ?_
     refine l_val wn (r_move rfl) rfl ?_
     refine l_skip (wg rfl rfl rfl) rfl ?_
     refine l_skip (wg rfl rfl rfl) rfl ?_
     refine l_skip (wg rfl rfl rfl) rfl ?_
     refine l_val wn (r_pick rfl rfl) rfl ?_
     refine l_val wn (r_move rfl) rfl ?_
     refine l_skip (wg rfl rfl rfl) rfl ?_
     refine l_skip (wg rfl rfl rfl) rfl ?_
     refine l_skip (wg rfl rfl rfl) rfl ?_
     refine l_skip (wg rfl rfl rfl) rfl ?_
     refine l_skip (wu rfl rfl) rfl ?_
     refine l_skip (wu rfl rfl) rfl ?_
     refine l_skip (wu rfl rfl) rfl ?_
     refine l_skip (wu rfl rfl) rfl ?_
     refine l_skip (wg rfl rfl rfl) rfl ?_
     refine l_val wn (r_pick rfl rfl) rfl ?_
     refine l_val wn (r_move rfl) rfl ?_
     refine l_skip (wg rfl rfl rfl) rfl ?_
     refine l_skip (wg rfl rfl rfl) rfl ?_
     refine l_skip (wg rfl rfl rfl) rfl ?_
     refine l_skip (wg rfl rfl rfl) rfl ?_
     refine l_skip (wu rfl rfl) rfl ?_
     refine l_skip (wu rfl rfl) rfl ?_
     refine l_skip (wu rfl rfl) rfl ?_
     refine l_skip (wu rfl rfl) rfl ?_
     refine l_skip (wg rfl rfl rfl) rfl ?_
     refine l_val wn (r_pick rfl rfl) rfl ?_
     refine l_nil (e_cut hK6 (sc rfl (sc rfl (sc rfl (sc (jt (Or.inr (Or.inl h2))) sn)))) (fun _ h => h))
   refine l_val (wg rfl rfl rfl) (r_move rfl) rfl ?_
   refine l_val (wg rfl rfl rfl) (r_move rfl) rfl ?_
   refine l_val (wg rfl rfl rfl) (r_lss rfl rfl) rfl ?_
   refine l_val wn (r_pick rfl rfl) rfl ?_
   refine l_val wn (r_move rfl) rfl ?_
   refine l_case (t := 39) rfl (fun h3 => ?_) (fun h3 => ?_)
   · refine l_skip (wg rfl rfl rfl) rfl ?_
     refine l_skip (wg rfl rfl rfl) rfl ?_
     refine l_val wn (r_pick rfl rfl) rfl ?_
     refine l_val wn (r_move rfl) rfl ?_
     refine l_skip (wg rfl rfl rfl) rfl ?_
     refine l_skip (wg rfl rfl rfl) rfl ?_
     refine l_skip (wg rfl rfl rfl) rfl ?_
     refine l_val wn (r_pick rfl rfl) rfl ?_
     refine l_val wn (r_move rfl) rfl ?_
     refine l_skip (wg rfl rfl rfl) rfl ?_
     refine l_skip (wg rfl rfl rfl) rfl ?_
     refine l_skip (wg rfl rfl rfl) rfl ?_
     refine l_skip (wg rfl rfl rfl) rfl ?_
     refine l_skip (wu rfl rfl) rfl ?_
     refine l_skip (wu rfl rfl) rfl ?_
     refine l_skip (wu rfl rfl) rfl ?_
     refine l_skip (wu rfl rfl) rfl ?_
     refine l_skip (wg rfl rfl rfl) rfl ?_
     refine l_val wn (r_pick rfl rfl) rfl ?_
     refine l_val wn (r_move rfl) rfl ?_
     refine l_skip (wg rfl rfl rfl) rfl ?_
     refine l_skip (wg rfl rfl rfl) rfl ?_
     refine l_skip (wg rfl rfl rfl) rfl ?_
     refine l_skip (wg rfl rfl rfl) rfl ?_
     refine l_skip (wu rfl rfl) rfl ?_
     refine l_skip (wu rfl rfl) rfl ?_
     refine l_skip (wu rfl rfl) rfl ?_
     refine l_skip (wu rfl rfl) rfl ?_
     refine l_skip (wg rfl rfl rfl) rfl ?_
     refine l_val wn (r_pick rfl rfl) rfl ?_
     refine l_nil (e_cut hK6 (sc rfl (sc rfl (sc rfl (sc (jt (Or.inr (Or.inr (Or.inl h3)))) sn)))) (fun _ h => h))
   refine l_val (wg rfl rfl rfl) (r_move rfl) rfl ?_
   refine l_val (wg rfl rfl rfl) (r_gtr rfl rfl) rfl ?_
   refine l_val wn (r_pick rfl rfl) rfl ?_
   refine l_val wn (r_move rfl) rfl ?_
   refine l_case (t := 43) rfl (fun h4 => ?_) (fun h4 => ?_)
   · refine l_skip (wg rfl rfl rfl) rfl ?_
     refine l_skip (wg rfl rfl rfl) rfl ?_
     refine l_skip (wg rfl rfl rfl) rfl ?_
     refine l_val wn (r_pick rfl rfl) rfl ?_
     refine l_val wn (r_move rfl) rfl ?_
     refine l_skip (wg rfl rfl rfl) rfl ?_
     refine l_skip (wg rfl rfl rfl) rfl ?_
     refine l_skip (wg rfl rfl rfl) rfl ?_
     refine l_skip (wg rfl rfl rfl) rfl ?_
     refine l_skip (wu rfl rfl) rfl ?_
     refine l_skip (wu rfl rfl) rfl ?_
     refine l_skip (wu rfl rfl) rfl ?_
     refine l_skip (wu rfl rfl) rfl ?_
     refine l_skip (wg rfl rfl rfl) rfl ?_
     refine l_val wn (r_pick rfl rfl) rfl ?_
     refine l_val wn (r_move rfl) rfl ?_
     refine l_skip (wg rfl rfl rfl) rfl ?_
     refine l_skip (wg rfl rfl rfl) rfl ?_
     refine l_skip (wg rfl rfl rfl) rfl ?_
     refine l_skip (wg rfl rfl rfl) rfl ?_
     refine l_skip (wu rfl rfl) rfl ?_
     refine l_skip (wu rfl rfl) rfl ?_
     refine l_skip (wu rfl rfl) rfl ?_
     refine l_skip (wu rfl rfl) rfl ?_
     refine l_skip (wg rfl rfl rfl) rfl ?_
     refine l_val wn (r_pick rfl rfl) rfl ?_
     refine l_nil (e_cut hK6 (sc rfl (sc rfl (sc rfl (sc (jt (Or.inr (Or.inr (Or.inr (Or.inl h4))))) sn)))) (fun _ h => h))
   refine l_val (wg rfl rfl rfl) (r_move rfl) rfl ?_
   refine l_val (wg rfl rfl rfl) (r_remn rfl rfl (by omega) (by omega)) rfl ?_
   refine l_val (wg rfl rfl rfl) (r_neq rfl rfl) rfl ?_
   refine l_val wn (r_pick rfl rfl) rfl ?_
   refine l_val wn (r_move rfl) rfl ?_
   refine l_case (t := 48) rfl (fun h5 => ?_) (fun h5 => ?_)
   · refine l_skip (wg rfl rfl rfl) rfl ?_
     refine l_skip (wg rfl rfl rfl) rfl ?_
     refine l_skip (wg rfl rfl rfl) rfl ?_
     refine l_skip (wg rfl rfl rfl) rfl ?_
     refine l_skip (wu rfl rfl) rfl ?_
     refine l_skip (wu rfl rfl) rfl ?_
     refine l_skip (wu rfl rfl) rfl ?_
     refine l_skip (wu rfl rfl) rfl ?_
     refine l_skip (wg rfl rfl rfl) rfl ?_
     refine l_val wn (r_pick rfl rfl) rfl ?_
     refine l_val wn (r_move rfl) rfl ?_
     refine l_skip (wg rfl rfl rfl) rfl ?_
     refine l_skip (wg rfl rfl rfl) rfl ?_
     refine l_skip (wg rfl rfl rfl) rfl ?_
     refine l_skip (wg rfl rfl rfl) rfl ?_
     refine l_skip (wu rfl rfl) rfl ?_
     refine l_skip (wu rfl rfl) rfl ?_
     refine l_skip (wu rfl rfl) rfl ?_
     refine l_skip (wu rfl rfl) rfl ?_
     refine l_skip (wg rfl rfl rfl) rfl ?_
     refine l_val wn (r_pick rfl rfl) rfl ?_
     refine l_nil (e_cut hK6 (sc rfl (sc rfl (sc rfl (sc (jt (Or.inr (Or.inr (Or.inr (Or.inr (Or.inl h5)))))) sn)))) (fun _ h => h))
   refine l_val (wg rfl rfl rfl) (r_move rfl) rfl ?_
   refine l_val (wg rfl rfl rfl) (r_remn rfl rfl (by omega) (by omega)) rfl ?_
   refine l_val (wg rfl rfl rfl) (r_neq rfl rfl) rfl ?_
   refine l_val (wg rfl rfl rfl) (r_move rfl) rfl ?_
   refine l_case (t := 52) rfl (fun h6 => ?_) (fun h6 => ?_)
   · refine l_val (wg rfl rfl rfl) (r_move rfl) rfl ?_
     refine l_val (wg rfl rfl rfl) (r_fa rfl fld27_8) rfl ?_
     refine l_val (wg rfl rfl rfl) (r_lb 0 rfl rfl rfl flat3) rfl ?_
     refine l_val (wg rfl rfl rfl) (r_lss rfl rfl) rfl ?_
     refine l_val (wg rfl rfl rfl) (r_pick rfl rfl) rfl ?_
     refine l_val wn (r_pick rfl rfl) rfl ?_
     refine l_val wn (r_move rfl) rfl ?_
     refine l_case (t := 59) rfl (fun h7 => ?_) (fun h7 => ?_)
     · refine l_skip (wg rfl rfl rfl) rfl ?_
       refine l_skip (wg rfl rfl rfl) rfl ?_
       refine l_skip (wg rfl rfl rfl) rfl ?_
       refine l_skip (wg rfl rfl rfl) rfl ?_
       refine l_skip (wu rfl rfl) rfl ?_
       refine l_skip (wu rfl rfl) rfl ?_
       refine l_skip (wu rfl rfl) rfl ?_
       refine l_skip (wu rfl rfl) rfl ?_
       refine l_skip (wg rfl rfl rfl) rfl ?_
       refine l_val wn (r_pick rfl rfl) rfl ?_
       refine l_nil (e_cut hK6 (sc rfl (sc rfl (sc rfl (sc (jt (Or.inr (Or.inr (Or.inr (Or.inr (Or.inr (Or.inl ⟨h6, (Or.inl h7)⟩))))))) sn)))) (fun _ h => h))
     refine l_val (wg rfl rfl rfl) (r_move rfl) rfl ?_
     refine l_val (wg rfl rfl rfl) (r_remn rfl rfl (by omega) (by omega)) rfl ?_
     refine l_val (wg rfl rfl rfl) (r_neq rfl rfl) rfl ?_
     refine l_val (wg rfl rfl rfl) (r_move rfl) rfl ?_
     refine l_case (t := 63) rfl (fun h8 => ?_) (fun h8 => ?_)
     · refine l_val (wg rfl rfl rfl) (r_move rfl) rfl ?_
       refine l_val (wg rfl rfl rfl) (r_fa rfl fld27_6) rfl ?_
       refine l_val (wg rfl rfl rfl) (r_lb 0 rfl rfl rfl flat3) rfl ?_
       refine l_val (wg rfl rfl rfl) (r_lss rfl rfl) rfl ?_
       refine l_val (wg rfl rfl rfl) (r_pick rfl rfl) rfl ?_
       refine l_val wn (r_pick rfl rfl) rfl ?_
       refine l_nil (e_cut hK6 (sc rfl (sc rfl (sc rfl (sc (jp (iff_or_right h1 (iff_or_right h2 (iff_or_right h3 (iff_or_right h4 (iff_or_right h5 (iff_ite_l h6 (iff_or_right h7 (iff_and_right h8 Iff.rfl))))))))) sn)))) (fun _ h => h))
     refine l_skip (wg rfl rfl rfl) rfl ?_
     refine l_skip (wg rfl rfl rfl) rfl ?_
     refine l_skip (wg rfl rfl rfl) rfl ?_
     refine l_skip (wg rfl rfl rfl) rfl ?_
     refine l_val (wg rfl rfl rfl) (r_pick rfl rfl) rfl ?_
     refine l_val wn (r_pick rfl rfl) rfl ?_
     refine l_nil (e_cut hK6 (sc rfl (sc rfl (sc rfl (sc (jf (fun g => g.elim h1 (fun g => g.elim h2 (fun g => g.elim h3 (fun g => g.elim h4 (fun g => g.elim h5 (fun g => g.elim (fun k => (fun g => g.elim h7 (fun g => h8 g.1)) k.2) (fun k => k.1 h6)))))))) sn)))) (fun _ h => h))
   refine l_skip (wg rfl rfl rfl) rfl ?_
   refine l_skip (wg rfl rfl rfl) rfl ?_
   refine l_skip (wg rfl rfl rfl) rfl ?_
   refine l_skip (wg rfl rfl rfl) rfl ?_
   refine l_val (wg rfl rfl rfl) (r_pick rfl rfl) rfl ?_
   refine l_val wn (r_pick rfl rfl) rfl ?_
   refine l_val wn (r_move rfl) rfl ?_
   refine l_val (wg rfl rfl rfl) (r_move rfl) rfl ?_
   refine l_val (wg rfl rfl rfl) (r_remn rfl rfl (by omega) (by omega)) rfl ?_
   refine l_val (wg rfl rfl rfl) (r_neq rfl rfl) rfl ?_
   refine l_val (wg rfl rfl rfl) (r_move rfl) rfl ?_
   refine l_case (t := 63) rfl (fun h9 => ?_) (fun h9 => ?_)
   · refine l_val (wg rfl rfl rfl) (r_move rfl) rfl ?_
     refine l_val (wg rfl rfl rfl) (r_fa rfl fld27_6) rfl ?_
     refine l_val (wg rfl rfl rfl) (r_lb 0 rfl rfl rfl flat3) rfl ?_
     refine l_val (wg rfl rfl rfl) (r_lss rfl rfl) rfl ?_
     refine l_val (wg rfl rfl rfl) (r_pick rfl rfl) rfl ?_
     refine l_val wn (r_pick rfl rfl) rfl ?_
     refine l_nil (e_cut hK6 (sc rfl (sc rfl (sc rfl (sc (jp (iff_or_right h1 (iff_or_right h2 (iff_or_right h3 (iff_or_right h4 (iff_or_right h5 (iff_ite_r h6 (iff_and_right h9 Iff.rfl)))))))) sn)))) (fun _ h => h))
   refine l_skip (wg rfl rfl rfl) rfl ?_
   refine l_skip (wg rfl rfl rfl) rfl ?_
   refine l_skip (wg rfl rfl rfl) rfl ?_
   refine l_skip (wg rfl rfl rfl) rfl ?_
   refine l_val (wg rfl rfl rfl) (r_pick rfl rfl) rfl ?_
   refine l_val wn (r_pick rfl rfl) rfl ?_
   refine l_nil (e_cut hK6 (sc rfl (sc rfl (sc rfl (sc (jf (fun g => g.elim h1 (fun g => g.elim h2 (fun g => g.elim h3 (fun g => g.elim h4 (fun g => g.elim h5 (fun g => g.elim (fun k => h6 k.1) (fun k => (fun g => h9 g.1) k.2)))))))) sn)))) (fun _ h => h))
 refine c_cond rfl (fun h10 => ?_) (fun h10 => ?_)
 · refine c_seq fun _ hK7 => ?_
   refine c_region ?_
   refine l_val wn (r_assign rfl) rfl ?_
   refine l_nil (e_go hK7 ?_)
   refine c_ret (e_then_r (e_ret1 (.inl rfl) Try.results10 (rv_tmp rfl) fun w1 hM => ?_))
   exact ret_ok rfl hM
 have hmd : (Sh.made l ro ([a, b] : List Int)).2 = true := by cases hb : (Sh.made l ro ([a, b] : List Int)).2 with | true => rfl | false => exact absurd (Or.inl (by rw [hb]; rfl)) h10
 have hkp := Sh.made_keep hmd
 refine c_skip (e_go hK5 ?_)
 refine c_seq fun _ hK8 => ?_
 refine c_region ?_
 refine l_val wn (r_lbn 0 [.slice A1 (((Sh.made l ro ([a, b] : List Int)).1).series.length) cp1, .slice A2 (((Sh.made l ro ([a, b] : List Int)).1).raw.length) cp2, .slice A3 (((Sh.made l ro ([a, b] : List Int)).1).fine.length) cp3, .slice A4 (((Sh.made l ro ([a, b] : List Int)).1).coarse.length) cp4, .int .i64 (((Sh.made l ro ([a, b] : List Int)).1).rawFrom), .int .i64 (((Sh.made l ro ([a, b] : List Int)).1).fineFrom), .int .i64 (((Sh.made l ro ([a, b] : List Int)).1).fineTo), .int .i64 (((Sh.made l ro ([a, b] : List Int)).1).coarseFrom), .int .i64 (((Sh.made l ro ([a, b] : List Int)).1).coarseTo)] rfl rfl rfl rfl agg27 inf27) rfl ?_
 refine l_val wn (r_move rfl) rfl ?_
 refine l_val wn (r_move rfl) rfl ?_
 refine l_callLT ((Sh.choose ((Sh.made l ro ([a, b] : List Int)).1) f t).1) (fun r => .tuple (List.toArray [r, .int .i64 ((Sh.choose ((Sh.made l ro ([a, b] : List Int)).1) f t).2)])) wn rfl rfl Try.call14 rfl (fun w1 hM => c_choose _ _ _ _ ((Sh.made l ro ([a, b] : List Int)).1) f t (In w1) w1 (fun _ h => h) (hM.slp 1 rfl) (hM.slp 2 rfl) (hM.slp 3 rfl) (hM.slp 4 rfl)) fun A5 cp5 hc1 hm1 hA5 => ?_
 refine l_val wn (r_move rfl) rfl ?_
 refine l_val wn (r_extract rfl rfl) rfl ?_
 refine l_val wn (r_extract rfl rfl) rfl ?_
 refine l_val wn (r_assign rfl) rfl ?_
 refine l_val wn (r_assign rfl) rfl ?_
 refine l_nil (e_go hK8 ?_)
 refine c_seq fun _ hK9 => ?_
 refine c_region ?_
 refine l_val wn (r_move rfl) rfl ?_
 refine l_val wn (r_eql rfl rfl) rfl ?_
 refine l_val wn (r_assign rfl) rfl ?_
 refine l_nil (e_go hK9 ?_)
 refine c_ret (e_ret1 (.inl rfl) Try.results10 (rv_tmp rfl) fun w1 hM => ?_)
 exact ret_ok (congrArg Value.bool (decide_eq_true (Sh.choose_there hkp.ok (Sh.made_cf hmd) (by omega) (by omega) (by omega) (fun g => by omega) (fun g => by omega) (by omega)))) hM

end Go.Proofs.Ytnbkennlmnnbeaa
