/-
  Walks: what each function hands back.
-/
import Derived.Test.YteogkbpcibnifaaWroll
import Derived.Test.YteogkbpcibnifaaWcodec
import Derived.Test.YteogkbpcibnifaaPRoll
namespace Go.Proofs.Yteogkbpcibnifaa
open Ex
set_option linter.unusedVariables false
set_option linter.unusedSimpArgs false
theorem law_RollGreater (lv : Value) (l : List Sample) (w : World) (hl : FlatSl (In w) 2 sampleE lv l w)  :
    Calls Try.prog 8 #[lv] w (Ret w (.bool true)) := by
  obtain ⟨lA, lc, rfl, hlc, hlm, hlA⟩ := hl.form
  refine fstart (N := 15) (vals := [.slice lA l.length lc]) (S := Mem w no [slO (In w) 2 sampleE (.slice lA l.length lc) l]) Try.func8 rfl rfl rfl (Mem.ofDats (dc (dl hl) dn)) ?_
  refine c_seq fun K1 hK1 => ?_
  refine c_region ?_
  refine l_val wn (r_assign rfl) rfl ?_
  refine l_nil (e_go hK1 ?_)
  refine c_seq fun K2 hK2 => ?_
  refine c_seq fun K3 hK3 => ?_
  refine c_region ?_
  refine l_callF wn rfl Try.call23 rfl (fun w1 hM => c_alive3  w1) ?_
  refine l_val wn (r_notb rfl) rfl ?_
  refine l_nil (e_go hK3 ?_)
  refine c_false rfl rfl ?_
  refine c_skip (e_go hK2 ?_)
  refine c_seq fun K4 hK4 => ?_
  refine c_seq fun K5 hK5 => ?_
  refine c_region ?_
  refine l_val wn (r_move rfl) rfl ?_
  refine l_callF wn rfl Try.call24 rfl (fun w1 hM => c_codecWrong _ l w1 (hM.sl 0 rfl)) ?_
  refine l_val wn (r_fieldv rfl fld45_0 fty45_0 flat43 rfl) rfl ?_
  refine l_val wn (r_neq rfl rfl) rfl ?_
  refine l_nil (e_go hK5 ?_)
  refine c_cond rfl (fun h1 => ?_) (fun h1 => ?_)
  ·
    refine c_seq fun K6 hK6 => ?_
    refine c_region ?_
    refine l_val wn (r_assign rfl) rfl ?_
    refine l_nil (e_go hK6 ?_)
    refine c_ret (e_then_r (e_ret1 (.inl rfl) Try.results8 (rv_tmp rfl) fun w1 hM => ?_))
    exact ret_ok rfl hM
  ·
    have hr := Codec.right_of (Classical.not_not.1 h1)
    have hl := hr.len
    refine c_skip (e_go hK4 ?_)
    refine c_seq fun K7 hK7 => ?_
    refine c_region ?_
    refine l_val wn (r_move rfl) rfl ?_
    refine l_callL (Roll.up l 1) wn rfl Try.call27 rfl (fun w1 hM => c_Up _ l 1 w1 (hM.sl 0 rfl) (by first | assumption | omega | (simp only [List.length_cons, List.length_nil]; omega) | exact Nat.le_trans (Roll.up_len _ _) (by first | omega | simp))) fun A1 cp1 hc1 hm1 hA1 => ?_
    refine l_callL (Roll.greater (Roll.up l 1)) wn rfl Try.call26 rfl (fun w1 hM => c_Greater _ (Roll.up l 1) w1 (RowSl encBucket hM 0 rfl) (by first | assumption | omega | (simp only [List.length_cons, List.length_nil]; omega) | exact Nat.le_trans (Roll.up_len _ _) (by first | omega | simp))) fun A2 cp2 hc2 hm2 hA2 => ?_
    refine l_val wn (r_move rfl) rfl ?_
    refine l_callL (Roll.up l 2) wn rfl Try.call27 rfl (fun w1 hM => c_Up _ l 2 w1 (hM.sl 2 rfl) (by first | assumption | omega | (simp only [List.length_cons, List.length_nil]; omega) | exact Nat.le_trans (Roll.up_len _ _) (by first | omega | simp))) fun A3 cp3 hc3 hm3 hA3 => ?_
    refine l_callF wn rfl Try.call25 rfl (fun w1 hM => c_SameBuckets _ (Roll.greater (Roll.up l 1)) _ (Roll.up l 2) w1 (RowSl encBucket hM 1 rfl) (RowSl encBucket hM 0 rfl)) ?_
    refine l_val wn (r_assign rfl) rfl ?_
    refine l_nil (e_go hK7 ?_)
    refine c_ret (e_ret1 (.inl rfl) Try.results8 (rv_tmp rfl) fun w1 hM => ?_)
    exact ret_ok (by rw [decide_eq_true (Roll.greater_up hr)]) hM

end Go.Proofs.Yteogkbpcibnifaa
