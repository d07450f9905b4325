/-
  Walks: what each function hands back.
-/
import Derived.Test.YteogkbpcibnifaaWagg
namespace Go.Proofs.Yteogkbpcibnifaa
open Ex
set_option linter.unusedVariables false
set_option linter.unusedSimpArgs false
theorem law_AggParts (av : Value) (a : List Sample) (bv : Value) (b : List Sample) (w : World) (ha : FlatSl (In w) 2 sampleE av a w) (hb : FlatSl (In w) 2 sampleE bv b w) (b0 : a.length ≤ 1048576) (b1 : b.length ≤ 1048576) :
    Calls Try.prog 4 #[av, bv] w (Ret w (.bool true)) := by
  obtain ⟨aA, ac, rfl, hac, ham, haA⟩ := ha.form
  obtain ⟨bA, bc, rfl, hbc, hbm, hbA⟩ := hb.form
  refine fstart (N := 19) (vals := [.slice aA a.length ac, .slice bA b.length bc]) (S := Mem w no [slO (In w) 2 sampleE (.slice aA a.length ac) a, slO (In w) 2 sampleE (.slice bA b.length bc) b]) Try.func4 rfl rfl rfl (Mem.ofDats (dc (dl ha) (dc (dl hb) dn))) ?_
  refine c_seq fun K1 hK1 => ?_
  refine c_region ?_
  refine l_val wn (r_assign rfl) rfl ?_
  refine l_nil (e_go hK1 ?_)
  refine c_seq fun K2 hK2 => ?_
  refine c_seq fun K3 hK3 => ?_
  refine c_region ?_
  refine l_callF wn rfl Try.call21 rfl (fun w1 hM => c_alive2  w1) ?_
  refine l_val wn (r_notb rfl) rfl ?_
  refine l_nil (e_go hK3 ?_)
  refine c_false rfl rfl ?_
  refine c_skip (e_go hK2 ?_)
  refine c_seq fun K4 hK4 => ?_
  refine c_region ?_
  refine l_bsL0 sampleE wn Try.underlying22 inf29 rfl fun b7 => ?_
  refine l_val wn (r_move rfl) rfl ?_
  refine l_app 0 ([] : List Sample) a encSample wn rfl rfl rfl (fun _ hM => (hM.sl 1 rfl)) Try.underlying22 inf29 rfl rfl (by simp only [List.length_append, List.length_cons, List.length_nil]; omega) rfl fun A1 cp1 hc1 hm1 hA1 => ?_
  refine l_val wn (r_move rfl) rfl ?_
  refine l_app 0 (([] : List Sample) ++ a) b encSample wn rfl rfl rfl (fun _ hM => (hM.sl 2 rfl)) Try.underlying22 inf29 rfl rfl (by simp only [List.length_append, List.length_cons, List.length_nil]; omega) rfl fun A2 cp2 hc2 hm2 hA2 => ?_
  refine l_callF wn rfl Try.call13 rfl (fun w1 hM => c_Of _ ((([] : List Sample) ++ a) ++ b) w1 (RowSl encSample hM 0 rfl)) ?_
  refine l_val wn (r_move rfl) rfl ?_
  refine l_callF wn rfl Try.call13 rfl (fun w1 hM => c_Of _ a w1 (hM.sl 1 rfl)) ?_
  refine l_val wn (r_move rfl) rfl ?_
  refine l_callF wn rfl Try.call13 rfl (fun w1 hM => c_Of _ b w1 (hM.sl 2 rfl)) ?_
  refine l_callF wn rfl Try.call15 rfl (fun w1 hM => c_Join (Agg.of a) (Agg.of b) w1) ?_
  refine l_val wn (r_eqlS (a := (Agg.of ((([] : List Sample) ++ a) ++ b))) (b := (Agg.join (Agg.of a) (Agg.of b))) rfl rfl eqv24) rfl ?_
  refine l_val wn (r_assign rfl) rfl ?_
  refine l_nil (e_go hK4 ?_)
  refine c_ret (e_ret1 (.inl rfl) Try.results4 (rv_tmp rfl) fun w1 hM => ?_)
  exact ret_ok (by rw [List.nil_append, Agg.of_append a b (by omega)]; simp) hM

end Go.Proofs.Yteogkbpcibnifaa
