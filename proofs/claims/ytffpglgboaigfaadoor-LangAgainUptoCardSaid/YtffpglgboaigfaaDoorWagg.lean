/-
  Walks: what each function hands back.
-/
import Derived.Test.YtffpglgboaigfaaDoorFacts
import Derived.Test.YtffpglgboaigfaaDoorPure
import Derived.Test.YtffpglgboaigfaaDoorAbb
namespace Go.Proofs.YtffpglgboaigfaaDoor
open Ex
set_option linter.unusedVariables false
set_option linter.unusedSimpArgs false
theorem c_Words  (w : World)   :
    Calls Tryd.prog 73 #[] w (RetL w 9 1 strE Agg.words) := by
 refine fstart (N := 2) (vals := []) (S := Mem w no []) Tryd.func73 rfl rfl rfl (Mem.ofDats dn) ?_
 refine c_seq fun _ hK1 => ?_
 refine c_region ?_
 refine l_val wn (r_assign rfl) rfl ?_
 refine l_nil (e_go hK1 ?_)
 refine c_seq fun _ hK2 => ?_
 refine c_region ?_
 refine l_bsL strE ([⟨#[97, 118, 103]⟩, ⟨#[99, 111, 117, 110, 116]⟩, ⟨#[102, 105, 114, 115, 116]⟩, ⟨#[108, 97, 115, 116]⟩, ⟨#[109, 97, 120]⟩, ⟨#[109, 105, 110]⟩, ⟨#[114, 105, 115, 101]⟩, ⟨#[115, 117, 109]⟩] : List ByteArray) wn Tryd.underlying23 inf9 rfl rfl rfl rfl (by decide) (by decide) rfl fun b1 => ?_
 refine l_val wn (r_assign rfl) rfl ?_
 refine l_nil (e_go hK2 ?_)
 refine c_ret (e_ret1 (.inl rfl) Tryd.results73 (rv_tmp rfl) fun w1 hM => ?_)
 exact hM.retL' 0 rfl rfl

end Go.Proofs.YtffpglgboaigfaaDoor
