/-
  Two ways behind each other, the last one's known ahead: at the first one's end.
-/
import Derived.Test.YtffpglgboaigfaaDoorSim
namespace Go.Proofs.YtffpglgboaigfaaDoor
namespace Ex
section
variable {P : Program} {N : Nat} {D : List Deferred} {E : Env} {S : World → Prop} {Q Q2 : Exit → Act → World → Prop} {K : Act → World → Prop}
theorem e_go2 {y : Code} (hK : ∀ E S, WC P N D y Q2 E S → ∀ w, S w → ∀ a, Has N D a E → K a w) (h : WC P N D y Q2 E S) : WE N D (Exit.then K Q) .normal E S := fun w hw a ha => hK E S h w hw a ha
end
end Ex
end Go.Proofs.YtffpglgboaigfaaDoor
