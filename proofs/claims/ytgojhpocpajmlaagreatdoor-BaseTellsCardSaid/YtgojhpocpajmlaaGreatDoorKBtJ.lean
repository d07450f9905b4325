/- Laws and walks for the proof of BaseTells, packed by program; each theorem bears its own conditions. -/
import Derived.Test.YtgojhpocpajmlaaGreatDoorRows
import Derived.JoinedCond
import Derived.KernelRfl
import Derived.Test.YtgojhpocpajmlaaGreatDoorProg
import Derived.Deep.DeepHandedRow
namespace Go.Proofs.YtgojhpocpajmlaaGreatDoor
open Go.ChangeShapes Go.WideShapes Go.ChangeAt
set_option maxRecDepth 100000 in
theorem joined_:joinedFacts Tryz.pinned.checked.prog 3 Tryz.f3 (OpenSpec.ofChange Rows.baseTellsSpec).bare Rows.baseTellsRow=true:=by kernel_rfl
end Go.Proofs.YtgojhpocpajmlaaGreatDoor
