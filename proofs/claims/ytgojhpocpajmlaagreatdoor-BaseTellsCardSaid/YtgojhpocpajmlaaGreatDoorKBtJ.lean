/- Laws and walks for the proof of BaseTells, packed by program; each theorem bears its own conditions. -/
import Derived.Test.YtgojhpocpajmlaaGreatDoorRows
import Derived.JoinedCond
import Derived.KernelRfl
import Derived.Test.YtgojhpocpajmlaaGreatDoorProg
import Derived.Deep.DeepHandedRow
namespace Go.Proofs.YtgojhpocpajmlaaGreatDoor
open Go.ChangeShapes Go.WideShapes Go.ChangeAt
theorem laid_:laidOutB Tryz.pinned.checked.prog=true:=by kernel_rfl
theorem rowed_:mapsRowed Tryz.pinned.checked.prog=true:=by kernel_rfl
theorem place_:(Rows.baseTellsRow.inPlace == Tryz.pinned.checked.prog.inPlace 3)=true:=by kernel_rfl
theorem unfol_:(Rows.baseTellsRow.unfollowed == Tryz.pinned.checked.prog.unfollowed 3)=true:=by kernel_rfl
theorem recur_:(Rows.baseTellsRow.recurses == Tryz.pinned.checked.prog.recurses 3)=true:=by kernel_rfl
theorem named_:(Rows.baseTellsRow.named == Tryz.pinned.checked.prog.varsNamed 3)=true:=by kernel_rfl
set_option maxRecDepth 100000 in
theorem joined_:joinedFacts Tryz.pinned.checked.prog 3 Tryz.f3 (OpenSpec.ofChange Rows.baseTellsSpec).bare Rows.baseTellsRow=true:=by
 unfold joinedFacts
 rw [laid_,rowed_,place_,unfol_,recur_,named_]
 kernel_rfl
end Go.Proofs.YtgojhpocpajmlaaGreatDoor
