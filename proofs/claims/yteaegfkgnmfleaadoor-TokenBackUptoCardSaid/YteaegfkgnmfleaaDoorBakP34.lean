/- This claim's own texts, joined, with only what the claim uses: KindsR. -/
import Derived.Test.YteaegfkgnmfleaaDoorBakP19
import Derived.ChangeMaps5
namespace Go.Proofs.YteaegfkgnmfleaaDoor.Tk
open Go.ChangeShapes Go.WideShapes Go.ChangeAt Go.RowKit Go.ChangeMaps

theorem own : ownKnob Tryd.prog.godebug = none := by kernel_rfl

end Go.Proofs.YteaegfkgnmfleaaDoor.Tk
namespace Go.Proofs.YteaegfkgnmfleaaDoor
end Go.Proofs.YteaegfkgnmfleaaDoor

