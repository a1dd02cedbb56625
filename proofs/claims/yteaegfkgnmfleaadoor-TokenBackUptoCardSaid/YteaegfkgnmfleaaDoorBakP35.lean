/- This claim's own texts, joined, with only what the claim uses: BetR. -/
import Derived.Test.YteaegfkgnmfleaaDoorBakP29
import Derived.Test.YteaegfkgnmfleaaDoorBakP34
import Derived.ProofKit
import Derived.Carry
import Derived.HandedShaped
import Derived.Lay
namespace Go.Proofs.YteaegfkgnmfleaaDoor.Sc
open Go.ChangeShapes Go.WideShapes Go.ChangeAt Go.RowKit Go.ChangeMaps Tk
set_option maxRecDepth 100000

theorem laidOut : laidOutB Tryd.prog = true := by kernel_rfl
/-- The library's own variable holds some number. -/
theorem env_of {W : World} {rest : List (String × DataW Unit)} (hL : laidMet Tryd.prog (("gimbal/token.words", Rows.laid_gimbal_token_words) :: rest) W) (hsh : W.ShapedOpen Tryd.prog) : Env W :=
  ⟨hasTab hL, Go.Proofs.cell_of_shapedOpen_int (P := Tryd.prog) (g := 1) (zero := #[.int .i64 0]) (t := 3) hsh (of_decide_eq_true (by kernel_rfl)) (by kernel_rfl) rfl (by kernel_rfl) (by kernel_rfl) Tryd.underlying3⟩
end Go.Proofs.YteaegfkgnmfleaaDoor.Sc
namespace Go.Proofs.YteaegfkgnmfleaaDoor
end Go.Proofs.YteaegfkgnmfleaaDoor

