/- This claim's own texts, joined, with only what the claim uses: BetA. -/
import Derived.Test.YteaegfkgnmfleaaDoorScnP28
import Derived.Lib.SlBytesConst
namespace Go.Proofs.YteaegfkgnmfleaaDoor.Sc
open Go.RowKit Tk Pr Go.Proofs.YteaegfkgnmfleaaDoorW.PrintWords

/-- The table and MaxLen stand where they stand. -/
def Env (W : World) : Prop := HasTab W ∧ ∃ m, W.cell? ⟨1, 0, none⟩ = some (.int .i64 m)
theorem Env.below {W W' : World} (h : Env W) (hb : Below W.heap.size W W') : Env W' := by
  obtain ⟨hT, m, hm⟩ := h
  exact ⟨hT.below hb hT.pos, m, (hb.cell (World.block_lt_of_cell? W _ hm)).trans hm⟩
end Go.Proofs.YteaegfkgnmfleaaDoor.Sc

