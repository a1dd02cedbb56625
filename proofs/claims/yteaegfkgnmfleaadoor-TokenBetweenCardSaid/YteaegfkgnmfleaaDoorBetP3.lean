/- This claim's own texts, joined, with only what the claim uses: ScanK. -/
import Derived.Test.YteaegfkgnmfleaaDoorBetP0
import Derived.Test.YteaegfkgnmfleaaDoorBetP2
import Derived.Laws.BytesArg
import Derived.Laws.Strings
namespace Go.Proofs.YteaegfkgnmfleaaDoor.Sc
open Go

/-- The kind of a row of bytes. -/
def KB (l : List Int) : Int := Tk.kindOf (strOfNums l)
end Go.Proofs.YteaegfkgnmfleaaDoor.Sc

