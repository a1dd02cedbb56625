/- This claim's own texts, joined, with only what the claim uses: GivenB. -/
import Derived.Test.YtfmmjekhknaniaaDoorProg
import Derived.Below
import Derived.OwnWalk
import Derived.WalkKit
import Derived.KernelRfl
import Derived.WalkLawsBesides
namespace Go.Proofs.YtfmmjekhknaniaaDoor.Given
open Go.RowKit

/-- the sound interval of two numbers. -/
def ofI (lo hi : Int) : Int × Int :=
  if hi < lo then (1, 0)
  else (if lo ≤ -4611686018427387904 then -4611686018427387904 else if 4611686018427387904 ≤ lo then 4611686018427387903 else lo,
        if 4611686018427387904 ≤ hi then 4611686018427387904 else if hi ≤ -4611686018427387904 then -4611686018427387903 else hi)

def gimbalref02_Of.f (a0 a1 : Int) : Option (Int × Int) := some (ofI a0 a1)
def itv_Of.f (a0 a1 : Int) : Option (Int × Int) := some (ofI a0 a1)

end Go.Proofs.YtfmmjekhknaniaaDoor.Given

