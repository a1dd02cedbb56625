/- This claim's own texts, joined, with only what the claim uses: RefS. -/
import Derived.Test.YteaegfkgnmfleaaDoorBetP3
import Derived.Test.YteaegfkgnmfleaaDoorBetP4
import Derived.Test.YteaegfkgnmfleaaDoorBetP2
import Derived.Test.YteaegfkgnmfleaaDoorBetP18
import Derived.Test.YteaegfkgnmfleaaDoorBetP10
namespace Go.Proofs.YteaegfkgnmfleaaDoor.Sc
open Go Go.RowKit Go.Proofs.YteaegfkgnmfleaaDoorW.PrintWords Pr Tk

def mkS (t : Tok) : S37 := ⟨t.1, t.2.1, t.2.2.1, t.2.2.2⟩
def resOf : Res → List S37 × Int × Int
  | .toks l => (l.map mkS, 0, 0)
  | .bad p e => ([], p, e)
theorem ref_err {K : List Int → Int} {l : List Int} {e : Int} (h : one K l = .error e) : e = 31 ∨ e = 33 ∨ e = 34 := by
  unfold one at h
  split at h
  · cases h; simp
  · split at h
    · split at h
      · split at h <;> cases h; simp
      · cases h
    · split at h
      · split at h <;> cases h; simp
      · split at h
        · cases h
        · split at h <;> cases h; simp
end Go.Proofs.YteaegfkgnmfleaaDoor.Sc

