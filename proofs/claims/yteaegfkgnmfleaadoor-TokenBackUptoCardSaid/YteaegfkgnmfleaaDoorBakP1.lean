/- This claim's own texts, joined, with only what the claim uses: Kinds. -/
import Derived.Test.YteaegfkgnmfleaaDoorCards
import Derived.Test.YteaegfkgnmfleaaDoorTie
import Derived.WalkKit
import Derived.ProofKit
import Derived.OpenShut
import Derived.Deep.DeepHandedRow
import Derived.Lib.LaidTab
import Derived.Laws.Rows
import Derived.Laws.PanicsMore
import Derived.Below
namespace Go.Proofs.YteaegfkgnmfleaaDoor.Tk
open Go.ChangeShapes Go.WideShapes Go.ChangeAt Go.RowKit

def Wds : List ByteArray := [⟨#[97, 98, 115]⟩, ⟨#[97, 115, 115, 101, 114, 116]⟩, ⟨#[99, 97, 108, 108]⟩, ⟨#[99, 97, 115, 101]⟩, ⟨#[99, 108, 97, 109, 112]⟩, ⟨#[99, 111, 110, 115, 116]⟩, ⟨#[100, 101, 102, 97, 117, 108, 116]⟩, ⟨#[101, 108, 115, 101]⟩, ⟨#[105, 102]⟩, ⟨#[105, 110]⟩, ⟨#[105, 110, 105, 116]⟩, ⟨#[105, 110, 112, 117, 116]⟩, ⟨#[105, 110, 116, 49, 54]⟩, ⟨#[105, 110, 116, 51, 50]⟩, ⟨#[105, 110, 116, 56]⟩, ⟨#[108, 111, 111, 112]⟩, ⟨#[109, 97, 120]⟩, ⟨#[109, 105, 110]⟩, ⟨#[112, 114, 111, 99]⟩, ⟨#[114, 101, 97, 100]⟩, ⟨#[115, 107, 105, 112]⟩, ⟨#[115, 119, 105, 116, 99, 104]⟩, ⟨#[116, 105, 99, 107, 115]⟩, ⟨#[118, 97, 114]⟩, ⟨#[119, 104, 105, 108, 101]⟩, ⟨#[33]⟩, ⟨#[33, 61]⟩, ⟨#[37]⟩, ⟨#[38, 38]⟩, ⟨#[40]⟩, ⟨#[41]⟩, ⟨#[42]⟩, ⟨#[43]⟩, ⟨#[44]⟩, ⟨#[45]⟩, ⟨#[46, 46]⟩, ⟨#[47]⟩, ⟨#[58]⟩, ⟨#[59]⟩, ⟨#[60]⟩, ⟨#[60, 61]⟩, ⟨#[61]⟩, ⟨#[61, 61]⟩, ⟨#[62]⟩, ⟨#[62, 61]⟩, ⟨#[91]⟩, ⟨#[93]⟩, ⟨#[123]⟩, ⟨#[124, 124]⟩, ⟨#[125]⟩]
noncomputable def WA : Array Value := (Wds.map Value.string).toArray
theorem WA_size : WA.size = 50 := by simp [WA, Wds]

theorem cells_of_strs {H : Type} {enc : TypeId × Value → H} {P : Program} {w : World} {base : Nat} {sp : Nat → Bool} {held : Bool} {fuel : Nat} {t e : TypeId} {n : Nat} {cs : List Value} {zs : List ByteArray} {p : List MemPlace}
    (ht : P.underlying t = some (.array n e)) (he : P.underlying e = some .string) (hce : P.cellsOf e = 1) (hct : P.cellsOf t = n)
    (h : DataW.trod enc P w base sp held fuel t cs = some (.agg (zs.map fun z => .lit (.string z.data.toList)), p)) : cs = zs.map Value.string := by
  cases fuel with
  | zero => simp [DataW.trod] at h
  | succ fuel =>
    simp only [DataW.trod, ht, hce, hct, Nat.mul_one] at h
    split at h
    · rename_i hl
      obtain ⟨xs, hm, hx⟩ := Option.map_eq_some_iff.1 h
      have hxs : xs.map (·.1) = zs.map fun z => (DataW.lit (.string z.data.toList) : DataW H) := by
        have := congrArg Prod.fst hx
        simpa using this
      have hxl : xs.length = n := by simpa using Lib.mapM_length hm
      have hzl : zs.length = n := by
        have := congrArg List.length hxs
        simp at this
        omega
      apply List.ext_getElem?
      intro i
      by_cases hi : i < n
      · obtain ⟨b, hb, hf⟩ := Lib.mapM_at hm i i (by simp [hi])
        obtain ⟨z, hc, rfl, _⟩ := DataW.trod_string he hf
        have h1 : cs[i]? = some (.string z) := by
          have := congrArg (·[0]?) hc
          simpa [List.getElem?_take, List.getElem?_drop] using this
        have h2 : (xs.map (·.1))[i]? = some (DataW.lit (.string z.data.toList) : DataW H) := by simp [hb]
        rw [hxs] at h2
        simp only [List.getElem?_map, Option.map_eq_some_iff, DataW.lit.injEq, Lit.string.injEq] at h2
        obtain ⟨z', hz', e'⟩ := h2
        have : z' = z := by
          cases z; cases z'
          simp only at e'
          congr 1
          exact Array.toList_inj.mp e'
        subst this
        simp [h1, hz']
      · rw [List.getElem?_eq_none (by omega), List.getElem?_eq_none (by simp; omega)]
    · cases h

theorem gTab : Tryd.prog.globalNamed "gimbal/token.words" = some 0 := by kernel_rfl
theorem gTabType : (Tryd.prog.globals[0]?).map (·.type) = some 43 := by kernel_rfl
theorem cells43 : Tryd.prog.cellsOf 43 = 50 := by kernel_rfl
theorem cells9 : Tryd.prog.cellsOf 9 = 1 := by kernel_rfl
theorem info43 : (Tryd.prog.info? 43).map (·.size) = some 50 := by kernel_rfl

/-- The table stands in block 0. -/
def HasTab (w : World) : Prop := ∃ t fr, w.heap[0]? = some (.cells WA t fr)
theorem HasTab.below {w w' : World} {B : Nat} (h : HasTab w) (hb : Below B w w') (hB : 0 < B) : HasTab w' := by
  obtain ⟨t, fr, h⟩ := h
  exact ⟨t, fr, (hb.block 0 hB).trans h⟩
theorem HasTab.pos {w : World} (h : HasTab w) : 0 < w.heap.size := by
  obtain ⟨t, fr, h⟩ := h
  rcases Nat.eq_zero_or_pos w.heap.size with h0 | h0
  · rw [Array.getElem?_eq_none (by omega)] at h; cases h
  · exact h0

theorem hasTab {rest : List (String × DataW Unit)} {W : World} (h : laidMet Tryd.prog (("gimbal/token.words", Rows.laid_gimbal_token_words) :: rest) W) : HasTab W := by
  obtain ⟨ps, ⟨g', t', cs, fuel, p, q, hg', ht', hvar, hd, _, _⟩, _⟩ := h
  obtain rfl := Option.some.inj (gTab.symm.trans hg')
  obtain rfl := Option.some.inj (gTabType.symm.trans ht')
  have hcs := cells_of_strs (zs := Wds) Tryd.underlying43 Tryd.underlying9 cells9 cells43 (hd : DataW.trod _ _ _ _ _ _ _ _ _ = some (.agg (Wds.map fun z => .lit (.string z.data.toList)), p))
  have hWA : cs = WA := by unfold WA; rw [← hcs]
  subst hWA
  simp only [World.var?, gTab, Option.bind_some] at hvar
  split at hvar
  · rename_i c t fr hh
    cases hvar
    exact ⟨t, fr, hh⟩
  · cases hvar
end Go.Proofs.YteaegfkgnmfleaaDoor.Tk

