/- This claim's own texts, joined, with only what the claim uses: Hx9. -/
import Derived.Test.YteaegfkgnmfleaaDoorBakP18
import Derived.Test.YteaegfkgnmfleaaDoorBakP20
namespace Go.Proofs.YteaegfkgnmfleaaDoor.Pr
open Go.RowKit Go.Proofs.YteaegfkgnmfleaaDoorW.PrintWords Go.Proofs.YteaegfkgnmfleaaDoorW.PrintLast Go.Proofs.YteaegfkgnmfleaaDoorW.PrintMore
attribute [local go_sem] max2_int min2_int max_two min_two max_three min_three max_four min_four   -- for this text's walks alone
set_option linter.unusedVariables false
set_option linter.unusedSimpArgs false

mutual
def gimbalref03_one.j1 : Nat → List Int → Int → Int → Int → Int → Int → Option (Int × Int × Int × Int × Int)
  | 0, _, _, _, _, _, _ => none
  | k + 1, x0, x1, x157000, x157001, x157002, x157003 => if 0 ≤ x1 then (if x1 ≤ x157002 then (if x157002 ≤ (x0.length : Int) then ((gimbalref03_Kind.f k (strOfNums ((x0.take (x157002 : Int).toNat).drop (x1 : Int).toNat))).bind fun t164 => (if t164 = 0 then (if (wrap64 (x157002 - x1)) > 32 then (some (1, x157001, x157002, x157003, 33)) else (some (1, x157001, x157002, x157003, 0))) else (some (t164, x157001, x157002, x157003, 0)))) else (none)) else (none)) else (none)
def gimbalref03_one.l0 : Nat → List Int → Int → Int → Int → Int → Int → Option (Int × Int × Int × Int × Int)
  | 0, _, _, _, _, _, _ => none
  | k + 1, x0, x1, x157000, x157001, x157002, x157003 => if x157002 < (x0.length : Int) then (if 0 ≤ x157002 then ((gimbalref03_letter.f (rd x0 x157002)).bind fun t160 => (if t160 = true then (gimbalref03_one.l0 k x0 x1 x157000 x157001 (wrap64 (x157002 + 1)) x157003) else ((gimbalref03_digit.f (rd x0 x157002)).bind fun t162 => (if t162 = true then (gimbalref03_one.l0 k x0 x1 x157000 x157001 (wrap64 (x157002 + 1)) x157003) else (gimbalref03_one.j1 k x0 x1 x157000 x157001 x157002 x157003))))) else (none)) else (gimbalref03_one.j1 k x0 x1 x157000 x157001 x157002 x157003)
def gimbalref03_one.l1 : Nat → List Int → Int → Int → Int → Int → Int → Option (Int × Int × Int × Int × Int)
  | 0, _, _, _, _, _, _ => none
  | k + 1, x0, x1, x157000, x157001, x157002, x157003 => if x157002 < (x0.length : Int) then (if 0 ≤ x157002 then ((gimbalref03_digit.f (rd x0 x157002)).bind fun t168 => (gimbalref03_one.j3 k x0 x1 t168 x157000 x157001 x157002 x157003)) else (none)) else (gimbalref03_one.j3 k x0 x1 false x157000 x157001 x157002 x157003)
def gimbalref03_one.j3 : Nat → List Int → Int → Bool → Int → Int → Int → Int → Option (Int × Int × Int × Int × Int)
  | 0, _, _, _, _, _, _, _ => none
  | k + 1, x0, x1, x78, x157000, x157001, x157002, x157003 => if x78 = true then (if x157003 ≤ 2147483648 then (if 0 ≤ x157002 then (if x157002 < (x0.length : Int) then (gimbalref03_one.l1 k x0 x1 x157000 x157001 (wrap64 (x157002 + 1)) (wrap64 ((wrap64 (10 * x157003)) + (((rd x0 x157002) - 48) % 256)))) else (none)) else (none)) else (gimbalref03_one.l1 k x0 x1 x157000 x157001 (wrap64 (x157002 + 1)) x157003)) else (if x157003 > 2147483648 then (some (2, x157001, x157002, x157003, 34)) else (if 0 ≤ x1 then (if x1 < (x0.length : Int) then (if (rd x0 x1) = 48 then (if (wrap64 (x157002 - x1)) > 1 then (some (2, x157001, x157002, x157003, 34)) else (some (2, x157001, x157002, x157003, 0))) else (some (2, x157001, x157002, x157003, 0))) else (none)) else (none)))
def gimbalref03_one.l2 : Nat → List Int → Int → Int → Int → Int → Int → Int → Option (Int × Int × Int × Int × Int)
  | 0, _, _, _, _, _, _, _ => none
  | k + 1, x0, x1, x7, x157000, x157001, x157002, x157003 => if x7 ≥ 1 then (if (wrap64 (x1 + x7)) ≤ (x0.length : Int) then (if 0 ≤ x1 then (if x1 ≤ (wrap64 (x1 + x7)) then ((gimbalref03_Kind.f k (strOfNums ((x0.take ((wrap64 (x1 + x7)) : Int).toNat).drop (x1 : Int).toNat))).bind fun t172 => (if t172 > 0 then (some (t172, x157001, wrap64 (x1 + x7), x157003, 0)) else (gimbalref03_one.l2 k x0 x1 (wrap64 (x7 - 1)) x157000 x157001 x157002 x157003))) else (none)) else (none)) else (gimbalref03_one.l2 k x0 x1 (wrap64 (x7 - 1)) x157000 x157001 x157002 x157003)) else (some (x157000, x157001, x157002, x157003, 31))
end
def gimbalref03_one.f (k : Nat) (l0 : List Int) (a1 : Int) : Option (Int × Int × Int × Int × Int) := if 0 ≤ a1 then (if a1 < (l0.length : Int) then ((gimbalref03_letter.f (rd l0 a1)).bind fun t158 => (if t158 = true then (gimbalref03_one.l0 k l0 a1 0 a1 a1 0) else ((gimbalref03_digit.f (rd l0 a1)).bind fun t166 => (if t166 = true then (gimbalref03_one.l1 k l0 a1 0 a1 a1 0) else (gimbalref03_one.l2 k l0 a1 2 0 a1 a1 0))))) else (none)) else (none)
theorem gimbalref03_one.mono_l : ∀ k, (∀ y0 y1 y2 y3 y4 y5, LeO (gimbalref03_one.j1 k y0 y1 y2 y3 y4 y5) (gimbalref03_one.j1 (k + 1) y0 y1 y2 y3 y4 y5)) ∧ (∀ y0 y1 y2 y3 y4 y5, LeO (gimbalref03_one.l0 k y0 y1 y2 y3 y4 y5) (gimbalref03_one.l0 (k + 1) y0 y1 y2 y3 y4 y5)) ∧ (∀ y0 y1 y2 y3 y4 y5, LeO (gimbalref03_one.l1 k y0 y1 y2 y3 y4 y5) (gimbalref03_one.l1 (k + 1) y0 y1 y2 y3 y4 y5)) ∧ (∀ y0 y1 y2 y3 y4 y5 y6, LeO (gimbalref03_one.j3 k y0 y1 y2 y3 y4 y5 y6) (gimbalref03_one.j3 (k + 1) y0 y1 y2 y3 y4 y5 y6)) ∧ (∀ y0 y1 y2 y3 y4 y5 y6, LeO (gimbalref03_one.l2 k y0 y1 y2 y3 y4 y5 y6) (gimbalref03_one.l2 (k + 1) y0 y1 y2 y3 y4 y5 y6))
  | 0 => ⟨fun _ _ _ _ _ _ r h => by simp [gimbalref03_one.j1] at h, fun _ _ _ _ _ _ r h => by simp [gimbalref03_one.l0] at h, fun _ _ _ _ _ _ r h => by simp [gimbalref03_one.l1] at h, fun _ _ _ _ _ _ _ r h => by simp [gimbalref03_one.j3] at h, fun _ _ _ _ _ _ _ r h => by simp [gimbalref03_one.l2] at h⟩
  | k + 1 => by
    obtain ⟨ih0, ih1, ih2, ih3, ih4⟩ := gimbalref03_one.mono_l k
    refine ⟨?_, ?_, ?_, ?_, ?_⟩
    · intro y0 y1 y2 y3 y4 y5
      unfold gimbalref03_one.j1
      repeat' first
      | (with_reducible exact ih0 _ _ _ _ _ _)
      | (with_reducible exact ih1 _ _ _ _ _ _)
      | (with_reducible exact ih2 _ _ _ _ _ _)
      | (with_reducible exact ih3 _ _ _ _ _ _ _)
      | (with_reducible exact ih4 _ _ _ _ _ _ _)
      | (with_reducible exact gimbalref03_Kind.mono _ _)
      | (with_reducible exact LeO.refl _)
      | (with_reducible exact LeO.none _)
      | (with_reducible refine LeO.ite ?_ ?_)
      | (with_reducible refine LeO.bind ?_ (fun _ => ?_))
      | exact ih0 _ _ _ _ _ _
      | exact ih1 _ _ _ _ _ _
      | exact ih2 _ _ _ _ _ _
      | exact ih3 _ _ _ _ _ _ _
      | exact ih4 _ _ _ _ _ _ _
      | exact gimbalref03_Kind.mono _ _
      | exact LeO.none _
      | refine LeO.ite ?_ ?_
      | refine LeO.bind ?_ (fun _ => ?_)
    · intro y0 y1 y2 y3 y4 y5
      unfold gimbalref03_one.l0
      repeat' first
      | (with_reducible exact ih0 _ _ _ _ _ _)
      | (with_reducible exact ih1 _ _ _ _ _ _)
      | (with_reducible exact ih2 _ _ _ _ _ _)
      | (with_reducible exact ih3 _ _ _ _ _ _ _)
      | (with_reducible exact ih4 _ _ _ _ _ _ _)
      | (with_reducible exact gimbalref03_Kind.mono _ _)
      | (with_reducible exact LeO.refl _)
      | (with_reducible exact LeO.none _)
      | (with_reducible refine LeO.ite ?_ ?_)
      | (with_reducible refine LeO.bind ?_ (fun _ => ?_))
      | exact ih0 _ _ _ _ _ _
      | exact ih1 _ _ _ _ _ _
      | exact ih2 _ _ _ _ _ _
      | exact ih3 _ _ _ _ _ _ _
      | exact ih4 _ _ _ _ _ _ _
      | exact gimbalref03_Kind.mono _ _
      | exact LeO.none _
      | refine LeO.ite ?_ ?_
      | refine LeO.bind ?_ (fun _ => ?_)
    · intro y0 y1 y2 y3 y4 y5
      unfold gimbalref03_one.l1
      repeat' first
      | (with_reducible exact ih0 _ _ _ _ _ _)
      | (with_reducible exact ih1 _ _ _ _ _ _)
      | (with_reducible exact ih2 _ _ _ _ _ _)
      | (with_reducible exact ih3 _ _ _ _ _ _ _)
      | (with_reducible exact ih4 _ _ _ _ _ _ _)
      | (with_reducible exact gimbalref03_Kind.mono _ _)
      | (with_reducible exact LeO.refl _)
      | (with_reducible exact LeO.none _)
      | (with_reducible refine LeO.ite ?_ ?_)
      | (with_reducible refine LeO.bind ?_ (fun _ => ?_))
      | exact ih0 _ _ _ _ _ _
      | exact ih1 _ _ _ _ _ _
      | exact ih2 _ _ _ _ _ _
      | exact ih3 _ _ _ _ _ _ _
      | exact ih4 _ _ _ _ _ _ _
      | exact gimbalref03_Kind.mono _ _
      | exact LeO.none _
      | refine LeO.ite ?_ ?_
      | refine LeO.bind ?_ (fun _ => ?_)
    · intro y0 y1 y2 y3 y4 y5 y6
      unfold gimbalref03_one.j3
      repeat' first
      | (with_reducible exact ih0 _ _ _ _ _ _)
      | (with_reducible exact ih1 _ _ _ _ _ _)
      | (with_reducible exact ih2 _ _ _ _ _ _)
      | (with_reducible exact ih3 _ _ _ _ _ _ _)
      | (with_reducible exact ih4 _ _ _ _ _ _ _)
      | (with_reducible exact gimbalref03_Kind.mono _ _)
      | (with_reducible exact LeO.refl _)
      | (with_reducible exact LeO.none _)
      | (with_reducible refine LeO.ite ?_ ?_)
      | (with_reducible refine LeO.bind ?_ (fun _ => ?_))
      | exact ih0 _ _ _ _ _ _
      | exact ih1 _ _ _ _ _ _
      | exact ih2 _ _ _ _ _ _
      | exact ih3 _ _ _ _ _ _ _
      | exact ih4 _ _ _ _ _ _ _
      | exact gimbalref03_Kind.mono _ _
      | exact LeO.none _
      | refine LeO.ite ?_ ?_
      | refine LeO.bind ?_ (fun _ => ?_)
    · intro y0 y1 y2 y3 y4 y5 y6
      unfold gimbalref03_one.l2
      repeat' first
      | (with_reducible exact ih0 _ _ _ _ _ _)
      | (with_reducible exact ih1 _ _ _ _ _ _)
      | (with_reducible exact ih2 _ _ _ _ _ _)
      | (with_reducible exact ih3 _ _ _ _ _ _ _)
      | (with_reducible exact ih4 _ _ _ _ _ _ _)
      | (with_reducible exact gimbalref03_Kind.mono _ _)
      | (with_reducible exact LeO.refl _)
      | (with_reducible exact LeO.none _)
      | (with_reducible refine LeO.ite ?_ ?_)
      | (with_reducible refine LeO.bind ?_ (fun _ => ?_))
      | exact ih0 _ _ _ _ _ _
      | exact ih1 _ _ _ _ _ _
      | exact ih2 _ _ _ _ _ _
      | exact ih3 _ _ _ _ _ _ _
      | exact ih4 _ _ _ _ _ _ _
      | exact gimbalref03_Kind.mono _ _
      | exact LeO.none _
      | refine LeO.ite ?_ ?_
      | refine LeO.bind ?_ (fun _ => ?_)
theorem gimbalref03_one.mono : ∀ a0 a1 k, LeO (gimbalref03_one.f k a0 a1) (gimbalref03_one.f (k + 1) a0 a1) := by
  intro a0 a1 k
  obtain ⟨ih0, ih1, ih2, ih3, ih4⟩ := gimbalref03_one.mono_l k
  unfold gimbalref03_one.f
  repeat' first
      | (with_reducible exact ih0 _ _ _ _ _ _)
      | (with_reducible exact ih1 _ _ _ _ _ _)
      | (with_reducible exact ih2 _ _ _ _ _ _)
      | (with_reducible exact ih3 _ _ _ _ _ _ _)
      | (with_reducible exact ih4 _ _ _ _ _ _ _)
      | (with_reducible exact gimbalref03_Kind.mono _ _)
      | (with_reducible exact LeO.refl _)
      | (with_reducible exact LeO.none _)
      | (with_reducible refine LeO.ite ?_ ?_)
      | (with_reducible refine LeO.bind ?_ (fun _ => ?_))
      | exact ih0 _ _ _ _ _ _
      | exact ih1 _ _ _ _ _ _
      | exact ih2 _ _ _ _ _ _
      | exact ih3 _ _ _ _ _ _ _
      | exact ih4 _ _ _ _ _ _ _
      | exact gimbalref03_Kind.mono _ _
      | exact LeO.none _
      | refine LeO.ite ?_ ?_
      | refine LeO.bind ?_ (fun _ => ?_)
end Go.Proofs.YteaegfkgnmfleaaDoor.Pr

