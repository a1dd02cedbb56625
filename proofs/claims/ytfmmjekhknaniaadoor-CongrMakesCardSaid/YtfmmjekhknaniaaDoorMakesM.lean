/-
  gimballaw31.CongrMakes returns true, whatever the numbers and the congruence, in every world in which the listed tables read as listed: the row, and its card (the tables tied to the program's text). No further condition.
-/
import Derived.Test.YtfmmjekhknaniaaDoorMakesM0
import Derived.Test.YtfmmjekhknaniaaDoorCards
import Derived.Test.YtfmmjekhknaniaaDoorTie
import Derived.WalkKit
import Derived.ProofKit
import Derived.OpenShut
import Derived.Deep.DeepHandedRow
import Derived.Deep.Slices
import Derived.Deep.Strs
import Derived.Carry
import Derived.Lay
import Derived.Lib.SmallJoins
import Derived.Stop.LaidErr
import Derived.Deep.RegionHeld3
import Derived.Outline
import Derived.Lib.LazyBuf
import Derived.Lib.ItoaNum
import Derived.Lib.LaidTab
import Derived.Test.YtfmmjekhknaniaaDoorCore
/- What the small functions of layer 31 answer, in plain words: sizes, rests, the fit congruence of a modulus and a number, gcd. Conditions: the numbers' ranges. -/
namespace Go.Proofs.YtfmmjekhknaniaaDoor.Core
open Go.RowKit Go.Proofs.YtfmmjekhknaniaaDoor.Pr Go.Proofs.YtfmmjekhknaniaaDoorW.PrintWords

theorem w64_id {n : Int} (h : -9223372036854775808 ≤ n) (h' : n ≤ 9223372036854775807) : wrap64 n = n := by unfold wrap64; omega
theorem u64_id {n : Int} (h : 0 ≤ n) (h' : n ≤ 18446744073709551615) : IntKind.u64.wrap n = n := by rw [IntKind.wrap_u64]; omega

/-- a number without its sign. -/
def ab (x : Int) : Int := if x < 0 then -x else x
theorem ab_nonneg (x : Int) : 0 ≤ ab x := by unfold ab; split <;> omega
theorem dvd_ab {g x : Int} : g ∣ ab x ↔ g ∣ x := by unfold ab; split <;> simp
theorem ab_of_nonneg {x : Int} (h : 0 ≤ x) : ab x = x := by unfold ab; rw [if_neg (by omega)]

theorem size_f {x : Int} (h1 : -9223372036854775808 ≤ x) (h2 : x ≤ 9223372036854775807) : congr_size.f x = some (ab x) := by
  unfold congr_size.f ab
  split
  · rw [IntKind.wrap_u64, IntKind.wrap_u64]; congr 1; omega
  · rw [IntKind.wrap_u64]; congr 1; omega

theorem rsize_f {x : Int} (h1 : -9223372036854775808 ≤ x) (h2 : x ≤ 9223372036854775807) : gimbalref31_size.f x = some (ab x) := by
  unfold gimbalref31_size.f ab
  split
  · rw [IntKind.wrap_u64, IntKind.wrap_u64]; unfold wrap64; congr 1; omega
  · rw [IntKind.wrap_u64]; congr 1; omega

theorem emod_unique {x m r : Int} (h0 : 0 ≤ r) (h1 : r < m) (h : m ∣ x - r) : x % m = r := by
  have h2 := (Int.emod_eq_emod_iff_emod_sub_eq_zero (m := x) (n := m) (k := r)).mpr (Int.emod_eq_zero_of_dvd h)
  rw [h2, Int.emod_eq_of_lt h0 h1]

theorem rest_f {x m : Int} (h1 : -9223372036854775808 ≤ x) (h2 : x ≤ 9223372036854775807) (h3 : 0 < m) (h4 : m ≤ 18446744073709551615) : congr_rest.f x m = some (x % m) := by
  unfold congr_rest.f
  rw [size_f h1 h2]
  simp only [Option.bind_some]
  rw [if_neg (by omega), Int.tmod_eq_emod_of_nonneg (ab_nonneg x)]
  have e0 := Int.emod_nonneg (ab x) (show m ≠ 0 by omega)
  have e1 := Int.emod_lt_of_pos (ab x) h3
  have e2 := emod_dvd_sub m (ab x)
  by_cases hx : x < 0
  · have ha : ab x = -x := by unfold ab; rw [if_pos hx]
    rw [if_pos hx]
    by_cases hp : ab x % m > 0
    · rw [if_pos hp, u64_id (by omega) (by omega)]
      congr 1
      refine (emod_unique (by omega) (by omega) ?_).symm
      have := Int.dvd_add (Int.dvd_neg.mpr e2) (Int.dvd_neg.mpr (Int.dvd_refl m))
      rwa [show -(ab x - ab x % m) + -m = x - (m - ab x % m) by omega] at this
    · rw [if_neg hp]
      congr 1
      have hz : ab x % m = 0 := by omega
      rw [hz] at e2 ⊢
      refine (emod_unique (by omega) (by omega) ?_).symm
      have := Int.dvd_neg.mpr e2
      rwa [show -(ab x - 0) = x - 0 by omega] at this
  · rw [if_neg hx, ab_of_nonneg (by omega)]

theorem constant_f (x : Int) : congr_constant.f x = some (norm 0 x) := by
  unfold congr_constant.f congr_none.f norm
  rw [if_pos rfl]
  by_cases h : x < -2147483648
  · rw [if_pos h, if_neg (show ¬ In32 x by unfold In32; omega)]; rfl
  · rw [if_neg h]
    by_cases h' : x > 2147483647
    · rw [if_pos h', if_neg (show ¬ In32 x by unfold In32; omega)]; rfl
    · rw [if_neg h', if_pos (show In32 x by unfold In32; omega)]

theorem of_j0 {m r g : Int} (k : Nat) (h3 : 0 < m) (h4 : m ≤ 18446744073709551615) (h5 : 0 ≤ r) (h6 : r < m) (hg : g = (r + 2147483648) % m) :
    congr_of.j0 (k + 1) m r g = some (norm m r) := by
  have e0 := Int.emod_nonneg (r + 2147483648) (show m ≠ 0 by omega)
  have e1 := Int.emod_lt_of_pos (r + 2147483648) h3
  simp only [congr_of.j0, congr_none.f, norm]
  rw [if_neg (show ¬ m = 0 by omega), ← hg]
  rw [← hg] at e0 e1
  by_cases c1 : g > 4294967295
  · rw [if_pos c1, if_pos (by omega)]; rfl
  · rw [if_neg c1, if_neg (show ¬ (-2147483648 + g > 2147483647) by omega), w64_id (n := g) (by omega) (by omega), w64_id (n := -2147483648 + g) (by omega) (by omega), w64_id (n := 2147483647 - (-2147483648 + g)) (by omega) (by omega), u64_id (by omega) (by omega)]
    by_cases c2 : 2147483647 - (-2147483648 + g) < m
    · rw [if_pos c2, if_pos (by omega)]
    · rw [if_neg c2, if_neg (by omega), w64_id (by omega) (by omega), w64_id (by omega) (by omega), Int.emod_eq_of_lt h5 h6]

theorem of_f {m r : Int} (h3 : 0 < m) (h4 : m ≤ 18446744073709551615) (h5 : 0 ≤ r) (h6 : r < m) (k : Nat) : congr_of.f (k + 1) m r = some (norm m r) := by
  unfold congr_of.f
  rw [rest_f (by omega) (by omega) h3 h4]
  simp only [Option.bind_some]
  have e0 := Int.emod_nonneg (-2147483648) (show m ≠ 0 by omega)
  have e1 := Int.emod_lt_of_pos (-2147483648) h3
  have e2 := emod_dvd_sub m (-2147483648)
  generalize (-2147483648) % m = low at *
  by_cases c : r < low
  · rw [if_pos c, u64_id (n := m - low) (by omega) (by omega), u64_id (n := r + (m - low)) (by omega) (by omega)]
    refine of_j0 k h3 h4 h5 h6 (emod_unique (by omega) (by omega) ?_).symm
    have := Int.dvd_neg.mpr (Int.dvd_add e2 (Int.dvd_refl m))
    rwa [show -(-2147483648 - low + m) = r + 2147483648 - (r + (m - low)) by omega] at this
  · rw [if_neg c, u64_id (by omega) (by omega)]
    refine of_j0 k h3 h4 h5 h6 (emod_unique (by omega) (by omega) ?_).symm
    have := Int.dvd_neg.mpr e2
    rwa [show -(-2147483648 - low) = r + 2147483648 - (r - low) by omega] at this

theorem norm_emod {m r : Int} (h : 0 < m) : norm m (r % m) = norm m r :=
  norm_congr (by omega) (dvd_sub_comm' (emod_dvd_sub m r))

theorem by_f {m r : Int} (h3 : 0 ≤ m) (h4 : m ≤ 18446744073709551615) (h1 : -9223372036854775808 ≤ r) (h2 : r ≤ 9223372036854775807) (k : Nat) : congr_by.f (k + 1) m r = some (norm m r) := by
  unfold congr_by.f
  by_cases c : m = 0
  · rw [if_pos c, constant_f, c]; rfl
  · have h0 : 0 < m := by omega
    rw [if_neg c, rest_f h1 h2 h0 h4]
    simp only [Option.bind_some]
    rw [of_f h0 h4 (Int.emod_nonneg _ c) (Int.emod_lt_of_pos _ h0), norm_emod h0]; rfl

theorem Of_f {m r : Int} (h3 : -9223372036854775808 ≤ m) (h4 : m ≤ 9223372036854775807) (h1 : -9223372036854775808 ≤ r) (h2 : r ≤ 9223372036854775807) (k : Nat) : congr_Of.f (k + 1) m r = some (norm (ab m) r) := by
  unfold congr_Of.f
  by_cases c : m = 0
  · subst c
    rw [if_pos rfl, constant_f]; rfl
  · have h0 : 0 < ab m := by unfold ab; split <;> omega
    have h5 : ab m ≤ 9223372036854775808 := by unfold ab; split <;> omega
    rw [if_neg c, size_f h3 h4]
    simp only [Option.bind_some]
    rw [rest_f h1 h2 h0 (by omega)]
    simp only [Option.bind_some]
    rw [of_f h0 (by omega) (Int.emod_nonneg _ (by omega)) (Int.emod_lt_of_pos _ h0), norm_emod h0]; rfl

end Go.Proofs.YtfmmjekhknaniaaDoor.Core
/- What the reference's class, Of, Fit and Has of layer 31 answer, and gcd. Conditions: the numbers' ranges. -/
namespace Go.Proofs.YtfmmjekhknaniaaDoor.Core
open Go.RowKit Go.Proofs.YtfmmjekhknaniaaDoor.Pr Go.Proofs.YtfmmjekhknaniaaDoorW.PrintWords
set_option linter.unusedSimpArgs false

theorem first_of {g v : Int} (h0 : 0 ≤ v) (h1 : v < g) :
    (v ≤ 2147483647 → g - v ≤ 2147483648 → -2147483648 + (v + 2147483648) % g ≤ v - g) ∧
    (v ≤ 2147483647 → ¬ g - v ≤ 2147483648 → -2147483648 + (v + 2147483648) % g = v) ∧
    (¬ v ≤ 2147483647 → g - v ≤ 2147483648 → -2147483648 + (v + 2147483648) % g = v - g ∨ (-2147483648 + (v + 2147483648) % g ≤ v - g - g)) ∧
    (¬ v ≤ 2147483647 → ¬ g - v ≤ 2147483648 → -2147483648 + (v + 2147483648) % g = v) := by
  have hg : 0 < g := by omega
  have e0 := Int.emod_nonneg (v + 2147483648) (show g ≠ 0 by omega)
  have e1 := Int.emod_lt_of_pos (v + 2147483648) hg
  have hd := first_dvd g v
  have fl : -2147483648 ≤ -2147483648 + (v + 2147483648) % g := by omega
  have fu : -2147483648 + (v + 2147483648) % g < -2147483648 + g := by omega
  generalize -2147483648 + (v + 2147483648) % g = f at *
  have hd' := dvd_sub_comm' hd
  have hm : g ∣ v - g - f := by
    have := Int.dvd_sub hd' (Int.dvd_refl g)
    rwa [show v - f - g = v - g - f by omega] at this
  have key1 : ¬ (g - v ≤ 2147483648) → f = v := fun h => by
    have a := ge_of_dvd hg hd (by omega)
    rcases eq_or_step hg hd a with h' | h' <;> omega
  have key2 : g - v ≤ 2147483648 → f = v - g ∨ f ≤ v - g - g := fun h => by
    have a : f ≤ v - g := ge_of_dvd hg hm (by omega)
    rcases eq_or_step hg hm a with h' | h' <;> omega
  refine ⟨fun _ h => ?_, fun _ h => key1 h, fun _ h => key2 h, fun _ h => key1 h⟩
  rcases key2 h with h' | h' <;> omega

theorem class_j2 {g v : Int} (h0 : 0 ≤ v) (h1 : v < g) (h2 : g ≤ 18446744073709551615) (k : Nat) :
    gimbalref31_class.j2 (k + 7) g v = some (norm g v) := by
  obtain ⟨fa, fb, fc, fd⟩ := first_of h0 h1
  have hr : v % g = v := Int.emod_eq_of_lt h0 h1
  unfold norm
  rw [if_neg (show ¬ g = 0 by omega), hr]
  by_cases c1 : v ≤ 2147483647
  · have w1 : wrap64 v = v := w64_id (by omega) (by omega)
    by_cases c2 : g - v ≤ 2147483648
    · have f1 := fa c1 c2
      have w2 : IntKind.u64.wrap (g - v) = g - v := u64_id (by omega) (by omega)
      have w3 : wrap64 (g - v) = g - v := w64_id (by omega) (by omega)
      have w4 : wrap64 (-(g - v)) = -(g - v) := w64_id (by omega) (by omega)
      have w5 : wrap64 g = g := w64_id (by omega) (by omega)
      rw [if_neg (by omega), if_neg (by omega)]
      simp [gimbalref31_class.j2, gimbalref31_class.j3, gimbalref31_class.j4, gimbalref31_class.j5, gimbalref31_class.j6, gimbalref31_class.j7, gimbalref31_class.j8, c1, c2, w1, w2, w3, w4, w5]
    · have f1 := fb c1 c2
      have w2 : IntKind.u64.wrap (g - v) = g - v := u64_id (by omega) (by omega)
      have w3 : IntKind.u64.wrap v = v := u64_id (by omega) (by omega)
      have w4 : IntKind.u64.wrap (2147483647 - v) = 2147483647 - v := u64_id (by omega) (by omega)
      have n1 : ¬ v < 0 := by omega
      rw [f1, if_neg (by omega)]
      by_cases c3 : g ≤ 2147483647 - v
      · have w5 : wrap64 g = g := w64_id (by omega) (by omega)
        rw [if_neg (by omega)]
        simp [gimbalref31_class.j2, gimbalref31_class.j3, gimbalref31_class.j4, gimbalref31_class.j5, gimbalref31_class.j6, gimbalref31_class.j7, gimbalref31_class.j8, rd, c1, c2, c3, w1, w2, w3, w4, w5, h0]
      · rw [if_pos (by omega)]
        simp [gimbalref31_class.j2, gimbalref31_class.j3, gimbalref31_class.j4, gimbalref31_class.j5, gimbalref31_class.j6, gimbalref31_class.j7, gimbalref31_class.j8, rd, c1, c2, c3, w1, w2, w3, w4, h0, n1]
  · by_cases c2 : g - v ≤ 2147483648
    · have f1 := fc c1 c2
      have w2 : IntKind.u64.wrap (g - v) = g - v := u64_id (by omega) (by omega)
      have w3 : wrap64 (g - v) = g - v := w64_id (by omega) (by omega)
      have w4 : wrap64 (-(g - v)) = -(g - v) := w64_id (by omega) (by omega)
      have w6 : gimbalref31_size.f (-(g - v)) = some (g - v) := by
        rw [rsize_f (by omega) (by omega)]; unfold ab; rw [if_pos (by omega)]; congr 1; omega
      have w7 : IntKind.u64.wrap (2147483648 - (g - v)) = 2147483648 - (g - v) := u64_id (by omega) (by omega)
      have n1 : ¬ 0 ≤ -(g - v) := by omega
      have n2 : -(g - v) < 0 := by omega
      by_cases c3 : g ≤ 2147483648 - (g - v)
      · have hf : -2147483648 + (v + 2147483648) % g ≤ v - g - g := by
          have e1 := Int.emod_lt_of_pos (v + 2147483648) (show 0 < g by omega)
          rcases f1 with f1 | f1 <;> omega
        have w5 : wrap64 g = g := w64_id (by omega) (by omega)
        have w8 : wrap64 v = v := w64_id (by omega) (by omega)
        rw [if_neg (by omega), if_neg (by omega)]
        simp only [gimbalref31_class.j2, gimbalref31_class.j3, gimbalref31_class.j4, gimbalref31_class.j5, gimbalref31_class.j6, gimbalref31_class.j7, gimbalref31_class.j8]
        rw [if_neg c1, w2, if_pos c2, w3, w4]
        simp [rd, n1, n2, w6, w7, c3, w5, w8]
        rw [if_neg (by omega), if_pos h1]
      · have hf : -2147483648 + (v + 2147483648) % g = v - g := by
          have e0 := Int.emod_nonneg (v + 2147483648) (show g ≠ 0 by omega)
          rcases f1 with f1 | f1 <;> omega
        rw [hf, if_neg (by omega), if_pos (by omega)]
        simp only [gimbalref31_class.j2, gimbalref31_class.j3, gimbalref31_class.j4, gimbalref31_class.j5, gimbalref31_class.j6, gimbalref31_class.j7, gimbalref31_class.j8]
        rw [if_neg c1, w2, if_pos c2, w3, w4]
        simp [rd, n1, n2, w6, w7, c3]
        rw [if_neg (by omega), show -(g - v) = v - g by omega]
    · have f1 := fd c1 c2
      have w2 : IntKind.u64.wrap (g - v) = g - v := u64_id (by omega) (by omega)
      rw [f1, if_pos (by omega)]
      simp [gimbalref31_class.j2, gimbalref31_class.j3, gimbalref31_class.j4, gimbalref31_class.j5, gimbalref31_class.j6, gimbalref31_class.j7, gimbalref31_class.j8, gimbalref31_None.f, c1, c2, w2]

theorem class_f {g r : Int} (below : Bool) (h0 : 0 ≤ g) (h1 : g ≤ 18446744073709551615) (h2 : 0 ≤ r) (h3 : r ≤ 18446744073709551615) (k : Nat) :
    gimbalref31_class.f (k + 8) g r below = some (norm g (if below = true then -r else r)) := by
  unfold gimbalref31_class.f
  by_cases c : g = 0
  · subst c
    rw [if_pos rfl]
    have hz : norm 0 (if below = true then -r else r) = if In32 (if below = true then -r else r) then (false, 0, if below = true then -r else r) else (true, 0, 0) := by unfold norm; rw [if_pos rfl]
    rw [hz]
    cases below
    · simp only [Bool.false_eq_true, if_false]
      by_cases d : r ≤ 2147483647
      · rw [if_pos (show In32 r by unfold In32; omega)]
        simp [gimbalref31_class.j0, d, w64_id (n := r) (by omega) (by omega)]
      · rw [if_neg (show ¬ In32 r by unfold In32; omega)]
        simp [gimbalref31_class.j0, gimbalref31_None.f, d]
    · simp only [if_true]
      by_cases d : r ≤ 2147483648
      · rw [if_pos (show In32 (-r) by unfold In32; omega)]
        simp [gimbalref31_class.j0, d, w64_id (n := r) (by omega) (by omega), w64_id (n := -r) (by omega) (by omega)]
      · rw [if_neg (show ¬ In32 (-r) by unfold In32; omega)]
        simp [gimbalref31_class.j0, gimbalref31_None.f, d]
  · rw [if_neg c, Int.tmod_eq_emod_of_nonneg h2]
    have e0 := Int.emod_nonneg r c
    have e1 := Int.emod_lt_of_pos r (show 0 < g by omega)
    cases below
    · simp only [Bool.false_eq_true, if_false]
      simp only [gimbalref31_class.j1, Bool.false_eq_true, if_false]
      rw [class_j2 e0 e1 h1, norm_emod (by omega)]
    · simp only [if_true]
      by_cases d : r % g = 0
      · simp only [gimbalref31_class.j1, d, bne_self_eq_false, Bool.false_eq_true, if_false]
        rw [class_j2 (by omega) (by omega) h1]
        congr 1
        refine norm_congr h0 ?_
        have := Int.dvd_of_emod_eq_zero d
        rwa [show 0 - -r = r by omega]
      · have hb : (r % g != 0) = true := by simp [d]
        simp only [gimbalref31_class.j1, hb, if_true]
        rw [u64_id (by omega) (by omega), class_j2 (by omega) (by omega) h1]
        congr 1
        refine norm_congr h0 ?_
        have := Int.dvd_add (Int.dvd_refl g) (emod_dvd_sub g r)
        rwa [show g + (r - r % g) = g - r % g - -r by omega] at this

theorem ab_sign (r : Int) : (if decide (r < 0) = true then -ab r else ab r) = r := by
  unfold ab
  by_cases h : r < 0
  · simp [h]
  · simp [h]

/-- the class of a number with its sign. -/
theorem class_ab {g r : Int} (h0 : 0 ≤ g) (h1 : g ≤ 18446744073709551615) (h2 : -9223372036854775808 ≤ r) (h3 : r ≤ 9223372036854775807) (k : Nat) :
    gimbalref31_class.f (k + 8) g (ab r) (decide (r < 0)) = some (norm g r) := by
  rw [class_f _ h0 h1 (ab_nonneg r) (by unfold ab; split <;> omega), ab_sign]

theorem rOf_f {m r : Int} (h3 : -9223372036854775808 ≤ m) (h4 : m ≤ 9223372036854775807) (h1 : -9223372036854775808 ≤ r) (h2 : r ≤ 9223372036854775807) (k : Nat) :
    gimbalref31_Of.f (k + 8) m r = some (norm (ab m) r) := by
  unfold gimbalref31_Of.f
  rw [rsize_f h3 h4]
  simp only [Option.bind_some]
  rw [rsize_f h1 h2]
  simp only [Option.bind_some]
  rw [class_ab (ab_nonneg m) (by unfold ab; split <;> omega) h1 h2]; rfl

open Classical in
/-- is it in its one form? -/
noncomputable def fitB (c : Cg) : Bool := decide (Fit c)
open Classical in
noncomputable def memB (c : Cg) (x : Int) : Bool := decide (Mem c x)
theorem fitB_iff {c : Cg} : fitB c = true ↔ Fit c := by unfold fitB; simp
theorem memB_iff {c : Cg} {x : Int} : memB c x = true ↔ Mem c x := by unfold memB; simp

/-- a congruence's parts are int64. -/
def I64 (x : Int) : Prop := -9223372036854775808 ≤ x ∧ x ≤ 9223372036854775807

theorem fit_iff_norm {c : Cg} (hn : c.1 = false) (hm : 0 ≤ c.2.1) : Fit c ↔ norm c.2.1 c.2.2 = c :=
  ⟨fun h => norm_self h hn, fun h => h ▸ fit_norm hm⟩

theorem beq_bool {a b : Bool} (h : a = true ↔ b = true) : a = b := by cases a <;> cases b <;> simp_all

theorem eq3 (c d : Cg) : (c.1 == d.1 && (c.2.1 == d.2.1 && (c.2.2 == d.2.2))) = true ↔ c = d := by
  obtain ⟨c1, c2, c3⟩ := c
  obtain ⟨d1, d2, d3⟩ := d
  simp

theorem rFit_f (c : Cg) (h1 : I64 c.2.1) (h2 : I64 c.2.2) (k : Nat) : gimbalref31_Fit.f (k + 8) c.1 c.2.1 c.2.2 = some (fitB c) := by
  unfold I64 at h1 h2
  unfold gimbalref31_Fit.f
  by_cases hn : c.1 = true
  · rw [if_pos hn]
    by_cases hm : c.2.1 = 0
    · rw [if_pos hm]
      congr 1
      refine beq_bool ?_
      rw [fitB_iff, beq_iff_eq]
      constructor
      · intro h
        have : c = (true, 0, 0) := by obtain ⟨a, b, d⟩ := c; simp only at *; subst hn hm h; rfl
        rw [this]; exact fit_none
      · intro h
        rw [fit_of_none h hn]
    · rw [if_neg hm]
      congr 1
      refine beq_bool ?_
      rw [fitB_iff]
      simp only [Bool.false_eq_true, false_iff]
      intro h
      rw [fit_of_none h hn] at hm
      exact hm rfl
  · have hn' : c.1 = false := by simpa using hn
    rw [if_neg hn]
    by_cases hm : c.2.1 ≥ 0
    · rw [if_pos hm, rOf_f h1.1 h1.2 h2.1 h2.2]
      simp only [Option.bind_some]
      congr 1
      refine beq_bool ?_
      rw [fitB_iff, fit_iff_norm hn' hm, ab_of_nonneg hm, eq3]
      exact ⟨fun h => h.symm, fun h => h.symm⟩
    · rw [if_neg hm]
      congr 1
      refine beq_bool ?_
      rw [fitB_iff]
      simp only [Bool.false_eq_true, false_iff]
      intro h
      have := fit_mod h
      omega

theorem Fit_f (c : Cg) (h1 : I64 c.2.1) (h2 : I64 c.2.2) (k : Nat) : congr_Fit.f (k + 8) c.1 c.2.1 c.2.2 = some (fitB c) := by
  unfold I64 at h1 h2
  unfold congr_Fit.f
  by_cases hn : c.1 = true
  · rw [if_pos hn]
    simp only [congr_none.f, Option.bind_some]
    congr 1
    refine beq_bool ?_
    rw [fitB_iff, eq3 c (true, 0, 0)]
    exact ⟨fun h => h ▸ fit_none, fun h => fit_of_none h hn⟩
  · have hn' : c.1 = false := by simpa using hn
    rw [if_neg hn]
    by_cases hm : c.2.1 ≥ 0
    · rw [if_pos hm, Of_f h1.1 h1.2 h2.1 h2.2]
      simp only [Option.bind_some]
      congr 1
      refine beq_bool ?_
      rw [fitB_iff, fit_iff_norm hn' hm, ab_of_nonneg hm, eq3]
    · rw [if_neg hm]
      congr 1
      refine beq_bool ?_
      rw [fitB_iff]
      simp only [Bool.false_eq_true, false_iff]
      intro h
      have := fit_mod h
      omega

theorem emod_zero_iff {m x : Int} : x % m = 0 ↔ m ∣ x := ⟨Int.dvd_of_emod_eq_zero, Int.emod_eq_zero_of_dvd⟩
theorem tmod_zero_iff {m x : Int} : Int.tmod x m = 0 ↔ m ∣ x := ⟨Int.dvd_of_tmod_eq_zero, Int.tmod_eq_zero_of_dvd⟩

theorem Has_f {c : Cg} (h : Fit c) {x : Int} (hx : I64 x) (k : Nat) : congr_Has.f (k + 8) c.1 c.2.1 c.2.2 x = some (memB c x) := by
  have hr := fit_rem h
  unfold I64 at hx
  have no : ¬ Mem c x → memB c x = false := fun hn => by
    cases hb : memB c x
    · rfl
    · exact absurd (memB_iff.mp hb) hn
  unfold congr_Has.f
  by_cases hn : c.1 = true
  · rw [if_pos hn, no (fun hm => by rw [hm.1] at hn; cases hn)]
    simp [congr_Has.j0]
  · have hn' : c.1 = false := by simpa using hn
    rw [if_neg hn]
    by_cases h1 : x < -2147483648
    · rw [if_pos h1, no (fun hm => by have := hm.2.1; unfold In32 at this; omega)]
      simp [congr_Has.j0]
    · rw [if_neg h1]
      by_cases h2 : x > 2147483647
      · rw [no (fun hm => by have := hm.2.1; unfold In32 at this; omega)]
        simp [congr_Has.j0, h2]
      · have hd : decide (x > 2147483647) = false := by simpa using h2
        rw [hd]
        simp only [congr_Has.j0, Bool.false_eq_true, if_false]
        by_cases h0 : c.2.1 = 0
        · rw [if_pos h0]
          congr 1
          refine beq_bool ?_
          rw [memB_iff, beq_iff_eq]
          unfold Mem
          rw [h0, Int.zero_dvd]
          exact ⟨fun e => ⟨hn', by unfold In32; omega, by omega⟩, fun e => by omega⟩
        · rw [if_neg h0, u64_id (n := c.2.1) (by omega) (by omega), rest_f hx.1 hx.2 (by omega) (by omega)]
          simp only [Option.bind_some]
          rw [u64_id (by omega) (by omega)]
          congr 1
          refine beq_bool ?_
          rw [memB_iff, beq_iff_eq]
          unfold Mem
          constructor
          · intro e
            refine ⟨hn', by unfold In32; omega, ?_⟩
            have := emod_dvd_sub c.2.1 x
            rwa [e] at this
          · rintro ⟨_, _, hd⟩
            exact emod_unique (by omega) (by omega) hd

theorem rHas_f {c : Cg} (h : Fit c) {x : Int} (hx : I64 x) (k : Nat) : gimbalref31_Has.f (k + 8) c.1 c.2.1 c.2.2 x = some (memB c x) := by
  have hr := fit_rem h
  unfold I64 at hx
  have no : ¬ Mem c x → memB c x = false := fun hn => by
    cases hb : memB c x
    · rfl
    · exact absurd (memB_iff.mp hb) hn
  unfold gimbalref31_Has.f
  by_cases hn : c.1 = true
  · rw [if_pos hn, no (fun hm => by rw [hm.1] at hn; cases hn)]
    simp [gimbalref31_Has.j0]
  · have hn' : c.1 = false := by simpa using hn
    rw [if_neg hn]
    by_cases h1 : x < -2147483648
    · rw [if_pos h1, no (fun hm => by have := hm.2.1; unfold In32 at this; omega)]
      simp [gimbalref31_Has.j0]
    · rw [if_neg h1]
      by_cases h2 : x > 2147483647
      · rw [no (fun hm => by have := hm.2.1; unfold In32 at this; omega)]
        simp [gimbalref31_Has.j0, h2]
      · have hd : decide (x > 2147483647) = false := by simpa using h2
        rw [hd]
        simp only [gimbalref31_Has.j0, Bool.false_eq_true, if_false]
        by_cases h0 : c.2.1 = 0
        · rw [if_pos h0]
          congr 1
          refine beq_bool ?_
          rw [memB_iff, beq_iff_eq]
          unfold Mem
          rw [h0, Int.zero_dvd]
          exact ⟨fun e => ⟨hn', by unfold In32; omega, by omega⟩, fun e => by omega⟩
        · rw [if_neg h0, w64_id (by omega) (by omega)]
          congr 1
          refine beq_bool ?_
          rw [memB_iff, beq_iff_eq, tmod_zero_iff]
          unfold Mem
          exact ⟨fun e => ⟨hn', by unfold In32; omega, e⟩, fun e => e.2.2⟩

/-- the gcd, as a number. -/
def G (a b : Int) : Int := (Int.gcd a b : Int)
theorem G_nonneg (a b : Int) : 0 ≤ G a b := Int.natCast_nonneg _
theorem dvd_G {d a b : Int} : d ∣ G a b ↔ d ∣ a ∧ d ∣ b := by unfold G; exact Int.dvd_coe_gcd_iff
theorem G_dvd_l (a b : Int) : G a b ∣ a := Int.gcd_dvd_left ..
theorem G_dvd_r (a b : Int) : G a b ∣ b := Int.gcd_dvd_right ..
theorem G_le {a b m : Int} (ha : 0 ≤ a) (hb : 0 ≤ b) (hm : a ≤ m) (hm' : b ≤ m) : G a b ≤ m := by
  by_cases h : a = 0
  · by_cases h' : b = 0
    · subst h h'; simp [G]; omega
    · exact Int.le_trans (Int.le_of_dvd (by omega) (G_dvd_r a b)) hm'
  · exact Int.le_trans (Int.le_of_dvd (by omega) (G_dvd_l a b)) hm
theorem G_zero (a : Int) (h : 0 ≤ a) : G a 0 = a := by unfold G; rw [Int.gcd_zero]; omega
theorem G_step (a b : Int) : G b (a % b) = G a b := by
  refine Int.dvd_antisymm (G_nonneg _ _) (G_nonneg _ _) ?_ ?_
  · rw [dvd_G]
    have h := G_dvd_r b (a % b)
    have h' := G_dvd_l b (a % b)
    refine ⟨?_, h'⟩
    have := Int.dvd_add (Int.dvd_trans h' (emod_dvd_sub b a)) h
    rwa [show a - a % b + a % b = a by omega] at this
  · rw [dvd_G]
    have h := G_dvd_l a b
    have h' := G_dvd_r a b
    refine ⟨h', ?_⟩
    have := Int.dvd_sub h (Int.dvd_trans h' (emod_dvd_sub b a))
    rwa [show a - (a - a % b) = a % b by omega] at this

theorem gcd_l0 : ∀ (n : Nat) (a b : Int), 0 ≤ a → 0 ≤ b → b ≤ n → ∀ k, congr_gcd_uint64.l0 (k + n + 1) a b = some (G a b)
  | 0, a, b, ha, hb, hn, k => by
    obtain rfl : b = 0 := by omega
    simp only [Nat.add_zero, congr_gcd_uint64.l0, if_true]
    rw [G_zero a ha]
  | n + 1, a, b, ha, hb, hn, k => by
    by_cases h : b = 0
    · subst h
      rw [show k + (n + 1) + 1 = (k + n + 1) + 1 by omega]
      simp only [congr_gcd_uint64.l0, if_true]
      rw [G_zero a ha]
    · rw [show k + (n + 1) + 1 = (k + n + 1) + 1 by omega]
      have e0 : congr_gcd_uint64.l0 (k + n + 1 + 1) a b = if b = 0 then some a else congr_gcd_uint64.l0 (k + n + 1) b (Int.tmod a b) := rfl
      rw [e0]
      have e1 := Int.emod_lt_of_pos a (show 0 < b by omega)
      rw [if_neg h, Int.tmod_eq_emod_of_nonneg ha, gcd_l0 n b (a % b) hb (Int.emod_nonneg a h) (by omega) k, G_step]

theorem rgcd_l0 : ∀ (n : Nat) (a b : Int), 0 ≤ a → 0 ≤ b → b ≤ n → ∀ k, gimbalref31_gcd.l0 (k + n + 1) a b = some (G a b)
  | 0, a, b, ha, hb, hn, k => by
    obtain rfl : b = 0 := by omega
    simp only [Nat.add_zero, gimbalref31_gcd.l0, if_true]
    rw [G_zero a ha]
  | n + 1, a, b, ha, hb, hn, k => by
    by_cases h : b = 0
    · subst h
      rw [show k + (n + 1) + 1 = (k + n + 1) + 1 by omega]
      simp only [gimbalref31_gcd.l0, if_true]
      rw [G_zero a ha]
    · rw [show k + (n + 1) + 1 = (k + n + 1) + 1 by omega]
      have e0 : gimbalref31_gcd.l0 (k + n + 1 + 1) a b = if b = 0 then some a else gimbalref31_gcd.l0 (k + n + 1) b (Int.tmod a b) := rfl
      rw [e0]
      have e1 := Int.emod_lt_of_pos a (show 0 < b by omega)
      rw [if_neg h, Int.tmod_eq_emod_of_nonneg ha, rgcd_l0 n b (a % b) hb (Int.emod_nonneg a h) (by omega) k, G_step]

theorem gcd_f {a b : Int} (ha : 0 ≤ a) (hb : 0 ≤ b) : Ev (fun k => congr_gcd_uint64.f k a b) (G a b) :=
  ⟨b.toNat + 1, fun k hk => by
    obtain ⟨j, rfl⟩ : ∃ j, k = j + b.toNat + 1 := ⟨k - b.toNat - 1, by omega⟩
    exact gcd_l0 b.toNat a b ha hb (by omega) j⟩
theorem rgcd_f {a b : Int} (ha : 0 ≤ a) (hb : 0 ≤ b) : Ev (fun k => gimbalref31_gcd.f k a b) (G a b) :=
  ⟨b.toNat + 1, fun k hk => by
    obtain ⟨j, rfl⟩ : ∃ j, k = j + b.toNat + 1 := ⟨k - b.toNat - 1, by omega⟩
    exact rgcd_l0 b.toNat a b ha hb (by omega) j⟩

end Go.Proofs.YtfmmjekhknaniaaDoor.Core
/- The rows of layer 31: what they share. -/
namespace Go.Proofs.YtfmmjekhknaniaaDoor.Core
open Go.ChangeShapes Go.WideShapes Go.ChangeAt Go.RowKit Go.Deep Pr Go.Proofs.YtfmmjekhknaniaaDoorW.PrintWords
set_option maxRecDepth 100000
instance : Inhabited S23 := ⟨z23⟩

theorem own : ownKnob Tryd.prog.godebug = none := by kernel_rfl
theorem laidOut : laidOutB Tryd.prog = true := by kernel_rfl
theorem cells23 : Tryd.prog.cellsOf 23 = 3 := by kernel_rfl
theorem cells4 : Tryd.prog.cellsOf 4 = 1 := by kernel_rfl
theorem cells2 : Tryd.prog.cellsOf 2 = 1 := by kernel_rfl
theorem read23 : Tryd.prog.readableRec 23 = true := by kernel_rfl
theorem size23 : 23 < Tryd.prog.types.size := of_decide_eq_true (by kernel_rfl)
theorem i64_of {n : Int} (wi : (Lit.int .i64 n).wf = true) : I64 n := by
  simp only [Lit.wf, Bool.and_eq_true, decide_eq_true_eq] at wi
  have hmin : IntKind.i64.min = -9223372036854775808 := by decide +kernel
  have hmax : IntKind.i64.max = 9223372036854775807 := by decide +kernel
  unfold I64
  omega


theorem one23 : oneCellFields Tryd.prog #[⟨"None", 4, 0, false, "", "", 0⟩, ⟨"Mod", 2, 1, false, "", "", 8⟩, ⟨"Rem", 2, 2, false, "", "", 16⟩] = true := by kernel_rfl
/-- A congruence handed over by value, opened. -/
theorem open_cg {H : Type} {enc : TypeId × Value → H} {W : World} {base : Nat} {v : Value} {d : DataW H} {p : List MemPlace}
    (hval : Value.okWide Tryd.prog W .any base 23 v) (h : DataW.Trod enc Tryd.prog W 0 (fun _ => true) true 23 v d p) :
    ∃ c : Cg, v = .agg #[.bool c.1, .int .i64 c.2.1, .int .i64 c.2.2] ∧ I64 c.2.1 ∧ I64 c.2.2 := by
  obtain ⟨v0, v1, v2, y0, y1, y2, n, rfl, _, _, h0, h1, h2⟩ := Go.Joins.open_agg3 Tryd.underlying23 one23 cells23 hval h
  obtain ⟨b, hb, _⟩ := DataW.trod_bool Tryd.underlying4 h0
  obtain ⟨m1, hm1, _, w1⟩ := DataW.trod_int Tryd.underlying2 h1
  obtain ⟨m2, hm2, _, w2⟩ := DataW.trod_int Tryd.underlying2 h2
  simp only [List.cons.injEq, and_true] at hb hm1 hm2
  exact ⟨(b, m1, m2), by rw [hb, hm1, hm2], i64_of w1, i64_of w2⟩
end Go.Proofs.YtfmmjekhknaniaaDoor.Core
/- congr.Text and the reference's Text of layer 31, by their walks, given what the numbers' texts are. -/
namespace Go.Proofs.YtfmmjekhknaniaaDoor.Tx
open Go.RowKit
attribute [local go_sem high] Go.Proofs.YtfmmjekhknaniaaDoor.Pr.eqA23

theorem bcell {W w1 : World} (hb : Below W.heap.size W w1) : (∀ b o, b < W.heap.size → w1.cell? ⟨b, o, none⟩ = W.cell? ⟨b, o, none⟩) ∧ (∀ b o, b < W.heap.size → w1.frozen? ⟨b, o, none⟩ = W.frozen? ⟨b, o, none⟩) :=
  ⟨fun b o h => hb.cell (p := ⟨b, o, none⟩) h, fun b o h => hb.frozen (p := ⟨b, o, none⟩) h⟩

/-- What a region holds on to: the caller's memory, and one boxed congruence. -/
def Box1 (n : Nat) (w : World) (c0 c1 c2 : Value) (W : World) : Prop :=
  Below n w W ∧ n + 1 ≤ W.heap.size ∧ W.cell? ⟨n, 0, none⟩ = some c0 ∧ W.cell? ⟨n, 1, none⟩ = some c1 ∧ W.cell? ⟨n, 2, none⟩ = some c2

theorem keep1 {w W w' : World} {n : Nat} {c0 c1 c2 : Value} (hb : Below W.heap.size W w')
    (h : Below n w W ∧ n + 1 ≤ W.heap.size ∧ W.cell? ⟨n, 0, none⟩ = some c0 ∧ W.cell? ⟨n, 1, none⟩ = some c1 ∧ W.cell? ⟨n, 2, none⟩ = some c2) :
    Below n w w' ∧ n + 1 ≤ w'.heap.size ∧ w'.cell? ⟨n, 0, none⟩ = some c0 ∧ w'.cell? ⟨n, 1, none⟩ = some c1 ∧ w'.cell? ⟨n, 2, none⟩ = some c2 := by
  obtain ⟨h0, hs, h1, h2, h3⟩ := h
  obtain ⟨hc, _⟩ := bcell hb
  refine ⟨h0.trans (hb.mono (by omega)), by have := hb.size; omega, ?_, ?_, ?_⟩
  · rw [hc _ _ (by omega), h1]
  · rw [hc _ _ (by omega), h2]
  · rw [hc _ _ (by omega), h3]
theorem start1 (w : World) (c0 c1 c2 : Value) (W : World) (hW : W = (w.alloc (.cells #[c0, c1, c2] 23)).drew) :
    Below w.heap.size w W ∧ w.heap.size + 1 ≤ W.heap.size ∧ W.cell? ⟨w.heap.size, 0, none⟩ = some c0 ∧ W.cell? ⟨w.heap.size, 1, none⟩ = some c1 ∧ W.cell? ⟨w.heap.size, 2, none⟩ = some c2 := by
  subst hW
  refine ⟨below_drewN ((Below.refl _ _).alloc (Nat.le_refl _) _) 1, by go_simp, ?_⟩
  go_simp
theorem tab1 {T : World → Prop} (hT : ∀ {w W : World}, T w → Below w.heap.size w W → T W) {w W : World} {c0 c1 c2 : Value} (h : Below w.heap.size w W ∧ w.heap.size + 1 ≤ W.heap.size ∧ W.cell? ⟨w.heap.size, 0, none⟩ = some c0 ∧ W.cell? ⟨w.heap.size, 1, none⟩ = some c1 ∧ W.cell? ⟨w.heap.size, 2, none⟩ = some c2)
    (k : T w) : T W := hT k h.1

set_option maxRecDepth 100000 in
set_option maxHeartbeats 4000000 in
theorem rtext_mod (m r : Int) (sr sm : ByteArray) (hm0 : m ≠ 0) (hm1 : m ≠ 1) (h1 : sr.size ≤ 100) (h2 : sm.size ≤ 100)
    (hr : ∀ w, Calls Tryd.prog 59 #[.int .i64 r] w fun e w' => e = .returned (.string sr) ∧ Below w.heap.size w w')
    (hm : ∀ w, Calls Tryd.prog 59 #[.int .i64 m] w fun e w' => e = .returned (.string sm) ∧ Below w.heap.size w w') (w : World) :
    Calls Tryd.prog 17 #[.agg #[.bool false, .int .i64 m, .int .i64 r]] w fun e w' => e = .returned (.string (sr ++ ⟨#[32, 109, 111, 100, 32]⟩ ++ sm)) ∧ Below w.heap.size w w' := by
  have Hr := Lib.hid hr
  have Hm := Lib.hid hm
  clear hr hm
  have g1 : ¬ sr.size + 5 > 9223372036854775807 := by omega
  have g2 : ¬ (sr.size + 5) + sm.size > 9223372036854775807 := by omega
  go_enter Tryd.func17, Tryd.ntmps17
  go_wp2_with fail
  go_region_held3 (fun w' => Below w.heap.size w w' ∧ w.heap.size + 1 ≤ w'.heap.size ∧ w'.cell? ⟨w.heap.size, 0, none⟩ = some (.bool false) ∧ w'.cell? ⟨w.heap.size, 1, none⟩ = some (.int .i64 m) ∧ w'.cell? ⟨w.heap.size, 2, none⟩ = some (.int .i64 r))
    (first | exact start1 _ _ _ _ _ rfl | exact keep1 (by assumption) (by assumption))
    (first | (go_at_call 59; with_reducible refine (Hr.out _).mono ?_; rintro e w1 ⟨rfl, hb⟩) | (go_at_call 59; with_reducible refine (Hm.out _).mono ?_; rintro e w2 ⟨rfl, hb⟩))
  go_wp2
  go_ret
  exact ⟨rfl, (by assumption : Below w.heap.size w w2 ∧ w.heap.size + 1 ≤ w2.heap.size ∧ _).1⟩

set_option maxRecDepth 100000 in
set_option maxHeartbeats 4000000 in
theorem text_mod (T : World → Prop) (hT : ∀ w W : World, T w → Below w.heap.size w W → T W) (m r : Int) (sr sm : ByteArray) (hm0 : m ≠ 0) (hm1 : m ≠ 1) (h1 : sr.size ≤ 100) (h2 : sm.size ≤ 100)
    (hr : ∀ w, T w → Calls Tryd.prog 58 #[.int .i64 r, .int .i64 10] w fun e w' => e = .returned (.string sr) ∧ Below w.heap.size w w')
    (hm : ∀ w, T w → Calls Tryd.prog 58 #[.int .i64 m, .int .i64 10] w fun e w' => e = .returned (.string sm) ∧ Below w.heap.size w w') (w : World) (hw : T w) :
    Calls Tryd.prog 16 #[.agg #[.bool false, .int .i64 m, .int .i64 r]] w fun e w' => e = .returned (.string (sr ++ ⟨#[32, 109, 111, 100, 32]⟩ ++ sm)) ∧ Below w.heap.size w w' := by
  have Hr := Lib.hid hr
  have Hm := Lib.hid hm
  have HT := Lib.hid hT
  clear hr hm hT
  have g1 : ¬ sr.size + 5 > 9223372036854775807 := by omega
  have g2 : ¬ (sr.size + 5) + sm.size > 9223372036854775807 := by omega
  go_enter Tryd.func16, Tryd.ntmps16
  go_wp2_with fail
  go_region_held3 (fun w' => Below w.heap.size w w' ∧ w.heap.size + 1 ≤ w'.heap.size ∧ w'.cell? ⟨w.heap.size, 0, none⟩ = some (.bool false) ∧ w'.cell? ⟨w.heap.size, 1, none⟩ = some (.int .i64 m) ∧ w'.cell? ⟨w.heap.size, 2, none⟩ = some (.int .i64 r))
    (first | exact start1 _ _ _ _ _ rfl | exact keep1 (by assumption) (by assumption))
    (first | (go_at_call 58; with_reducible refine (Hr.out _ (HT.out _ _ hw (by first | exact (start1 _ _ _ _ _ rfl).1 | exact And.left (by assumption)))).mono ?_; rintro e w1 ⟨rfl, hb⟩) | (go_at_call 58; with_reducible refine (Hm.out _ (HT.out _ _ hw (And.left (by assumption)))).mono ?_; rintro e w2 ⟨rfl, hb⟩))
  go_wp2
  go_ret
  exact ⟨rfl, (by assumption : Below w.heap.size w w2 ∧ w.heap.size + 1 ≤ w2.heap.size ∧ _).1⟩
end Go.Proofs.YtfmmjekhknaniaaDoor.Tx
/- The law CongrMakes by its walk, given what its callees answer. -/
namespace Go.Proofs.YtfmmjekhknaniaaDoor.Tx
open Go.RowKit
set_option linter.unusedSimpArgs false
attribute [local go_sem high] Go.Proofs.YtfmmjekhknaniaaDoor.Pr.eqA23

theorem start1b (w : World) (c0 c1 c2 : Value) (W : World) (hb : Below w.heap.size w W ∧ w.heap.size + 1 ≤ W.heap.size ∧ W.cell? ⟨w.heap.size, 0, none⟩ = some c0 ∧ W.cell? ⟨w.heap.size, 1, none⟩ = some c1 ∧ W.cell? ⟨w.heap.size, 2, none⟩ = some c2) :
    Below w.heap.size w W.drew ∧ w.heap.size + 1 ≤ W.drew.heap.size ∧ W.drew.cell? ⟨w.heap.size, 0, none⟩ = some c0 ∧ W.drew.cell? ⟨w.heap.size, 1, none⟩ = some c1 ∧ W.drew.cell? ⟨w.heap.size, 2, none⟩ = some c2 :=
  ⟨hb.1.drew, hb.2.1, hb.2.2.1, hb.2.2.2.1, hb.2.2.2.2⟩

set_option maxRecDepth 100000 in
set_option maxHeartbeats 4000000 in
theorem makes_fit (T : World → Prop) (hT : ∀ w W : World, T w → Below w.heap.size w W → T W) (m r x o1 o2 c1 c2 : Int) (o0 c0 h : Bool) (s : ByteArray)
    (hOf : ∀ w, Calls Tryd.prog 10 #[.int .i64 m, .int .i64 r] w fun e w' => e = .returned (.agg #[.bool o0, .int .i64 o1, .int .i64 o2]) ∧ Below w.heap.size w w')
    (hROf : ∀ w, Calls Tryd.prog 11 #[.int .i64 m, .int .i64 r] w fun e w' => e = .returned (.agg #[.bool o0, .int .i64 o1, .int .i64 o2]) ∧ Below w.heap.size w w')
    (hFit : ∀ w, Calls Tryd.prog 12 #[.agg #[.bool c0, .int .i64 c1, .int .i64 c2]] w fun e w' => e = .returned (.bool true) ∧ Below w.heap.size w w')
    (hRFit : ∀ w, Calls Tryd.prog 13 #[.agg #[.bool c0, .int .i64 c1, .int .i64 c2]] w fun e w' => e = .returned (.bool true) ∧ Below w.heap.size w w')
    (hRFitO : ∀ w, Calls Tryd.prog 13 #[.agg #[.bool o0, .int .i64 o1, .int .i64 o2]] w fun e w' => e = .returned (.bool true) ∧ Below w.heap.size w w')
    (hHas : ∀ w, Calls Tryd.prog 14 #[.agg #[.bool c0, .int .i64 c1, .int .i64 c2], .int .i64 x] w fun e w' => e = .returned (.bool h) ∧ Below w.heap.size w w')
    (hRHas : ∀ w, Calls Tryd.prog 15 #[.agg #[.bool c0, .int .i64 c1, .int .i64 c2], .int .i64 x] w fun e w' => e = .returned (.bool h) ∧ Below w.heap.size w w')
    (hText : ∀ w, T w → Calls Tryd.prog 16 #[.agg #[.bool c0, .int .i64 c1, .int .i64 c2]] w fun e w' => e = .returned (.string s) ∧ Below w.heap.size w w')
    (hRText : ∀ w, Calls Tryd.prog 17 #[.agg #[.bool c0, .int .i64 c1, .int .i64 c2]] w fun e w' => e = .returned (.string s) ∧ Below w.heap.size w w')
    (hAw : ∀ w, Calls Tryd.prog 18 #[] w fun e w' => e = .returned (.bool true) ∧ Below w.heap.size w w') (w : World) (hw : T w) :
    Calls Tryd.prog 3 #[.int .i64 m, .int .i64 r, .agg #[.bool c0, .int .i64 c1, .int .i64 c2], .int .i64 x] w fun e w' => e = .returned (.bool true) ∧ Below w.heap.size w w' := by
  have HOf := Lib.hid hOf
  have HROf := Lib.hid hROf
  have HFit := Lib.hid hFit
  have HRFit := Lib.hid hRFit
  have HRFitO := Lib.hid hRFitO
  have HHas := Lib.hid hHas
  have HRHas := Lib.hid hRHas
  have HText := Lib.hid hText
  have HRText := Lib.hid hRText
  have HAw := Lib.hid hAw
  have HT := Lib.hid hT
  clear hOf hROf hFit hRFit hRFitO hHas hRHas hText hRText hAw hT
  go_enter Tryd.func3, Tryd.ntmps3
  go_wp2_with fail
  go_region_held3 (fun w' => Below w.heap.size w w' ∧ w.heap.size + 1 ≤ w'.heap.size ∧ w'.cell? ⟨w.heap.size, 0, none⟩ = some (.bool c0) ∧ w'.cell? ⟨w.heap.size, 1, none⟩ = some (.int .i64 c1) ∧ w'.cell? ⟨w.heap.size, 2, none⟩ = some (.int .i64 c2))
    (first | exact start1 _ _ _ _ _ rfl | exact keep1 (by assumption) (by assumption))
    (first | (go_at_call 10; with_reducible refine (HOf.out _).mono ?_; rintro e w1 ⟨rfl, hb⟩) | (go_at_call 11; with_reducible refine (HROf.out _).mono ?_; rintro e w1 ⟨rfl, hb⟩) | (go_at_call 12; with_reducible refine (HFit.out _).mono ?_; rintro e w1 ⟨rfl, hb⟩) | (go_at_call 13; with_reducible refine (HRFit.out _).mono ?_; rintro e w1 ⟨rfl, hb⟩) | (go_at_call 13; with_reducible refine (HRFitO.out _).mono ?_; rintro e w1 ⟨rfl, hb⟩))
  rename_i hS
  go_wp2_with fail
  cases h
  all_goals (
   go_region_held3 (fun w' => Below w.heap.size w w' ∧ w.heap.size + 1 ≤ w'.heap.size ∧ w'.cell? ⟨w.heap.size, 0, none⟩ = some (.bool c0) ∧ w'.cell? ⟨w.heap.size, 1, none⟩ = some (.int .i64 c1) ∧ w'.cell? ⟨w.heap.size, 2, none⟩ = some (.int .i64 c2))
     (first | exact start1b _ _ _ _ _ hS | exact keep1 (by assumption) (by assumption))
     (first | (go_at_call 13; with_reducible refine (HRFit.out _).mono ?_; rintro e w1 ⟨rfl, hb⟩) | (go_at_call 14; with_reducible refine (HHas.out _).mono ?_; rintro e w1 ⟨rfl, hb⟩) | (go_at_call 15; with_reducible refine (HRHas.out _).mono ?_; rintro e w1 ⟨rfl, hb⟩) | (go_at_call 16; with_reducible refine (HText.out _ (HT.out _ _ hw (And.left (by assumption)))).mono ?_; rintro e w1 ⟨rfl, hb⟩) | (go_at_call 17; with_reducible refine (HRText.out _).mono ?_; rintro e w1 ⟨rfl, hb⟩) | (go_at_call 18; with_reducible refine (HAw.out _).mono ?_; rintro e w1 ⟨rfl, hb⟩))
   rename_i hS2
   go_wp2
   go_ret
   exact ⟨rfl, hS2.1⟩)

set_option maxRecDepth 100000 in
set_option maxHeartbeats 4000000 in
theorem makes_unfit (m r x o1 o2 c1 c2 : Int) (o0 c0 : Bool)
    (hOf : ∀ w, Calls Tryd.prog 10 #[.int .i64 m, .int .i64 r] w fun e w' => e = .returned (.agg #[.bool o0, .int .i64 o1, .int .i64 o2]) ∧ Below w.heap.size w w')
    (hROf : ∀ w, Calls Tryd.prog 11 #[.int .i64 m, .int .i64 r] w fun e w' => e = .returned (.agg #[.bool o0, .int .i64 o1, .int .i64 o2]) ∧ Below w.heap.size w w')
    (hFit : ∀ w, Calls Tryd.prog 12 #[.agg #[.bool c0, .int .i64 c1, .int .i64 c2]] w fun e w' => e = .returned (.bool false) ∧ Below w.heap.size w w')
    (hRFit : ∀ w, Calls Tryd.prog 13 #[.agg #[.bool c0, .int .i64 c1, .int .i64 c2]] w fun e w' => e = .returned (.bool false) ∧ Below w.heap.size w w')
    (hRFitO : ∀ w, Calls Tryd.prog 13 #[.agg #[.bool o0, .int .i64 o1, .int .i64 o2]] w fun e w' => e = .returned (.bool true) ∧ Below w.heap.size w w')
    (hAw : ∀ w, Calls Tryd.prog 18 #[] w fun e w' => e = .returned (.bool true) ∧ Below w.heap.size w w') (w : World) :
    Calls Tryd.prog 3 #[.int .i64 m, .int .i64 r, .agg #[.bool c0, .int .i64 c1, .int .i64 c2], .int .i64 x] w fun e w' => e = .returned (.bool true) ∧ Below w.heap.size w w' := by
  have HOf := Lib.hid hOf
  have HROf := Lib.hid hROf
  have HFit := Lib.hid hFit
  have HRFit := Lib.hid hRFit
  have HRFitO := Lib.hid hRFitO
  have HAw := Lib.hid hAw
  clear hOf hROf hFit hRFit hRFitO hAw
  go_enter Tryd.func3, Tryd.ntmps3
  go_wp2_with fail
  go_region_held3 (fun w' => Below w.heap.size w w' ∧ w.heap.size + 1 ≤ w'.heap.size ∧ w'.cell? ⟨w.heap.size, 0, none⟩ = some (.bool c0) ∧ w'.cell? ⟨w.heap.size, 1, none⟩ = some (.int .i64 c1) ∧ w'.cell? ⟨w.heap.size, 2, none⟩ = some (.int .i64 c2))
    (first | exact start1 _ _ _ _ _ rfl | exact keep1 (by assumption) (by assumption))
    (first | (go_at_call 10; with_reducible refine (HOf.out _).mono ?_; rintro e w1 ⟨rfl, hb⟩) | (go_at_call 11; with_reducible refine (HROf.out _).mono ?_; rintro e w1 ⟨rfl, hb⟩) | (go_at_call 12; with_reducible refine (HFit.out _).mono ?_; rintro e w1 ⟨rfl, hb⟩) | (go_at_call 13; with_reducible refine (HRFit.out _).mono ?_; rintro e w1 ⟨rfl, hb⟩) | (go_at_call 13; with_reducible refine (HRFitO.out _).mono ?_; rintro e w1 ⟨rfl, hb⟩))
  rename_i hS
  go_wp2_with fail
  refine wp_region_held_drew (S := (fun w' => Below w.heap.size w w' ∧ w.heap.size + 1 ≤ w'.heap.size ∧ w'.cell? ⟨w.heap.size, 0, none⟩ = some (.bool c0) ∧ w'.cell? ⟨w.heap.size, 1, none⟩ = some (.int .i64 c1) ∧ w'.cell? ⟨w.heap.size, 2, none⟩ = some (.int .i64 c2))) (by kernel_rfl) (start1b _ _ _ _ _ hS) (fun hHeld => ?_)
  refine wpAnyH_take (i := 0) (v := .agg #[.bool c0, .int .i64 c1, .int .i64 c2]) rfl (by kernel_rfl) (by kernel_rfl) (by kernel_rfl) (fun _ _ _ h => h) (Or.inl ⟨by rfl, fun w hSw => by (try dsimp only at hSw); go_simp⟩) (by assumption) ?_
  try simp only [Act.put, List.setIfInBounds_toArray, List.set_cons_zero, List.set_cons_succ]
  refine wpAnyH_ready (rs := [1]) (by kernel_rfl) (by simp) ?_
  refine AllReadyH.cons rfl (fun K hK => ?_) AllReadyH.nil
  go_simp
  go_at_call 13; with_reducible refine (HRFit.out _).mono ?_; rintro e w1 ⟨rfl, hb⟩
  refine hK.out _ _ (keep1 (by assumption) (by assumption)) (fun hHeld => ?_)
  clear hK K
  try simp only [Act.put, List.setIfInBounds_toArray, List.set_cons_zero, List.set_cons_succ]
  refine wpAnyH_take (i := 2) (v := .bool true) rfl (by kernel_rfl) (by kernel_rfl) (by kernel_rfl) (fun _ _ _ h => h) (Or.inl ⟨by rfl, fun w hSw => by (try dsimp only at hSw); go_simp⟩) (by assumption) ?_
  try simp only [Act.put, List.setIfInBounds_toArray, List.set_cons_zero, List.set_cons_succ]
  refine wpAnyH_take (i := 3) (v := .bool true) rfl (by kernel_rfl) (by kernel_rfl) (by kernel_rfl) (fun _ _ _ h => h) (Or.inl ⟨by rfl, fun w hSw => by (try dsimp only at hSw); go_simp⟩) (by assumption) ?_
  try simp only [Act.put, List.setIfInBounds_toArray, List.set_cons_zero, List.set_cons_succ]
  refine wpAnyH_take (i := 4) (v := undef) rfl (by kernel_rfl) (by kernel_rfl) (by kernel_rfl) (fun _ _ _ h => h) (Or.inr ⟨by rfl, rfl⟩) (by assumption) ?_
  try simp only [Act.put, List.setIfInBounds_toArray, List.set_cons_zero, List.set_cons_succ]
  refine wpAnyH_take (i := 5) (v := undef) rfl (by kernel_rfl) (by kernel_rfl) (by kernel_rfl) (fun _ _ _ h => h) (Or.inr ⟨by rfl, rfl⟩) (by assumption) ?_
  try simp only [Act.put, List.setIfInBounds_toArray, List.set_cons_zero, List.set_cons_succ]
  refine wpAnyH_take (i := 7) (v := undef) rfl (by kernel_rfl) (by kernel_rfl) (by kernel_rfl) (fun _ _ _ h => h) (Or.inr ⟨by rfl, rfl⟩) (by assumption) ?_
  try simp only [Act.put, List.setIfInBounds_toArray, List.set_cons_zero, List.set_cons_succ]
  refine wpAnyH_take (i := 8) (v := undef) rfl (by kernel_rfl) (by kernel_rfl) (by kernel_rfl) (fun _ _ _ h => h) (Or.inr ⟨by rfl, rfl⟩) (by assumption) ?_
  try simp only [Act.put, List.setIfInBounds_toArray, List.set_cons_zero, List.set_cons_succ]
  refine wpAnyH_ready (rs := [6]) (by kernel_rfl) (by simp) ?_
  refine AllReadyH.cons rfl (fun K hK => ?_) AllReadyH.nil
  go_simp
  refine hK.out _ _ (by assumption) (fun hHeld => ?_)
  clear hK K
  try simp only [Act.put, List.setIfInBounds_toArray, List.set_cons_zero, List.set_cons_succ]
  refine wpAnyH_ready (rs := [9]) (by kernel_rfl) (by simp) ?_
  refine AllReadyH.cons rfl (fun K hK => ?_) AllReadyH.nil
  go_simp
  refine hK.out _ _ (by assumption) (fun hHeld => ?_)
  clear hK K
  try simp only [Act.put, List.setIfInBounds_toArray, List.set_cons_zero, List.set_cons_succ]
  refine wpAnyH_take (i := 10) (v := undef) rfl (by kernel_rfl) (by kernel_rfl) (by kernel_rfl) (fun _ _ _ h => h) (Or.inr ⟨by rfl, rfl⟩) (by assumption) ?_
  try simp only [Act.put, List.setIfInBounds_toArray, List.set_cons_zero, List.set_cons_succ]
  refine wpAnyH_take (i := 11) (v := undef) rfl (by kernel_rfl) (by kernel_rfl) (by kernel_rfl) (fun _ _ _ h => h) (Or.inr ⟨by rfl, rfl⟩) (by assumption) ?_
  try simp only [Act.put, List.setIfInBounds_toArray, List.set_cons_zero, List.set_cons_succ]
  refine wpAnyH_take (i := 12) (v := undef) rfl (by kernel_rfl) (by kernel_rfl) (by kernel_rfl) (fun _ _ _ h => h) (Or.inr ⟨by rfl, rfl⟩) (by assumption) ?_
  try simp only [Act.put, List.setIfInBounds_toArray, List.set_cons_zero, List.set_cons_succ]
  refine wpAnyH_take (i := 14) (v := undef) rfl (by kernel_rfl) (by kernel_rfl) (by kernel_rfl) (fun _ _ _ h => h) (Or.inr ⟨by rfl, rfl⟩) (by assumption) ?_
  try simp only [Act.put, List.setIfInBounds_toArray, List.set_cons_zero, List.set_cons_succ]
  refine wpAnyH_ready (rs := [13]) (by kernel_rfl) (by simp) ?_
  refine AllReadyH.cons rfl (fun K hK => ?_) AllReadyH.nil
  go_simp
  refine hK.out _ _ (by assumption) (fun hHeld => ?_)
  clear hK K
  try simp only [Act.put, List.setIfInBounds_toArray, List.set_cons_zero, List.set_cons_succ]
  refine wpAnyH_ready (rs := [15]) (by kernel_rfl) (by simp) ?_
  refine AllReadyH.cons rfl (fun K hK => ?_) AllReadyH.nil
  go_simp
  refine hK.out _ _ (by assumption) (fun hHeld => ?_)
  clear hK K
  try simp only [Act.put, List.setIfInBounds_toArray, List.set_cons_zero, List.set_cons_succ]
  refine wpAnyH_take (i := 16) (v := undef) rfl (by kernel_rfl) (by kernel_rfl) (by kernel_rfl) (fun _ _ _ h => h) (Or.inr ⟨by rfl, rfl⟩) (by assumption) ?_
  try simp only [Act.put, List.setIfInBounds_toArray, List.set_cons_zero, List.set_cons_succ]
  refine wpAnyH_take (i := 17) (v := undef) rfl (by kernel_rfl) (by kernel_rfl) (by kernel_rfl) (fun _ _ _ h => h) (Or.inr ⟨by rfl, rfl⟩) (by assumption) ?_
  try simp only [Act.put, List.setIfInBounds_toArray, List.set_cons_zero, List.set_cons_succ]
  refine wpAnyH_take (i := 18) (v := .bool true) rfl (by kernel_rfl) (by kernel_rfl) (by kernel_rfl) (fun _ _ _ h => h) (Or.inl ⟨by rfl, fun w hSw => by (try dsimp only at hSw); go_simp⟩) (by assumption) ?_
  try simp only [Act.put, List.setIfInBounds_toArray, List.set_cons_zero, List.set_cons_succ]
  refine wpAnyH_take (i := 19) (v := .bool true) rfl (by kernel_rfl) (by kernel_rfl) (by kernel_rfl) (fun _ _ _ h => h) (Or.inl ⟨by rfl, fun w hSw => by (try dsimp only at hSw); go_simp⟩) (by assumption) ?_
  try simp only [Act.put, List.setIfInBounds_toArray, List.set_cons_zero, List.set_cons_succ]
  refine wpAnyH_ready (rs := [20]) (by kernel_rfl) (by simp) ?_
  refine AllReadyH.cons rfl (fun K hK => ?_) AllReadyH.nil
  go_simp
  go_at_call 18; with_reducible refine (HAw.out _).mono ?_; rintro e w2 ⟨rfl, hb⟩
  refine hK.out _ _ (keep1 (by assumption) (by assumption)) (fun hHeld => ?_)
  clear hK K
  try simp only [Act.put, List.setIfInBounds_toArray, List.set_cons_zero, List.set_cons_succ]
  refine wpAnyH_take (i := 21) (v := .bool true) rfl (by kernel_rfl) (by kernel_rfl) (by kernel_rfl) (fun _ _ _ h => h) (Or.inl ⟨by rfl, fun w hSw => by (try dsimp only at hSw); go_simp⟩) (by assumption) ?_
  try simp only [Act.put, List.setIfInBounds_toArray, List.set_cons_zero, List.set_cons_succ]
  refine wpAnyH_take (i := 22) (v := .bool true) rfl (by kernel_rfl) (by kernel_rfl) (by kernel_rfl) (fun _ _ _ h => h) (Or.inl ⟨by rfl, fun w hSw => by (try dsimp only at hSw); go_simp⟩) (by assumption) ?_
  try simp only [Act.put, List.setIfInBounds_toArray, List.set_cons_zero, List.set_cons_succ]
  refine wpAnyH_done (by kernel_rfl) ?_ _
  simp only [Act.put, List.getElem_toArray, List.getElem_cons_succ, List.getElem_cons_zero, List.setIfInBounds_toArray, List.set_cons_zero, List.set_cons_succ]
  go_wp2
  go_ret
  exact ⟨rfl, (by assumption : Below w.heap.size w w2 ∧ w.heap.size + 1 ≤ w2.heap.size ∧ _).1⟩
end Go.Proofs.YtfmmjekhknaniaaDoor.Tx
-- PRINTED for this claim by hookprint.py, a program of this session's over the kit's print. Not trusted: Lean checks it.
namespace Go.Proofs.YtfmmjekhknaniaaDoor.Pr
open Go.RowKit Go.Proofs.YtfmmjekhknaniaaDoor.Given Go.Proofs.YtfmmjekhknaniaaDoorW.PrintWords Go.Proofs.YtfmmjekhknaniaaDoorW.PrintLast Go.Proofs.YtfmmjekhknaniaaDoorW.PrintMore
attribute [local go_sem] max2_int min2_int max_two min_two max_three min_three max_four min_four   -- for this text's walks alone
set_option linter.unusedVariables false
set_option linter.unusedSimpArgs false

/-! ### gimbalref01_Fit: function 92 -/
def gimbalref01_Fit.f (a0 : Int) : Option (Int) := if a0 < (-4611686018427387904) then (some (-4611686018427387904)) else (if a0 > 4611686018427387904 then (some 4611686018427387904) else (some a0))
set_option maxHeartbeats 8000000 in
set_option maxRecDepth 100000 in
theorem gimbalref01_Fit.calls (a0 : Int) (r : Int) (w : World) (h : gimbalref01_Fit.f a0 = some r) :
    Calls Tryd.prog 92 #[.int .i64 a0] w fun e w' => e = .returned (.int .i64 r) ∧ Drawn0 w w' := by
  have H : (if a0 < (-4611686018427387904) then (some (-4611686018427387904)) else (if a0 > 4611686018427387904 then (some 4611686018427387904) else (some a0))) = some r := h
  clear h
  by_cases c2 : a0 < (-4611686018427387904)
  · rw [if_pos c2] at H
    have c2b0 : decide (a0 < (-4611686018427387904)) = true := decide_eq_true c2
    clear c2
    obtain rfl := Option.some.inj H
    go_enter Tryd.func92, Tryd.ntmps92
    go_wp2
    go_ret
    exact ⟨by first | rfl | (simp; done) | (simp [*]; done), by repeat (first | exact Drawn0.refl _ | apply Drawn0.step)⟩
  · rw [if_neg c2] at H
    have c2b0 : decide (a0 < (-4611686018427387904)) = false := decide_eq_false c2
    clear c2
    by_cases c3 : a0 > 4611686018427387904
    · rw [if_pos c3] at H
      have c3b0 : decide (4611686018427387904 < a0) = true := decide_eq_true c3
      clear c3
      obtain rfl := Option.some.inj H
      go_enter Tryd.func92, Tryd.ntmps92
      go_wp2
      go_ret
      exact ⟨by first | rfl | (simp; done) | (simp [*]; done), by repeat (first | exact Drawn0.refl _ | apply Drawn0.step)⟩
    · rw [if_neg c3] at H
      have c3b0 : decide (4611686018427387904 < a0) = false := decide_eq_false c3
      clear c3
      obtain rfl := Option.some.inj H
      go_enter Tryd.func92, Tryd.ntmps92
      go_wp2
      go_ret
      exact ⟨by first | rfl | (simp; done) | (simp [*]; done), by repeat (first | exact Drawn0.refl _ | apply Drawn0.step)⟩

end Go.Proofs.YtfmmjekhknaniaaDoor.Pr
-- PRINTED for this claim by hookprint.py, a program of this session's over the kit's print. Not trusted: Lean checks it.
namespace Go.Proofs.YtfmmjekhknaniaaDoor.Pr
open Go.RowKit Go.Proofs.YtfmmjekhknaniaaDoor.Given Go.Proofs.YtfmmjekhknaniaaDoorW.PrintWords Go.Proofs.YtfmmjekhknaniaaDoorW.PrintLast Go.Proofs.YtfmmjekhknaniaaDoorW.PrintMore
attribute [local go_sem] max2_int min2_int max_two min_two max_three min_three max_four min_four   -- for this text's walks alone
set_option linter.unusedVariables false
set_option linter.unusedSimpArgs false

/-! ### gimbalref01_size: function 93 -/
def gimbalref01_size.f (a0 : Int) : Option (Int) := if a0 < 0 then (some (IntKind.u64.wrap (wrap64 (-a0)))) else (some (IntKind.u64.wrap (a0)))
set_option maxHeartbeats 8000000 in
set_option maxRecDepth 100000 in
theorem gimbalref01_size.calls (a0 : Int) (r : Int) (w : World) (h : gimbalref01_size.f a0 = some r) :
    Calls Tryd.prog 93 #[.int .i64 a0] w fun e w' => e = .returned (.int .u64 r) ∧ Drawn0 w w' := by
  have H : (if a0 < 0 then (some (IntKind.u64.wrap (wrap64 (-a0)))) else (some (IntKind.u64.wrap (a0)))) = some r := h
  clear h
  by_cases c2 : a0 < 0
  · rw [if_pos c2] at H
    have c2b0 : decide (a0 < 0) = true := decide_eq_true c2
    clear c2
    obtain rfl := Option.some.inj H
    go_enter Tryd.func93, Tryd.ntmps93
    go_wp2
    go_ret
    exact ⟨by first | rfl | (simp; done) | (simp [*]; done), by repeat (first | exact Drawn0.refl _ | apply Drawn0.step)⟩
  · rw [if_neg c2] at H
    have c2b0 : decide (a0 < 0) = false := decide_eq_false c2
    clear c2
    obtain rfl := Option.some.inj H
    go_enter Tryd.func93, Tryd.ntmps93
    go_wp2
    go_ret
    exact ⟨by first | rfl | (simp; done) | (simp [*]; done), by repeat (first | exact Drawn0.refl _ | apply Drawn0.step)⟩

end Go.Proofs.YtfmmjekhknaniaaDoor.Pr
-- PRINTED for this claim by hookprint.py, a program of this session's over the kit's print. Not trusted: Lean checks it.
namespace Go.Proofs.YtfmmjekhknaniaaDoor.Pr
open Go.RowKit Go.Proofs.YtfmmjekhknaniaaDoor.Given Go.Proofs.YtfmmjekhknaniaaDoorW.PrintWords Go.Proofs.YtfmmjekhknaniaaDoorW.PrintLast Go.Proofs.YtfmmjekhknaniaaDoorW.PrintMore
attribute [local go_sem] max2_int min2_int max_two min_two max_three min_three max_four min_four   -- for this text's walks alone
set_option linter.unusedVariables false
set_option linter.unusedSimpArgs false

/-! ### gimbalref01_Text: function 59 -/
def gimbalref01_Text.l0 : Nat → Int → List Int → Int → Option (ByteArray)
  | 0, _, _, _ => none
  | k + 1, x0, x3, x4 => (some (([(IntKind.u64.wrap (48 + (Int.tmod x4 10))) % 256] : List Int) : List Int)).bind fun y648 => (if y648.length + x3.length < 140737488355328 then ((some (y648 ++ x3 : List Int)).bind fun y651 => (if (IntKind.u64.wrap (Int.tdiv x4 10)) = 0 then (if x0 < 0 then ((some (([45] : List Int) : List Int)).bind fun y654 => (if y654.length + y651.length < 140737488355328 then (some (strOfNums (y654 ++ y651))) else (none))) else (some (strOfNums y651))) else (gimbalref01_Text.l0 k x0 y651 (IntKind.u64.wrap (Int.tdiv x4 10))))) else (none))
def gimbalref01_Text.f (k : Nat) (a0 : Int) : Option (ByteArray) := (gimbalref01_Fit.f a0).bind fun t646 => (if t646 = 4611686018427387904 then (some (⟨#[105, 110, 102]⟩ : ByteArray)) else (if t646 = (-4611686018427387904) then (some (⟨#[45, 105, 110, 102]⟩ : ByteArray)) else ((gimbalref01_size.f t646).bind fun t647 => (gimbalref01_Text.l0 k t646 ([] : List Int) t647))))
theorem gimbalref01_Text.mono_l : ∀ k, (∀ y0 y1 y2, LeO (gimbalref01_Text.l0 k y0 y1 y2) (gimbalref01_Text.l0 (k + 1) y0 y1 y2))
  | 0 => fun _ _ _ r h => by simp [gimbalref01_Text.l0] at h
  | k + 1 => by
    have ih0 := gimbalref01_Text.mono_l k
    · intro y0 y1 y2
      unfold gimbalref01_Text.l0
      repeat' first
      | (with_reducible exact ih0 _ _ _)
      | (with_reducible exact LeO.refl _)
      | (with_reducible exact LeO.none _)
      | (with_reducible refine LeO.ite ?_ ?_)
      | (with_reducible refine LeO.bind ?_ (fun _ => ?_))
      | exact ih0 _ _ _
      | exact LeO.none _
      | refine LeO.ite ?_ ?_
      | refine LeO.bind ?_ (fun _ => ?_)
theorem gimbalref01_Text.mono : ∀ a0 k, LeO (gimbalref01_Text.f k a0) (gimbalref01_Text.f (k + 1) a0) := by
  intro a0 k
  have ih0 := gimbalref01_Text.mono_l k
  unfold gimbalref01_Text.f
  repeat' first
      | (with_reducible exact ih0 _ _ _)
      | (with_reducible exact LeO.refl _)
      | (with_reducible exact LeO.none _)
      | (with_reducible refine LeO.ite ?_ ?_)
      | (with_reducible refine LeO.bind ?_ (fun _ => ?_))
      | exact ih0 _ _ _
      | exact LeO.none _
      | refine LeO.ite ?_ ?_
      | refine LeO.bind ?_ (fun _ => ?_)
set_option maxHeartbeats 8000000 in
set_option maxRecDepth 100000 in
theorem gimbalref01_Text.calls (k : Nat) (a0 : Int) (r : ByteArray) (w : World) (h : gimbalref01_Text.f k a0 = some r) :
    Calls Tryd.prog 59 #[.int .i64 a0] w fun e w' => e = .returned (.string r) ∧ Below w.heap.size w w' := by
  have HB := Aside0.mk (Below.refl w.heap.size w)
  have H : ((gimbalref01_Fit.f a0).bind fun t646 => (if t646 = 4611686018427387904 then (some (⟨#[105, 110, 102]⟩ : ByteArray)) else (if t646 = (-4611686018427387904) then (some (⟨#[45, 105, 110, 102]⟩ : ByteArray)) else ((gimbalref01_size.f t646).bind fun t647 => (gimbalref01_Text.l0 k t646 ([] : List Int) t647))))) = some r := h
  clear h
  replace H := Option.bind_eq_some_iff.mp H
  obtain ⟨t646, A20, H⟩ := H
  replace H : (if t646 = 4611686018427387904 then (some (⟨#[105, 110, 102]⟩ : ByteArray)) else (if t646 = (-4611686018427387904) then (some (⟨#[45, 105, 110, 102]⟩ : ByteArray)) else ((gimbalref01_size.f t646).bind fun t647 => (gimbalref01_Text.l0 k t646 ([] : List Int) t647)))) = some r := H
  have A2 := Aside0.mk A20
  clear A20
  by_cases c3 : t646 = 4611686018427387904
  · rw [if_pos c3] at H
    have c3b0 : (t646 == 4611686018427387904) = true := beq_iff_eq.mpr c3
    have c3b1 : (t646 != 4611686018427387904) = false := bne_eq_false_iff_eq.mpr c3
    clear c3
    obtain rfl := Option.some.inj H
    go_enter Tryd.func59, Tryd.ntmps59
    go_wp2_with (first | ((with_reducible refine gate_callee (f := 92) rfl ?_); refine goesL_ (some 6) rfl rfl Tryd.func92 (by kernel_rfl) rfl #[.int .i64 a0] rfl (by (try simp only [List.map_toArray, List.map_cons, List.map_nil]); first | done | rfl | (simp only [List.length_drop, List.length_take]; rfl)) ?_; (with_reducible refine (gimbalref01_Fit.calls a0 t646 _ A2.out).mono ?_); rintro e w' ⟨rfl, ⟨nd, rfl⟩⟩; refine ⟨_, rfl, ?_⟩))
    go_ret
    exact ⟨by first | rfl | (simp [errW_none, errW_some] <;> rfl) | (simp [*, errW_none, errW_some] <;> rfl), by repeat (first | (with_reducible first | exact HB.out | apply below_alloc | apply pw_below_drewN | apply below_drew1) | exact HB.out)⟩
  · rw [if_neg c3] at H
    have c3b0 : (t646 == 4611686018427387904) = false := beq_eq_false_iff_ne.mpr c3
    have c3b1 : (t646 != 4611686018427387904) = true := bne_iff_ne.mpr c3
    by_cases c4 : t646 = (-4611686018427387904)
    · rw [if_pos c4] at H
      have c4b0 : (t646 == (-4611686018427387904)) = true := beq_iff_eq.mpr c4
      have c4b1 : (t646 != (-4611686018427387904)) = false := bne_eq_false_iff_eq.mpr c4
      clear c4
      obtain rfl := Option.some.inj H
      go_enter Tryd.func59, Tryd.ntmps59
      go_wp2_with (first | ((with_reducible refine gate_callee (f := 92) rfl ?_); refine goesL_ (some 6) rfl rfl Tryd.func92 (by kernel_rfl) rfl #[.int .i64 a0] rfl (by (try simp only [List.map_toArray, List.map_cons, List.map_nil]); first | done | rfl | (simp only [List.length_drop, List.length_take]; rfl)) ?_; (with_reducible refine (gimbalref01_Fit.calls a0 t646 _ A2.out).mono ?_); rintro e w' ⟨rfl, ⟨nd, rfl⟩⟩; refine ⟨_, rfl, ?_⟩))
      go_ret
      exact ⟨by first | rfl | (simp [errW_none, errW_some] <;> rfl) | (simp [*, errW_none, errW_some] <;> rfl), by repeat (first | (with_reducible first | exact HB.out | apply below_alloc | apply pw_below_drewN | apply below_drew1) | exact HB.out)⟩
    · rw [if_neg c4] at H
      have c4b0 : (t646 == (-4611686018427387904)) = false := beq_eq_false_iff_ne.mpr c4
      have c4b1 : (t646 != (-4611686018427387904)) = true := bne_iff_ne.mpr c4
      replace H := Option.bind_eq_some_iff.mp H
      obtain ⟨t647, A50, H⟩ := H
      replace H : (gimbalref01_Text.l0 k t646 ([] : List Int) t647) = some r := H
      have A5 := Aside0.mk A50
      clear A50
      have H' := Aside0.mk H
      clear H
      go_enter Tryd.func59, Tryd.ntmps59
      go_wp2_with (first | ((with_reducible refine gate_callee (f := 92) rfl ?_); refine goesL_ (some 6) rfl rfl Tryd.func92 (by kernel_rfl) rfl #[.int .i64 a0] rfl (by (try simp only [List.map_toArray, List.map_cons, List.map_nil]); first | done | rfl | (simp only [List.length_drop, List.length_take]; rfl)) ?_; (with_reducible refine (gimbalref01_Fit.calls a0 t646 _ A2.out).mono ?_); rintro e w' ⟨rfl, ⟨nd, rfl⟩⟩; refine ⟨_, rfl, ?_⟩) | ((with_reducible refine gate_callee (f := 93) rfl ?_); refine goesL_ (some 12) rfl rfl Tryd.func93 (by kernel_rfl) rfl #[.int .i64 t646] rfl (by (try simp only [List.map_toArray, List.map_cons, List.map_nil]); first | done | rfl | (simp only [List.length_drop, List.length_take]; rfl)) ?_; (with_reducible refine (gimbalref01_size.calls t646 t647 _ A5.out).mono ?_); rintro e w' ⟨rfl, ⟨nd, rfl⟩⟩; refine ⟨_, rfl, ?_⟩))
      go_loopg [3, 4] k (fun kq v3 v4 w' => ∃ (x3_1 : List Int) (x4_1 : Int), v4 = .int .u64 x4_1 ∧ Aside0 (gimbalref01_Text.l0 kq t646 x3_1 x4_1 = some r) ∧ Aside0 (kq ≤ k) ∧ Aside0 (Kd.R (Kd.int .u8) 5 w' w.heap.size (fun _ => True) v3 x3_1) ∧ Aside0 (Below w.heap.size w w'))
      case atStart => exact ⟨(([] : List Int)), (t647), (by first | rfl | (simp; done) | (simp [*]; done)), H', ⟨Nat.le_refl _⟩, ⟨by first | exact Kd.R_nil _ _ _ _ _ | exact Kd.N_nil _ _ _ _ _ | exact Kd.V_nil _ _ _ _ _ | exact Kd.Q_nil _ _ _ _ _ | exact Kd.S_nil _ _ _ _ _⟩, ⟨by repeat (first | (with_reducible first | exact HB.out | apply below_alloc | apply pw_below_drewN | apply below_drew1) | exact HB.out)⟩⟩
      case round =>
        clear H'
        try clear p2
        try clear c3
        try clear c3b0
        try clear c3b1
        try clear c4
        try clear c4b0
        try clear c4b1
        try clear c5
        obtain ⟨x3_1, x4_1, rfl, HA, HK1, HO_3, HB⟩ := hrel
        cases gk with
        | zero => exact absurd HA.out (by simp [gimbalref01_Text.l0])
        | succ k1 =>
          have H := HA.out
          clear HA
          simp only [gimbalref01_Text.l0] at H
          obtain ⟨y648, hy648⟩ : ∃ y_ : List Int, y_ = (([(IntKind.u64.wrap (48 + (Int.tmod x4_1 10))) % 256] : List Int)) := ⟨_, rfl⟩
          replace H : (if y648.length + x3_1.length < 140737488355328 then ((some (y648 ++ x3_1 : List Int)).bind fun y651 => (if (IntKind.u64.wrap (Int.tdiv x4_1 10)) = 0 then (if t646 < 0 then ((some (([45] : List Int) : List Int)).bind fun y654 => (if y654.length + y651.length < 140737488355328 then (some (strOfNums (y654 ++ y651))) else (none))) else (some (strOfNums y651))) else (gimbalref01_Text.l0 k1 t646 y651 (IntKind.u64.wrap (Int.tdiv x4_1 10))))) else (none)) = some r := by first | (rw [hy648]; with_reducible exact H) | (have H2_ := (Option.bind_some _ _).symm.trans H; rw [hy648]; with_reducible exact H2_) | (have H2_ := (Option.bind_some _ _).symm.trans H; with_reducible exact H2_) | with_reducible exact H | (rw [hy648]; exact H) | exact H
          have Ny648 := Aside0.mk hy648
          clear hy648
          by_cases c6 : y648.length + x3_1.length < 140737488355328
          · rw [if_pos c6] at H
            have LMc6 := Aside0.mk c6
            clear c6
            obtain ⟨y651, hy651⟩ : ∃ y_ : List Int, y_ = (y648 ++ x3_1) := ⟨_, rfl⟩
            replace H : (if (IntKind.u64.wrap (Int.tdiv x4_1 10)) = 0 then (if t646 < 0 then ((some (([45] : List Int) : List Int)).bind fun y654 => (if y654.length + y651.length < 140737488355328 then (some (strOfNums (y654 ++ y651))) else (none))) else (some (strOfNums y651))) else (gimbalref01_Text.l0 k1 t646 y651 (IntKind.u64.wrap (Int.tdiv x4_1 10)))) = some r := by first | (rw [hy651]; with_reducible exact H) | (have H2_ := (Option.bind_some _ _).symm.trans H; rw [hy651]; with_reducible exact H2_) | (have H2_ := (Option.bind_some _ _).symm.trans H; with_reducible exact H2_) | with_reducible exact H | (rw [hy651]; exact H) | exact H
            have Ny651 := Aside0.mk hy651
            clear hy651
            by_cases c7 : (IntKind.u64.wrap (Int.tdiv x4_1 10)) = 0
            · rw [if_pos c7] at H
              have c7b0 : ((IntKind.u64.wrap (Int.tdiv x4_1 10)) == 0) = true := beq_iff_eq.mpr c7
              have c7b1 : ((IntKind.u64.wrap (Int.tdiv x4_1 10)) != 0) = false := bne_eq_false_iff_eq.mpr c7
              clear c7
              by_cases c8 : t646 < 0
              · rw [if_pos c8] at H
                have c8b0 : decide (t646 < 0) = true := decide_eq_true c8
                clear c8
                obtain ⟨y654, hy654⟩ : ∃ y_ : List Int, y_ = (([45] : List Int)) := ⟨_, rfl⟩
                replace H : (if y654.length + y651.length < 140737488355328 then (some (strOfNums (y654 ++ y651))) else (none)) = some r := by first | (rw [hy654]; with_reducible exact H) | (have H2_ := (Option.bind_some _ _).symm.trans H; rw [hy654]; with_reducible exact H2_) | (have H2_ := (Option.bind_some _ _).symm.trans H; with_reducible exact H2_) | with_reducible exact H | (rw [hy654]; exact H) | exact H
                have Ny654 := Aside0.mk hy654
                clear hy654
                by_cases c9 : y654.length + y651.length < 140737488355328
                · rw [if_pos c9] at H
                  have LMc9 := Aside0.mk c9
                  clear c9
                  obtain ⟨y657, hy657⟩ : ∃ y_ : List Int, y_ = (y654 ++ y651) := ⟨_, rfl⟩
                  replace H : (some (strOfNums y657)) = some r := by first | (rw [hy657]; with_reducible exact H) | (have H2_ := (Option.bind_some _ _).symm.trans H; rw [hy657]; with_reducible exact H2_) | (have H2_ := (Option.bind_some _ _).symm.trans H; with_reducible exact H2_) | with_reducible exact H | (rw [hy657]; exact H) | exact H
                  have Ny657 := Aside0.mk hy657
                  clear hy657
                  obtain rfl := Option.some.inj H
                  go_wp2_with (first | ((with_reducible refine gate_dst (N := 17) rfl ?_); refine Kd.R_lit (Kd.int .u8) _ 5 ?hg (N := 17) ?hd (xs := ([(IntKind.u64.wrap (48 + (Int.tmod x4_1 10))) % 256] : List Int)) (inner := [.int .u8 ((IntKind.u64.wrap (48 + (Int.tmod x4_1 10))) % 256)]) (ok := fun _ => True) (okp := fun _ => True) ?hr ?hp (fun _ hk => hk) trivial (Below.refl _ _) (Nat.le_refl _) (by simp) ?_; (case hd => rfl); (case hg => rfl); (case hr => first | (go_simp; done) | (go_simp; rfl)); (case hp => exact (Reps.one (show Kd.M (Kd.int .u8) _ _ _ ((IntKind.u64.wrap (48 + (Int.tmod x4_1 10))) % 256) [.int .u8 ((IntKind.u64.wrap (48 + (Int.tmod x4_1 10))) % 256)] from rfl) (Reps.none _ _))); intro v649 w10 ho11 hb hg_ hnew_; clear hg_ hnew_; (first | rw [← Ny648.out] at ho11 | (simp only [Int.reduceToNat] at ho11; rw [← Ny648.out] at ho11)); have n0_ := Aside0.mk (Kd.R_elder' (by (with_reducible repeat (first | apply Kd.R_alloc | apply Kd.R_drewN | apply Kd.R_drew)); exact HO_3.out) (Kd.R_base ho11) hb); have n1_ := Aside0.mk (Kd.R_lower (Kd.R_new' ho11 (Kd.R_lt (by (with_reducible repeat (first | apply Kd.R_alloc | apply Kd.R_drewN | apply Kd.R_drew)); exact HO_3.out))) (below_size (by repeat (first | (with_reducible first | exact HB.out | apply below_alloc | apply pw_below_drewN | apply below_drew1) | exact HB.out)))); have n2_ := Aside0.mk (below_step (by repeat (first | (with_reducible first | exact HB.out | apply below_alloc | apply pw_below_drewN | apply below_drew1) | exact HB.out)) hb); clear HO_3; clear HB; have HO_3 := n0_; have HO650 := n1_; have HB := n2_; clear n0_ n1_ n2_; clear hb ho11; obtain ⟨Ao13, co13, eo13⟩ := Kd.R_slice HO_3.out; subst eo13) | ((with_reducible refine gate_builtin (b := .append) (xs := #[.tmp 17, .tmp 18]) rfl ?_); at_builtin; refine Kd.R_append_rows (Kd.int .u8) (w0 := w) w.heap.size rfl (.tmp 17) (.tmp 18) 83 5 (.int .u8 0) 1 rfl Tryd.underlying83 info5 rfl (by decide) (by omega) v649 y648 x3_1 _ _ _ (fun k_ => some k_ ≠ (.slice Ao13 x3_1.length co13 : Value).ownBlock) (fun _ => False) rfl rfl ?aO ?aR (fun _ _ h => h) (fun _ h => h.elim) ?aF ?aB ?aS ?aL ?_; (case aR => repeat (first | exact (Kd.R_reads' HO_3.out).2.2 | (with_reducible refine Kd.C_alloc ?_ _) | (with_reducible refine Kd.C_drewN ?_ _) | (with_reducible refine Kd.C_drew ?_))); (case aB => exact (by repeat (first | (with_reducible first | exact HB.out | apply below_alloc | apply pw_below_drewN | apply below_drew1) | exact HB.out))); (case aF => exact (fun k_ hk => Kd.fresh' (Kd.R_lt (by (with_reducible repeat (first | apply Kd.R_alloc | apply Kd.R_drewN | apply Kd.R_drew)); exact HO_3.out)) k_ hk)); (case aO => exact (by (with_reducible repeat (first | apply Kd.R_alloc | apply Kd.R_drewN | apply Kd.R_drew)); exact Kd.R_mono HO650.out (fun _ hk => hk.2))); (case aS => exact (below_size (by repeat (first | (with_reducible first | exact HB.out | apply below_alloc | apply pw_below_drewN | apply below_drew1) | exact HB.out)))); (case aL => have := LMc6.out; omega); intro v652 w12 ho hb hg hat; rw [← Ny651.out] at ho; have n0_ := Aside0.mk (Kd.R_after (ok := (fun _ => True)) (by (with_reducible repeat (first | apply Kd.R_alloc | apply Kd.R_drewN | apply Kd.R_drew)); exact HO_3.out) hg hat); have n1_ := Aside0.mk (hb); have n2_ := Aside0.mk (ho); clear HO_3; clear HB; clear HO650; have HO_3 := n0_; have HB := n1_; have HO653 := n2_; clear n0_ n1_ n2_; clear ho hb hg hat) | ((with_reducible refine gate_dst (N := 26) rfl ?_); refine Kd.R_lit (Kd.int .u8) _ 5 ?hg (N := 26) ?hd (xs := ([45] : List Int)) (inner := [.int .u8 45]) (ok := fun _ => True) (okp := fun _ => True) ?hr ?hp (fun _ hk => hk) trivial (Below.refl _ _) (Nat.le_refl _) (by simp) ?_; (case hd => rfl); (case hg => rfl); (case hr => first | (go_simp; done) | (go_simp; rfl)); (case hp => exact (Reps.one (show Kd.M (Kd.int .u8) _ _ _ 45 [.int .u8 45] from rfl) (Reps.none _ _))); intro v655 w14 ho15 hb hg_ hnew_; clear hg_ hnew_; (first | rw [← Ny654.out] at ho15 | (simp only [Int.reduceToNat] at ho15; rw [← Ny654.out] at ho15)); have n0_ := Aside0.mk (Kd.R_elder' (by (with_reducible repeat (first | apply Kd.R_alloc | apply Kd.R_drewN | apply Kd.R_drew)); exact HO_3.out) (Kd.R_base ho15) hb); have n1_ := Aside0.mk (Kd.R_elder' (by (with_reducible repeat (first | apply Kd.R_alloc | apply Kd.R_drewN | apply Kd.R_drew)); exact HO653.out) (Kd.R_base ho15) hb); have n2_ := Aside0.mk (Kd.R_lower (Kd.R_new' (Kd.R_new' ho15 (Kd.R_lt (by (with_reducible repeat (first | apply Kd.R_alloc | apply Kd.R_drewN | apply Kd.R_drew)); exact HO_3.out))) (Kd.R_lt (by (with_reducible repeat (first | apply Kd.R_alloc | apply Kd.R_drewN | apply Kd.R_drew)); exact HO653.out))) (below_size (by repeat (first | (with_reducible first | exact HB.out | apply below_alloc | apply pw_below_drewN | apply below_drew1) | exact HB.out)))); have n3_ := Aside0.mk (below_step (by repeat (first | (with_reducible first | exact HB.out | apply below_alloc | apply pw_below_drewN | apply below_drew1) | exact HB.out)) hb); clear HO_3; clear HO653; clear HB; have HO_3 := n0_; have HO653 := n1_; have HO656 := n2_; have HB := n3_; clear n0_ n1_ n2_ n3_; clear hb ho15; obtain ⟨Ao17, co17, eo17⟩ := Kd.R_slice HO653.out; subst eo17) | ((with_reducible refine gate_builtin (b := .append) (xs := #[.tmp 26, .tmp 27]) rfl ?_); at_builtin; refine Kd.R_append_rows (Kd.int .u8) (w0 := w) w.heap.size rfl (.tmp 26) (.tmp 27) 83 5 (.int .u8 0) 1 rfl Tryd.underlying83 info5 rfl (by decide) (by omega) v655 y654 y651 _ _ _ (fun k_ => some k_ ≠ (.slice Ao13 x3_1.length co13 : Value).ownBlock ∧ some k_ ≠ (.slice Ao17 y651.length co17 : Value).ownBlock) (fun _ => False) rfl rfl ?aO ?aR (fun _ _ h => h) (fun _ h => h.elim) ?aF ?aB ?aS ?aL ?_; (case aR => repeat (first | exact (Kd.R_reads' HO653.out).2.2 | (with_reducible refine Kd.C_alloc ?_ _) | (with_reducible refine Kd.C_drewN ?_ _) | (with_reducible refine Kd.C_drew ?_))); (case aB => exact (by repeat (first | (with_reducible first | exact HB.out | apply below_alloc | apply pw_below_drewN | apply below_drew1) | exact HB.out))); (case aF => exact (fun k_ hk => ⟨Kd.fresh' (Kd.R_lt (by (with_reducible repeat (first | apply Kd.R_alloc | apply Kd.R_drewN | apply Kd.R_drew)); exact HO_3.out)) k_ hk, Kd.fresh' (Kd.R_lt (by (with_reducible repeat (first | apply Kd.R_alloc | apply Kd.R_drewN | apply Kd.R_drew)); exact HO653.out)) k_ hk⟩)); (case aO => exact (by (with_reducible repeat (first | apply Kd.R_alloc | apply Kd.R_drewN | apply Kd.R_drew)); exact Kd.R_mono HO656.out (fun _ hk => ⟨hk.1.2, hk.2⟩))); (case aS => exact (below_size (by repeat (first | (with_reducible first | exact HB.out | apply below_alloc | apply pw_below_drewN | apply below_drew1) | exact HB.out)))); (case aL => have := LMc9.out; omega); intro v658 w16 ho hb hg hat; rw [← Ny657.out] at ho; have n0_ := Aside0.mk (Kd.R_after (ok := (fun k_ => some k_ ≠ (.slice Ao17 y651.length co17 : Value).ownBlock)) (by (with_reducible repeat (first | apply Kd.R_alloc | apply Kd.R_drewN | apply Kd.R_drew)); exact Kd.R_mono HO_3.out (fun _ hk => ⟨hk.1.2, hk.2⟩)) hg hat); have n1_ := Aside0.mk (Kd.R_after (ok := (fun k_ => some k_ ≠ (.slice Ao13 x3_1.length co13 : Value).ownBlock)) (by (with_reducible repeat (first | apply Kd.R_alloc | apply Kd.R_drewN | apply Kd.R_drew)); exact HO653.out) hg hat); have n2_ := Aside0.mk (hb); have n3_ := Aside0.mk (ho); clear HO_3; clear HO653; clear HB; clear HO656; have HO_3 := n0_; have HO653 := n1_; have HB := n2_; have HO659 := n3_; clear n0_ n1_ n2_ n3_; clear ho hb hg hat; have hcv18 := own_string (P := Tryd.prog) Tryd.underlying83 Tryd.underlying5 Tryd.underlying9 (Kd.own_of_R HO659.out)))
                  go_ret
                  exact ⟨by first | rfl | (simp [errW_none, errW_some] <;> rfl) | (simp [*, errW_none, errW_some] <;> rfl), by repeat (first | (with_reducible first | exact HB.out | apply below_alloc | apply pw_below_drewN | apply below_drew1) | exact HB.out)⟩
                · rw [if_neg c9] at H
                  exact absurd H (by simp)
              · rw [if_neg c8] at H
                have c8b0 : decide (t646 < 0) = false := decide_eq_false c8
                clear c8
                obtain rfl := Option.some.inj H
                go_wp2_with (first | ((with_reducible refine gate_dst (N := 17) rfl ?_); refine Kd.R_lit (Kd.int .u8) _ 5 ?hg (N := 17) ?hd (xs := ([(IntKind.u64.wrap (48 + (Int.tmod x4_1 10))) % 256] : List Int)) (inner := [.int .u8 ((IntKind.u64.wrap (48 + (Int.tmod x4_1 10))) % 256)]) (ok := fun _ => True) (okp := fun _ => True) ?hr ?hp (fun _ hk => hk) trivial (Below.refl _ _) (Nat.le_refl _) (by simp) ?_; (case hd => rfl); (case hg => rfl); (case hr => first | (go_simp; done) | (go_simp; rfl)); (case hp => exact (Reps.one (show Kd.M (Kd.int .u8) _ _ _ ((IntKind.u64.wrap (48 + (Int.tmod x4_1 10))) % 256) [.int .u8 ((IntKind.u64.wrap (48 + (Int.tmod x4_1 10))) % 256)] from rfl) (Reps.none _ _))); intro v649 w19 ho20 hb hg_ hnew_; clear hg_ hnew_; (first | rw [← Ny648.out] at ho20 | (simp only [Int.reduceToNat] at ho20; rw [← Ny648.out] at ho20)); have n0_ := Aside0.mk (Kd.R_elder' (by (with_reducible repeat (first | apply Kd.R_alloc | apply Kd.R_drewN | apply Kd.R_drew)); exact HO_3.out) (Kd.R_base ho20) hb); have n1_ := Aside0.mk (Kd.R_lower (Kd.R_new' ho20 (Kd.R_lt (by (with_reducible repeat (first | apply Kd.R_alloc | apply Kd.R_drewN | apply Kd.R_drew)); exact HO_3.out))) (below_size (by repeat (first | (with_reducible first | exact HB.out | apply below_alloc | apply pw_below_drewN | apply below_drew1) | exact HB.out)))); have n2_ := Aside0.mk (below_step (by repeat (first | (with_reducible first | exact HB.out | apply below_alloc | apply pw_below_drewN | apply below_drew1) | exact HB.out)) hb); clear HO_3; clear HB; have HO_3 := n0_; have HO650 := n1_; have HB := n2_; clear n0_ n1_ n2_; clear hb ho20; obtain ⟨Ao22, co22, eo22⟩ := Kd.R_slice HO_3.out; subst eo22) | ((with_reducible refine gate_builtin (b := .append) (xs := #[.tmp 17, .tmp 18]) rfl ?_); at_builtin; refine Kd.R_append_rows (Kd.int .u8) (w0 := w) w.heap.size rfl (.tmp 17) (.tmp 18) 83 5 (.int .u8 0) 1 rfl Tryd.underlying83 info5 rfl (by decide) (by omega) v649 y648 x3_1 _ _ _ (fun k_ => some k_ ≠ (.slice Ao22 x3_1.length co22 : Value).ownBlock) (fun _ => False) rfl rfl ?aO ?aR (fun _ _ h => h) (fun _ h => h.elim) ?aF ?aB ?aS ?aL ?_; (case aR => repeat (first | exact (Kd.R_reads' HO_3.out).2.2 | (with_reducible refine Kd.C_alloc ?_ _) | (with_reducible refine Kd.C_drewN ?_ _) | (with_reducible refine Kd.C_drew ?_))); (case aB => exact (by repeat (first | (with_reducible first | exact HB.out | apply below_alloc | apply pw_below_drewN | apply below_drew1) | exact HB.out))); (case aF => exact (fun k_ hk => Kd.fresh' (Kd.R_lt (by (with_reducible repeat (first | apply Kd.R_alloc | apply Kd.R_drewN | apply Kd.R_drew)); exact HO_3.out)) k_ hk)); (case aO => exact (by (with_reducible repeat (first | apply Kd.R_alloc | apply Kd.R_drewN | apply Kd.R_drew)); exact Kd.R_mono HO650.out (fun _ hk => hk.2))); (case aS => exact (below_size (by repeat (first | (with_reducible first | exact HB.out | apply below_alloc | apply pw_below_drewN | apply below_drew1) | exact HB.out)))); (case aL => have := LMc6.out; omega); intro v652 w21 ho hb hg hat; rw [← Ny651.out] at ho; have n0_ := Aside0.mk (Kd.R_after (ok := (fun _ => True)) (by (with_reducible repeat (first | apply Kd.R_alloc | apply Kd.R_drewN | apply Kd.R_drew)); exact HO_3.out) hg hat); have n1_ := Aside0.mk (hb); have n2_ := Aside0.mk (ho); clear HO_3; clear HB; clear HO650; have HO_3 := n0_; have HB := n1_; have HO653 := n2_; clear n0_ n1_ n2_; clear ho hb hg hat; have hcv23 := own_string (P := Tryd.prog) Tryd.underlying83 Tryd.underlying5 Tryd.underlying9 (Kd.own_of_R HO653.out)))
                go_ret
                exact ⟨by first | rfl | (simp [errW_none, errW_some] <;> rfl) | (simp [*, errW_none, errW_some] <;> rfl), by repeat (first | (with_reducible first | exact HB.out | apply below_alloc | apply pw_below_drewN | apply below_drew1) | exact HB.out)⟩
            · rw [if_neg c7] at H
              have c7b0 : ((IntKind.u64.wrap (Int.tdiv x4_1 10)) == 0) = false := beq_eq_false_iff_ne.mpr c7
              have c7b1 : ((IntKind.u64.wrap (Int.tdiv x4_1 10)) != 0) = true := bne_iff_ne.mpr c7
              have H' := Aside0.mk H
              clear H
              go_wp2_with (first | ((with_reducible refine gate_dst (N := 17) rfl ?_); refine Kd.R_lit (Kd.int .u8) _ 5 ?hg (N := 17) ?hd (xs := ([(IntKind.u64.wrap (48 + (Int.tmod x4_1 10))) % 256] : List Int)) (inner := [.int .u8 ((IntKind.u64.wrap (48 + (Int.tmod x4_1 10))) % 256)]) (ok := fun _ => True) (okp := fun _ => True) ?hr ?hp (fun _ hk => hk) trivial (Below.refl _ _) (Nat.le_refl _) (by simp) ?_; (case hd => rfl); (case hg => rfl); (case hr => first | (go_simp; done) | (go_simp; rfl)); (case hp => exact (Reps.one (show Kd.M (Kd.int .u8) _ _ _ ((IntKind.u64.wrap (48 + (Int.tmod x4_1 10))) % 256) [.int .u8 ((IntKind.u64.wrap (48 + (Int.tmod x4_1 10))) % 256)] from rfl) (Reps.none _ _))); intro v649 w24 ho25 hb hg_ hnew_; clear hg_ hnew_; (first | rw [← Ny648.out] at ho25 | (simp only [Int.reduceToNat] at ho25; rw [← Ny648.out] at ho25)); have n0_ := Aside0.mk (Kd.R_elder' (by (with_reducible repeat (first | apply Kd.R_alloc | apply Kd.R_drewN | apply Kd.R_drew)); exact HO_3.out) (Kd.R_base ho25) hb); have n1_ := Aside0.mk (Kd.R_lower (Kd.R_new' ho25 (Kd.R_lt (by (with_reducible repeat (first | apply Kd.R_alloc | apply Kd.R_drewN | apply Kd.R_drew)); exact HO_3.out))) (below_size (by repeat (first | (with_reducible first | exact HB.out | apply below_alloc | apply pw_below_drewN | apply below_drew1) | exact HB.out)))); have n2_ := Aside0.mk (below_step (by repeat (first | (with_reducible first | exact HB.out | apply below_alloc | apply pw_below_drewN | apply below_drew1) | exact HB.out)) hb); clear HO_3; clear HB; have HO_3 := n0_; have HO650 := n1_; have HB := n2_; clear n0_ n1_ n2_; clear hb ho25; obtain ⟨Ao27, co27, eo27⟩ := Kd.R_slice HO_3.out; subst eo27) | ((with_reducible refine gate_builtin (b := .append) (xs := #[.tmp 17, .tmp 18]) rfl ?_); at_builtin; refine Kd.R_append_rows (Kd.int .u8) (w0 := w) w.heap.size rfl (.tmp 17) (.tmp 18) 83 5 (.int .u8 0) 1 rfl Tryd.underlying83 info5 rfl (by decide) (by omega) v649 y648 x3_1 _ _ _ (fun k_ => some k_ ≠ (.slice Ao27 x3_1.length co27 : Value).ownBlock) (fun _ => False) rfl rfl ?aO ?aR (fun _ _ h => h) (fun _ h => h.elim) ?aF ?aB ?aS ?aL ?_; (case aR => repeat (first | exact (Kd.R_reads' HO_3.out).2.2 | (with_reducible refine Kd.C_alloc ?_ _) | (with_reducible refine Kd.C_drewN ?_ _) | (with_reducible refine Kd.C_drew ?_))); (case aB => exact (by repeat (first | (with_reducible first | exact HB.out | apply below_alloc | apply pw_below_drewN | apply below_drew1) | exact HB.out))); (case aF => exact (fun k_ hk => Kd.fresh' (Kd.R_lt (by (with_reducible repeat (first | apply Kd.R_alloc | apply Kd.R_drewN | apply Kd.R_drew)); exact HO_3.out)) k_ hk)); (case aO => exact (by (with_reducible repeat (first | apply Kd.R_alloc | apply Kd.R_drewN | apply Kd.R_drew)); exact Kd.R_mono HO650.out (fun _ hk => hk.2))); (case aS => exact (below_size (by repeat (first | (with_reducible first | exact HB.out | apply below_alloc | apply pw_below_drewN | apply below_drew1) | exact HB.out)))); (case aL => have := LMc6.out; omega); intro v652 w26 ho hb hg hat; rw [← Ny651.out] at ho; have n0_ := Aside0.mk (Kd.R_after (ok := (fun _ => True)) (by (with_reducible repeat (first | apply Kd.R_alloc | apply Kd.R_drewN | apply Kd.R_drew)); exact HO_3.out) hg hat); have n1_ := Aside0.mk (hb); have n2_ := Aside0.mk (ho); clear HO_3; clear HB; clear HO650; have HO_3 := n0_; have HB := n1_; have HO653 := n2_; clear n0_ n1_ n2_; clear ho hb hg hat))
              go_roundg k1
              case measure => have := HK1.out; omega
              case rel => exact ⟨(y651), (IntKind.u64.wrap (Int.tdiv x4_1 10)), (by first | rfl | (simp; done) | (simp [*]; done)), H', ⟨by have := HK1.out; omega⟩, ⟨by (with_reducible repeat (first | apply Kd.R_alloc | apply Kd.R_drewN | apply Kd.R_drew)); exact Kd.R_mono HO653.out (fun _ hk => trivial)⟩, ⟨by repeat (first | (with_reducible first | exact HB.out | apply below_alloc | apply pw_below_drewN | apply below_drew1) | exact HB.out)⟩⟩
          · rw [if_neg c6] at H
            exact absurd H (by simp)

end Go.Proofs.YtfmmjekhknaniaaDoor.Pr
/- What Text of layer 31 answers of a fit congruence, program and reference, in a world that holds the table of powers. Condition: a fit one. -/
namespace Go.Proofs.YtfmmjekhknaniaaDoor.Tx
open Go.RowKit Go.Proofs.YtfmmjekhknaniaaDoor.Core Go.Proofs.YtfmmjekhknaniaaDoor.Pr
set_option linter.unusedSimpArgs false

/-! The world's table of powers. -/
theorem gPow : Tryd.prog.globalNamed "internal/strconv.uint64pow10" = some 1 := by kernel_rfl
def T (w : World) : Prop := Lib.TabIs Tryd.prog w "internal/strconv.uint64pow10" .u64 Lib.pow10Tab
theorem T_below (w W : World) (h : T w) (hb : Below w.heap.size w W) : T W := by
  have hs : 1 < w.heap.size := by
    unfold T Lib.TabIs World.var? at h
    rw [gPow, Option.bind_some] at h
    by_cases h1 : 1 < w.heap.size
    · exact h1
    · rw [Array.getElem?_eq_none (by omega)] at h; cases h
  unfold T Lib.TabIs World.var? at h ⊢
  rw [gPow, Option.bind_some] at h ⊢
  rw [hb.block 1 hs]
  exact h

def tx (n : Int) : ByteArray := ⟨(Lib.itoa n).toArray⟩
theorem fmt58 (n : Int) (h0 : -9223372036854775808 ≤ n) (h1 : n ≤ 9223372036854775807) (w : World) (h : T w) :
    Calls Tryd.prog 58 #[.int .i64 n, .int .i64 10] w fun e w' => e = .returned (.string (tx n)) ∧ Below w.heap.size w w' :=
  (Tryd.strconv_FormatInt_10 n h0 h1 w h).mono fun e w' ⟨he, k, os, hw⟩ => ⟨he, by
    subst hw
    refine ⟨rfl, rfl, rfl, by simp [Sort.grow, World.drewN], fun j hj => ?_⟩
    show (w.heap ++ os)[j]? = w.heap[j]?
    rw [Array.getElem?_append_left hj]⟩

/-! The lengths. -/
theorem dec_len : ∀ (k u : Nat), u < 10 ^ (k + 1) → (Lib.decDigits u).length ≤ k + 1
  | 0, u, h => by rw [Lib.decDigits, dif_pos (by omega)]; simp
  | k + 1, u, h => by
    rw [Lib.decDigits]
    split
    · simp
    · have := dec_len k (u / 10) (by rw [Nat.pow_succ] at h; omega)
      simp; omega
theorem tx_size {n : Int} (h : -10000000000 < n) (h' : n < 10000000000) : (tx n).size ≤ 100 := by
  show (Lib.itoa n).toArray.size ≤ 100
  rw [List.size_toArray]
  unfold Lib.itoa
  split
  · have := dec_len 9 n.natAbs (by omega)
    simp; omega
  · have := dec_len 9 n.toNat (by omega)
    omega

/-! The reference's digits. -/
def ds (u : Nat) : List Int := (Lib.decDigits u).map fun b => (b.toNat : Int)
def sg (a : Int) : List Int := if a < 0 then [45] else []
theorem u64_in {n : Int} (h : 0 ≤ n) (k : n ≤ 18446744073709551615) : IntKind.u64.wrap n = n := by rw [IntKind.wrap_u64]; omega
theorem dig (u : Nat) (h : u < 1099511627776) : (IntKind.u64.wrap (48 + (Int.tmod (u : Int) 10))) % 256 = ((UInt8.ofNat (48 + u % 10)).toNat : Int) := by
  have e : Int.tmod (u : Int) 10 = ((u % 10 : Nat) : Int) := by rw [Int.tmod_eq_emod_of_nonneg (by omega)]; omega
  rw [e, u64_in (by omega) (by omega)]
  have : (UInt8.ofNat (48 + u % 10)).toNat = 48 + u % 10 := by
    rw [UInt8.toNat_ofNat']; omega
  rw [this]; omega
theorem quo (u : Nat) (h : u < 1099511627776) : IntKind.u64.wrap (Int.tdiv (u : Int) 10) = ((u / 10 : Nat) : Int) := by
  have e : Int.tdiv (u : Int) 10 = ((u / 10 : Nat) : Int) := by rw [Int.tdiv_eq_ediv_of_nonneg (by omega)]; omega
  rw [e, u64_in (by omega) (by omega)]
theorem rtext_l0 (a : Int) : ∀ (k u : Nat) (acc : List Int), u ≤ k → u < 1099511627776 → acc.length + u < 70368744177664 →
    gimbalref01_Text.l0 (k + 1) a acc (u : Int) = some (strOfNums (sg a ++ (ds u ++ acc)))
  | k, u, acc, hk, hu, hl => by
    rw [gimbalref01_Text.l0, dig u hu, quo u hu, Option.bind_some, if_pos (by simp; omega), Option.bind_some]
    by_cases h10 : u < 10
    · have e0 : u / 10 = 0 := by omega
      have ed : ds u = [((UInt8.ofNat (48 + u % 10)).toNat : Int)] := by
        unfold ds
        rw [Lib.decDigits, dif_pos h10, Nat.mod_eq_of_lt h10]
        rfl
      rw [e0, if_pos (show ((0 : Nat) : Int) = 0 from rfl), ed]
      unfold sg
      by_cases ha : a < 0
      · rw [if_pos ha, if_pos ha, Option.bind_some, if_pos (by simp; omega)]
      · rw [if_neg ha, if_neg ha]; rfl
    · have e0 : ¬ ((u / 10 : Nat) : Int) = 0 := by omega
      rw [if_neg e0]
      match k, hk with
      | k + 1, hk =>
        have ed : ds u = ds (u / 10) ++ [((UInt8.ofNat (48 + u % 10)).toNat : Int)] := by
          unfold ds
          rw [Lib.decDigits, dif_neg h10, List.map_append]
          rfl
        rw [rtext_l0 a k (u / 10) _ (by omega) (by omega) (by simp; omega), ed]
        simp only [List.append_assoc]
      | 0, hk => omega
theorem rtext01_f (n : Int) (h : -10000000000 < n) (h' : n < 10000000000) : gimbalref01_Text.f 10000000001 n = some (tx n) := by
  have hf : gimbalref01_Fit.f n = some n := by
    unfold gimbalref01_Fit.f
    rw [if_neg (by omega), if_neg (by omega)]
  have hz : gimbalref01_size.f n = some ((n.natAbs : Nat) : Int) := by
    unfold gimbalref01_size.f
    by_cases hn : n < 0
    · rw [if_pos hn, ← IntWalk.i64_left, IntWalk.i64_in _ (by omega), u64_in (by omega) (by omega)]; congr 1; omega
    · rw [if_neg hn, u64_in (by omega) (by omega)]; congr 1; omega
  unfold gimbalref01_Text.f
  rw [hf, Option.bind_some, if_neg (by omega), if_neg (by omega), hz, Option.bind_some, rtext_l0 n 10000000000 n.natAbs [] (by omega) (by omega) (by simp; omega)]
  congr 1
  rw [List.append_nil]
  unfold sg ds tx Lib.itoa
  by_cases hn : n < 0
  · rw [if_pos hn, if_pos hn, ← Lib.Lz.strOfNums_map]; rfl
  · rw [if_neg hn, if_neg hn, ← Lib.Lz.strOfNums_map, show n.natAbs = n.toNat by omega]; rfl
theorem rtext01 (n : Int) (h : -10000000000 < n) (h' : n < 10000000000) (w : World) : Calls Tryd.prog 59 #[.int .i64 n] w fun e w' => e = .returned (.string (tx n)) ∧ Below w.heap.size w w' :=
  gimbalref01_Text.calls _ n _ w (rtext01_f n h h')

set_option maxRecDepth 100000 in
theorem kind90 (n : Int) (h : -10000000000 < n) (h' : n < 10000000000) (w : World) : Calls Tryd.prog 90 #[.int .i64 n] w fun e w' => e = .returned (.int .i64 0) ∧ w' = w := by
  have a1 : ¬ n ≥ 4611686018427387904 := by omega
  have a2 : ¬ n ≤ -4611686018427387904 := by omega
  go_enter Tryd.func90, Tryd.ntmps90
  go_wp2
  go_ret
  exact ⟨rfl, rfl⟩
set_option maxRecDepth 100000 in
theorem btext57 (n : Int) (h : -10000000000 < n) (h' : n < 10000000000) (w : World) (hT : T w) : Calls Tryd.prog 57 #[.int .i64 n] w fun e w' => e = .returned (.string (tx n)) ∧ Below w.heap.size w w' := by
  go_enter Tryd.func57, Tryd.ntmps57
  go_wp2_with (first | (go_at_call 90; with_reducible refine (kind90 n h h' _).mono ?_; rintro e w' ⟨rfl, rfl⟩) | (go_at_call 58; with_reducible refine (fmt58 n (by omega) (by omega) _ hT).mono ?_; rintro e w' ⟨rfl, hb⟩))
  go_ret
  exact ⟨rfl, hb⟩

/-- The text of a congruence. -/
def textS (c : Cg) : ByteArray :=
  if c.1 = true then ⟨#[110, 111, 110, 101]⟩ else if c.2.1 = 0 then tx c.2.2 else if c.2.1 = 1 then ⟨#[97, 108, 108]⟩ else tx c.2.2 ++ ⟨#[32, 109, 111, 100, 32]⟩ ++ tx c.2.1

set_option maxRecDepth 100000 in
set_option maxHeartbeats 4000000 in
theorem text16 (c : Cg) (hc : Fit c) (w : World) (hT : T w) : Calls Tryd.prog 16 #[.agg #[.bool c.1, .int .i64 c.2.1, .int .i64 c.2.2]] w fun e w' => e = .returned (.string (textS c)) ∧ Below w.heap.size w w' := by
  have hr := fit_mod hc
  obtain ⟨c0, m, r⟩ := c
  simp only at hr
  unfold textS
  dsimp only
  cases c0 with
  | true =>
    rw [if_pos rfl]
    go_enter Tryd.func16, Tryd.ntmps16
    go_wp2
    go_ret
    exact ⟨rfl, (Below.refl _ _).alloc (Nat.le_refl _) _⟩
  | false =>
    rw [if_neg (by simp)]
    by_cases h0 : m = 0
    · subst h0
      rw [if_pos rfl]
      have hT2 : T (w.alloc (.cells #[.bool false, .int .i64 0, .int .i64 r] 23)) := T_below _ _ hT ((Below.refl _ _).alloc (Nat.le_refl _) _)
      go_enter Tryd.func16, Tryd.ntmps16
      go_wp2_with (go_at_call 57; with_reducible refine (btext57 r (by omega) (by omega) _ hT2).mono ?_; rintro e w' ⟨rfl, hb⟩)
      go_ret
      exact ⟨rfl, ((Below.refl _ _).alloc (Nat.le_refl _) _).trans (hb.mono (by simp))⟩
    · rw [if_neg h0]
      by_cases h1 : m = 1
      · subst h1
        rw [if_pos rfl]
        go_enter Tryd.func16, Tryd.ntmps16
        go_wp2
        go_ret
        exact ⟨rfl, (Below.refl _ _).alloc (Nat.le_refl _) _⟩
      · rw [if_neg h1]
        exact text_mod T T_below m r (tx r) (tx m) h0 h1 (tx_size (by omega) (by omega)) (tx_size (by omega) (by omega)) (fun w hw => fmt58 r (by omega) (by omega) w hw) (fun w hw => fmt58 m (by omega) (by omega) w hw) w hT

set_option maxRecDepth 100000 in
set_option maxHeartbeats 4000000 in
theorem text17 (c : Cg) (hc : Fit c) (w : World) : Calls Tryd.prog 17 #[.agg #[.bool c.1, .int .i64 c.2.1, .int .i64 c.2.2]] w fun e w' => e = .returned (.string (textS c)) ∧ Below w.heap.size w w' := by
  have hr := fit_mod hc
  obtain ⟨c0, m, r⟩ := c
  simp only at hr
  unfold textS
  dsimp only
  cases c0 with
  | true =>
    rw [if_pos rfl]
    go_enter Tryd.func17, Tryd.ntmps17
    go_wp2
    go_ret
    exact ⟨rfl, (Below.refl _ _).alloc (Nat.le_refl _) _⟩
  | false =>
    rw [if_neg (by simp)]
    by_cases h0 : m = 0
    · subst h0
      rw [if_pos rfl]
      go_enter Tryd.func17, Tryd.ntmps17
      go_wp2_with (go_at_call 59; with_reducible refine (rtext01 r (by omega) (by omega) _).mono ?_; rintro e w' ⟨rfl, hb⟩)
      go_ret
      exact ⟨rfl, ((Below.refl _ _).alloc (Nat.le_refl _) _).trans (hb.mono (by simp))⟩
    · rw [if_neg h0]
      by_cases h1 : m = 1
      · subst h1
        rw [if_pos rfl]
        go_enter Tryd.func17, Tryd.ntmps17
        go_wp2
        go_ret
        exact ⟨rfl, (Below.refl _ _).alloc (Nat.le_refl _) _⟩
      · rw [if_neg h1]
        exact rtext_mod m r (tx r) (tx m) h0 h1 (tx_size (by omega) (by omega)) (tx_size (by omega) (by omega)) (fun w => rtext01 r (by omega) (by omega) w) (fun w => rtext01 m (by omega) (by omega) w) w
end Go.Proofs.YtfmmjekhknaniaaDoor.Tx
/- The law's own awake: true, in every world. No condition. -/
namespace Go.Proofs.YtfmmjekhknaniaaDoor.Given
open Go.RowKit Go.Proofs.YtfmmjekhknaniaaDoor.Pr Go.Proofs.YtfmmjekhknaniaaDoor.Core
attribute [local go_sem high] eqA23

theorem of811 (w : World) : Calls Tryd.prog 10 #[.int .i64 8, .int .i64 11] w fun e w' => e = .returned (.agg #[.bool false, .int .i64 8, .int .i64 3]) ∧ Below w.heap.size w w' :=
  congr_Of.calls 1 8 11 false 8 3 w (by rw [Of_f (by omega) (by omega) (by omega) (by omega) 0]; decide +kernel)
theorem has833 (w : World) : Calls Tryd.prog 14 #[.agg #[.bool false, .int .i64 8, .int .i64 3], .int .i64 (-5)] w fun e w' => e = .returned (.bool true) ∧ Below w.heap.size w w' :=
  congr_Has.calls 8 false 8 3 (-5) true w (by decide +kernel)

def gimballaw31_awake.f : Option Bool := some true
set_option maxRecDepth 100000 in
theorem gimballaw31_awake.calls (r : Bool) (w : World) (h : gimballaw31_awake.f = some r) :
    Calls Tryd.prog 18 #[] w fun e w' => e = .returned (.bool r) ∧ Below w.heap.size w w' := by
  obtain rfl : true = r := Option.some.inj h
  clear h
  have hb0 := Below.refl w.heap.size w
  go_enter Tryd.func18, Tryd.ntmps18
  go_wp2_with (first | (go_at_call 10; with_reducible refine (of811 _).mono ?_; rintro e w' ⟨rfl, hb⟩; replace hb0 := hb0.trans (hb.mono hb0.size); clear hb) | (go_at_call 14; with_reducible refine (has833 _).mono ?_; rintro e w' ⟨rfl, hb⟩; replace hb0 := hb0.trans (hb.mono hb0.size); clear hb) | (go_at_call 16; with_reducible refine (congr_Text.calls false 8 3 _ _ rfl).mono ?_; rintro e w' ⟨rfl, hb⟩; replace hb0 := hb0.trans (hb.mono hb0.size); clear hb))
  go_ret
  exact ⟨rfl, hb0⟩
end Go.Proofs.YtfmmjekhknaniaaDoor.Given
namespace Go.Proofs.YtfmmjekhknaniaaDoor.Tx
open Go.ChangeShapes Go.WideShapes Go.ChangeAt Go.RowKit Go.Deep Go.Proofs.YtfmmjekhknaniaaDoor.Core Go.Proofs.YtfmmjekhknaniaaDoor.Pr Go.Proofs.YtfmmjekhknaniaaDoor.Given
set_option maxRecDepth 100000

theorem tabT {W : World} (h : laidMet Tryd.prog Rows.congrMakesRow.laid W) : T W :=
  Lib.tabIs_of_head (rest := [("gimbal/bound.ends", Rows.laid_gimbal_bound_ends)]) gPow (show _ = some 94 by kernel_rfl) Tryd.underlying94 Tryd.underlying54 (by kernel_rfl) (by kernel_rfl) h.tail.tail

theorem law (m r x : Int) (c : Cg) (hm : I64 m) (hr : I64 r) (hx : I64 x) (h1 : I64 c.2.1) (h2 : I64 c.2.2) (w : World) (hT : T w) :
    Calls Tryd.prog 3 #[.int .i64 m, .int .i64 r, .agg #[.bool c.1, .int .i64 c.2.1, .int .i64 c.2.2], .int .i64 x] w fun e w' => e = .returned (.bool true) ∧ Below w.heap.size w w' := by
  have hab : 0 ≤ ab m := by unfold ab; split <;> omega
  have ho : Fit (norm (ab m) r) := fit_norm hab
  have bo := fit_mod ho
  have aw : ∀ w, Calls Tryd.prog 18 #[] w fun e w' => e = .returned (.bool true) ∧ Below w.heap.size w w' := fun w => gimballaw31_awake.calls true w rfl
  have of1 : ∀ w, Calls Tryd.prog 10 #[.int .i64 m, .int .i64 r] w fun e w' => e = .returned (.agg #[.bool (norm (ab m) r).1, .int .i64 (norm (ab m) r).2.1, .int .i64 (norm (ab m) r).2.2]) ∧ Below w.heap.size w w' :=
    fun w => congr_Of.calls 1 m r _ _ _ w (Of_f hm.1 hm.2 hr.1 hr.2 0)
  have of2 : ∀ w, Calls Tryd.prog 11 #[.int .i64 m, .int .i64 r] w fun e w' => e = .returned (.agg #[.bool (norm (ab m) r).1, .int .i64 (norm (ab m) r).2.1, .int .i64 (norm (ab m) r).2.2]) ∧ Below w.heap.size w w' :=
    fun w => gimbalref31_Of.calls 8 m r _ _ _ w (rOf_f hm.1 hm.2 hr.1 hr.2 0)
  have fo : ∀ w, Calls Tryd.prog 13 #[.agg #[.bool (norm (ab m) r).1, .int .i64 (norm (ab m) r).2.1, .int .i64 (norm (ab m) r).2.2]] w fun e w' => e = .returned (.bool true) ∧ Below w.heap.size w w' :=
    fun w => gimbalref31_Fit.calls 8 _ _ _ true w (by rw [rFit_f _ (by unfold I64; omega) (by unfold I64; omega) 0, fitB_iff.mpr ho])
  by_cases hc : Fit c
  · have fc1 : ∀ w, Calls Tryd.prog 12 #[.agg #[.bool c.1, .int .i64 c.2.1, .int .i64 c.2.2]] w fun e w' => e = .returned (.bool true) ∧ Below w.heap.size w w' :=
      fun w => congr_Fit.calls 8 _ _ _ true w (by rw [Fit_f c h1 h2 0, fitB_iff.mpr hc])
    have fc2 : ∀ w, Calls Tryd.prog 13 #[.agg #[.bool c.1, .int .i64 c.2.1, .int .i64 c.2.2]] w fun e w' => e = .returned (.bool true) ∧ Below w.heap.size w w' :=
      fun w => gimbalref31_Fit.calls 8 _ _ _ true w (by rw [rFit_f c h1 h2 0, fitB_iff.mpr hc])
    exact makes_fit T T_below m r x _ _ _ _ _ _ (memB c x) (textS c) of1 of2 fc1 fc2 fo (fun w => congr_Has.calls 8 _ _ _ x _ w (Has_f hc hx 0)) (fun w => gimbalref31_Has.calls 8 _ _ _ x _ w (rHas_f hc hx 0)) (fun w hw => text16 c hc w hw) (fun w => text17 c hc w) aw w hT
  · have hf : fitB c = false := by
      cases hb : fitB c with
      | false => rfl
      | true => exact absurd (fitB_iff.mp hb) hc
    have fc1 : ∀ w, Calls Tryd.prog 12 #[.agg #[.bool c.1, .int .i64 c.2.1, .int .i64 c.2.2]] w fun e w' => e = .returned (.bool false) ∧ Below w.heap.size w w' :=
      fun w => congr_Fit.calls 8 _ _ _ false w (by rw [Fit_f c h1 h2 0, hf])
    have fc2 : ∀ w, Calls Tryd.prog 13 #[.agg #[.bool c.1, .int .i64 c.2.1, .int .i64 c.2.2]] w fun e w' => e = .returned (.bool false) ∧ Below w.heap.size w w' :=
      fun w => gimbalref31_Fit.calls 8 _ _ _ false w (by rw [rFit_f c h1 h2 0, hf])
    exact makes_unfit m r x _ _ _ _ _ _ of1 of2 fc1 fc2 fo aw w

theorem makes_contract (H : Type) (enc : TypeId × Value → H) (W : World) (base : Nat) (args : Array Value) (ds gs : List (DataW H)) (before : List MemPlace)
    (hval : ∀ (j : Nat) t v, Tryd.f3.params[j]? = some t → args[j]? = some v → Value.okWide Tryd.prog W .any base t v)
    (hW : DataW.Whole enc Tryd.prog Tryd.f3.params.toList Rows.congrMakesSpec.vars false W args.toList ds gs before) (hL : laidMetH Tryd.prog Rows.congrMakesRow.laid W) :
    Calls Tryd.prog 3 args W fun e W' => ∃ v, e = .returned v ∧ Rows.congrMakesSpec.post enc Tryd.prog Tryd.f3 false true false false W args v W' := by
  have hW' := hW
  have hlt := hW.lt
  obtain ⟨p, q, hA0, hV, rfl, hfz, hnd⟩ := hW
  have hA : DataW.TrodAll enc Tryd.prog W 0 (fun _ => true) true Tryd.f3.params.toList args.toList ds p := hA0
  rw [Tryd.params3] at hA hval
  obtain ⟨v0, v1, v2, v3, d0, d1, d2, d3, p0, p1, p2, p3, rfl, rfl, rfl, h0, h1, h2, h3⟩ := trodAll_four hA
  obtain ⟨rfl, rfl⟩ := trodVars_none hV
  clear hA0
  obtain ⟨m, rfl, rfl, rfl, wm⟩ := open_int Tryd.underlying2 (hval 0 2 v0 rfl rfl) h0
  obtain ⟨r, rfl, rfl, rfl, wr⟩ := open_int Tryd.underlying2 (hval 1 2 v1 rfl rfl) h1
  obtain ⟨c, hv, i1, i2⟩ := open_cg (hval 2 23 v2 rfl rfl) h2
  subst hv
  obtain ⟨x, rfl, rfl, rfl, wx⟩ := open_int Tryd.underlying2 (hval 3 2 v3 rfl rfl) h3
  refine (law m r x c (i64_of wm) (i64_of wr) (i64_of wx) i1 i2 W (tabT hL)).mono fun e W' ⟨he, hb⟩ => ?_
  subst he
  have h2' := hb.trod laidOut read23 size23 h2 (fun y hy => hlt y (by simp [hy]))
  exact ⟨_, rfl, _, _, _, [], _, [], hW', trodAll_mk1 (shut_bool Tryd.underlying4 _), trodAll_mk4 (shut_int Tryd.underlying2 wm) (shut_int Tryd.underlying2 wr) h2' (shut_int Tryd.underlying2 wx), rfl, hb.frame _, fun h => by cases h⟩
noncomputable def congrMakes_world (os : Os) : World := World.laidAll Tryd.prog os Rows.congrMakesRow.laid
theorem congrMakes_laid_met (os : Os) : laidMet Tryd.prog Rows.congrMakesRow.laid ((congrMakes_world os).forCall (fun _ _ => 0) ⟨#[], #[.int .i64 0, .int .i64 0, .agg #[.bool false, .int .i64 0, .int .i64 0], .int .i64 0], []⟩).memory :=
  laidMet_laidAll _ (by kernel_rfl) (by kernel_rfl)
theorem congrMakes_reads (os : Os) {H : Type} (enc : TypeId × Value → H) : ∃ places, DataW.whole enc Tryd.prog ((congrMakes_world os).forCall (fun _ _ => 0) ⟨#[], #[.int .i64 0, .int .i64 0, .agg #[.bool false, .int .i64 0, .int .i64 0], .int .i64 0], []⟩).memory Tryd.f3.params.toList Rows.congrMakesSpec.vars false (#[.int .i64 0, .int .i64 0, .agg #[.bool false, .int .i64 0, .int .i64 0], .int .i64 0] : Array Value).toList 8 = some ([.lit (.int .i64 0), .lit (.int .i64 0), .agg [.lit (.bool false), .lit (.int .i64 0), .lit (.int .i64 0)], .lit (.int .i64 0)], [], places) :=
  ⟨[], by kernel_rfl⟩
theorem congrMakes_lifted (os : Os) (started : os.Started) (H : Type) (enc : TypeId × Value → H) (F : Stop.Interp) :
    ReturnsInHanded {} Tryd.checked os 3 .any ((OpenSpec.ofChange Rows.congrMakesSpec).preRow enc Tryd.prog Tryd.f3 Rows.congrMakesRow.domain false Rows.congrMakesRow.laid) (((OpenSpec.ofChange Rows.congrMakesSpec).at F).post enc Tryd.prog Tryd.f3 false true false false) := by
  obtain ⟨places, hx⟩ := congrMakes_reads os enc
  refine returnsInHanded_of_row (C := Tryd.checked) (s := OpenSpec.ofChange Rows.congrMakesSpec) own started (by kernel_rfl) Tryd.func3
    (witness_row_at (enc := enc) (C := Tryd.checked) false (congrMakes_world os) #[.int .i64 0, .int .i64 0, .agg #[.bool false, .int .i64 0, .int .i64 0], .int .i64 0] (World.laidAll_os _ _ _) (by kernel_rfl) (by kernel_rfl) (by kernel_rfl)
      (OpenSpec.preRow_of_cond 8 hx (by kernel_rfl) (fun k hk => by cases hk) (by kernel_rfl) (congrMakes_laid_met os))) ?_
  intro W base args ds gs before hval hW _ _ _ hL _ _
  exact makes_contract H enc W base args ds gs before hval hW hL
theorem congrMakes_said : Rows.CongrMakesSaid :=
  OpenClaim.holds_of_cond 3 Tryd.f3 rfl rfl rfl rfl rfl rfl rfl ⟨rfl, rfl, rfl, rfl, rfl⟩ rfl rfl rfl rfl rfl (by kernel_rfl) Tryd.func3 (by kernel_rfl)
    (of_decide_eq_true (by kernel_rfl)) (by unfold Func.isWrapper; first | (rw [if_pos (by decide +kernel)]; kernel_rfl) | (rw [if_neg (by decide +kernel)]; exact ⟨rfl, rfl⟩))
    (fun os started H enc _ F => by rw [OpenClaim.pre_eq_preRow]; exact congrMakes_lifted os started H enc F)
theorem congrMakes_plain (f : FuncId) (fn : Func) (hf : Tryd.pinned.checked.prog.funcNamed "gimbal/gimballaw31.CongrMakes" = some f) (hfn : Tryd.pinned.checked.prog.funcs[f]? = some fn) :
    false = Tryd.pinned.checked.prog.looks [] ∧ ∀ (j : Nat) t, fn.params[j]? = some t → Tryd.pinned.checked.prog.wantsStandIn t = false := by
  obtain rfl : f = 3 := Option.some.inj ((show Tryd.prog.funcNamed "gimbal/gimballaw31.CongrMakes" = some 3 by kernel_rfl).symm.trans hf) |>.symm
  obtain rfl : fn = Tryd.f3 := (Option.some.inj (Tryd.func3.symm.trans hfn)).symm
  refine ⟨by kernel_rfl, fun j t ht => ?_⟩
  rw [Tryd.params3] at ht
  have hts : t = 2 ∨ t = 23 ∨ t = 2 := by simpa using Array.mem_of_getElem? ht
  rcases hts with rfl | rfl | rfl
  · exact (show Tryd.prog.wantsStandIn 2 = false by kernel_rfl)
  · exact (show Tryd.prog.wantsStandIn 23 = false by kernel_rfl)
  · exact (show Tryd.prog.wantsStandIn 2 = false by kernel_rfl)

/-- The card. -/
theorem congrMakes_card : Rows.CongrMakesCardSaid :=
  Claim7.holds_tied_plain_at .later [] _ _ _ _ congrMakes_said (fun _ h => by cases h) (by kernel_rfl) (fun _ h => by cases h) congrMakes_row_tie rfl ⟨rfl, rfl⟩ (by kernel_rfl) rfl congrMakes_plain (by kernel_rfl)
#print axioms congrMakes_card
end Go.Proofs.YtfmmjekhknaniaaDoor.Tx
namespace Go.Proofs.YtfmmjekhknaniaaDoor
theorem CongrMakes_holds : Rows.CongrMakesCardSaid := Tx.congrMakes_card
end Go.Proofs.YtfmmjekhknaniaaDoor
