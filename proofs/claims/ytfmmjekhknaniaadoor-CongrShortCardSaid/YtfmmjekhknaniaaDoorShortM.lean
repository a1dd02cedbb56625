/-
  gimballaw31.CongrShort returns true, whatever the row of congruences, in every world in which the listed tables read as listed: the row, and its card (the tables tied to the program's text). No further condition.
-/
import Derived.Test.YtfmmjekhknaniaaDoorShortM0
import Derived.Test.YtfmmjekhknaniaaDoorCards
import Derived.Test.YtfmmjekhknaniaaDoorTie
import Derived.WalkKit
import Derived.ProofKit
import Derived.OpenShut
import Derived.Deep.DeepHandedRow
import Derived.Deep.Slices
import Derived.Deep.Strs
import Derived.Carry
import Derived.Lay
import Derived.Test.YtfmmjekhknaniaaDoorCore
/- What the small functions of layer 31 answer, in plain words: sizes, rests, the fit congruence of a modulus and a number, gcd. Conditions: the numbers' ranges. -/
namespace Go.Proofs.YtfmmjekhknaniaaDoor.Core
open Go.RowKit Go.Proofs.YtfmmjekhknaniaaDoor.Pr Go.Proofs.YtfmmjekhknaniaaDoorW.PrintWords

theorem w64_id {n : Int} (h : -9223372036854775808 ≤ n) (h' : n ≤ 9223372036854775807) : wrap64 n = n := by unfold wrap64; omega
theorem u64_id {n : Int} (h : 0 ≤ n) (h' : n ≤ 18446744073709551615) : IntKind.u64.wrap n = n := by rw [IntKind.wrap_u64]; omega

/-- a number without its sign. -/
def ab (x : Int) : Int := if x < 0 then -x else x
theorem ab_nonneg (x : Int) : 0 ≤ ab x := by unfold ab; split <;> omega
theorem dvd_ab {g x : Int} : g ∣ ab x ↔ g ∣ x := by unfold ab; split <;> simp
theorem ab_of_nonneg {x : Int} (h : 0 ≤ x) : ab x = x := by unfold ab; rw [if_neg (by omega)]

theorem size_f {x : Int} (h1 : -9223372036854775808 ≤ x) (h2 : x ≤ 9223372036854775807) : congr_size.f x = some (ab x) := by
  unfold congr_size.f ab
  split
  · rw [IntKind.wrap_u64, IntKind.wrap_u64]; congr 1; omega
  · rw [IntKind.wrap_u64]; congr 1; omega

theorem rsize_f {x : Int} (h1 : -9223372036854775808 ≤ x) (h2 : x ≤ 9223372036854775807) : gimbalref31_size.f x = some (ab x) := by
  unfold gimbalref31_size.f ab
  split
  · rw [IntKind.wrap_u64, IntKind.wrap_u64]; unfold wrap64; congr 1; omega
  · rw [IntKind.wrap_u64]; congr 1; omega

theorem emod_unique {x m r : Int} (h0 : 0 ≤ r) (h1 : r < m) (h : m ∣ x - r) : x % m = r := by
  have h2 := (Int.emod_eq_emod_iff_emod_sub_eq_zero (m := x) (n := m) (k := r)).mpr (Int.emod_eq_zero_of_dvd h)
  rw [h2, Int.emod_eq_of_lt h0 h1]

theorem rest_f {x m : Int} (h1 : -9223372036854775808 ≤ x) (h2 : x ≤ 9223372036854775807) (h3 : 0 < m) (h4 : m ≤ 18446744073709551615) : congr_rest.f x m = some (x % m) := by
  unfold congr_rest.f
  rw [size_f h1 h2]
  simp only [Option.bind_some]
  rw [if_neg (by omega), Int.tmod_eq_emod_of_nonneg (ab_nonneg x)]
  have e0 := Int.emod_nonneg (ab x) (show m ≠ 0 by omega)
  have e1 := Int.emod_lt_of_pos (ab x) h3
  have e2 := emod_dvd_sub m (ab x)
  by_cases hx : x < 0
  · have ha : ab x = -x := by unfold ab; rw [if_pos hx]
    rw [if_pos hx]
    by_cases hp : ab x % m > 0
    · rw [if_pos hp, u64_id (by omega) (by omega)]
      congr 1
      refine (emod_unique (by omega) (by omega) ?_).symm
      have := Int.dvd_add (Int.dvd_neg.mpr e2) (Int.dvd_neg.mpr (Int.dvd_refl m))
      rwa [show -(ab x - ab x % m) + -m = x - (m - ab x % m) by omega] at this
    · rw [if_neg hp]
      congr 1
      have hz : ab x % m = 0 := by omega
      rw [hz] at e2 ⊢
      refine (emod_unique (by omega) (by omega) ?_).symm
      have := Int.dvd_neg.mpr e2
      rwa [show -(ab x - 0) = x - 0 by omega] at this
  · rw [if_neg hx, ab_of_nonneg (by omega)]

theorem constant_f (x : Int) : congr_constant.f x = some (norm 0 x) := by
  unfold congr_constant.f congr_none.f norm
  rw [if_pos rfl]
  by_cases h : x < -2147483648
  · rw [if_pos h, if_neg (show ¬ In32 x by unfold In32; omega)]; rfl
  · rw [if_neg h]
    by_cases h' : x > 2147483647
    · rw [if_pos h', if_neg (show ¬ In32 x by unfold In32; omega)]; rfl
    · rw [if_neg h', if_pos (show In32 x by unfold In32; omega)]

theorem of_j0 {m r g : Int} (k : Nat) (h3 : 0 < m) (h4 : m ≤ 18446744073709551615) (h5 : 0 ≤ r) (h6 : r < m) (hg : g = (r + 2147483648) % m) :
    congr_of.j0 (k + 1) m r g = some (norm m r) := by
  have e0 := Int.emod_nonneg (r + 2147483648) (show m ≠ 0 by omega)
  have e1 := Int.emod_lt_of_pos (r + 2147483648) h3
  simp only [congr_of.j0, congr_none.f, norm]
  rw [if_neg (show ¬ m = 0 by omega), ← hg]
  rw [← hg] at e0 e1
  by_cases c1 : g > 4294967295
  · rw [if_pos c1, if_pos (by omega)]; rfl
  · rw [if_neg c1, if_neg (show ¬ (-2147483648 + g > 2147483647) by omega), w64_id (n := g) (by omega) (by omega), w64_id (n := -2147483648 + g) (by omega) (by omega), w64_id (n := 2147483647 - (-2147483648 + g)) (by omega) (by omega), u64_id (by omega) (by omega)]
    by_cases c2 : 2147483647 - (-2147483648 + g) < m
    · rw [if_pos c2, if_pos (by omega)]
    · rw [if_neg c2, if_neg (by omega), w64_id (by omega) (by omega), w64_id (by omega) (by omega), Int.emod_eq_of_lt h5 h6]

theorem of_f {m r : Int} (h3 : 0 < m) (h4 : m ≤ 18446744073709551615) (h5 : 0 ≤ r) (h6 : r < m) (k : Nat) : congr_of.f (k + 1) m r = some (norm m r) := by
  unfold congr_of.f
  rw [rest_f (by omega) (by omega) h3 h4]
  simp only [Option.bind_some]
  have e0 := Int.emod_nonneg (-2147483648) (show m ≠ 0 by omega)
  have e1 := Int.emod_lt_of_pos (-2147483648) h3
  have e2 := emod_dvd_sub m (-2147483648)
  generalize (-2147483648) % m = low at *
  by_cases c : r < low
  · rw [if_pos c, u64_id (n := m - low) (by omega) (by omega), u64_id (n := r + (m - low)) (by omega) (by omega)]
    refine of_j0 k h3 h4 h5 h6 (emod_unique (by omega) (by omega) ?_).symm
    have := Int.dvd_neg.mpr (Int.dvd_add e2 (Int.dvd_refl m))
    rwa [show -(-2147483648 - low + m) = r + 2147483648 - (r + (m - low)) by omega] at this
  · rw [if_neg c, u64_id (by omega) (by omega)]
    refine of_j0 k h3 h4 h5 h6 (emod_unique (by omega) (by omega) ?_).symm
    have := Int.dvd_neg.mpr e2
    rwa [show -(-2147483648 - low) = r + 2147483648 - (r - low) by omega] at this

theorem norm_emod {m r : Int} (h : 0 < m) : norm m (r % m) = norm m r :=
  norm_congr (by omega) (dvd_sub_comm' (emod_dvd_sub m r))

theorem by_f {m r : Int} (h3 : 0 ≤ m) (h4 : m ≤ 18446744073709551615) (h1 : -9223372036854775808 ≤ r) (h2 : r ≤ 9223372036854775807) (k : Nat) : congr_by.f (k + 1) m r = some (norm m r) := by
  unfold congr_by.f
  by_cases c : m = 0
  · rw [if_pos c, constant_f, c]; rfl
  · have h0 : 0 < m := by omega
    rw [if_neg c, rest_f h1 h2 h0 h4]
    simp only [Option.bind_some]
    rw [of_f h0 h4 (Int.emod_nonneg _ c) (Int.emod_lt_of_pos _ h0), norm_emod h0]; rfl

theorem Of_f {m r : Int} (h3 : -9223372036854775808 ≤ m) (h4 : m ≤ 9223372036854775807) (h1 : -9223372036854775808 ≤ r) (h2 : r ≤ 9223372036854775807) (k : Nat) : congr_Of.f (k + 1) m r = some (norm (ab m) r) := by
  unfold congr_Of.f
  by_cases c : m = 0
  · subst c
    rw [if_pos rfl, constant_f]; rfl
  · have h0 : 0 < ab m := by unfold ab; split <;> omega
    have h5 : ab m ≤ 9223372036854775808 := by unfold ab; split <;> omega
    rw [if_neg c, size_f h3 h4]
    simp only [Option.bind_some]
    rw [rest_f h1 h2 h0 (by omega)]
    simp only [Option.bind_some]
    rw [of_f h0 (by omega) (Int.emod_nonneg _ (by omega)) (Int.emod_lt_of_pos _ h0), norm_emod h0]; rfl

end Go.Proofs.YtfmmjekhknaniaaDoor.Core
/- What the reference's class, Of, Fit and Has of layer 31 answer, and gcd. Conditions: the numbers' ranges. -/
namespace Go.Proofs.YtfmmjekhknaniaaDoor.Core
open Go.RowKit Go.Proofs.YtfmmjekhknaniaaDoor.Pr Go.Proofs.YtfmmjekhknaniaaDoorW.PrintWords
set_option linter.unusedSimpArgs false

theorem first_of {g v : Int} (h0 : 0 ≤ v) (h1 : v < g) :
    (v ≤ 2147483647 → g - v ≤ 2147483648 → -2147483648 + (v + 2147483648) % g ≤ v - g) ∧
    (v ≤ 2147483647 → ¬ g - v ≤ 2147483648 → -2147483648 + (v + 2147483648) % g = v) ∧
    (¬ v ≤ 2147483647 → g - v ≤ 2147483648 → -2147483648 + (v + 2147483648) % g = v - g ∨ (-2147483648 + (v + 2147483648) % g ≤ v - g - g)) ∧
    (¬ v ≤ 2147483647 → ¬ g - v ≤ 2147483648 → -2147483648 + (v + 2147483648) % g = v) := by
  have hg : 0 < g := by omega
  have e0 := Int.emod_nonneg (v + 2147483648) (show g ≠ 0 by omega)
  have e1 := Int.emod_lt_of_pos (v + 2147483648) hg
  have hd := first_dvd g v
  have fl : -2147483648 ≤ -2147483648 + (v + 2147483648) % g := by omega
  have fu : -2147483648 + (v + 2147483648) % g < -2147483648 + g := by omega
  generalize -2147483648 + (v + 2147483648) % g = f at *
  have hd' := dvd_sub_comm' hd
  have hm : g ∣ v - g - f := by
    have := Int.dvd_sub hd' (Int.dvd_refl g)
    rwa [show v - f - g = v - g - f by omega] at this
  have key1 : ¬ (g - v ≤ 2147483648) → f = v := fun h => by
    have a := ge_of_dvd hg hd (by omega)
    rcases eq_or_step hg hd a with h' | h' <;> omega
  have key2 : g - v ≤ 2147483648 → f = v - g ∨ f ≤ v - g - g := fun h => by
    have a : f ≤ v - g := ge_of_dvd hg hm (by omega)
    rcases eq_or_step hg hm a with h' | h' <;> omega
  refine ⟨fun _ h => ?_, fun _ h => key1 h, fun _ h => key2 h, fun _ h => key1 h⟩
  rcases key2 h with h' | h' <;> omega

theorem class_j2 {g v : Int} (h0 : 0 ≤ v) (h1 : v < g) (h2 : g ≤ 18446744073709551615) (k : Nat) :
    gimbalref31_class.j2 (k + 7) g v = some (norm g v) := by
  obtain ⟨fa, fb, fc, fd⟩ := first_of h0 h1
  have hr : v % g = v := Int.emod_eq_of_lt h0 h1
  unfold norm
  rw [if_neg (show ¬ g = 0 by omega), hr]
  by_cases c1 : v ≤ 2147483647
  · have w1 : wrap64 v = v := w64_id (by omega) (by omega)
    by_cases c2 : g - v ≤ 2147483648
    · have f1 := fa c1 c2
      have w2 : IntKind.u64.wrap (g - v) = g - v := u64_id (by omega) (by omega)
      have w3 : wrap64 (g - v) = g - v := w64_id (by omega) (by omega)
      have w4 : wrap64 (-(g - v)) = -(g - v) := w64_id (by omega) (by omega)
      have w5 : wrap64 g = g := w64_id (by omega) (by omega)
      rw [if_neg (by omega), if_neg (by omega)]
      simp [gimbalref31_class.j2, gimbalref31_class.j3, gimbalref31_class.j4, gimbalref31_class.j5, gimbalref31_class.j6, gimbalref31_class.j7, gimbalref31_class.j8, c1, c2, w1, w2, w3, w4, w5]
    · have f1 := fb c1 c2
      have w2 : IntKind.u64.wrap (g - v) = g - v := u64_id (by omega) (by omega)
      have w3 : IntKind.u64.wrap v = v := u64_id (by omega) (by omega)
      have w4 : IntKind.u64.wrap (2147483647 - v) = 2147483647 - v := u64_id (by omega) (by omega)
      have n1 : ¬ v < 0 := by omega
      rw [f1, if_neg (by omega)]
      by_cases c3 : g ≤ 2147483647 - v
      · have w5 : wrap64 g = g := w64_id (by omega) (by omega)
        rw [if_neg (by omega)]
        simp [gimbalref31_class.j2, gimbalref31_class.j3, gimbalref31_class.j4, gimbalref31_class.j5, gimbalref31_class.j6, gimbalref31_class.j7, gimbalref31_class.j8, rd, c1, c2, c3, w1, w2, w3, w4, w5, h0]
      · rw [if_pos (by omega)]
        simp [gimbalref31_class.j2, gimbalref31_class.j3, gimbalref31_class.j4, gimbalref31_class.j5, gimbalref31_class.j6, gimbalref31_class.j7, gimbalref31_class.j8, rd, c1, c2, c3, w1, w2, w3, w4, h0, n1]
  · by_cases c2 : g - v ≤ 2147483648
    · have f1 := fc c1 c2
      have w2 : IntKind.u64.wrap (g - v) = g - v := u64_id (by omega) (by omega)
      have w3 : wrap64 (g - v) = g - v := w64_id (by omega) (by omega)
      have w4 : wrap64 (-(g - v)) = -(g - v) := w64_id (by omega) (by omega)
      have w6 : gimbalref31_size.f (-(g - v)) = some (g - v) := by
        rw [rsize_f (by omega) (by omega)]; unfold ab; rw [if_pos (by omega)]; congr 1; omega
      have w7 : IntKind.u64.wrap (2147483648 - (g - v)) = 2147483648 - (g - v) := u64_id (by omega) (by omega)
      have n1 : ¬ 0 ≤ -(g - v) := by omega
      have n2 : -(g - v) < 0 := by omega
      by_cases c3 : g ≤ 2147483648 - (g - v)
      · have hf : -2147483648 + (v + 2147483648) % g ≤ v - g - g := by
          have e1 := Int.emod_lt_of_pos (v + 2147483648) (show 0 < g by omega)
          rcases f1 with f1 | f1 <;> omega
        have w5 : wrap64 g = g := w64_id (by omega) (by omega)
        have w8 : wrap64 v = v := w64_id (by omega) (by omega)
        rw [if_neg (by omega), if_neg (by omega)]
        simp only [gimbalref31_class.j2, gimbalref31_class.j3, gimbalref31_class.j4, gimbalref31_class.j5, gimbalref31_class.j6, gimbalref31_class.j7, gimbalref31_class.j8]
        rw [if_neg c1, w2, if_pos c2, w3, w4]
        simp [rd, n1, n2, w6, w7, c3, w5, w8]
        rw [if_neg (by omega), if_pos h1]
      · have hf : -2147483648 + (v + 2147483648) % g = v - g := by
          have e0 := Int.emod_nonneg (v + 2147483648) (show g ≠ 0 by omega)
          rcases f1 with f1 | f1 <;> omega
        rw [hf, if_neg (by omega), if_pos (by omega)]
        simp only [gimbalref31_class.j2, gimbalref31_class.j3, gimbalref31_class.j4, gimbalref31_class.j5, gimbalref31_class.j6, gimbalref31_class.j7, gimbalref31_class.j8]
        rw [if_neg c1, w2, if_pos c2, w3, w4]
        simp [rd, n1, n2, w6, w7, c3]
        rw [if_neg (by omega), show -(g - v) = v - g by omega]
    · have f1 := fd c1 c2
      have w2 : IntKind.u64.wrap (g - v) = g - v := u64_id (by omega) (by omega)
      rw [f1, if_pos (by omega)]
      simp [gimbalref31_class.j2, gimbalref31_class.j3, gimbalref31_class.j4, gimbalref31_class.j5, gimbalref31_class.j6, gimbalref31_class.j7, gimbalref31_class.j8, gimbalref31_None.f, c1, c2, w2]

theorem class_f {g r : Int} (below : Bool) (h0 : 0 ≤ g) (h1 : g ≤ 18446744073709551615) (h2 : 0 ≤ r) (h3 : r ≤ 18446744073709551615) (k : Nat) :
    gimbalref31_class.f (k + 8) g r below = some (norm g (if below = true then -r else r)) := by
  unfold gimbalref31_class.f
  by_cases c : g = 0
  · subst c
    rw [if_pos rfl]
    have hz : norm 0 (if below = true then -r else r) = if In32 (if below = true then -r else r) then (false, 0, if below = true then -r else r) else (true, 0, 0) := by unfold norm; rw [if_pos rfl]
    rw [hz]
    cases below
    · simp only [Bool.false_eq_true, if_false]
      by_cases d : r ≤ 2147483647
      · rw [if_pos (show In32 r by unfold In32; omega)]
        simp [gimbalref31_class.j0, d, w64_id (n := r) (by omega) (by omega)]
      · rw [if_neg (show ¬ In32 r by unfold In32; omega)]
        simp [gimbalref31_class.j0, gimbalref31_None.f, d]
    · simp only [if_true]
      by_cases d : r ≤ 2147483648
      · rw [if_pos (show In32 (-r) by unfold In32; omega)]
        simp [gimbalref31_class.j0, d, w64_id (n := r) (by omega) (by omega), w64_id (n := -r) (by omega) (by omega)]
      · rw [if_neg (show ¬ In32 (-r) by unfold In32; omega)]
        simp [gimbalref31_class.j0, gimbalref31_None.f, d]
  · rw [if_neg c, Int.tmod_eq_emod_of_nonneg h2]
    have e0 := Int.emod_nonneg r c
    have e1 := Int.emod_lt_of_pos r (show 0 < g by omega)
    cases below
    · simp only [Bool.false_eq_true, if_false]
      simp only [gimbalref31_class.j1, Bool.false_eq_true, if_false]
      rw [class_j2 e0 e1 h1, norm_emod (by omega)]
    · simp only [if_true]
      by_cases d : r % g = 0
      · simp only [gimbalref31_class.j1, d, bne_self_eq_false, Bool.false_eq_true, if_false]
        rw [class_j2 (by omega) (by omega) h1]
        congr 1
        refine norm_congr h0 ?_
        have := Int.dvd_of_emod_eq_zero d
        rwa [show 0 - -r = r by omega]
      · have hb : (r % g != 0) = true := by simp [d]
        simp only [gimbalref31_class.j1, hb, if_true]
        rw [u64_id (by omega) (by omega), class_j2 (by omega) (by omega) h1]
        congr 1
        refine norm_congr h0 ?_
        have := Int.dvd_add (Int.dvd_refl g) (emod_dvd_sub g r)
        rwa [show g + (r - r % g) = g - r % g - -r by omega] at this

theorem ab_sign (r : Int) : (if decide (r < 0) = true then -ab r else ab r) = r := by
  unfold ab
  by_cases h : r < 0
  · simp [h]
  · simp [h]

/-- the class of a number with its sign. -/
theorem class_ab {g r : Int} (h0 : 0 ≤ g) (h1 : g ≤ 18446744073709551615) (h2 : -9223372036854775808 ≤ r) (h3 : r ≤ 9223372036854775807) (k : Nat) :
    gimbalref31_class.f (k + 8) g (ab r) (decide (r < 0)) = some (norm g r) := by
  rw [class_f _ h0 h1 (ab_nonneg r) (by unfold ab; split <;> omega), ab_sign]

theorem rOf_f {m r : Int} (h3 : -9223372036854775808 ≤ m) (h4 : m ≤ 9223372036854775807) (h1 : -9223372036854775808 ≤ r) (h2 : r ≤ 9223372036854775807) (k : Nat) :
    gimbalref31_Of.f (k + 8) m r = some (norm (ab m) r) := by
  unfold gimbalref31_Of.f
  rw [rsize_f h3 h4]
  simp only [Option.bind_some]
  rw [rsize_f h1 h2]
  simp only [Option.bind_some]
  rw [class_ab (ab_nonneg m) (by unfold ab; split <;> omega) h1 h2]; rfl

open Classical in
/-- is it in its one form? -/
noncomputable def fitB (c : Cg) : Bool := decide (Fit c)
open Classical in
noncomputable def memB (c : Cg) (x : Int) : Bool := decide (Mem c x)
theorem fitB_iff {c : Cg} : fitB c = true ↔ Fit c := by unfold fitB; simp
theorem memB_iff {c : Cg} {x : Int} : memB c x = true ↔ Mem c x := by unfold memB; simp

/-- a congruence's parts are int64. -/
def I64 (x : Int) : Prop := -9223372036854775808 ≤ x ∧ x ≤ 9223372036854775807

theorem fit_iff_norm {c : Cg} (hn : c.1 = false) (hm : 0 ≤ c.2.1) : Fit c ↔ norm c.2.1 c.2.2 = c :=
  ⟨fun h => norm_self h hn, fun h => h ▸ fit_norm hm⟩

theorem beq_bool {a b : Bool} (h : a = true ↔ b = true) : a = b := by cases a <;> cases b <;> simp_all

theorem eq3 (c d : Cg) : (c.1 == d.1 && (c.2.1 == d.2.1 && (c.2.2 == d.2.2))) = true ↔ c = d := by
  obtain ⟨c1, c2, c3⟩ := c
  obtain ⟨d1, d2, d3⟩ := d
  simp

theorem rFit_f (c : Cg) (h1 : I64 c.2.1) (h2 : I64 c.2.2) (k : Nat) : gimbalref31_Fit.f (k + 8) c.1 c.2.1 c.2.2 = some (fitB c) := by
  unfold I64 at h1 h2
  unfold gimbalref31_Fit.f
  by_cases hn : c.1 = true
  · rw [if_pos hn]
    by_cases hm : c.2.1 = 0
    · rw [if_pos hm]
      congr 1
      refine beq_bool ?_
      rw [fitB_iff, beq_iff_eq]
      constructor
      · intro h
        have : c = (true, 0, 0) := by obtain ⟨a, b, d⟩ := c; simp only at *; subst hn hm h; rfl
        rw [this]; exact fit_none
      · intro h
        rw [fit_of_none h hn]
    · rw [if_neg hm]
      congr 1
      refine beq_bool ?_
      rw [fitB_iff]
      simp only [Bool.false_eq_true, false_iff]
      intro h
      rw [fit_of_none h hn] at hm
      exact hm rfl
  · have hn' : c.1 = false := by simpa using hn
    rw [if_neg hn]
    by_cases hm : c.2.1 ≥ 0
    · rw [if_pos hm, rOf_f h1.1 h1.2 h2.1 h2.2]
      simp only [Option.bind_some]
      congr 1
      refine beq_bool ?_
      rw [fitB_iff, fit_iff_norm hn' hm, ab_of_nonneg hm, eq3]
      exact ⟨fun h => h.symm, fun h => h.symm⟩
    · rw [if_neg hm]
      congr 1
      refine beq_bool ?_
      rw [fitB_iff]
      simp only [Bool.false_eq_true, false_iff]
      intro h
      have := fit_mod h
      omega

theorem Fit_f (c : Cg) (h1 : I64 c.2.1) (h2 : I64 c.2.2) (k : Nat) : congr_Fit.f (k + 8) c.1 c.2.1 c.2.2 = some (fitB c) := by
  unfold I64 at h1 h2
  unfold congr_Fit.f
  by_cases hn : c.1 = true
  · rw [if_pos hn]
    simp only [congr_none.f, Option.bind_some]
    congr 1
    refine beq_bool ?_
    rw [fitB_iff, eq3 c (true, 0, 0)]
    exact ⟨fun h => h ▸ fit_none, fun h => fit_of_none h hn⟩
  · have hn' : c.1 = false := by simpa using hn
    rw [if_neg hn]
    by_cases hm : c.2.1 ≥ 0
    · rw [if_pos hm, Of_f h1.1 h1.2 h2.1 h2.2]
      simp only [Option.bind_some]
      congr 1
      refine beq_bool ?_
      rw [fitB_iff, fit_iff_norm hn' hm, ab_of_nonneg hm, eq3]
    · rw [if_neg hm]
      congr 1
      refine beq_bool ?_
      rw [fitB_iff]
      simp only [Bool.false_eq_true, false_iff]
      intro h
      have := fit_mod h
      omega

theorem emod_zero_iff {m x : Int} : x % m = 0 ↔ m ∣ x := ⟨Int.dvd_of_emod_eq_zero, Int.emod_eq_zero_of_dvd⟩
theorem tmod_zero_iff {m x : Int} : Int.tmod x m = 0 ↔ m ∣ x := ⟨Int.dvd_of_tmod_eq_zero, Int.tmod_eq_zero_of_dvd⟩

theorem Has_f {c : Cg} (h : Fit c) {x : Int} (hx : I64 x) (k : Nat) : congr_Has.f (k + 8) c.1 c.2.1 c.2.2 x = some (memB c x) := by
  have hr := fit_rem h
  unfold I64 at hx
  have no : ¬ Mem c x → memB c x = false := fun hn => by
    cases hb : memB c x
    · rfl
    · exact absurd (memB_iff.mp hb) hn
  unfold congr_Has.f
  by_cases hn : c.1 = true
  · rw [if_pos hn, no (fun hm => by rw [hm.1] at hn; cases hn)]
    simp [congr_Has.j0]
  · have hn' : c.1 = false := by simpa using hn
    rw [if_neg hn]
    by_cases h1 : x < -2147483648
    · rw [if_pos h1, no (fun hm => by have := hm.2.1; unfold In32 at this; omega)]
      simp [congr_Has.j0]
    · rw [if_neg h1]
      by_cases h2 : x > 2147483647
      · rw [no (fun hm => by have := hm.2.1; unfold In32 at this; omega)]
        simp [congr_Has.j0, h2]
      · have hd : decide (x > 2147483647) = false := by simpa using h2
        rw [hd]
        simp only [congr_Has.j0, Bool.false_eq_true, if_false]
        by_cases h0 : c.2.1 = 0
        · rw [if_pos h0]
          congr 1
          refine beq_bool ?_
          rw [memB_iff, beq_iff_eq]
          unfold Mem
          rw [h0, Int.zero_dvd]
          exact ⟨fun e => ⟨hn', by unfold In32; omega, by omega⟩, fun e => by omega⟩
        · rw [if_neg h0, u64_id (n := c.2.1) (by omega) (by omega), rest_f hx.1 hx.2 (by omega) (by omega)]
          simp only [Option.bind_some]
          rw [u64_id (by omega) (by omega)]
          congr 1
          refine beq_bool ?_
          rw [memB_iff, beq_iff_eq]
          unfold Mem
          constructor
          · intro e
            refine ⟨hn', by unfold In32; omega, ?_⟩
            have := emod_dvd_sub c.2.1 x
            rwa [e] at this
          · rintro ⟨_, _, hd⟩
            exact emod_unique (by omega) (by omega) hd

theorem rHas_f {c : Cg} (h : Fit c) {x : Int} (hx : I64 x) (k : Nat) : gimbalref31_Has.f (k + 8) c.1 c.2.1 c.2.2 x = some (memB c x) := by
  have hr := fit_rem h
  unfold I64 at hx
  have no : ¬ Mem c x → memB c x = false := fun hn => by
    cases hb : memB c x
    · rfl
    · exact absurd (memB_iff.mp hb) hn
  unfold gimbalref31_Has.f
  by_cases hn : c.1 = true
  · rw [if_pos hn, no (fun hm => by rw [hm.1] at hn; cases hn)]
    simp [gimbalref31_Has.j0]
  · have hn' : c.1 = false := by simpa using hn
    rw [if_neg hn]
    by_cases h1 : x < -2147483648
    · rw [if_pos h1, no (fun hm => by have := hm.2.1; unfold In32 at this; omega)]
      simp [gimbalref31_Has.j0]
    · rw [if_neg h1]
      by_cases h2 : x > 2147483647
      · rw [no (fun hm => by have := hm.2.1; unfold In32 at this; omega)]
        simp [gimbalref31_Has.j0, h2]
      · have hd : decide (x > 2147483647) = false := by simpa using h2
        rw [hd]
        simp only [gimbalref31_Has.j0, Bool.false_eq_true, if_false]
        by_cases h0 : c.2.1 = 0
        · rw [if_pos h0]
          congr 1
          refine beq_bool ?_
          rw [memB_iff, beq_iff_eq]
          unfold Mem
          rw [h0, Int.zero_dvd]
          exact ⟨fun e => ⟨hn', by unfold In32; omega, by omega⟩, fun e => by omega⟩
        · rw [if_neg h0, w64_id (by omega) (by omega)]
          congr 1
          refine beq_bool ?_
          rw [memB_iff, beq_iff_eq, tmod_zero_iff]
          unfold Mem
          exact ⟨fun e => ⟨hn', by unfold In32; omega, e⟩, fun e => e.2.2⟩

/-- the gcd, as a number. -/
def G (a b : Int) : Int := (Int.gcd a b : Int)
theorem G_nonneg (a b : Int) : 0 ≤ G a b := Int.natCast_nonneg _
theorem dvd_G {d a b : Int} : d ∣ G a b ↔ d ∣ a ∧ d ∣ b := by unfold G; exact Int.dvd_coe_gcd_iff
theorem G_dvd_l (a b : Int) : G a b ∣ a := Int.gcd_dvd_left ..
theorem G_dvd_r (a b : Int) : G a b ∣ b := Int.gcd_dvd_right ..
theorem G_le {a b m : Int} (ha : 0 ≤ a) (hb : 0 ≤ b) (hm : a ≤ m) (hm' : b ≤ m) : G a b ≤ m := by
  by_cases h : a = 0
  · by_cases h' : b = 0
    · subst h h'; simp [G]; omega
    · exact Int.le_trans (Int.le_of_dvd (by omega) (G_dvd_r a b)) hm'
  · exact Int.le_trans (Int.le_of_dvd (by omega) (G_dvd_l a b)) hm
theorem G_zero (a : Int) (h : 0 ≤ a) : G a 0 = a := by unfold G; rw [Int.gcd_zero]; omega
theorem G_step (a b : Int) : G b (a % b) = G a b := by
  refine Int.dvd_antisymm (G_nonneg _ _) (G_nonneg _ _) ?_ ?_
  · rw [dvd_G]
    have h := G_dvd_r b (a % b)
    have h' := G_dvd_l b (a % b)
    refine ⟨?_, h'⟩
    have := Int.dvd_add (Int.dvd_trans h' (emod_dvd_sub b a)) h
    rwa [show a - a % b + a % b = a by omega] at this
  · rw [dvd_G]
    have h := G_dvd_l a b
    have h' := G_dvd_r a b
    refine ⟨h', ?_⟩
    have := Int.dvd_sub h (Int.dvd_trans h' (emod_dvd_sub b a))
    rwa [show a - (a - a % b) = a % b by omega] at this

theorem gcd_l0 : ∀ (n : Nat) (a b : Int), 0 ≤ a → 0 ≤ b → b ≤ n → ∀ k, congr_gcd_uint64.l0 (k + n + 1) a b = some (G a b)
  | 0, a, b, ha, hb, hn, k => by
    obtain rfl : b = 0 := by omega
    simp only [Nat.add_zero, congr_gcd_uint64.l0, if_true]
    rw [G_zero a ha]
  | n + 1, a, b, ha, hb, hn, k => by
    by_cases h : b = 0
    · subst h
      rw [show k + (n + 1) + 1 = (k + n + 1) + 1 by omega]
      simp only [congr_gcd_uint64.l0, if_true]
      rw [G_zero a ha]
    · rw [show k + (n + 1) + 1 = (k + n + 1) + 1 by omega]
      have e0 : congr_gcd_uint64.l0 (k + n + 1 + 1) a b = if b = 0 then some a else congr_gcd_uint64.l0 (k + n + 1) b (Int.tmod a b) := rfl
      rw [e0]
      have e1 := Int.emod_lt_of_pos a (show 0 < b by omega)
      rw [if_neg h, Int.tmod_eq_emod_of_nonneg ha, gcd_l0 n b (a % b) hb (Int.emod_nonneg a h) (by omega) k, G_step]

theorem rgcd_l0 : ∀ (n : Nat) (a b : Int), 0 ≤ a → 0 ≤ b → b ≤ n → ∀ k, gimbalref31_gcd.l0 (k + n + 1) a b = some (G a b)
  | 0, a, b, ha, hb, hn, k => by
    obtain rfl : b = 0 := by omega
    simp only [Nat.add_zero, gimbalref31_gcd.l0, if_true]
    rw [G_zero a ha]
  | n + 1, a, b, ha, hb, hn, k => by
    by_cases h : b = 0
    · subst h
      rw [show k + (n + 1) + 1 = (k + n + 1) + 1 by omega]
      simp only [gimbalref31_gcd.l0, if_true]
      rw [G_zero a ha]
    · rw [show k + (n + 1) + 1 = (k + n + 1) + 1 by omega]
      have e0 : gimbalref31_gcd.l0 (k + n + 1 + 1) a b = if b = 0 then some a else gimbalref31_gcd.l0 (k + n + 1) b (Int.tmod a b) := rfl
      rw [e0]
      have e1 := Int.emod_lt_of_pos a (show 0 < b by omega)
      rw [if_neg h, Int.tmod_eq_emod_of_nonneg ha, rgcd_l0 n b (a % b) hb (Int.emod_nonneg a h) (by omega) k, G_step]

theorem gcd_f {a b : Int} (ha : 0 ≤ a) (hb : 0 ≤ b) : Ev (fun k => congr_gcd_uint64.f k a b) (G a b) :=
  ⟨b.toNat + 1, fun k hk => by
    obtain ⟨j, rfl⟩ : ∃ j, k = j + b.toNat + 1 := ⟨k - b.toNat - 1, by omega⟩
    exact gcd_l0 b.toNat a b ha hb (by omega) j⟩
theorem rgcd_f {a b : Int} (ha : 0 ≤ a) (hb : 0 ≤ b) : Ev (fun k => gimbalref31_gcd.f k a b) (G a b) :=
  ⟨b.toNat + 1, fun k hk => by
    obtain ⟨j, rfl⟩ : ∃ j, k = j + b.toNat + 1 := ⟨k - b.toNat - 1, by omega⟩
    exact rgcd_l0 b.toNat a b ha hb (by omega) j⟩

end Go.Proofs.YtfmmjekhknaniaaDoor.Core
/- What is reckoned of congruences, in plain words, and what that says of their numbers. No program in sight. -/
namespace Go.Proofs.YtfmmjekhknaniaaDoor.Core

def Sub (a b : Cg) : Prop := ∀ x, Mem a x → Mem b x
open Classical in
noncomputable def leqB (a b : Cg) : Bool := decide (Sub a b)
theorem leqB_iff {a b : Cg} : leqB a b = true ↔ Sub a b := by unfold leqB; simp
theorem Sub.refl (a : Cg) : Sub a a := fun _ h => h
theorem Sub.trans {a b c : Cg} (h : Sub a b) (k : Sub b c) : Sub a c := fun x hx => k x (h x hx)
theorem Sub.none {a : Cg} (b : Cg) (h : a.1 = true) : Sub a b := fun x hx => by rw [hx.1] at h; cases h
theorem sub_antisymm {a b : Cg} (ha : Fit a) (hb : Fit b) (h : Sub a b) (k : Sub b a) : a = b := fit_ext ha hb fun x => ⟨h x, k x⟩
theorem none_of_sub {a b : Cg} (ha : Fit a) (h : Sub a b) (hb : b.1 = true) : a = (true, 0, 0) := by
  by_cases hn : a.1 = true
  · exact fit_of_none ha hn
  · obtain ⟨x, hx⟩ := fit_some ha (by simpa using hn)
    have := (h x hx).1
    rw [hb] at this; cases this

theorem bfalse {b : Bool} (h : ¬ b = true) : b = false := by simpa using h

/-- one is within another, if its modulus and remainder are. -/
theorem sub_of {a b : Cg} (hb : b.1 = false) (h1 : b.2.1 ∣ a.2.1) (h2 : b.2.1 ∣ a.2.2 - b.2.2) : Sub a b :=
  fun _ hx => ⟨hb, hx.2.1, dvd_sub_trans (Int.dvd_trans h1 hx.2.2) h2⟩

theorem norm_none {g r : Int} (hg : 0 ≤ g) (h : ∃ x, In32 x ∧ g ∣ x - r) : (norm g r).1 = false := by
  obtain ⟨x, hx⟩ := h
  exact ((mem_norm hg).mpr hx).1

def joinS (a b : Cg) : Cg := if a.1 = true then b else if b.1 = true then a else norm (G (G a.2.1 b.2.1) (a.2.2 - b.2.2)) a.2.2
def negS (a : Cg) : Cg := if a.1 = true then (true, 0, 0) else norm a.2.1 (-a.2.2)
def addS (a b : Cg) : Cg := if a.1 = true then (true, 0, 0) else if b.1 = true then (true, 0, 0) else norm (G a.2.1 b.2.1) (a.2.2 + b.2.2)
def subS (a b : Cg) : Cg := if a.1 = true then (true, 0, 0) else if b.1 = true then (true, 0, 0) else norm (G a.2.1 b.2.1) (a.2.2 - b.2.2)
def mulG (a b : Cg) : Int := G (G (a.2.1 * b.2.1) (a.2.1 * ab b.2.2)) (b.2.1 * ab a.2.2)
def mulS (a b : Cg) : Cg := if a.1 = true then (true, 0, 0) else if b.1 = true then (true, 0, 0) else norm (mulG a b) (a.2.2 * b.2.2)
def divS (a b : Cg) : Cg :=
  if a.1 = true then (true, 0, 0) else if b.1 = true then (true, 0, 0) else if b.2.1 = 0 ∧ b.2.2 = 0 then (true, 0, 0)
  else if b.2.1 ≠ 0 then (false, 1, 0)
  else if a.2.1 = 0 ∨ (b.2.2 ∣ a.2.1 ∧ b.2.2 ∣ a.2.2) then norm (ab (Int.tdiv a.2.1 b.2.2)) (Int.tdiv a.2.2 b.2.2)
  else (false, 1, 0)
def modS (a b : Cg) : Cg :=
  if a.1 = true then (true, 0, 0) else if b.1 = true then (true, 0, 0) else if b.2.1 = 0 ∧ b.2.2 = 0 then (true, 0, 0)
  else if a.2.1 = 0 ∧ b.2.1 = 0 then norm 0 (Int.tmod a.2.2 b.2.2)
  else norm (G (G a.2.1 b.2.1) b.2.2) a.2.2
def absS (a : Cg) : Cg := if a.1 = true then (true, 0, 0) else if a.2.1 = 0 then norm 0 (ab a.2.2) else joinS a (negS a)

theorem fit_all : Fit (false, 1, 0) := Or.inr (Or.inr ⟨rfl, by simp, by simp, by simp, 0, by unfold In32; omega, by unfold In32; dsimp only; omega, Int.one_dvd _⟩)
theorem mem_all {x : Int} : Mem (false, 1, 0) x ↔ In32 x := by unfold Mem; simp [Int.one_dvd]

theorem fit_join {a b : Cg} (ha : Fit a) (hb : Fit b) : Fit (joinS a b) := by
  unfold joinS; split
  · exact hb
  · split
    · exact ha
    · exact fit_norm (G_nonneg _ _)
theorem fit_neg {a : Cg} (ha : Fit a) : Fit (negS a) := by
  have := fit_mod ha
  unfold negS; split
  · exact fit_none
  · exact fit_norm (by omega)
theorem fit_add (a b : Cg) : Fit (addS a b) := by
  unfold addS; (repeat' split) <;> first | exact fit_none | exact fit_norm (G_nonneg _ _)
theorem fit_sub (a b : Cg) : Fit (subS a b) := by
  unfold subS; (repeat' split) <;> first | exact fit_none | exact fit_norm (G_nonneg _ _)
theorem fit_mul (a b : Cg) : Fit (mulS a b) := by
  unfold mulS mulG; (repeat' split) <;> first | exact fit_none | exact fit_norm (G_nonneg _ _)
theorem fit_div (a b : Cg) : Fit (divS a b) := by
  unfold divS; (repeat' split) <;> first | exact fit_none | exact fit_all | exact fit_norm (ab_nonneg _)
theorem fit_mds (a b : Cg) : Fit (modS a b) := by
  unfold modS; (repeat' split) <;> first | exact fit_none | exact fit_norm (Int.le_refl 0) | exact fit_norm (G_nonneg _ _)
theorem fit_abs {a : Cg} (ha : Fit a) : Fit (absS a) := by
  unfold absS; (repeat' split) <;> first | exact fit_none | exact fit_norm (Int.le_refl 0) | exact fit_join ha (fit_neg ha)

theorem sub_join_l {a b : Cg} : Sub a (joinS a b) := by
  unfold joinS
  by_cases h1 : a.1 = true
  · exact Sub.none _ h1
  · rw [if_neg h1]
    by_cases h2 : b.1 = true
    · rw [if_pos h2]; exact Sub.refl _
    · rw [if_neg h2]
      intro x hx
      rw [mem_norm (G_nonneg _ _)]
      exact ⟨hx.2.1, Int.dvd_trans (Int.dvd_trans (G_dvd_l _ _) (G_dvd_l _ _)) hx.2.2⟩
theorem sub_join_r {a b : Cg} : Sub b (joinS a b) := by
  unfold joinS
  by_cases h1 : a.1 = true
  · rw [if_pos h1]; exact Sub.refl _
  · rw [if_neg h1]
    by_cases h2 : b.1 = true
    · exact Sub.none _ h2
    · rw [if_neg h2]
      intro x hx
      rw [mem_norm (G_nonneg _ _)]
      exact ⟨hx.2.1, dvd_sub_trans (Int.dvd_trans (Int.dvd_trans (G_dvd_l _ _) (G_dvd_r _ _)) hx.2.2) (dvd_sub_comm' (G_dvd_r _ _))⟩
theorem join_least {a b c : Cg} (ha : Fit a) (hb : Fit b) (h : Sub a c) (k : Sub b c) : Sub (joinS a b) c := by
  unfold joinS
  by_cases h1 : a.1 = true
  · rw [if_pos h1]; exact k
  · rw [if_neg h1]
    by_cases h2 : b.1 = true
    · rw [if_pos h2]; exact h
    · rw [if_neg h2]
      obtain ⟨c0, c1, c2⟩ := sub_dvd ha (bfalse h1) h
      obtain ⟨_, d1, d2⟩ := sub_dvd hb (bfalse h2) k
      intro x hx
      rw [mem_norm (G_nonneg _ _)] at hx
      refine ⟨c0, hx.1, dvd_sub_trans (Int.dvd_trans ?_ hx.2) c2⟩
      rw [dvd_G, dvd_G]
      exact ⟨⟨c1, d1⟩, dvd_sub_trans c2 (dvd_sub_comm' d2)⟩
theorem join_mono {a b x y : Cg} (ha : Fit a) (hb : Fit b) (h : Sub a x) (k : Sub b y) : Sub (joinS a b) (joinS x y) :=
  join_least ha hb (h.trans sub_join_l) (k.trans sub_join_r)
theorem join_eq_iff {a b : Cg} (ha : Fit a) (hb : Fit b) : joinS a b = b ↔ Sub a b :=
  ⟨fun h => by have := sub_join_l (a := a) (b := b); rwa [h] at this, fun h => sub_antisymm (fit_join ha hb) hb (join_least ha hb h (Sub.refl _)) sub_join_r⟩

/-- what both have. -/
def IsMeet (a b r : Cg) : Prop := Fit r ∧ ∀ x, Mem r x ↔ Mem a x ∧ Mem b x
theorem IsMeet.unique {a b r s : Cg} (h : IsMeet a b r) (k : IsMeet a b s) : r = s := fit_ext h.1 k.1 fun x => (h.2 x).trans (k.2 x).symm
theorem IsMeet.comm {a b r : Cg} (h : IsMeet a b r) : IsMeet b a r := ⟨h.1, fun x => (h.2 x).trans And.comm⟩

theorem neg_mono {a x : Cg} (ha : Fit a) (hx : Fit x) (h : Sub a x) : Sub (negS a) (negS x) := by
  unfold negS
  by_cases h1 : a.1 = true
  · rw [if_pos h1]; exact Sub.none _ rfl
  · obtain ⟨c0, c1, c2⟩ := sub_dvd ha (bfalse h1) h
    have ma := fit_mod ha
    have mx := fit_mod hx
    rw [if_neg h1, c0, if_neg (by simp)]
    refine norm_sub (by omega) (by omega) c1 ?_
    have := dvd_sub_comm' c2
    rwa [show x.2.2 - a.2.2 = -a.2.2 - -x.2.2 by omega] at this
theorem add_mono {a b x y : Cg} (ha : Fit a) (hb : Fit b) (h : Sub a x) (k : Sub b y) : Sub (addS a b) (addS x y) := by
  unfold addS
  by_cases h1 : a.1 = true
  · rw [if_pos h1]; exact Sub.none _ rfl
  · by_cases h2 : b.1 = true
    · rw [if_neg h1, if_pos h2]; exact Sub.none _ rfl
    · obtain ⟨c0, c1, c2⟩ := sub_dvd ha (bfalse h1) h
      obtain ⟨d0, d1, d2⟩ := sub_dvd hb (bfalse h2) k
      rw [if_neg h1, if_neg h2, c0, d0, if_neg (by simp), if_neg (by simp)]
      refine norm_sub (G_nonneg _ _) (G_nonneg _ _) ?_ ?_
      · rw [dvd_G]; exact ⟨Int.dvd_trans (G_dvd_l _ _) c1, Int.dvd_trans (G_dvd_r _ _) d1⟩
      · have := Int.dvd_add (Int.dvd_trans (G_dvd_l x.2.1 y.2.1) c2) (Int.dvd_trans (G_dvd_r x.2.1 y.2.1) d2)
        rwa [show a.2.2 - x.2.2 + (b.2.2 - y.2.2) = a.2.2 + b.2.2 - (x.2.2 + y.2.2) by omega] at this
theorem sub_mono {a b x y : Cg} (ha : Fit a) (hb : Fit b) (h : Sub a x) (k : Sub b y) : Sub (subS a b) (subS x y) := by
  unfold subS
  by_cases h1 : a.1 = true
  · rw [if_pos h1]; exact Sub.none _ rfl
  · by_cases h2 : b.1 = true
    · rw [if_neg h1, if_pos h2]; exact Sub.none _ rfl
    · obtain ⟨c0, c1, c2⟩ := sub_dvd ha (bfalse h1) h
      obtain ⟨d0, d1, d2⟩ := sub_dvd hb (bfalse h2) k
      rw [if_neg h1, if_neg h2, c0, d0, if_neg (by simp), if_neg (by simp)]
      refine norm_sub (G_nonneg _ _) (G_nonneg _ _) ?_ ?_
      · rw [dvd_G]; exact ⟨Int.dvd_trans (G_dvd_l _ _) c1, Int.dvd_trans (G_dvd_r _ _) d1⟩
      · have := Int.dvd_sub (Int.dvd_trans (G_dvd_l x.2.1 y.2.1) c2) (Int.dvd_trans (G_dvd_r x.2.1 y.2.1) d2)
        rwa [show a.2.2 - x.2.2 - (b.2.2 - y.2.2) = a.2.2 - b.2.2 - (x.2.2 - y.2.2) by omega] at this

theorem mulG_dvd {a b : Cg} {d : Int} : d ∣ mulG a b ↔ d ∣ a.2.1 * b.2.1 ∧ d ∣ a.2.1 * b.2.2 ∧ d ∣ b.2.1 * a.2.2 := by
  unfold mulG
  rw [dvd_G, dvd_G, and_assoc]
  have e : ∀ m r : Int, d ∣ m * ab r ↔ d ∣ m * r := fun m r => by
    unfold ab; split
    · rw [Int.mul_neg, Int.dvd_neg]
    · exact Iff.rfl
  rw [e, e]
/-- of numbers of two classes the products are in the product's class. -/
theorem mul_dvd {a b : Cg} {x y : Int} (h : a.2.1 ∣ x - a.2.2) (k : b.2.1 ∣ y - b.2.2) : mulG a b ∣ x * y - a.2.2 * b.2.2 := by
  obtain ⟨h1, h2, h3⟩ := mulG_dvd.mp (Int.dvd_refl (mulG a b))
  obtain ⟨p, hp⟩ := h
  obtain ⟨q, hq⟩ := k
  have ex : x = a.2.2 + a.2.1 * p := by omega
  have ey : y = b.2.2 + b.2.1 * q := by omega
  have e : x * y - a.2.2 * b.2.2 = (a.2.1 * b.2.1) * (p * q) + (a.2.1 * b.2.2) * p + (b.2.1 * a.2.2) * q := by
    rw [ex, ey]; grind
  rw [e]
  exact Int.dvd_add (Int.dvd_add (Int.dvd_mul_of_dvd_left h1) (Int.dvd_mul_of_dvd_left h2)) (Int.dvd_mul_of_dvd_left h3)
theorem mulG_nonneg (a b : Cg) : 0 ≤ mulG a b := G_nonneg _ _
theorem mul_mono {a b x y : Cg} (ha : Fit a) (hb : Fit b) (h : Sub a x) (k : Sub b y) : Sub (mulS a b) (mulS x y) := by
  unfold mulS
  by_cases h1 : a.1 = true
  · rw [if_pos h1]; exact Sub.none _ rfl
  · by_cases h2 : b.1 = true
    · rw [if_neg h1, if_pos h2]; exact Sub.none _ rfl
    · obtain ⟨c0, c1, c2⟩ := sub_dvd ha (bfalse h1) h
      obtain ⟨d0, d1, d2⟩ := sub_dvd hb (bfalse h2) k
      rw [if_neg h1, if_neg h2, c0, d0, if_neg (by simp), if_neg (by simp)]
      refine norm_sub (mulG_nonneg _ _) (mulG_nonneg _ _) ?_ (mul_dvd c2 d2)
      obtain ⟨g1, g2, g3⟩ := mulG_dvd.mp (Int.dvd_refl (mulG x y))
      rw [mulG_dvd]
      obtain ⟨p, hp⟩ := c1
      obtain ⟨p', hp'⟩ := c2
      obtain ⟨q, hq⟩ := d1
      obtain ⟨q', hq'⟩ := d2
      have ea : a.2.2 = x.2.2 + x.2.1 * p' := by omega
      have eb : b.2.2 = y.2.2 + y.2.1 * q' := by omega
      refine ⟨?_, ?_, ?_⟩
      · rw [hp, hq, show x.2.1 * p * (y.2.1 * q) = x.2.1 * y.2.1 * (p * q) by grind]
        exact Int.dvd_mul_of_dvd_left g1
      · rw [hp, eb, show x.2.1 * p * (y.2.2 + y.2.1 * q') = x.2.1 * y.2.2 * p + x.2.1 * y.2.1 * (p * q') by grind]
        exact Int.dvd_add (Int.dvd_mul_of_dvd_left g2) (Int.dvd_mul_of_dvd_left g1)
      · rw [hq, ea, show y.2.1 * q * (x.2.2 + x.2.1 * p') = y.2.1 * x.2.2 * q + x.2.1 * y.2.1 * (p' * q) by grind]
        exact Int.dvd_add (Int.dvd_mul_of_dvd_left g3) (Int.dvd_mul_of_dvd_left g1)

/-! of numbers of two congruences what is reckoned is in what is reckoned of these -/
theorem mem_add {a b : Cg} {x y : Int} (hx : Mem a x) (hy : Mem b y) (h : In32 (x + y)) : Mem (addS a b) (x + y) := by
  unfold addS
  rw [hx.1, hy.1, if_neg (by simp), if_neg (by simp), mem_norm (G_nonneg _ _)]
  refine ⟨h, ?_⟩
  have := Int.dvd_add (Int.dvd_trans (G_dvd_l a.2.1 b.2.1) hx.2.2) (Int.dvd_trans (G_dvd_r a.2.1 b.2.1) hy.2.2)
  rwa [show x - a.2.2 + (y - b.2.2) = x + y - (a.2.2 + b.2.2) by omega] at this
theorem mem_sub {a b : Cg} {x y : Int} (hx : Mem a x) (hy : Mem b y) (h : In32 (x - y)) : Mem (subS a b) (x - y) := by
  unfold subS
  rw [hx.1, hy.1, if_neg (by simp), if_neg (by simp), mem_norm (G_nonneg _ _)]
  refine ⟨h, ?_⟩
  have := Int.dvd_sub (Int.dvd_trans (G_dvd_l a.2.1 b.2.1) hx.2.2) (Int.dvd_trans (G_dvd_r a.2.1 b.2.1) hy.2.2)
  rwa [show x - a.2.2 - (y - b.2.2) = x - y - (a.2.2 - b.2.2) by omega] at this
theorem mem_mul {a b : Cg} {x y : Int} (hx : Mem a x) (hy : Mem b y) (h : In32 (x * y)) : Mem (mulS a b) (x * y) := by
  unfold mulS
  rw [hx.1, hy.1, if_neg (by simp), if_neg (by simp), mem_norm (mulG_nonneg _ _)]
  exact ⟨h, mul_dvd hx.2.2 hy.2.2⟩
theorem mem_neg {a : Cg} {x : Int} (ha : Fit a) (hx : Mem a x) (h : In32 (-x)) : Mem (negS a) (-x) := by
  have ma := fit_mod ha
  unfold negS
  rw [hx.1, if_neg (by simp), mem_norm (by omega)]
  refine ⟨h, ?_⟩
  have := dvd_sub_comm' hx.2.2
  rwa [show a.2.2 - x = -x - -a.2.2 by omega] at this

theorem tdiv_sub {d m r x : Int} (hd : d ≠ 0) (h1 : d ∣ m) (h2 : d ∣ r) (h : m ∣ x - r) : Int.tdiv m d ∣ Int.tdiv x d - Int.tdiv r d := by
  obtain ⟨m', rfl⟩ := h1
  obtain ⟨r', rfl⟩ := h2
  obtain ⟨q, hq⟩ := h
  have ex : x = d * (r' + m' * q) := by
    have : d * (r' + m' * q) = d * r' + d * m' * q := by grind
    omega
  rw [ex, Int.mul_tdiv_cancel_left _ hd, Int.mul_tdiv_cancel_left _ hd, Int.mul_tdiv_cancel_left _ hd]
  exact ⟨q, by omega⟩

theorem mem_div {a b : Cg} {x y : Int} (hx : Mem a x) (hy : Mem b y) (hy0 : y ≠ 0) (h : In32 (Int.tdiv x y)) : Mem (divS a b) (Int.tdiv x y) := by
  unfold divS
  have hz : ¬ (b.2.1 = 0 ∧ b.2.2 = 0) := by
    rintro ⟨e1, e2⟩
    have := hy.2.2
    rw [e1, e2, Int.zero_dvd] at this
    omega
  rw [hx.1, hy.1, if_neg (by simp), if_neg (by simp), if_neg hz]
  by_cases h1 : b.2.1 ≠ 0
  · rw [if_pos h1]; exact mem_all.mpr h
  · rw [if_neg h1]
    have h1' : b.2.1 = 0 := by omega
    have ey : y = b.2.2 := by have := hy.2.2; rw [h1', Int.zero_dvd] at this; omega
    subst ey
    by_cases h2 : a.2.1 = 0 ∨ (b.2.2 ∣ a.2.1 ∧ b.2.2 ∣ a.2.2)
    · rw [if_pos h2, mem_norm (ab_nonneg _)]
      refine ⟨h, ?_⟩
      have : Int.tdiv a.2.1 b.2.2 ∣ Int.tdiv x b.2.2 - Int.tdiv a.2.2 b.2.2 := by
        rcases h2 with h2 | ⟨h2, h3⟩
        · have e := hx.2.2
          rw [h2, Int.zero_dvd] at e
          rw [show x = a.2.2 by omega, Int.sub_self]; exact Int.dvd_zero _
        · exact tdiv_sub hy0 h2 h3 hx.2.2
      rcases Int.lt_trichotomy (Int.tdiv a.2.1 b.2.2) 0 with e | e | e
      · unfold ab; rw [if_pos e]; exact Int.neg_dvd.mpr this
      · rw [e] at this ⊢; exact this
      · unfold ab; rw [if_neg (by omega)]; exact this
    · rw [if_neg h2]; exact mem_all.mpr h

theorem tmod_dvd {g x y : Int} (h : g ∣ y) : g ∣ Int.tmod x y - x := by
  have e := Int.mul_tdiv_add_tmod x y
  have := Int.dvd_neg.mpr (Int.dvd_mul_of_dvd_left (c := Int.tdiv x y) h)
  rwa [show -(y * x.tdiv y) = x.tmod y - x by omega] at this

theorem mem_mds {a b : Cg} {x y : Int} (hx : Mem a x) (hy : Mem b y) (hy0 : y ≠ 0) (h : In32 (Int.tmod x y)) : Mem (modS a b) (Int.tmod x y) := by
  unfold modS
  have hz : ¬ (b.2.1 = 0 ∧ b.2.2 = 0) := by
    rintro ⟨e1, e2⟩
    have := hy.2.2
    rw [e1, e2, Int.zero_dvd] at this
    omega
  rw [hx.1, hy.1, if_neg (by simp), if_neg (by simp), if_neg hz]
  by_cases h1 : a.2.1 = 0 ∧ b.2.1 = 0
  · rw [if_pos h1, mem_norm (Int.le_refl 0), Int.zero_dvd]
    have e1 := hx.2.2
    have e2 := hy.2.2
    rw [h1.1, Int.zero_dvd] at e1
    rw [h1.2, Int.zero_dvd] at e2
    rw [show a.2.2 = x by omega, show b.2.2 = y by omega]
    exact ⟨h, by omega⟩
  · rw [if_neg h1, mem_norm (G_nonneg _ _)]
    refine ⟨h, ?_⟩
    have d1 := G_dvd_l (G a.2.1 b.2.1) b.2.2
    have d2 := G_dvd_r (G a.2.1 b.2.1) b.2.2
    generalize G (G a.2.1 b.2.1) b.2.2 = g at d1 d2 ⊢
    have dy : g ∣ y := by
      have := Int.dvd_add (Int.dvd_trans (Int.dvd_trans d1 (G_dvd_r _ _)) hy.2.2) d2
      rwa [show y - b.2.2 + b.2.2 = y by omega] at this
    exact dvd_sub_trans (tmod_dvd dy) (Int.dvd_trans (Int.dvd_trans d1 (G_dvd_l _ _)) hx.2.2)

theorem mem_abs {a : Cg} {x : Int} (ha : Fit a) (hx : Mem a x) (h : In32 (ab x)) : Mem (absS a) (ab x) := by
  unfold absS
  rw [hx.1, if_neg (by simp)]
  by_cases h0 : a.2.1 = 0
  · rw [if_pos h0, mem_norm (Int.le_refl 0), Int.zero_dvd]
    have e := hx.2.2
    rw [h0, Int.zero_dvd] at e
    rw [show a.2.2 = x by omega]
    exact ⟨h, by omega⟩
  · rw [if_neg h0]
    unfold ab at h ⊢
    by_cases c : x < 0
    · rw [if_pos c] at h ⊢; exact sub_join_r _ (mem_neg ha hx h)
    · rw [if_neg c]; exact sub_join_l _ hx

theorem div_mono {a b x y : Cg} (ha : Fit a) (hb : Fit b) (h : Sub a x) (k : Sub b y) : Sub (divS a b) (divS x y) := by
  intro z hz
  have hz32 := hz.2.1
  unfold divS at hz ⊢
  by_cases h1 : a.1 = true
  · rw [if_pos h1] at hz; cases hz.1
  rw [if_neg h1] at hz
  by_cases h2 : b.1 = true
  · rw [if_pos h2] at hz; cases hz.1
  rw [if_neg h2] at hz
  by_cases h3 : b.2.1 = 0 ∧ b.2.2 = 0
  · rw [if_pos h3] at hz; cases hz.1
  rw [if_neg h3] at hz
  obtain ⟨c0, c1, c2⟩ := sub_dvd ha (bfalse h1) h
  obtain ⟨d0, d1, d2⟩ := sub_dvd hb (bfalse h2) k
  have hy3 : ¬ (y.2.1 = 0 ∧ y.2.2 = 0) := by
    rintro ⟨e1, e2⟩
    rw [e1, Int.zero_dvd] at d1
    rw [e1, e2, Int.zero_dvd] at d2
    exact h3 ⟨d1, by omega⟩
  rw [c0, d0, if_neg (by simp), if_neg (by simp), if_neg hy3]
  by_cases h4 : y.2.1 ≠ 0
  · rw [if_pos h4]; exact mem_all.mpr hz32
  have h4' : y.2.1 = 0 := by omega
  rw [if_neg h4]
  rw [h4', Int.zero_dvd] at d1
  rw [h4', Int.zero_dvd] at d2
  have ey : y.2.2 = b.2.2 := by omega
  have hd : b.2.2 ≠ 0 := fun e => h3 ⟨d1, e⟩
  rw [if_neg (by omega)] at hz
  rw [ey]
  by_cases h5 : x.2.1 = 0 ∨ (b.2.2 ∣ x.2.1 ∧ b.2.2 ∣ x.2.2)
  · rw [if_pos h5]
    have h6 : a.2.1 = 0 ∨ (b.2.2 ∣ a.2.1 ∧ b.2.2 ∣ a.2.2) := by
      rcases h5 with h5 | ⟨h5, h6⟩
      · rw [h5, Int.zero_dvd] at c1; exact Or.inl c1
      · refine Or.inr ⟨Int.dvd_trans h5 c1, ?_⟩
        have := Int.dvd_add (Int.dvd_trans h5 c2) h6
        rwa [show a.2.2 - x.2.2 + x.2.2 = a.2.2 by omega] at this
    rw [if_pos h6] at hz
    have tab : ∀ {p q : Int}, ab p ∣ q ↔ p ∣ q := fun {p q} => by unfold ab; split <;> simp [Int.neg_dvd]
    refine norm_sub (ab_nonneg _) (ab_nonneg _) ?_ ?_ z hz
    · rw [tab, dvd_ab]
      rcases h5 with h5 | ⟨h5, _⟩
      · rw [h5, Int.zero_dvd] at c1
        rw [c1, Int.zero_tdiv]; exact Int.dvd_zero _
      · obtain ⟨m', hm'⟩ := h5
        obtain ⟨q, hq⟩ := c1
        rw [hq, hm', Int.mul_assoc, Int.mul_tdiv_cancel_left _ hd, Int.mul_tdiv_cancel_left _ hd]
        exact ⟨q, rfl⟩
    · rw [tab]
      rcases h5 with h5 | ⟨h5, h7⟩
      · rw [h5, Int.zero_dvd] at c2
        rw [show a.2.2 = x.2.2 by omega, Int.sub_self]; exact Int.dvd_zero _
      · exact tdiv_sub hd h5 h7 c2
  · rw [if_neg h5]; exact mem_all.mpr hz32

theorem mds_mono {a b x y : Cg} (ha : Fit a) (hb : Fit b) (h : Sub a x) (k : Sub b y) : Sub (modS a b) (modS x y) := by
  intro z hz
  unfold modS at hz ⊢
  by_cases h1 : a.1 = true
  · rw [if_pos h1] at hz; cases hz.1
  rw [if_neg h1] at hz
  by_cases h2 : b.1 = true
  · rw [if_pos h2] at hz; cases hz.1
  rw [if_neg h2] at hz
  by_cases h3 : b.2.1 = 0 ∧ b.2.2 = 0
  · rw [if_pos h3] at hz; cases hz.1
  rw [if_neg h3] at hz
  obtain ⟨c0, c1, c2⟩ := sub_dvd ha (bfalse h1) h
  obtain ⟨d0, d1, d2⟩ := sub_dvd hb (bfalse h2) k
  have hy3 : ¬ (y.2.1 = 0 ∧ y.2.2 = 0) := by
    rintro ⟨e1, e2⟩
    rw [e1, Int.zero_dvd] at d1
    rw [e1, e2, Int.zero_dvd] at d2
    exact h3 ⟨d1, by omega⟩
  rw [c0, d0, if_neg (by simp), if_neg (by simp), if_neg hy3]
  by_cases h4 : x.2.1 = 0 ∧ y.2.1 = 0
  · rw [h4.1, Int.zero_dvd] at c1 c2
    rw [h4.2, Int.zero_dvd] at d1 d2
    rw [if_pos ⟨c1, d1⟩] at hz
    rw [if_pos h4, show x.2.2 = a.2.2 by omega, show y.2.2 = b.2.2 by omega]
    exact hz
  · rw [if_neg h4]
    have g1 := G_dvd_l (G x.2.1 y.2.1) y.2.2
    have g2 := G_dvd_r (G x.2.1 y.2.1) y.2.2
    have gx := Int.dvd_trans g1 (G_dvd_l x.2.1 y.2.1)
    have gy := Int.dvd_trans g1 (G_dvd_r x.2.1 y.2.1)
    have g0 := G_nonneg (G x.2.1 y.2.1) y.2.2
    generalize G (G x.2.1 y.2.1) y.2.2 = g at g1 g2 gx gy g0 ⊢
    have gb : g ∣ b.2.2 := by
      have := Int.dvd_add (Int.dvd_trans gy d2) g2
      rwa [show b.2.2 - y.2.2 + y.2.2 = b.2.2 by omega] at this
    by_cases h5 : a.2.1 = 0 ∧ b.2.1 = 0
    · rw [if_pos h5] at hz
      exact norm_sub (Int.le_refl 0) g0 (Int.dvd_zero _) (dvd_sub_trans (tmod_dvd gb) (Int.dvd_trans gx c2)) z hz
    · rw [if_neg h5] at hz
      refine norm_sub (G_nonneg _ _) g0 ?_ (Int.dvd_trans gx c2) z hz
      rw [dvd_G, dvd_G]
      exact ⟨⟨Int.dvd_trans gx c1, Int.dvd_trans gy d1⟩, gb⟩

theorem abs_mono {a x : Cg} (ha : Fit a) (hx : Fit x) (h : Sub a x) : Sub (absS a) (absS x) := by
  by_cases h1 : a.1 = true
  · unfold absS; rw [if_pos h1]; exact Sub.none _ rfl
  obtain ⟨c0, c1, c2⟩ := sub_dvd ha (bfalse h1) h
  by_cases h0 : a.2.1 = 0
  · intro z hz
    have hz32 := hz.2.1
    unfold absS at hz
    rw [if_neg h1, if_pos h0, mem_norm (Int.le_refl 0), Int.zero_dvd] at hz
    have e : z = ab a.2.2 := by omega
    rw [e] at hz32 ⊢
    refine mem_abs hx (h _ ⟨bfalse h1, ?_, by rw [Int.sub_self]; exact Int.dvd_zero _⟩) hz32
    have := fit_rem ha
    unfold In32; omega
  · have hx0 : x.2.1 ≠ 0 := fun e => by rw [e, Int.zero_dvd] at c1; exact h0 c1
    unfold absS
    rw [if_neg h1, if_neg h0, c0, if_neg (by simp), if_neg hx0]
    exact join_mono ha (fit_neg ha) h (neg_mono ha hx h)

end Go.Proofs.YtfmmjekhknaniaaDoor.Core
-- PRINTED for this claim by hookprint.py, a program of this session's over the kit's print. Not trusted: Lean checks it.
namespace Go.Proofs.YtfmmjekhknaniaaDoor.Pr
open Go.RowKit Go.Proofs.YtfmmjekhknaniaaDoor.Given Go.Proofs.YtfmmjekhknaniaaDoorW.PrintWords Go.Proofs.YtfmmjekhknaniaaDoorW.PrintLast Go.Proofs.YtfmmjekhknaniaaDoorW.PrintMore
attribute [local go_sem] max2_int min2_int max_two min_two max_three min_three max_four min_four   -- for this text's walks alone
set_option linter.unusedVariables false
set_option linter.unusedSimpArgs false

/-! ### congr_apart: function 61 -/
def congr_apart.f (k : Nat) (a0_0 : Bool) (a0_1 : Int) (a0_2 : Int) (a1_0 : Bool) (a1_1 : Int) (a1_2 : Int) : Option (Int) := (congr_gcd_uint64.f k (IntKind.u64.wrap (a0_1)) (IntKind.u64.wrap (a1_1))).bind fun t176 => ((congr_size.f (wrap64 (a0_2 - a1_2))).bind fun t177 => ((congr_gcd_uint64.f k t176 t177).bind fun t178 => (some t178)))
theorem congr_apart.mono : ∀ a0 a1 a2 a3 a4 a5 k, LeO (congr_apart.f k a0 a1 a2 a3 a4 a5) (congr_apart.f (k + 1) a0 a1 a2 a3 a4 a5) := by
  intro a0 a1 a2 a3 a4 a5 k
  unfold congr_apart.f
  repeat' first
      | (with_reducible exact congr_gcd_uint64.mono _ _ _)
      | (with_reducible exact LeO.refl _)
      | (with_reducible exact LeO.none _)
      | (with_reducible refine LeO.ite ?_ ?_)
      | (with_reducible refine LeO.bind ?_ (fun _ => ?_))
      | exact congr_gcd_uint64.mono _ _ _
      | exact LeO.none _
      | refine LeO.ite ?_ ?_
      | refine LeO.bind ?_ (fun _ => ?_)
set_option maxHeartbeats 8000000 in
set_option maxRecDepth 100000 in
theorem congr_apart.calls (k : Nat) (a0_0 : Bool) (a0_1 : Int) (a0_2 : Int) (a1_0 : Bool) (a1_1 : Int) (a1_2 : Int) (r : Int) (w : World) (h : congr_apart.f k a0_0 a0_1 a0_2 a1_0 a1_1 a1_2 = some r) :
    Calls Tryd.prog 61 #[.agg #[.bool a0_0, .int .i64 a0_1, .int .i64 a0_2], .agg #[.bool a1_0, .int .i64 a1_1, .int .i64 a1_2]] w fun e w' => e = .returned (.int .u64 r) ∧ Below w.heap.size w w' := by
  have hu23 := Tryd.underlying23
  have HB := Aside0.mk (Below.refl w.heap.size w)
  have H : ((congr_gcd_uint64.f k (IntKind.u64.wrap (a0_1)) (IntKind.u64.wrap (a1_1))).bind fun t176 => ((congr_size.f (wrap64 (a0_2 - a1_2))).bind fun t177 => ((congr_gcd_uint64.f k t176 t177).bind fun t178 => (some t178)))) = some r := h
  clear h
  replace H := Option.bind_eq_some_iff.mp H
  obtain ⟨t176, A30, H⟩ := H
  replace H : ((congr_size.f (wrap64 (a0_2 - a1_2))).bind fun t177 => ((congr_gcd_uint64.f k t176 t177).bind fun t178 => (some t178))) = some r := H
  have A3 := Aside0.mk A30
  clear A30
  replace H := Option.bind_eq_some_iff.mp H
  obtain ⟨t177, A40, H⟩ := H
  replace H : ((congr_gcd_uint64.f k t176 t177).bind fun t178 => (some t178)) = some r := H
  have A4 := Aside0.mk A40
  clear A40
  replace H := Option.bind_eq_some_iff.mp H
  obtain ⟨t178, A50, H⟩ := H
  replace H : (some t178) = some r := H
  have A5 := Aside0.mk A50
  clear A50
  obtain rfl := Option.some.inj H
  go_enter Tryd.func61, Tryd.ntmps61
  go_wp2_with (first | ((with_reducible refine gate_dst (N := 2) rfl ?_); refine box_event ?hg (N := 2) ?hd (cs := #[.bool a0_0, .int .i64 a0_1, .int .i64 a0_2]) (t := 23) ?hr ?_; (case hd => rfl); (case hg => rfl); (case hr => first | (go_simp; done) | (go_simp; rfl)); intro gb174 hg w6 hbox hb; have n0_ := Aside0.mk (below_step (by repeat (first | (with_reducible first | exact HB.out | apply below_alloc | apply pw_below_drewN | apply below_drew1) | exact HB.out)) hb); have n1_ := Aside0.mk (hbox); have n2_ := Aside0.mk ((by rw [hg]; exact (below_size (by repeat (first | (with_reducible first | exact HB.out | apply below_alloc | apply pw_below_drewN | apply below_drew1) | exact HB.out))) : w.heap.size ≤ gb174)); have n3_ := Aside0.mk ((by rw [hg]; exact (below_size (by repeat (first | (with_reducible first | exact HB.out | apply below_alloc | apply pw_below_drewN | apply below_drew1) | exact HB.out))) : w.heap.size ≤ gb174)); clear HB; have HB := n0_; have BK174 := n1_; have GW174 := n2_; have GE174 := n3_; clear n0_ n1_ n2_ n3_; clear hb hbox hg) | ((with_reducible refine gate_dst (N := 3) rfl ?_); refine box_event ?hg (N := 3) ?hd (cs := #[.bool a1_0, .int .i64 a1_1, .int .i64 a1_2]) (t := 23) ?hr ?_; (case hd => rfl); (case hg => rfl); (case hr => first | (go_simp; done) | (go_simp; rfl)); intro gb175 hg w7 hbox hb; have n0_ := Aside0.mk (blk_below (g := gb174) (o := .cells #[.bool a0_0, .int .i64 a0_1, .int .i64 a0_2] 23 (0, 0)) (by (with_reducible repeat (first | refine blk_drewN ?_ _ | refine blk_drew ?_ | refine blk_alloc ?_ _)); exact BK174.out) hb); have n1_ := Aside0.mk (below_step (by repeat (first | (with_reducible first | exact HB.out | apply below_alloc | apply pw_below_drewN | apply below_drew1 | refine below_set ?_ GE174.out) | exact HB.out)) hb); have n2_ := Aside0.mk (hbox); have n3_ := Aside0.mk ((by rw [hg]; exact (below_size (by repeat (first | (with_reducible first | exact HB.out | apply below_alloc | apply pw_below_drewN | apply below_drew1 | refine below_set ?_ GE174.out) | exact HB.out))) : w.heap.size ≤ gb175)); have n4_ := Aside0.mk ((by rw [hg]; exact (below_size (by repeat (first | (with_reducible first | exact HB.out | apply below_alloc | apply pw_below_drewN | apply below_drew1 | refine below_set ?_ GE174.out) | exact HB.out))) : w.heap.size ≤ gb175)); have n5_ := Aside0.mk ((by rw [hg]; exact Nat.ne_of_lt (blk_lt (g := gb174) (o := .cells #[.bool a0_0, .int .i64 a0_1, .int .i64 a0_2] 23 (0, 0)) (by (with_reducible repeat (first | refine blk_drewN ?_ _ | refine blk_drew ?_ | refine blk_alloc ?_ _)); exact BK174.out)) : gb174 ≠ gb175)); have n6_ := Aside0.mk ((by rw [hg]; exact Nat.ne_of_gt (blk_lt (g := gb174) (o := .cells #[.bool a0_0, .int .i64 a0_1, .int .i64 a0_2] 23 (0, 0)) (by (with_reducible repeat (first | refine blk_drewN ?_ _ | refine blk_drew ?_ | refine blk_alloc ?_ _)); exact BK174.out)) : gb175 ≠ gb174)); clear BK174; clear HB; have BK174 := n0_; have HB := n1_; have BK175 := n2_; have GW175 := n3_; have GE175 := n4_; have NB174_175 := n5_; have NB175_174 := n6_; clear n0_ n1_ n2_ n3_ n4_ n5_ n6_; clear hb hbox hg; have hnb8 := NB174_175.out; have hnc8 := NB175_174.out; have hcz9_0 : w7.cell? ⟨gb174, 0, none⟩ = some (.bool a0_0) := (blk_cell BK174.out 0).trans rfl; have hcz9_1 : w7.cell? ⟨gb174, 1, none⟩ = some (.int .i64 a0_1) := (blk_cell BK174.out 1).trans rfl; have hcz9_2 : w7.cell? ⟨gb174, 2, none⟩ = some (.int .i64 a0_2) := (blk_cell BK174.out 2).trans rfl; have hfz9_0 := blk_frozen BK174.out 0; have hfz9_1 := blk_frozen BK174.out 1; have hfz9_2 := blk_frozen BK174.out 2; have hcz10_0 : w7.cell? ⟨gb175, 0, none⟩ = some (.bool a1_0) := (blk_cell BK175.out 0).trans rfl; have hcz10_1 : w7.cell? ⟨gb175, 1, none⟩ = some (.int .i64 a1_1) := (blk_cell BK175.out 1).trans rfl; have hcz10_2 : w7.cell? ⟨gb175, 2, none⟩ = some (.int .i64 a1_2) := (blk_cell BK175.out 2).trans rfl; have hfz10_0 := blk_frozen BK175.out 0; have hfz10_1 := blk_frozen BK175.out 1; have hfz10_2 := blk_frozen BK175.out 2) | (go_at_call 62; (with_reducible refine (congr_gcd_uint64.calls k (IntKind.u64.wrap (a0_1)) (IntKind.u64.wrap (a1_1)) t176 _ A3.out).mono ?_); rintro e w' ⟨rfl, ⟨nd, rfl⟩⟩; (try first | exact ⟨rfl, _, World.drewN_drewN _ _ _⟩ | exact ⟨rfl, _, Eq.trans (World.drewN_drewN _ _ _) (congrArg (World.drewN _) (Nat.add_assoc _ _ _))⟩)) | (go_at_call 52; (with_reducible refine (congr_size.calls (wrap64 (a0_2 - a1_2)) t177 _ A4.out).mono ?_); rintro e w' ⟨rfl, ⟨nd, rfl⟩⟩; (try first | exact ⟨rfl, _, World.drewN_drewN _ _ _⟩ | exact ⟨rfl, _, Eq.trans (World.drewN_drewN _ _ _) (congrArg (World.drewN _) (Nat.add_assoc _ _ _))⟩)) | (go_at_call 62; (with_reducible refine (congr_gcd_uint64.calls k t176 t177 t178 _ A5.out).mono ?_); rintro e w' ⟨rfl, ⟨nd, rfl⟩⟩; (try first | exact ⟨rfl, _, World.drewN_drewN _ _ _⟩ | exact ⟨rfl, _, Eq.trans (World.drewN_drewN _ _ _) (congrArg (World.drewN _) (Nat.add_assoc _ _ _))⟩)))
  repeat (go_quiet (first | ((with_reducible refine gate_dst (N := 2) rfl ?_); refine box_event ?hg (N := 2) ?hd (cs := #[.bool a0_0, .int .i64 a0_1, .int .i64 a0_2]) (t := 23) ?hr ?_; (case hd => rfl); (case hg => rfl); (case hr => first | (go_simp; done) | (go_simp; rfl)); intro gb174 hg w6 hbox hb; have n0_ := Aside0.mk (below_step (by repeat (first | (with_reducible first | exact HB.out | apply below_alloc | apply pw_below_drewN | apply below_drew1) | exact HB.out)) hb); have n1_ := Aside0.mk (hbox); have n2_ := Aside0.mk ((by rw [hg]; exact (below_size (by repeat (first | (with_reducible first | exact HB.out | apply below_alloc | apply pw_below_drewN | apply below_drew1) | exact HB.out))) : w.heap.size ≤ gb174)); have n3_ := Aside0.mk ((by rw [hg]; exact (below_size (by repeat (first | (with_reducible first | exact HB.out | apply below_alloc | apply pw_below_drewN | apply below_drew1) | exact HB.out))) : w.heap.size ≤ gb174)); clear HB; have HB := n0_; have BK174 := n1_; have GW174 := n2_; have GE174 := n3_; clear n0_ n1_ n2_ n3_; clear hb hbox hg) | ((with_reducible refine gate_dst (N := 3) rfl ?_); refine box_event ?hg (N := 3) ?hd (cs := #[.bool a1_0, .int .i64 a1_1, .int .i64 a1_2]) (t := 23) ?hr ?_; (case hd => rfl); (case hg => rfl); (case hr => first | (go_simp; done) | (go_simp; rfl)); intro gb175 hg w7 hbox hb; have n0_ := Aside0.mk (blk_below (g := gb174) (o := .cells #[.bool a0_0, .int .i64 a0_1, .int .i64 a0_2] 23 (0, 0)) (by (with_reducible repeat (first | refine blk_drewN ?_ _ | refine blk_drew ?_ | refine blk_alloc ?_ _)); exact BK174.out) hb); have n1_ := Aside0.mk (below_step (by repeat (first | (with_reducible first | exact HB.out | apply below_alloc | apply pw_below_drewN | apply below_drew1 | refine below_set ?_ GE174.out) | exact HB.out)) hb); have n2_ := Aside0.mk (hbox); have n3_ := Aside0.mk ((by rw [hg]; exact (below_size (by repeat (first | (with_reducible first | exact HB.out | apply below_alloc | apply pw_below_drewN | apply below_drew1 | refine below_set ?_ GE174.out) | exact HB.out))) : w.heap.size ≤ gb175)); have n4_ := Aside0.mk ((by rw [hg]; exact (below_size (by repeat (first | (with_reducible first | exact HB.out | apply below_alloc | apply pw_below_drewN | apply below_drew1 | refine below_set ?_ GE174.out) | exact HB.out))) : w.heap.size ≤ gb175)); have n5_ := Aside0.mk ((by rw [hg]; exact Nat.ne_of_lt (blk_lt (g := gb174) (o := .cells #[.bool a0_0, .int .i64 a0_1, .int .i64 a0_2] 23 (0, 0)) (by (with_reducible repeat (first | refine blk_drewN ?_ _ | refine blk_drew ?_ | refine blk_alloc ?_ _)); exact BK174.out)) : gb174 ≠ gb175)); have n6_ := Aside0.mk ((by rw [hg]; exact Nat.ne_of_gt (blk_lt (g := gb174) (o := .cells #[.bool a0_0, .int .i64 a0_1, .int .i64 a0_2] 23 (0, 0)) (by (with_reducible repeat (first | refine blk_drewN ?_ _ | refine blk_drew ?_ | refine blk_alloc ?_ _)); exact BK174.out)) : gb175 ≠ gb174)); clear BK174; clear HB; have BK174 := n0_; have HB := n1_; have BK175 := n2_; have GW175 := n3_; have GE175 := n4_; have NB174_175 := n5_; have NB175_174 := n6_; clear n0_ n1_ n2_ n3_ n4_ n5_ n6_; clear hb hbox hg; have hnb8 := NB174_175.out; have hnc8 := NB175_174.out; have hcz9_0 : w7.cell? ⟨gb174, 0, none⟩ = some (.bool a0_0) := (blk_cell BK174.out 0).trans rfl; have hcz9_1 : w7.cell? ⟨gb174, 1, none⟩ = some (.int .i64 a0_1) := (blk_cell BK174.out 1).trans rfl; have hcz9_2 : w7.cell? ⟨gb174, 2, none⟩ = some (.int .i64 a0_2) := (blk_cell BK174.out 2).trans rfl; have hfz9_0 := blk_frozen BK174.out 0; have hfz9_1 := blk_frozen BK174.out 1; have hfz9_2 := blk_frozen BK174.out 2; have hcz10_0 : w7.cell? ⟨gb175, 0, none⟩ = some (.bool a1_0) := (blk_cell BK175.out 0).trans rfl; have hcz10_1 : w7.cell? ⟨gb175, 1, none⟩ = some (.int .i64 a1_1) := (blk_cell BK175.out 1).trans rfl; have hcz10_2 : w7.cell? ⟨gb175, 2, none⟩ = some (.int .i64 a1_2) := (blk_cell BK175.out 2).trans rfl; have hfz10_0 := blk_frozen BK175.out 0; have hfz10_1 := blk_frozen BK175.out 1; have hfz10_2 := blk_frozen BK175.out 2) | (go_at_call 62; (with_reducible refine (congr_gcd_uint64.calls k (IntKind.u64.wrap (a0_1)) (IntKind.u64.wrap (a1_1)) t176 _ A3.out).mono ?_); rintro e w' ⟨rfl, ⟨nd, rfl⟩⟩; (try first | exact ⟨rfl, _, World.drewN_drewN _ _ _⟩ | exact ⟨rfl, _, Eq.trans (World.drewN_drewN _ _ _) (congrArg (World.drewN _) (Nat.add_assoc _ _ _))⟩)) | (go_at_call 52; (with_reducible refine (congr_size.calls (wrap64 (a0_2 - a1_2)) t177 _ A4.out).mono ?_); rintro e w' ⟨rfl, ⟨nd, rfl⟩⟩; (try first | exact ⟨rfl, _, World.drewN_drewN _ _ _⟩ | exact ⟨rfl, _, Eq.trans (World.drewN_drewN _ _ _) (congrArg (World.drewN _) (Nat.add_assoc _ _ _))⟩)) | (go_at_call 62; (with_reducible refine (congr_gcd_uint64.calls k t176 t177 t178 _ A5.out).mono ?_); rintro e w' ⟨rfl, ⟨nd, rfl⟩⟩; (try first | exact ⟨rfl, _, World.drewN_drewN _ _ _⟩ | exact ⟨rfl, _, Eq.trans (World.drewN_drewN _ _ _) (congrArg (World.drewN _) (Nat.add_assoc _ _ _))⟩))); try go_wp2_with (first | ((with_reducible refine gate_dst (N := 2) rfl ?_); refine box_event ?hg (N := 2) ?hd (cs := #[.bool a0_0, .int .i64 a0_1, .int .i64 a0_2]) (t := 23) ?hr ?_; (case hd => rfl); (case hg => rfl); (case hr => first | (go_simp; done) | (go_simp; rfl)); intro gb174 hg w6 hbox hb; have n0_ := Aside0.mk (below_step (by repeat (first | (with_reducible first | exact HB.out | apply below_alloc | apply pw_below_drewN | apply below_drew1) | exact HB.out)) hb); have n1_ := Aside0.mk (hbox); have n2_ := Aside0.mk ((by rw [hg]; exact (below_size (by repeat (first | (with_reducible first | exact HB.out | apply below_alloc | apply pw_below_drewN | apply below_drew1) | exact HB.out))) : w.heap.size ≤ gb174)); have n3_ := Aside0.mk ((by rw [hg]; exact (below_size (by repeat (first | (with_reducible first | exact HB.out | apply below_alloc | apply pw_below_drewN | apply below_drew1) | exact HB.out))) : w.heap.size ≤ gb174)); clear HB; have HB := n0_; have BK174 := n1_; have GW174 := n2_; have GE174 := n3_; clear n0_ n1_ n2_ n3_; clear hb hbox hg) | ((with_reducible refine gate_dst (N := 3) rfl ?_); refine box_event ?hg (N := 3) ?hd (cs := #[.bool a1_0, .int .i64 a1_1, .int .i64 a1_2]) (t := 23) ?hr ?_; (case hd => rfl); (case hg => rfl); (case hr => first | (go_simp; done) | (go_simp; rfl)); intro gb175 hg w7 hbox hb; have n0_ := Aside0.mk (blk_below (g := gb174) (o := .cells #[.bool a0_0, .int .i64 a0_1, .int .i64 a0_2] 23 (0, 0)) (by (with_reducible repeat (first | refine blk_drewN ?_ _ | refine blk_drew ?_ | refine blk_alloc ?_ _)); exact BK174.out) hb); have n1_ := Aside0.mk (below_step (by repeat (first | (with_reducible first | exact HB.out | apply below_alloc | apply pw_below_drewN | apply below_drew1 | refine below_set ?_ GE174.out) | exact HB.out)) hb); have n2_ := Aside0.mk (hbox); have n3_ := Aside0.mk ((by rw [hg]; exact (below_size (by repeat (first | (with_reducible first | exact HB.out | apply below_alloc | apply pw_below_drewN | apply below_drew1 | refine below_set ?_ GE174.out) | exact HB.out))) : w.heap.size ≤ gb175)); have n4_ := Aside0.mk ((by rw [hg]; exact (below_size (by repeat (first | (with_reducible first | exact HB.out | apply below_alloc | apply pw_below_drewN | apply below_drew1 | refine below_set ?_ GE174.out) | exact HB.out))) : w.heap.size ≤ gb175)); have n5_ := Aside0.mk ((by rw [hg]; exact Nat.ne_of_lt (blk_lt (g := gb174) (o := .cells #[.bool a0_0, .int .i64 a0_1, .int .i64 a0_2] 23 (0, 0)) (by (with_reducible repeat (first | refine blk_drewN ?_ _ | refine blk_drew ?_ | refine blk_alloc ?_ _)); exact BK174.out)) : gb174 ≠ gb175)); have n6_ := Aside0.mk ((by rw [hg]; exact Nat.ne_of_gt (blk_lt (g := gb174) (o := .cells #[.bool a0_0, .int .i64 a0_1, .int .i64 a0_2] 23 (0, 0)) (by (with_reducible repeat (first | refine blk_drewN ?_ _ | refine blk_drew ?_ | refine blk_alloc ?_ _)); exact BK174.out)) : gb175 ≠ gb174)); clear BK174; clear HB; have BK174 := n0_; have HB := n1_; have BK175 := n2_; have GW175 := n3_; have GE175 := n4_; have NB174_175 := n5_; have NB175_174 := n6_; clear n0_ n1_ n2_ n3_ n4_ n5_ n6_; clear hb hbox hg; have hnb8 := NB174_175.out; have hnc8 := NB175_174.out; have hcz9_0 : w7.cell? ⟨gb174, 0, none⟩ = some (.bool a0_0) := (blk_cell BK174.out 0).trans rfl; have hcz9_1 : w7.cell? ⟨gb174, 1, none⟩ = some (.int .i64 a0_1) := (blk_cell BK174.out 1).trans rfl; have hcz9_2 : w7.cell? ⟨gb174, 2, none⟩ = some (.int .i64 a0_2) := (blk_cell BK174.out 2).trans rfl; have hfz9_0 := blk_frozen BK174.out 0; have hfz9_1 := blk_frozen BK174.out 1; have hfz9_2 := blk_frozen BK174.out 2; have hcz10_0 : w7.cell? ⟨gb175, 0, none⟩ = some (.bool a1_0) := (blk_cell BK175.out 0).trans rfl; have hcz10_1 : w7.cell? ⟨gb175, 1, none⟩ = some (.int .i64 a1_1) := (blk_cell BK175.out 1).trans rfl; have hcz10_2 : w7.cell? ⟨gb175, 2, none⟩ = some (.int .i64 a1_2) := (blk_cell BK175.out 2).trans rfl; have hfz10_0 := blk_frozen BK175.out 0; have hfz10_1 := blk_frozen BK175.out 1; have hfz10_2 := blk_frozen BK175.out 2) | (go_at_call 62; (with_reducible refine (congr_gcd_uint64.calls k (IntKind.u64.wrap (a0_1)) (IntKind.u64.wrap (a1_1)) t176 _ A3.out).mono ?_); rintro e w' ⟨rfl, ⟨nd, rfl⟩⟩; (try first | exact ⟨rfl, _, World.drewN_drewN _ _ _⟩ | exact ⟨rfl, _, Eq.trans (World.drewN_drewN _ _ _) (congrArg (World.drewN _) (Nat.add_assoc _ _ _))⟩)) | (go_at_call 52; (with_reducible refine (congr_size.calls (wrap64 (a0_2 - a1_2)) t177 _ A4.out).mono ?_); rintro e w' ⟨rfl, ⟨nd, rfl⟩⟩; (try first | exact ⟨rfl, _, World.drewN_drewN _ _ _⟩ | exact ⟨rfl, _, Eq.trans (World.drewN_drewN _ _ _) (congrArg (World.drewN _) (Nat.add_assoc _ _ _))⟩)) | (go_at_call 62; (with_reducible refine (congr_gcd_uint64.calls k t176 t177 t178 _ A5.out).mono ?_); rintro e w' ⟨rfl, ⟨nd, rfl⟩⟩; (try first | exact ⟨rfl, _, World.drewN_drewN _ _ _⟩ | exact ⟨rfl, _, Eq.trans (World.drewN_drewN _ _ _) (congrArg (World.drewN _) (Nat.add_assoc _ _ _))⟩))))
  go_ret
  exact ⟨by first | rfl | (simp [errW_none, errW_some] <;> rfl) | (simp [*, errW_none, errW_some] <;> rfl), by repeat (first | (with_reducible first | exact HB.out | apply below_alloc | apply pw_below_drewN | apply below_drew1 | refine below_set ?_ GE174.out | refine below_set ?_ GE175.out) | exact HB.out)⟩

end Go.Proofs.YtfmmjekhknaniaaDoor.Pr
-- PRINTED for this claim by hookprint.py, a program of this session's over the kit's print. Not trusted: Lean checks it.
namespace Go.Proofs.YtfmmjekhknaniaaDoor.Pr
open Go.RowKit Go.Proofs.YtfmmjekhknaniaaDoor.Given Go.Proofs.YtfmmjekhknaniaaDoorW.PrintWords Go.Proofs.YtfmmjekhknaniaaDoorW.PrintLast Go.Proofs.YtfmmjekhknaniaaDoorW.PrintMore
attribute [local go_sem] max2_int min2_int max_two min_two max_three min_three max_four min_four   -- for this text's walks alone
set_option linter.unusedVariables false
set_option linter.unusedSimpArgs false

/-! ### congr_Join: function 19 -/
def congr_Join.f (k : Nat) (a0_0 : Bool) (a0_1 : Int) (a0_2 : Int) (a1_0 : Bool) (a1_1 : Int) (a1_2 : Int) : Option (Bool × Int × Int) := if a0_0 = true then (some (a1_0, a1_1, a1_2)) else (if a1_0 = true then (some (a0_0, a0_1, a0_2)) else ((congr_apart.f k a0_0 a0_1 a0_2 a1_0 a1_1 a1_2).bind fun t182 => ((congr_by.f k t182 a0_2).bind fun bt183 => (some (bt183.1, bt183.2.1, bt183.2.2)))))
theorem congr_Join.mono : ∀ a0 a1 a2 a3 a4 a5 k, LeO (congr_Join.f k a0 a1 a2 a3 a4 a5) (congr_Join.f (k + 1) a0 a1 a2 a3 a4 a5) := by
  intro a0 a1 a2 a3 a4 a5 k
  unfold congr_Join.f
  repeat' first
      | (with_reducible exact congr_apart.mono _ _ _ _ _ _ _)
      | (with_reducible exact congr_by.mono _ _ _)
      | (with_reducible exact LeO.refl _)
      | (with_reducible exact LeO.none _)
      | (with_reducible refine LeO.ite ?_ ?_)
      | (with_reducible refine LeO.bind ?_ (fun _ => ?_))
      | exact congr_apart.mono _ _ _ _ _ _ _
      | exact congr_by.mono _ _ _
      | exact LeO.none _
      | refine LeO.ite ?_ ?_
      | refine LeO.bind ?_ (fun _ => ?_)
set_option maxHeartbeats 8000000 in
set_option maxRecDepth 100000 in
theorem congr_Join.calls (k : Nat) (a0_0 : Bool) (a0_1 : Int) (a0_2 : Int) (a1_0 : Bool) (a1_1 : Int) (a1_2 : Int) (r1 : Bool) (r2 : Int) (r3 : Int) (w : World) (h : congr_Join.f k a0_0 a0_1 a0_2 a1_0 a1_1 a1_2 = some (r1, r2, r3)) :
    Calls Tryd.prog 19 #[.agg #[.bool a0_0, .int .i64 a0_1, .int .i64 a0_2], .agg #[.bool a1_0, .int .i64 a1_1, .int .i64 a1_2]] w fun e w' => e = .returned (.agg #[.bool r1, .int .i64 r2, .int .i64 r3]) ∧ Below w.heap.size w w' := by
  have hu23 := Tryd.underlying23
  have HB := Aside0.mk (Below.refl w.heap.size w)
  have H : (if a0_0 = true then (some (a1_0, a1_1, a1_2)) else (if a1_0 = true then (some (a0_0, a0_1, a0_2)) else ((congr_apart.f k a0_0 a0_1 a0_2 a1_0 a1_1 a1_2).bind fun t182 => ((congr_by.f k t182 a0_2).bind fun bt183 => (some (bt183.1, bt183.2.1, bt183.2.2)))))) = some (r1, r2, r3) := h
  clear h
  by_cases c3 : a0_0 = true
  · subst c3
    have H1 : (some (a1_0, a1_1, a1_2)) = some (r1, r2, r3) := by rw [if_pos rfl] at H; exact H
    clear H
    have H := H1
    clear H1
    simp only [Option.some.injEq, Prod.mk.injEq] at H
    obtain ⟨rfl, rfl, rfl⟩ := H
    go_enter Tryd.func19, Tryd.ntmps19
    go_wp2_with (first | ((with_reducible refine gate_dst (N := 2) rfl ?_); refine box_event ?hg (N := 2) ?hd (cs := #[.bool true, .int .i64 a0_1, .int .i64 a0_2]) (t := 23) ?hr ?_; (case hd => rfl); (case hg => rfl); (case hr => first | (go_simp; done) | (go_simp; rfl)); intro gb179 hg w4 hbox hb; have n0_ := Aside0.mk (below_step (by repeat (first | (with_reducible first | exact HB.out | apply below_alloc | apply pw_below_drewN | apply below_drew1) | exact HB.out)) hb); have n1_ := Aside0.mk (hbox); have n2_ := Aside0.mk ((by rw [hg]; exact (below_size (by repeat (first | (with_reducible first | exact HB.out | apply below_alloc | apply pw_below_drewN | apply below_drew1) | exact HB.out))) : w.heap.size ≤ gb179)); have n3_ := Aside0.mk ((by rw [hg]; exact (below_size (by repeat (first | (with_reducible first | exact HB.out | apply below_alloc | apply pw_below_drewN | apply below_drew1) | exact HB.out))) : w.heap.size ≤ gb179)); clear HB; have HB := n0_; have BK179 := n1_; have GW179 := n2_; have GE179 := n3_; clear n0_ n1_ n2_ n3_; clear hb hbox hg) | ((with_reducible refine gate_dst (N := 3) rfl ?_); refine box_event ?hg (N := 3) ?hd (cs := #[.bool a1_0, .int .i64 a1_1, .int .i64 a1_2]) (t := 23) ?hr ?_; (case hd => rfl); (case hg => rfl); (case hr => first | (go_simp; done) | (go_simp; rfl)); intro gb180 hg w5 hbox hb; have n0_ := Aside0.mk (blk_below (g := gb179) (o := .cells #[.bool true, .int .i64 a0_1, .int .i64 a0_2] 23 (0, 0)) (by (with_reducible repeat (first | refine blk_drewN ?_ _ | refine blk_drew ?_ | refine blk_alloc ?_ _)); exact BK179.out) hb); have n1_ := Aside0.mk (below_step (by repeat (first | (with_reducible first | exact HB.out | apply below_alloc | apply pw_below_drewN | apply below_drew1 | refine below_set ?_ GE179.out) | exact HB.out)) hb); have n2_ := Aside0.mk (hbox); have n3_ := Aside0.mk ((by rw [hg]; exact (below_size (by repeat (first | (with_reducible first | exact HB.out | apply below_alloc | apply pw_below_drewN | apply below_drew1 | refine below_set ?_ GE179.out) | exact HB.out))) : w.heap.size ≤ gb180)); have n4_ := Aside0.mk ((by rw [hg]; exact (below_size (by repeat (first | (with_reducible first | exact HB.out | apply below_alloc | apply pw_below_drewN | apply below_drew1 | refine below_set ?_ GE179.out) | exact HB.out))) : w.heap.size ≤ gb180)); have n5_ := Aside0.mk ((by rw [hg]; exact Nat.ne_of_lt (blk_lt (g := gb179) (o := .cells #[.bool true, .int .i64 a0_1, .int .i64 a0_2] 23 (0, 0)) (by (with_reducible repeat (first | refine blk_drewN ?_ _ | refine blk_drew ?_ | refine blk_alloc ?_ _)); exact BK179.out)) : gb179 ≠ gb180)); have n6_ := Aside0.mk ((by rw [hg]; exact Nat.ne_of_gt (blk_lt (g := gb179) (o := .cells #[.bool true, .int .i64 a0_1, .int .i64 a0_2] 23 (0, 0)) (by (with_reducible repeat (first | refine blk_drewN ?_ _ | refine blk_drew ?_ | refine blk_alloc ?_ _)); exact BK179.out)) : gb180 ≠ gb179)); clear BK179; clear HB; have BK179 := n0_; have HB := n1_; have BK180 := n2_; have GW180 := n3_; have GE180 := n4_; have NB179_180 := n5_; have NB180_179 := n6_; clear n0_ n1_ n2_ n3_ n4_ n5_ n6_; clear hb hbox hg) | ((with_reducible refine gate_dst (N := 4) rfl ?_); refine box_event ?hg (N := 4) ?hd (cs := #[.bool false, .int .i64 0, .int .i64 0]) (t := 23) ?hr ?_; (case hd => rfl); (case hg => rfl); (case hr => first | (go_simp; done) | (go_simp; rfl)); intro gb181 hg w6 hbox hb; have n0_ := Aside0.mk (blk_below (g := gb179) (o := .cells #[.bool true, .int .i64 a0_1, .int .i64 a0_2] 23 (0, 0)) (by (with_reducible repeat (first | refine blk_drewN ?_ _ | refine blk_drew ?_ | refine blk_alloc ?_ _)); exact BK179.out) hb); have n1_ := Aside0.mk (blk_below (g := gb180) (o := .cells #[.bool a1_0, .int .i64 a1_1, .int .i64 a1_2] 23 (0, 0)) (by (with_reducible repeat (first | refine blk_drewN ?_ _ | refine blk_drew ?_ | refine blk_alloc ?_ _)); exact BK180.out) hb); have n2_ := Aside0.mk (below_step (by repeat (first | (with_reducible first | exact HB.out | apply below_alloc | apply pw_below_drewN | apply below_drew1 | refine below_set ?_ GE179.out | refine below_set ?_ GE180.out) | exact HB.out)) hb); have n3_ := Aside0.mk (hbox); have n4_ := Aside0.mk ((by rw [hg]; exact (below_size (by repeat (first | (with_reducible first | exact HB.out | apply below_alloc | apply pw_below_drewN | apply below_drew1 | refine below_set ?_ GE179.out | refine below_set ?_ GE180.out) | exact HB.out))) : w.heap.size ≤ gb181)); have n5_ := Aside0.mk ((by rw [hg]; exact (below_size (by repeat (first | (with_reducible first | exact HB.out | apply below_alloc | apply pw_below_drewN | apply below_drew1 | refine below_set ?_ GE179.out | refine below_set ?_ GE180.out) | exact HB.out))) : w.heap.size ≤ gb181)); have n6_ := Aside0.mk ((by rw [hg]; exact Nat.ne_of_lt (blk_lt (g := gb179) (o := .cells #[.bool true, .int .i64 a0_1, .int .i64 a0_2] 23 (0, 0)) (by (with_reducible repeat (first | refine blk_drewN ?_ _ | refine blk_drew ?_ | refine blk_alloc ?_ _)); exact BK179.out)) : gb179 ≠ gb181)); have n7_ := Aside0.mk ((by rw [hg]; exact Nat.ne_of_gt (blk_lt (g := gb179) (o := .cells #[.bool true, .int .i64 a0_1, .int .i64 a0_2] 23 (0, 0)) (by (with_reducible repeat (first | refine blk_drewN ?_ _ | refine blk_drew ?_ | refine blk_alloc ?_ _)); exact BK179.out)) : gb181 ≠ gb179)); have n8_ := Aside0.mk ((by rw [hg]; exact Nat.ne_of_lt (blk_lt (g := gb180) (o := .cells #[.bool a1_0, .int .i64 a1_1, .int .i64 a1_2] 23 (0, 0)) (by (with_reducible repeat (first | refine blk_drewN ?_ _ | refine blk_drew ?_ | refine blk_alloc ?_ _)); exact BK180.out)) : gb180 ≠ gb181)); have n9_ := Aside0.mk ((by rw [hg]; exact Nat.ne_of_gt (blk_lt (g := gb180) (o := .cells #[.bool a1_0, .int .i64 a1_1, .int .i64 a1_2] 23 (0, 0)) (by (with_reducible repeat (first | refine blk_drewN ?_ _ | refine blk_drew ?_ | refine blk_alloc ?_ _)); exact BK180.out)) : gb181 ≠ gb180)); clear BK179; clear BK180; clear HB; have BK179 := n0_; have BK180 := n1_; have HB := n2_; have BK181 := n3_; have GW181 := n4_; have GE181 := n5_; have NB179_181 := n6_; have NB181_179 := n7_; have NB180_181 := n8_; have NB181_180 := n9_; clear n0_ n1_ n2_ n3_ n4_ n5_ n6_ n7_ n8_ n9_; clear hb hbox hg; have hnb7 := NB179_180.out; have hnc7 := NB180_179.out; have hnb8 := NB179_181.out; have hnc8 := NB181_179.out; have hcz9_0 : w6.cell? ⟨gb179, 0, none⟩ = some (.bool true) := (blk_cell BK179.out 0).trans rfl; have hcz9_1 : w6.cell? ⟨gb179, 1, none⟩ = some (.int .i64 a0_1) := (blk_cell BK179.out 1).trans rfl; have hcz9_2 : w6.cell? ⟨gb179, 2, none⟩ = some (.int .i64 a0_2) := (blk_cell BK179.out 2).trans rfl; have hfz9_0 := blk_frozen BK179.out 0; have hfz9_1 := blk_frozen BK179.out 1; have hfz9_2 := blk_frozen BK179.out 2; have hnb10 := NB180_181.out; have hnc10 := NB181_180.out; have hcz11_0 : w6.cell? ⟨gb180, 0, none⟩ = some (.bool a1_0) := (blk_cell BK180.out 0).trans rfl; have hcz11_1 : w6.cell? ⟨gb180, 1, none⟩ = some (.int .i64 a1_1) := (blk_cell BK180.out 1).trans rfl; have hcz11_2 : w6.cell? ⟨gb180, 2, none⟩ = some (.int .i64 a1_2) := (blk_cell BK180.out 2).trans rfl; have hfz11_0 := blk_frozen BK180.out 0; have hfz11_1 := blk_frozen BK180.out 1; have hfz11_2 := blk_frozen BK180.out 2; have hcz12_0 : w6.cell? ⟨gb181, 0, none⟩ = some (.bool false) := (blk_cell BK181.out 0).trans rfl; have hcz12_1 : w6.cell? ⟨gb181, 1, none⟩ = some (.int .i64 0) := (blk_cell BK181.out 1).trans rfl; have hcz12_2 : w6.cell? ⟨gb181, 2, none⟩ = some (.int .i64 0) := (blk_cell BK181.out 2).trans rfl; have hfz12_0 := blk_frozen BK181.out 0; have hfz12_1 := blk_frozen BK181.out 1; have hfz12_2 := blk_frozen BK181.out 2))
    refine bodyPost_ret (results_cell_row rfl _ _ gb181 23 #[.bool a1_0, .int .i64 a1_1, .int .i64 a1_2] (0, 0) _ rfl (by (with_reducible repeat (first | refine blk_drewN ?_ _ | refine blk_drew ?_ | refine blk_alloc ?_ _)); refine blk_put (cs := #[.bool a1_0, .int .i64 a1_1, .int .i64 0]) ?_ 2 _ rfl; (with_reducible repeat (first | refine blk_drewN ?_ _ | refine blk_drew ?_ | refine blk_alloc ?_ _)); refine blk_put (cs := #[.bool a1_0, .int .i64 0, .int .i64 0]) ?_ 1 _ rfl; (with_reducible repeat (first | refine blk_drewN ?_ _ | refine blk_drew ?_ | refine blk_alloc ?_ _)); refine blk_put (cs := #[.bool false, .int .i64 0, .int .i64 0]) ?_ 0 _ rfl; (with_reducible repeat (first | refine blk_drewN ?_ _ | refine blk_drew ?_ | refine blk_alloc ?_ _)); exact BK181.out) Tryd.underlying23 rfl (by kernel_rfl)) rfl ?_
    exact ⟨by first | rfl | (simp [errW_none, errW_some] <;> rfl) | (simp [*, errW_none, errW_some] <;> rfl), by repeat (first | (with_reducible first | exact HB.out | apply below_alloc | apply pw_below_drewN | apply below_drew1 | refine below_set ?_ GE179.out | refine below_set ?_ GE180.out | refine below_set ?_ GE181.out) | exact HB.out)⟩
  · replace c3 := Bool.eq_false_iff.mpr c3
    subst c3
    have H1 : (if a1_0 = true then (some (false, a0_1, a0_2)) else ((congr_apart.f k false a0_1 a0_2 a1_0 a1_1 a1_2).bind fun t182 => ((congr_by.f k t182 a0_2).bind fun bt183 => (some (bt183.1, bt183.2.1, bt183.2.2))))) = some (r1, r2, r3) := by rw [if_neg (show ¬ (false = true) by decide)] at H; exact H
    clear H
    have H := H1
    clear H1
    by_cases c13 : a1_0 = true
    · subst c13
      have H1 : (some (false, a0_1, a0_2)) = some (r1, r2, r3) := by rw [if_pos rfl] at H; exact H
      clear H
      have H := H1
      clear H1
      simp only [Option.some.injEq, Prod.mk.injEq] at H
      obtain ⟨rfl, rfl, rfl⟩ := H
      go_enter Tryd.func19, Tryd.ntmps19
      go_wp2_with (first | ((with_reducible refine gate_dst (N := 2) rfl ?_); refine box_event ?hg (N := 2) ?hd (cs := #[.bool false, .int .i64 a0_1, .int .i64 a0_2]) (t := 23) ?hr ?_; (case hd => rfl); (case hg => rfl); (case hr => first | (go_simp; done) | (go_simp; rfl)); intro gb179 hg w14 hbox hb; have n0_ := Aside0.mk (below_step (by repeat (first | (with_reducible first | exact HB.out | apply below_alloc | apply pw_below_drewN | apply below_drew1) | exact HB.out)) hb); have n1_ := Aside0.mk (hbox); have n2_ := Aside0.mk ((by rw [hg]; exact (below_size (by repeat (first | (with_reducible first | exact HB.out | apply below_alloc | apply pw_below_drewN | apply below_drew1) | exact HB.out))) : w.heap.size ≤ gb179)); have n3_ := Aside0.mk ((by rw [hg]; exact (below_size (by repeat (first | (with_reducible first | exact HB.out | apply below_alloc | apply pw_below_drewN | apply below_drew1) | exact HB.out))) : w.heap.size ≤ gb179)); clear HB; have HB := n0_; have BK179 := n1_; have GW179 := n2_; have GE179 := n3_; clear n0_ n1_ n2_ n3_; clear hb hbox hg) | ((with_reducible refine gate_dst (N := 3) rfl ?_); refine box_event ?hg (N := 3) ?hd (cs := #[.bool true, .int .i64 a1_1, .int .i64 a1_2]) (t := 23) ?hr ?_; (case hd => rfl); (case hg => rfl); (case hr => first | (go_simp; done) | (go_simp; rfl)); intro gb180 hg w15 hbox hb; have n0_ := Aside0.mk (blk_below (g := gb179) (o := .cells #[.bool false, .int .i64 a0_1, .int .i64 a0_2] 23 (0, 0)) (by (with_reducible repeat (first | refine blk_drewN ?_ _ | refine blk_drew ?_ | refine blk_alloc ?_ _)); exact BK179.out) hb); have n1_ := Aside0.mk (below_step (by repeat (first | (with_reducible first | exact HB.out | apply below_alloc | apply pw_below_drewN | apply below_drew1 | refine below_set ?_ GE179.out) | exact HB.out)) hb); have n2_ := Aside0.mk (hbox); have n3_ := Aside0.mk ((by rw [hg]; exact (below_size (by repeat (first | (with_reducible first | exact HB.out | apply below_alloc | apply pw_below_drewN | apply below_drew1 | refine below_set ?_ GE179.out) | exact HB.out))) : w.heap.size ≤ gb180)); have n4_ := Aside0.mk ((by rw [hg]; exact (below_size (by repeat (first | (with_reducible first | exact HB.out | apply below_alloc | apply pw_below_drewN | apply below_drew1 | refine below_set ?_ GE179.out) | exact HB.out))) : w.heap.size ≤ gb180)); have n5_ := Aside0.mk ((by rw [hg]; exact Nat.ne_of_lt (blk_lt (g := gb179) (o := .cells #[.bool false, .int .i64 a0_1, .int .i64 a0_2] 23 (0, 0)) (by (with_reducible repeat (first | refine blk_drewN ?_ _ | refine blk_drew ?_ | refine blk_alloc ?_ _)); exact BK179.out)) : gb179 ≠ gb180)); have n6_ := Aside0.mk ((by rw [hg]; exact Nat.ne_of_gt (blk_lt (g := gb179) (o := .cells #[.bool false, .int .i64 a0_1, .int .i64 a0_2] 23 (0, 0)) (by (with_reducible repeat (first | refine blk_drewN ?_ _ | refine blk_drew ?_ | refine blk_alloc ?_ _)); exact BK179.out)) : gb180 ≠ gb179)); clear BK179; clear HB; have BK179 := n0_; have HB := n1_; have BK180 := n2_; have GW180 := n3_; have GE180 := n4_; have NB179_180 := n5_; have NB180_179 := n6_; clear n0_ n1_ n2_ n3_ n4_ n5_ n6_; clear hb hbox hg) | ((with_reducible refine gate_dst (N := 4) rfl ?_); refine box_event ?hg (N := 4) ?hd (cs := #[.bool false, .int .i64 0, .int .i64 0]) (t := 23) ?hr ?_; (case hd => rfl); (case hg => rfl); (case hr => first | (go_simp; done) | (go_simp; rfl)); intro gb181 hg w16 hbox hb; have n0_ := Aside0.mk (blk_below (g := gb179) (o := .cells #[.bool false, .int .i64 a0_1, .int .i64 a0_2] 23 (0, 0)) (by (with_reducible repeat (first | refine blk_drewN ?_ _ | refine blk_drew ?_ | refine blk_alloc ?_ _)); exact BK179.out) hb); have n1_ := Aside0.mk (blk_below (g := gb180) (o := .cells #[.bool true, .int .i64 a1_1, .int .i64 a1_2] 23 (0, 0)) (by (with_reducible repeat (first | refine blk_drewN ?_ _ | refine blk_drew ?_ | refine blk_alloc ?_ _)); exact BK180.out) hb); have n2_ := Aside0.mk (below_step (by repeat (first | (with_reducible first | exact HB.out | apply below_alloc | apply pw_below_drewN | apply below_drew1 | refine below_set ?_ GE179.out | refine below_set ?_ GE180.out) | exact HB.out)) hb); have n3_ := Aside0.mk (hbox); have n4_ := Aside0.mk ((by rw [hg]; exact (below_size (by repeat (first | (with_reducible first | exact HB.out | apply below_alloc | apply pw_below_drewN | apply below_drew1 | refine below_set ?_ GE179.out | refine below_set ?_ GE180.out) | exact HB.out))) : w.heap.size ≤ gb181)); have n5_ := Aside0.mk ((by rw [hg]; exact (below_size (by repeat (first | (with_reducible first | exact HB.out | apply below_alloc | apply pw_below_drewN | apply below_drew1 | refine below_set ?_ GE179.out | refine below_set ?_ GE180.out) | exact HB.out))) : w.heap.size ≤ gb181)); have n6_ := Aside0.mk ((by rw [hg]; exact Nat.ne_of_lt (blk_lt (g := gb179) (o := .cells #[.bool false, .int .i64 a0_1, .int .i64 a0_2] 23 (0, 0)) (by (with_reducible repeat (first | refine blk_drewN ?_ _ | refine blk_drew ?_ | refine blk_alloc ?_ _)); exact BK179.out)) : gb179 ≠ gb181)); have n7_ := Aside0.mk ((by rw [hg]; exact Nat.ne_of_gt (blk_lt (g := gb179) (o := .cells #[.bool false, .int .i64 a0_1, .int .i64 a0_2] 23 (0, 0)) (by (with_reducible repeat (first | refine blk_drewN ?_ _ | refine blk_drew ?_ | refine blk_alloc ?_ _)); exact BK179.out)) : gb181 ≠ gb179)); have n8_ := Aside0.mk ((by rw [hg]; exact Nat.ne_of_lt (blk_lt (g := gb180) (o := .cells #[.bool true, .int .i64 a1_1, .int .i64 a1_2] 23 (0, 0)) (by (with_reducible repeat (first | refine blk_drewN ?_ _ | refine blk_drew ?_ | refine blk_alloc ?_ _)); exact BK180.out)) : gb180 ≠ gb181)); have n9_ := Aside0.mk ((by rw [hg]; exact Nat.ne_of_gt (blk_lt (g := gb180) (o := .cells #[.bool true, .int .i64 a1_1, .int .i64 a1_2] 23 (0, 0)) (by (with_reducible repeat (first | refine blk_drewN ?_ _ | refine blk_drew ?_ | refine blk_alloc ?_ _)); exact BK180.out)) : gb181 ≠ gb180)); clear BK179; clear BK180; clear HB; have BK179 := n0_; have BK180 := n1_; have HB := n2_; have BK181 := n3_; have GW181 := n4_; have GE181 := n5_; have NB179_181 := n6_; have NB181_179 := n7_; have NB180_181 := n8_; have NB181_180 := n9_; clear n0_ n1_ n2_ n3_ n4_ n5_ n6_ n7_ n8_ n9_; clear hb hbox hg; have hnb17 := NB179_180.out; have hnc17 := NB180_179.out; have hnb18 := NB179_181.out; have hnc18 := NB181_179.out; have hcz19_0 : w16.cell? ⟨gb179, 0, none⟩ = some (.bool false) := (blk_cell BK179.out 0).trans rfl; have hcz19_1 : w16.cell? ⟨gb179, 1, none⟩ = some (.int .i64 a0_1) := (blk_cell BK179.out 1).trans rfl; have hcz19_2 : w16.cell? ⟨gb179, 2, none⟩ = some (.int .i64 a0_2) := (blk_cell BK179.out 2).trans rfl; have hfz19_0 := blk_frozen BK179.out 0; have hfz19_1 := blk_frozen BK179.out 1; have hfz19_2 := blk_frozen BK179.out 2; have hnb20 := NB180_181.out; have hnc20 := NB181_180.out; have hcz21_0 : w16.cell? ⟨gb180, 0, none⟩ = some (.bool true) := (blk_cell BK180.out 0).trans rfl; have hcz21_1 : w16.cell? ⟨gb180, 1, none⟩ = some (.int .i64 a1_1) := (blk_cell BK180.out 1).trans rfl; have hcz21_2 : w16.cell? ⟨gb180, 2, none⟩ = some (.int .i64 a1_2) := (blk_cell BK180.out 2).trans rfl; have hfz21_0 := blk_frozen BK180.out 0; have hfz21_1 := blk_frozen BK180.out 1; have hfz21_2 := blk_frozen BK180.out 2; have hcz22_0 : w16.cell? ⟨gb181, 0, none⟩ = some (.bool false) := (blk_cell BK181.out 0).trans rfl; have hcz22_1 : w16.cell? ⟨gb181, 1, none⟩ = some (.int .i64 0) := (blk_cell BK181.out 1).trans rfl; have hcz22_2 : w16.cell? ⟨gb181, 2, none⟩ = some (.int .i64 0) := (blk_cell BK181.out 2).trans rfl; have hfz22_0 := blk_frozen BK181.out 0; have hfz22_1 := blk_frozen BK181.out 1; have hfz22_2 := blk_frozen BK181.out 2))
      refine bodyPost_ret (results_cell_row rfl _ _ gb181 23 #[.bool false, .int .i64 a0_1, .int .i64 a0_2] (0, 0) _ rfl (by (with_reducible repeat (first | refine blk_drewN ?_ _ | refine blk_drew ?_ | refine blk_alloc ?_ _)); refine blk_put (cs := #[.bool false, .int .i64 a0_1, .int .i64 0]) ?_ 2 _ rfl; (with_reducible repeat (first | refine blk_drewN ?_ _ | refine blk_drew ?_ | refine blk_alloc ?_ _)); refine blk_put (cs := #[.bool false, .int .i64 0, .int .i64 0]) ?_ 1 _ rfl; (with_reducible repeat (first | refine blk_drewN ?_ _ | refine blk_drew ?_ | refine blk_alloc ?_ _)); refine blk_put (cs := #[.bool false, .int .i64 0, .int .i64 0]) ?_ 0 _ rfl; (with_reducible repeat (first | refine blk_drewN ?_ _ | refine blk_drew ?_ | refine blk_alloc ?_ _)); exact BK181.out) Tryd.underlying23 rfl (by kernel_rfl)) rfl ?_
      exact ⟨by first | rfl | (simp [errW_none, errW_some] <;> rfl) | (simp [*, errW_none, errW_some] <;> rfl), by repeat (first | (with_reducible first | exact HB.out | apply below_alloc | apply pw_below_drewN | apply below_drew1 | refine below_set ?_ GE179.out | refine below_set ?_ GE180.out | refine below_set ?_ GE181.out) | exact HB.out)⟩
    · replace c13 := Bool.eq_false_iff.mpr c13
      subst c13
      have H1 : ((congr_apart.f k false a0_1 a0_2 false a1_1 a1_2).bind fun t182 => ((congr_by.f k t182 a0_2).bind fun bt183 => (some (bt183.1, bt183.2.1, bt183.2.2)))) = some (r1, r2, r3) := by rw [if_neg (show ¬ (false = true) by decide)] at H; exact H
      clear H
      have H := H1
      clear H1
      replace H := Option.bind_eq_some_iff.mp H
      obtain ⟨t182, A230, H⟩ := H
      replace H : ((congr_by.f k t182 a0_2).bind fun bt183 => (some (bt183.1, bt183.2.1, bt183.2.2))) = some (r1, r2, r3) := H
      have A23 := Aside0.mk A230
      clear A230
      replace H := Option.bind_eq_some_iff.mp H
      obtain ⟨⟨t183, t184, t185⟩, A240, H⟩ := H
      replace H : (some (t183, t184, t185)) = some (r1, r2, r3) := H
      have A24 := Aside0.mk A240
      clear A240
      simp only [Option.some.injEq, Prod.mk.injEq] at H
      obtain ⟨rfl, rfl, rfl⟩ := H
      go_enter Tryd.func19, Tryd.ntmps19
      try go_wp2_with (first | ((with_reducible refine gate_dst (N := 2) rfl ?_); refine box_event ?hg (N := 2) ?hd (cs := #[.bool false, .int .i64 a0_1, .int .i64 a0_2]) (t := 23) ?hr ?_; (case hd => rfl); (case hg => rfl); (case hr => first | (go_simp; done) | (go_simp; rfl)); intro gb179 hg w25 hbox hb; have n0_ := Aside0.mk (below_step (by repeat (first | (with_reducible first | exact HB.out | apply below_alloc | apply pw_below_drewN | apply below_drew1) | exact HB.out)) hb); have n1_ := Aside0.mk (hbox); have n2_ := Aside0.mk ((by rw [hg]; exact (below_size (by repeat (first | (with_reducible first | exact HB.out | apply below_alloc | apply pw_below_drewN | apply below_drew1) | exact HB.out))) : w.heap.size ≤ gb179)); have n3_ := Aside0.mk ((by rw [hg]; exact (below_size (by repeat (first | (with_reducible first | exact HB.out | apply below_alloc | apply pw_below_drewN | apply below_drew1) | exact HB.out))) : w.heap.size ≤ gb179)); clear HB; have HB := n0_; have BK179 := n1_; have GW179 := n2_; have GE179 := n3_; clear n0_ n1_ n2_ n3_; clear hb hbox hg) | ((with_reducible refine gate_dst (N := 3) rfl ?_); refine box_event ?hg (N := 3) ?hd (cs := #[.bool false, .int .i64 a1_1, .int .i64 a1_2]) (t := 23) ?hr ?_; (case hd => rfl); (case hg => rfl); (case hr => first | (go_simp; done) | (go_simp; rfl)); intro gb180 hg w26 hbox hb; have n0_ := Aside0.mk (blk_below (g := gb179) (o := .cells #[.bool false, .int .i64 a0_1, .int .i64 a0_2] 23 (0, 0)) (by (with_reducible repeat (first | refine blk_drewN ?_ _ | refine blk_drew ?_ | refine blk_alloc ?_ _)); exact BK179.out) hb); have n1_ := Aside0.mk (below_step (by repeat (first | (with_reducible first | exact HB.out | apply below_alloc | apply pw_below_drewN | apply below_drew1 | refine below_set ?_ GE179.out) | exact HB.out)) hb); have n2_ := Aside0.mk (hbox); have n3_ := Aside0.mk ((by rw [hg]; exact (below_size (by repeat (first | (with_reducible first | exact HB.out | apply below_alloc | apply pw_below_drewN | apply below_drew1 | refine below_set ?_ GE179.out) | exact HB.out))) : w.heap.size ≤ gb180)); have n4_ := Aside0.mk ((by rw [hg]; exact (below_size (by repeat (first | (with_reducible first | exact HB.out | apply below_alloc | apply pw_below_drewN | apply below_drew1 | refine below_set ?_ GE179.out) | exact HB.out))) : w.heap.size ≤ gb180)); have n5_ := Aside0.mk ((by rw [hg]; exact Nat.ne_of_lt (blk_lt (g := gb179) (o := .cells #[.bool false, .int .i64 a0_1, .int .i64 a0_2] 23 (0, 0)) (by (with_reducible repeat (first | refine blk_drewN ?_ _ | refine blk_drew ?_ | refine blk_alloc ?_ _)); exact BK179.out)) : gb179 ≠ gb180)); have n6_ := Aside0.mk ((by rw [hg]; exact Nat.ne_of_gt (blk_lt (g := gb179) (o := .cells #[.bool false, .int .i64 a0_1, .int .i64 a0_2] 23 (0, 0)) (by (with_reducible repeat (first | refine blk_drewN ?_ _ | refine blk_drew ?_ | refine blk_alloc ?_ _)); exact BK179.out)) : gb180 ≠ gb179)); clear BK179; clear HB; have BK179 := n0_; have HB := n1_; have BK180 := n2_; have GW180 := n3_; have GE180 := n4_; have NB179_180 := n5_; have NB180_179 := n6_; clear n0_ n1_ n2_ n3_ n4_ n5_ n6_; clear hb hbox hg) | ((with_reducible refine gate_dst (N := 4) rfl ?_); refine box_event ?hg (N := 4) ?hd (cs := #[.bool false, .int .i64 0, .int .i64 0]) (t := 23) ?hr ?_; (case hd => rfl); (case hg => rfl); (case hr => first | (go_simp; done) | (go_simp; rfl)); intro gb181 hg w27 hbox hb; have n0_ := Aside0.mk (blk_below (g := gb179) (o := .cells #[.bool false, .int .i64 a0_1, .int .i64 a0_2] 23 (0, 0)) (by (with_reducible repeat (first | refine blk_drewN ?_ _ | refine blk_drew ?_ | refine blk_alloc ?_ _)); exact BK179.out) hb); have n1_ := Aside0.mk (blk_below (g := gb180) (o := .cells #[.bool false, .int .i64 a1_1, .int .i64 a1_2] 23 (0, 0)) (by (with_reducible repeat (first | refine blk_drewN ?_ _ | refine blk_drew ?_ | refine blk_alloc ?_ _)); exact BK180.out) hb); have n2_ := Aside0.mk (below_step (by repeat (first | (with_reducible first | exact HB.out | apply below_alloc | apply pw_below_drewN | apply below_drew1 | refine below_set ?_ GE179.out | refine below_set ?_ GE180.out) | exact HB.out)) hb); have n3_ := Aside0.mk (hbox); have n4_ := Aside0.mk ((by rw [hg]; exact (below_size (by repeat (first | (with_reducible first | exact HB.out | apply below_alloc | apply pw_below_drewN | apply below_drew1 | refine below_set ?_ GE179.out | refine below_set ?_ GE180.out) | exact HB.out))) : w.heap.size ≤ gb181)); have n5_ := Aside0.mk ((by rw [hg]; exact (below_size (by repeat (first | (with_reducible first | exact HB.out | apply below_alloc | apply pw_below_drewN | apply below_drew1 | refine below_set ?_ GE179.out | refine below_set ?_ GE180.out) | exact HB.out))) : w.heap.size ≤ gb181)); have n6_ := Aside0.mk ((by rw [hg]; exact Nat.ne_of_lt (blk_lt (g := gb179) (o := .cells #[.bool false, .int .i64 a0_1, .int .i64 a0_2] 23 (0, 0)) (by (with_reducible repeat (first | refine blk_drewN ?_ _ | refine blk_drew ?_ | refine blk_alloc ?_ _)); exact BK179.out)) : gb179 ≠ gb181)); have n7_ := Aside0.mk ((by rw [hg]; exact Nat.ne_of_gt (blk_lt (g := gb179) (o := .cells #[.bool false, .int .i64 a0_1, .int .i64 a0_2] 23 (0, 0)) (by (with_reducible repeat (first | refine blk_drewN ?_ _ | refine blk_drew ?_ | refine blk_alloc ?_ _)); exact BK179.out)) : gb181 ≠ gb179)); have n8_ := Aside0.mk ((by rw [hg]; exact Nat.ne_of_lt (blk_lt (g := gb180) (o := .cells #[.bool false, .int .i64 a1_1, .int .i64 a1_2] 23 (0, 0)) (by (with_reducible repeat (first | refine blk_drewN ?_ _ | refine blk_drew ?_ | refine blk_alloc ?_ _)); exact BK180.out)) : gb180 ≠ gb181)); have n9_ := Aside0.mk ((by rw [hg]; exact Nat.ne_of_gt (blk_lt (g := gb180) (o := .cells #[.bool false, .int .i64 a1_1, .int .i64 a1_2] 23 (0, 0)) (by (with_reducible repeat (first | refine blk_drewN ?_ _ | refine blk_drew ?_ | refine blk_alloc ?_ _)); exact BK180.out)) : gb181 ≠ gb180)); clear BK179; clear BK180; clear HB; have BK179 := n0_; have BK180 := n1_; have HB := n2_; have BK181 := n3_; have GW181 := n4_; have GE181 := n5_; have NB179_181 := n6_; have NB181_179 := n7_; have NB180_181 := n8_; have NB181_180 := n9_; clear n0_ n1_ n2_ n3_ n4_ n5_ n6_ n7_ n8_ n9_; clear hb hbox hg; have hnb28 := NB179_180.out; have hnc28 := NB180_179.out; have hnb29 := NB179_181.out; have hnc29 := NB181_179.out; have hcz30_0 : w27.cell? ⟨gb179, 0, none⟩ = some (.bool false) := (blk_cell BK179.out 0).trans rfl; have hcz30_1 : w27.cell? ⟨gb179, 1, none⟩ = some (.int .i64 a0_1) := (blk_cell BK179.out 1).trans rfl; have hcz30_2 : w27.cell? ⟨gb179, 2, none⟩ = some (.int .i64 a0_2) := (blk_cell BK179.out 2).trans rfl; have hfz30_0 := blk_frozen BK179.out 0; have hfz30_1 := blk_frozen BK179.out 1; have hfz30_2 := blk_frozen BK179.out 2; have hnb31 := NB180_181.out; have hnc31 := NB181_180.out; have hcz32_0 : w27.cell? ⟨gb180, 0, none⟩ = some (.bool false) := (blk_cell BK180.out 0).trans rfl; have hcz32_1 : w27.cell? ⟨gb180, 1, none⟩ = some (.int .i64 a1_1) := (blk_cell BK180.out 1).trans rfl; have hcz32_2 : w27.cell? ⟨gb180, 2, none⟩ = some (.int .i64 a1_2) := (blk_cell BK180.out 2).trans rfl; have hfz32_0 := blk_frozen BK180.out 0; have hfz32_1 := blk_frozen BK180.out 1; have hfz32_2 := blk_frozen BK180.out 2))
      have n0_ := Aside0.mk (blk_drew BK179.out)
      have n1_ := Aside0.mk (blk_drew BK180.out)
      have n2_ := Aside0.mk (blk_drew BK181.out)
      have n3_ := Aside0.mk (below_drew1 HB.out)
      clear BK179
      clear BK180
      clear BK181
      clear HB
      have BK179 := n0_
      have BK180 := n1_
      have BK181 := n2_
      have HB := n3_
      clear n0_ n1_ n2_ n3_
      refine start_ (n := 7) (S := fun w' => w'.cell? ⟨gb179, 0, none⟩ = some (.bool false) ∧ w'.cell? ⟨gb179, 1, none⟩ = some (.int .i64 a0_1) ∧ w'.cell? ⟨gb179, 2, none⟩ = some (.int .i64 a0_2) ∧ w'.cell? ⟨gb180, 0, none⟩ = some (.bool false) ∧ w'.cell? ⟨gb180, 1, none⟩ = some (.int .i64 a1_1) ∧ w'.cell? ⟨gb180, 2, none⟩ = some (.int .i64 a1_2)) (ds := []) #[false, false, false, false, false, false, false] (by kernel_rfl) rfl rfl ⟨(blk_cell BK179.out 0).trans rfl, (blk_cell BK179.out 1).trans rfl, (blk_cell BK179.out 2).trans rfl, (blk_cell BK180.out 0).trans rfl, (blk_cell BK180.out 1).trans rfl, (blk_cell BK180.out 2).trans rfl⟩ (fun hHeld => ?_)
      generalize w27.drew = w33 at BK179 BK180 BK181 HB hHeld ⊢
      refine pure_ (i := 3) (N := some 16) (v := ?_) (a' := ?_) #[false, false, false, true, false, false, false] rfl rfl (by kernel_rfl) (fun _ _ _ h => h) (Or.inl ⟨by rfl, ?_⟩) ?_ ?_
      rotate_left
      · intro w'
        go_simp
        with_reducible rfl
      rotate_left
      · simp only [Act.put, List.setIfInBounds_toArray, List.set_cons_zero, List.set_cons_succ, i64_w, i32_w]
        rfl
      refine take_ (i := 0) (N := some 13) (v := ?_) (a' := ?_) #[true, false, false, true, false, false, false] rfl rfl (by kernel_rfl) (fun _ _ _ h => h) (Or.inl ⟨by rfl, ?_⟩) hHeld ?_ ?_
      rotate_left
      · rintro w' ⟨s0, s1, s2, s3, s4, s5⟩
        go_simp
        with_reducible rfl
      rotate_left
      · simp only [Act.put, List.setIfInBounds_toArray, List.set_cons_zero, List.set_cons_succ, i64_w, i32_w]
        rfl
      refine take_ (i := 1) (N := some 14) (v := ?_) (a' := ?_) #[true, true, false, true, false, false, false] rfl rfl (by kernel_rfl) (fun _ _ _ h => h) (Or.inl ⟨by rfl, ?_⟩) hHeld ?_ ?_
      rotate_left
      · rintro w' ⟨s0, s1, s2, s3, s4, s5⟩
        go_simp
        with_reducible rfl
      rotate_left
      · simp only [Act.put, List.setIfInBounds_toArray, List.set_cons_zero, List.set_cons_succ, i64_w, i32_w]
        rfl
      refine take_ (i := 4) (N := some 17) (v := ?_) (a' := ?_) #[true, true, false, true, true, false, false] rfl rfl (by kernel_rfl) (fun _ _ _ h => h) (Or.inl ⟨by rfl, ?_⟩) hHeld ?_ ?_
      rotate_left
      · rintro w' ⟨s0, s1, s2, s3, s4, s5⟩
        go_simp
        with_reducible rfl
      rotate_left
      · simp only [Act.put, List.setIfInBounds_toArray, List.set_cons_zero, List.set_cons_succ, i64_w, i32_w]
        rfl
      refine one_ (i := 2) (N := some 15) #[true, true, true, true, true, false, false] rfl rfl (by kernel_rfl) (by decide) (fun K hK => ?_)
      refine goes_ Tryd.func61 (by kernel_rfl) rfl #[.agg #[.bool false, .int .i64 a0_1, .int .i64 a0_2], .agg #[.bool false, .int .i64 a1_1, .int .i64 a1_2]] (by rfl) rfl rfl (by (try simp only [List.map_toArray, List.map_cons, List.map_nil]); first | done | rfl | (simp only [List.length_drop, List.length_take]; rfl)) ?_
      with_reducible refine (congr_apart.calls k false a0_1 a0_2 false a1_1 a1_2 t182 _ A23.out).mono ?_
      rintro e w34 ⟨rfl, hb⟩
      refine ⟨_, rfl, ?_⟩
      have n0_ := Aside0.mk (blk_below (g := gb179) (o := .cells #[.bool false, .int .i64 a0_1, .int .i64 a0_2] 23 (0, 0)) (by (with_reducible repeat (first | refine blk_drewN ?_ _ | refine blk_drew ?_ | refine blk_alloc ?_ _)); exact BK179.out) hb)
      have n1_ := Aside0.mk (blk_below (g := gb180) (o := .cells #[.bool false, .int .i64 a1_1, .int .i64 a1_2] 23 (0, 0)) (by (with_reducible repeat (first | refine blk_drewN ?_ _ | refine blk_drew ?_ | refine blk_alloc ?_ _)); exact BK180.out) hb)
      have n2_ := Aside0.mk (blk_below (g := gb181) (o := .cells #[.bool false, .int .i64 0, .int .i64 0] 23 (0, 0)) (by (with_reducible repeat (first | refine blk_drewN ?_ _ | refine blk_drew ?_ | refine blk_alloc ?_ _)); exact BK181.out) hb)
      have n3_ := Aside0.mk (below_step (by repeat (first | (with_reducible first | exact HB.out | apply below_alloc | apply pw_below_drewN | apply below_drew1 | refine below_set ?_ GE179.out | refine below_set ?_ GE180.out | refine below_set ?_ GE181.out) | exact HB.out)) hb)
      clear BK179
      clear BK180
      clear BK181
      clear HB
      have BK179 := n0_
      have BK180 := n1_
      have BK181 := n2_
      have HB := n3_
      clear n0_ n1_ n2_ n3_
      (try clear hb)
      (try clear hb2)
      (try clear hk)
      (try clear hi)
      refine hK.out _ _ ⟨(blk_cell BK179.out 0).trans rfl, (blk_cell BK179.out 1).trans rfl, (blk_cell BK179.out 2).trans rfl, (blk_cell BK180.out 0).trans rfl, (blk_cell BK180.out 1).trans rfl, (blk_cell BK180.out 2).trans rfl⟩ (fun hHeld => ?_)
      clear hK K
      refine norm_ (a' := ?_) ?_ ?_
      rotate_left
      · show Act.put _ (some 15) _ = _
        simp only [Act.put, List.setIfInBounds_toArray, List.set_cons_zero, List.set_cons_succ, i64_w, i32_w]
        rfl
      refine one_ (i := 5) (N := some 18) #[true, true, true, true, true, true, false] rfl rfl (by kernel_rfl) (by decide) (fun K hK => ?_)
      refine goes_ Tryd.func60 (by kernel_rfl) rfl #[.int .u64 t182, .int .i64 a0_2] (by rfl) rfl rfl (by (try simp only [List.map_toArray, List.map_cons, List.map_nil]); first | done | rfl | (simp only [List.length_drop, List.length_take]; rfl)) ?_
      with_reducible refine (congr_by.calls k t182 a0_2 t183 t184 t185 _ A24.out).mono ?_
      rintro e w35 ⟨rfl, hb⟩
      refine ⟨_, rfl, ?_⟩
      have n0_ := Aside0.mk (blk_below (g := gb179) (o := .cells #[.bool false, .int .i64 a0_1, .int .i64 a0_2] 23 (0, 0)) (by (with_reducible repeat (first | refine blk_drewN ?_ _ | refine blk_drew ?_ | refine blk_alloc ?_ _)); exact BK179.out) hb)
      have n1_ := Aside0.mk (blk_below (g := gb180) (o := .cells #[.bool false, .int .i64 a1_1, .int .i64 a1_2] 23 (0, 0)) (by (with_reducible repeat (first | refine blk_drewN ?_ _ | refine blk_drew ?_ | refine blk_alloc ?_ _)); exact BK180.out) hb)
      have n2_ := Aside0.mk (blk_below (g := gb181) (o := .cells #[.bool false, .int .i64 0, .int .i64 0] 23 (0, 0)) (by (with_reducible repeat (first | refine blk_drewN ?_ _ | refine blk_drew ?_ | refine blk_alloc ?_ _)); exact BK181.out) hb)
      have n3_ := Aside0.mk (below_step (by repeat (first | (with_reducible first | exact HB.out | apply below_alloc | apply pw_below_drewN | apply below_drew1 | refine below_set ?_ GE179.out | refine below_set ?_ GE180.out | refine below_set ?_ GE181.out) | exact HB.out)) hb)
      clear BK179
      clear BK180
      clear BK181
      clear HB
      have BK179 := n0_
      have BK180 := n1_
      have BK181 := n2_
      have HB := n3_
      clear n0_ n1_ n2_ n3_
      (try clear hb)
      (try clear hb2)
      (try clear hk)
      (try clear hi)
      refine hK.out _ _ ⟨(blk_cell BK179.out 0).trans rfl, (blk_cell BK179.out 1).trans rfl, (blk_cell BK179.out 2).trans rfl, (blk_cell BK180.out 0).trans rfl, (blk_cell BK180.out 1).trans rfl, (blk_cell BK180.out 2).trans rfl⟩ (fun hHeld => ?_)
      clear hK K
      refine norm_ (a' := ?_) ?_ ?_
      rotate_left
      · show Act.put _ (some 18) _ = _
        simp only [Act.put, List.setIfInBounds_toArray, List.set_cons_zero, List.set_cons_succ, i64_w, i32_w]
        rfl
      refine one_ (i := 6) (N := none) #[true, true, true, true, true, true, true] rfl rfl (by kernel_rfl) (by decide) (fun K hK => ?_)
      have hs36 : w35.cell? ⟨gb181, 0, none⟩ = some (.bool false) := (blk_cell BK181.out 0).trans rfl
      have hfs36 := blk_frozen BK181.out 0
      have hns36_0 := NB179_181.out
      have hns36_1 := NB180_181.out
      have hms36_0 := NB181_179.out
      have hms36_1 := NB181_180.out
      have hs37 : w35.cell? ⟨gb181, 1, none⟩ = some (.int .i64 0) := (blk_cell BK181.out 1).trans rfl
      have hfs37 := blk_frozen BK181.out 1
      have hns37_0 := NB179_181.out
      have hns37_1 := NB180_181.out
      have hms37_0 := NB181_179.out
      have hms37_1 := NB181_180.out
      have hs38 : w35.cell? ⟨gb181, 2, none⟩ = some (.int .i64 0) := (blk_cell BK181.out 2).trans rfl
      have hfs38 := blk_frozen BK181.out 2
      have hns38_0 := NB179_181.out
      have hns38_1 := NB180_181.out
      have hms38_0 := NB181_179.out
      have hms38_1 := NB181_180.out
      refine skip_ (w1 := ?_) (by rfl) rfl ?_ ?_
      rotate_left
      · go_simp
        rfl
      refine hK.out _ _ ⟨((cell_far (p := ⟨gb181, _, none⟩) NB179_181.out _).trans (((cell_far (p := ⟨gb181, _, none⟩) NB179_181.out _).trans (((cell_far (p := ⟨gb181, _, none⟩) NB179_181.out _).trans (hHeld.1)))))), ((cell_far (p := ⟨gb181, _, none⟩) NB179_181.out _).trans (((cell_far (p := ⟨gb181, _, none⟩) NB179_181.out _).trans (((cell_far (p := ⟨gb181, _, none⟩) NB179_181.out _).trans (hHeld.2.1)))))), ((cell_far (p := ⟨gb181, _, none⟩) NB179_181.out _).trans (((cell_far (p := ⟨gb181, _, none⟩) NB179_181.out _).trans (((cell_far (p := ⟨gb181, _, none⟩) NB179_181.out _).trans (hHeld.2.2.1)))))), ((cell_far (p := ⟨gb181, _, none⟩) NB180_181.out _).trans (((cell_far (p := ⟨gb181, _, none⟩) NB180_181.out _).trans (((cell_far (p := ⟨gb181, _, none⟩) NB180_181.out _).trans (hHeld.2.2.2.1)))))), ((cell_far (p := ⟨gb181, _, none⟩) NB180_181.out _).trans (((cell_far (p := ⟨gb181, _, none⟩) NB180_181.out _).trans (((cell_far (p := ⟨gb181, _, none⟩) NB180_181.out _).trans (hHeld.2.2.2.2.1)))))), ((cell_far (p := ⟨gb181, _, none⟩) NB180_181.out _).trans (((cell_far (p := ⟨gb181, _, none⟩) NB180_181.out _).trans (((cell_far (p := ⟨gb181, _, none⟩) NB180_181.out _).trans (hHeld.2.2.2.2.2))))))⟩ (fun hHeld => ?_)
      clear hK K
      refine done_ (by kernel_rfl) ?_
      try go_wp2
      refine bodyPost_ret (results_cell_row rfl _ _ gb181 23 #[.bool t183, .int .i64 t184, .int .i64 t185] (0, 0) _ rfl (by (with_reducible repeat (first | refine blk_drewN ?_ _ | refine blk_drew ?_ | refine blk_alloc ?_ _)); refine blk_put (cs := #[.bool t183, .int .i64 t184, .int .i64 0]) ?_ 2 _ rfl; (with_reducible repeat (first | refine blk_drewN ?_ _ | refine blk_drew ?_ | refine blk_alloc ?_ _)); refine blk_put (cs := #[.bool t183, .int .i64 0, .int .i64 0]) ?_ 1 _ rfl; (with_reducible repeat (first | refine blk_drewN ?_ _ | refine blk_drew ?_ | refine blk_alloc ?_ _)); refine blk_put (cs := #[.bool false, .int .i64 0, .int .i64 0]) ?_ 0 _ rfl; (with_reducible repeat (first | refine blk_drewN ?_ _ | refine blk_drew ?_ | refine blk_alloc ?_ _)); exact BK181.out) Tryd.underlying23 rfl (by kernel_rfl)) rfl ?_
      exact ⟨by first | rfl | (simp [errW_none, errW_some] <;> rfl) | (simp [*, errW_none, errW_some] <;> rfl), by repeat (first | (with_reducible first | exact HB.out | apply below_alloc | apply pw_below_drewN | apply below_drew1 | refine below_set ?_ GE179.out | refine below_set ?_ GE180.out | refine below_set ?_ GE181.out) | exact HB.out)⟩

end Go.Proofs.YtfmmjekhknaniaaDoor.Pr
/- What Join of layer 31 on two fit congruences answers. Condition: fit ones. -/
namespace Go.Proofs.YtfmmjekhknaniaaDoor.Core
open Go.RowKit Go.Proofs.YtfmmjekhknaniaaDoor.Pr Go.Proofs.YtfmmjekhknaniaaDoorW.PrintWords

theorem ev_of {α : Type} {g : Nat → Option α} {r : α} (n : Nat) (h : ∀ k, g (k + n) = some r) : Ev g r :=
  ⟨n, fun k hk => by obtain ⟨j, rfl⟩ : ∃ j, k = j + n := ⟨k - n, by omega⟩; exact h j⟩

theorem G_ab (a b : Int) : G a (ab b) = G a b := by
  refine Int.dvd_antisymm (G_nonneg _ _) (G_nonneg _ _) ?_ ?_
  · rw [dvd_G]; exact ⟨G_dvd_l _ _, dvd_ab.mp (G_dvd_r a (ab b))⟩
  · rw [dvd_G]; exact ⟨G_dvd_l _ _, dvd_ab.mpr (G_dvd_r a b)⟩
theorem ab_le {x m : Int} (h : -m ≤ x) (h' : x ≤ m) : ab x ≤ m := by unfold ab; split <;> omega

theorem eta3 (c : Cg) : (c.1, c.2.1, c.2.2) = c := rfl

theorem apart_f {a b : Cg} (ha : Fit a) (hb : Fit b) : Ev (fun k => congr_apart.f k a.1 a.2.1 a.2.2 b.1 b.2.1 b.2.2) (G (G a.2.1 b.2.1) (a.2.2 - b.2.2)) := by
  have ma := fit_mod ha
  have mb := fit_mod hb
  unfold congr_apart.f
  rw [u64_id (n := a.2.1) (by omega) (by omega), u64_id (n := b.2.1) (by omega) (by omega), w64_id (n := a.2.2 - b.2.2) (by omega) (by omega)]
  refine Ev.bind (gcd_f (by omega) (by omega)) ?_
  rw [size_f (by omega) (by omega)]
  simp only [Option.bind_some]
  have := gcd_f (G_nonneg a.2.1 b.2.1) (ab_nonneg (a.2.2 - b.2.2))
  rw [G_ab] at this
  exact Ev.bind this (Ev.now _)

theorem apart_le {a b : Cg} (ha : Fit a) (hb : Fit b) : G (G a.2.1 b.2.1) (a.2.2 - b.2.2) ≤ 18446744073709551615 := by
  have ma := fit_mod ha
  have mb := fit_mod hb
  rw [← G_ab]
  exact G_le (G_nonneg _ _) (ab_nonneg _) (G_le (by omega) (by omega) (by omega) (by omega)) (ab_le (by omega) (by omega))

theorem Join_f {a b : Cg} (ha : Fit a) (hb : Fit b) : Ev (fun k => congr_Join.f k a.1 a.2.1 a.2.2 b.1 b.2.1 b.2.2) (joinS a b) := by
  have ma := fit_mod ha
  unfold congr_Join.f joinS
  by_cases h1 : a.1 = true
  · simp only [if_pos h1]; exact Ev.now _
  · simp only [if_neg h1]
    by_cases h2 : b.1 = true
    · simp only [if_pos h2]; exact Ev.now _
    · simp only [if_neg h2]
      refine Ev.bind (apart_f ha hb) ?_
      exact Ev.bind (ev_of 1 (by_f (G_nonneg _ _) (apart_le ha hb) (by omega) (by omega))) (Ev.now _)

end Go.Proofs.YtfmmjekhknaniaaDoor.Core
/- The law's own awake: true, in every world. No condition. -/
namespace Go.Proofs.YtfmmjekhknaniaaDoor.Given
open Go.RowKit Go.Proofs.YtfmmjekhknaniaaDoor.Pr Go.Proofs.YtfmmjekhknaniaaDoor.Core
attribute [local go_sem high] eqA23

theorem of811 (w : World) : Calls Tryd.prog 10 #[.int .i64 8, .int .i64 11] w fun e w' => e = .returned (.agg #[.bool false, .int .i64 8, .int .i64 3]) ∧ Below w.heap.size w w' :=
  congr_Of.calls 1 8 11 false 8 3 w (by rw [Of_f (by omega) (by omega) (by omega) (by omega) 0]; decide +kernel)
theorem has833 (w : World) : Calls Tryd.prog 14 #[.agg #[.bool false, .int .i64 8, .int .i64 3], .int .i64 (-5)] w fun e w' => e = .returned (.bool true) ∧ Below w.heap.size w w' :=
  congr_Has.calls 8 false 8 3 (-5) true w (by decide +kernel)

def gimballaw31_awake.f : Option Bool := some true
set_option maxRecDepth 100000 in
theorem gimballaw31_awake.calls (r : Bool) (w : World) (h : gimballaw31_awake.f = some r) :
    Calls Tryd.prog 18 #[] w fun e w' => e = .returned (.bool r) ∧ Below w.heap.size w w' := by
  obtain rfl : true = r := Option.some.inj h
  clear h
  have hb0 := Below.refl w.heap.size w
  go_enter Tryd.func18, Tryd.ntmps18
  go_wp2_with (first | (go_at_call 10; with_reducible refine (of811 _).mono ?_; rintro e w' ⟨rfl, hb⟩; replace hb0 := hb0.trans (hb.mono hb0.size); clear hb) | (go_at_call 14; with_reducible refine (has833 _).mono ?_; rintro e w' ⟨rfl, hb⟩; replace hb0 := hb0.trans (hb.mono hb0.size); clear hb) | (go_at_call 16; with_reducible refine (congr_Text.calls false 8 3 _ _ rfl).mono ?_; rintro e w' ⟨rfl, hb⟩; replace hb0 := hb0.trans (hb.mono hb0.size); clear hb))
  go_ret
  exact ⟨rfl, hb0⟩
end Go.Proofs.YtfmmjekhknaniaaDoor.Given
-- PRINTED for this claim by hookprint.py, a program of this session's over the kit's print. Not trusted: Lean checks it.
namespace Go.Proofs.YtfmmjekhknaniaaDoor.Pr
open Go.RowKit Go.Proofs.YtfmmjekhknaniaaDoor.Given Go.Proofs.YtfmmjekhknaniaaDoorW.PrintWords Go.Proofs.YtfmmjekhknaniaaDoorW.PrintLast Go.Proofs.YtfmmjekhknaniaaDoorW.PrintMore
attribute [local go_sem] max2_int min2_int max_two min_two max_three min_three max_four min_four   -- for this text's walks alone
set_option linter.unusedVariables false
set_option linter.unusedSimpArgs false

attribute [local go_sem high] eqA23
/-! ### gimballaw31_CongrShort: function 4 -/
def gimballaw31_CongrShort.l0 : Nat → Int → List (S23) → Int → Int → Bool → Int → Int → Option (Bool)
  | 0, _, _, _, _, _, _, _ => none
  | k + 1, x4, x9, x10, x11, x187000, x187001, x187002 => if x11 < x10 then (if 0 ≤ x11 then (if x11 < (x9.length : Int) then ((gimbalref31_Fit.f k ((rd_T23 x9 x11).f0) ((rd_T23 x9 x11).f1) ((rd_T23 x9 x11).f2)).bind fun t190 => (if t190 = true then ((congr_Join.f k x187000 x187001 x187002 ((rd_T23 x9 x11).f0) ((rd_T23 x9 x11).f1) ((rd_T23 x9 x11).f2)).bind fun bt191 => (if (!(bt191.1 == x187000) || (!(bt191.2.1 == x187001) || (!(bt191.2.2 == x187002)))) = true then (gimballaw31_CongrShort.l0 k (wrap64 (x4 + 1)) x9 x10 (wrap64 (x11 + 1)) bt191.1 bt191.2.1 bt191.2.2) else (gimballaw31_CongrShort.l0 k x4 x9 x10 (wrap64 (x11 + 1)) bt191.1 bt191.2.1 bt191.2.2))) else ((gimballaw31_awake.f).bind fun t195 => (some t195)))) else (none)) else (none)) else (if x4 ≤ 33 then ((gimballaw31_awake.f).bind fun t187 => (some t187)) else (some false))
def gimballaw31_CongrShort.f (k : Nat) (l0 : List (S23)) : Option (Bool) := gimballaw31_CongrShort.l0 k 0 l0 (l0.length : Int) 0 true 0 0
theorem gimballaw31_CongrShort.mono_l : ∀ k, (∀ y0 y1 y2 y3 y4 y5 y6, LeO (gimballaw31_CongrShort.l0 k y0 y1 y2 y3 y4 y5 y6) (gimballaw31_CongrShort.l0 (k + 1) y0 y1 y2 y3 y4 y5 y6))
  | 0 => fun _ _ _ _ _ _ _ r h => by simp [gimballaw31_CongrShort.l0] at h
  | k + 1 => by
    have ih0 := gimballaw31_CongrShort.mono_l k
    · intro y0 y1 y2 y3 y4 y5 y6
      unfold gimballaw31_CongrShort.l0
      repeat' first
      | (with_reducible exact ih0 _ _ _ _ _ _ _)
      | (with_reducible exact congr_Join.mono _ _ _ _ _ _ _)
      | (with_reducible exact gimbalref31_Fit.mono _ _ _ _)
      | (with_reducible exact LeO.refl _)
      | (with_reducible exact LeO.none _)
      | (with_reducible refine LeO.ite ?_ ?_)
      | (with_reducible refine LeO.bind ?_ (fun _ => ?_))
      | exact ih0 _ _ _ _ _ _ _
      | exact congr_Join.mono _ _ _ _ _ _ _
      | exact gimbalref31_Fit.mono _ _ _ _
      | exact LeO.none _
      | refine LeO.ite ?_ ?_
      | refine LeO.bind ?_ (fun _ => ?_)
theorem gimballaw31_CongrShort.mono : ∀ a0 k, LeO (gimballaw31_CongrShort.f k a0) (gimballaw31_CongrShort.f (k + 1) a0) := by
  intro a0 k
  have ih0 := gimballaw31_CongrShort.mono_l k
  unfold gimballaw31_CongrShort.f
  repeat' first
      | (with_reducible exact ih0 _ _ _ _ _ _ _)
      | (with_reducible exact congr_Join.mono _ _ _ _ _ _ _)
      | (with_reducible exact gimbalref31_Fit.mono _ _ _ _)
      | (with_reducible exact LeO.refl _)
      | (with_reducible exact LeO.none _)
      | (with_reducible refine LeO.ite ?_ ?_)
      | (with_reducible refine LeO.bind ?_ (fun _ => ?_))
      | exact ih0 _ _ _ _ _ _ _
      | exact congr_Join.mono _ _ _ _ _ _ _
      | exact gimbalref31_Fit.mono _ _ _ _
      | exact LeO.none _
      | refine LeO.ite ?_ ?_
      | refine LeO.bind ?_ (fun _ => ?_)
set_option maxHeartbeats 8000000 in
set_option maxRecDepth 100000 in
theorem gimballaw31_CongrShort.calls (k : Nat) (A0 : Option Addr) (c0 : Nat) (l0 : List (S23)) (r : Bool) (w : World) (hr0 : Kd.C k23 w A0 l0.length l0) (hc0 : l0.length ≤ c0) (h : gimballaw31_CongrShort.f k l0 = some r) :
    Calls Tryd.prog 4 #[.slice A0 l0.length c0] w fun e w' => e = .returned (.bool r) ∧ Below w.heap.size w w' := by
  have hu23 := Tryd.underlying23
  have HR0 := Aside0.mk hr0
  have HC0 := Aside0.mk hc0
  clear hr0 hc0
  have HB := Aside0.mk (Below.refl w.heap.size w)
  have H : (gimballaw31_CongrShort.l0 k 0 l0 (l0.length : Int) 0 true 0 0) = some r := h
  clear h
  have H' := Aside0.mk H
  clear H
  go_enter Tryd.func4, Tryd.ntmps4
  go_wp2_with (first | ((with_reducible refine gate_dst (N := 3) rfl ?_); refine box_event ?hg (N := 3) ?hd (cs := #[.bool false, .int .i64 0, .int .i64 0]) (t := 23) ?hr ?_; (case hd => rfl); (case hg => rfl); (case hr => first | (go_simp; done) | (go_simp; rfl)); intro gb186 hg w2 hbox hb; have n0_ := Aside0.mk (below_step (by repeat (first | (with_reducible first | exact HB.out | apply below_alloc | apply pw_below_drewN | apply below_drew1) | exact HB.out)) hb); have n1_ := Aside0.mk (hbox); have n2_ := Aside0.mk ((by rw [hg]; exact (below_size (by repeat (first | (with_reducible first | exact HB.out | apply below_alloc | apply pw_below_drewN | apply below_drew1) | exact HB.out))) : w.heap.size ≤ gb186)); have n3_ := Aside0.mk ((by rw [hg]; exact (below_size (by repeat (first | (with_reducible first | exact HB.out | apply below_alloc | apply pw_below_drewN | apply below_drew1) | exact HB.out))) : w.heap.size ≤ gb186)); clear HB; have HB := n0_; have BK186 := n1_; have GW186 := n2_; have GE186 := n3_; clear n0_ n1_ n2_ n3_; clear hb hbox hg; have hcz3_0 : w2.cell? ⟨gb186, 0, none⟩ = some (.bool false) := (blk_cell BK186.out 0).trans rfl; have hcz3_1 : w2.cell? ⟨gb186, 1, none⟩ = some (.int .i64 0) := (blk_cell BK186.out 1).trans rfl; have hcz3_2 : w2.cell? ⟨gb186, 2, none⟩ = some (.int .i64 0) := (blk_cell BK186.out 2).trans rfl; have hfz3_0 := blk_frozen BK186.out 0; have hfz3_1 := blk_frozen BK186.out 1; have hfz3_2 := blk_frozen BK186.out 2))
  go_loopg [4, 11] k (fun kq v4 v11 w' => ∃ (x4_1 : Int) (x11_1 : Int) (x187000_1 : Bool) (x187001_1 : Int) (x187002_1 : Int), v4 = .int .i64 x4_1 ∧ v11 = .int .i64 x11_1 ∧ Aside0 (gimballaw31_CongrShort.l0 kq x4_1 l0 (l0.length : Int) x11_1 x187000_1 x187001_1 x187002_1 = some r) ∧ Aside0 (kq ≤ k) ∧ Aside0 (w'.heap[gb186]? = some (.cells #[.bool x187000_1, .int .i64 x187001_1, .int .i64 x187002_1] 23 (0, 0))) ∧ Aside0 (Below w.heap.size w w'))
  case atStart => exact ⟨(0), (0), (true), (0), (0), (by first | rfl | (simp; done) | (simp [*]; done)), (by first | rfl | (simp; done) | (simp [*]; done)), H', ⟨Nat.le_refl _⟩, ⟨by (with_reducible repeat (first | refine blk_drewN ?_ _ | refine blk_drew ?_ | refine blk_alloc ?_ _)); refine blk_put (cs := #[.bool true, .int .i64 0, .int .i64 0]) ?_ 2 _ rfl; (with_reducible repeat (first | refine blk_drewN ?_ _ | refine blk_drew ?_ | refine blk_alloc ?_ _)); refine blk_put (cs := #[.bool true, .int .i64 0, .int .i64 0]) ?_ 1 _ rfl; (with_reducible repeat (first | refine blk_drewN ?_ _ | refine blk_drew ?_ | refine blk_alloc ?_ _)); refine blk_put (cs := #[.bool false, .int .i64 0, .int .i64 0]) ?_ 0 _ rfl; (with_reducible repeat (first | refine blk_drewN ?_ _ | refine blk_drew ?_ | refine blk_alloc ?_ _)); exact BK186.out⟩, ⟨by repeat (first | (with_reducible first | exact HB.out | apply below_alloc | apply pw_below_drewN | apply below_drew1 | refine below_set ?_ GE186.out) | exact HB.out)⟩⟩
  case round =>
    clear H'
    try clear p2
    try clear hcz3_0
    try clear hcz3_1
    try clear hcz3_2
    try clear hfz3_0
    try clear hfz3_1
    try clear hfz3_2
    obtain ⟨x4_1, x11_1, x187000_1, x187001_1, x187002_1, rfl, rfl, HA, HK1, BK186, HB⟩ := hrel
    cases gk with
    | zero => exact absurd HA.out (by simp [gimballaw31_CongrShort.l0])
    | succ k1 =>
      have H := HA.out
      clear HA
      simp only [gimballaw31_CongrShort.l0] at H
      by_cases c4 : x11_1 < (l0.length : Int)
      · rw [if_pos c4] at H
        have c4b0 : decide (x11_1 < (l0.length : Int)) = true := decide_eq_true c4
        clear c4
        by_cases c5 : 0 ≤ x11_1
        · rw [if_pos c5] at H
          have c5b0 : decide (0 ≤ x11_1) = true := decide_eq_true c5
          clear c5
          by_cases c6 : x11_1 < (l0.length : Int)
          · rw [if_pos c6] at H
            have c6b0 : decide (x11_1 < (l0.length : Int)) = true := decide_eq_true c6
            clear c6
            replace H := Option.bind_eq_some_iff.mp H
            obtain ⟨t190, A70, H⟩ := H
            replace H : (if t190 = true then ((congr_Join.f k1 x187000_1 x187001_1 x187002_1 ((rd_T23 l0 x11_1).f0) ((rd_T23 l0 x11_1).f1) ((rd_T23 l0 x11_1).f2)).bind fun bt191 => (if (!(bt191.1 == x187000_1) || (!(bt191.2.1 == x187001_1) || (!(bt191.2.2 == x187002_1)))) = true then (gimballaw31_CongrShort.l0 k1 (wrap64 (x4_1 + 1)) l0 (l0.length : Int) (wrap64 (x11_1 + 1)) bt191.1 bt191.2.1 bt191.2.2) else (gimballaw31_CongrShort.l0 k1 x4_1 l0 (l0.length : Int) (wrap64 (x11_1 + 1)) bt191.1 bt191.2.1 bt191.2.2))) else ((gimballaw31_awake.f).bind fun t195 => (some t195))) = some r := H
            have A7 := Aside0.mk A70
            clear A70
            by_cases c8 : t190 = true
            · subst c8
              have H1 : ((congr_Join.f k1 x187000_1 x187001_1 x187002_1 ((rd_T23 l0 x11_1).f0) ((rd_T23 l0 x11_1).f1) ((rd_T23 l0 x11_1).f2)).bind fun bt191 => (if (!(bt191.1 == x187000_1) || (!(bt191.2.1 == x187001_1) || (!(bt191.2.2 == x187002_1)))) = true then (gimballaw31_CongrShort.l0 k1 (wrap64 (x4_1 + 1)) l0 (l0.length : Int) (wrap64 (x11_1 + 1)) bt191.1 bt191.2.1 bt191.2.2) else (gimballaw31_CongrShort.l0 k1 x4_1 l0 (l0.length : Int) (wrap64 (x11_1 + 1)) bt191.1 bt191.2.1 bt191.2.2))) = some r := by rw [if_pos rfl] at H; exact H
              clear H
              have H := H1
              clear H1
              replace H := Option.bind_eq_some_iff.mp H
              obtain ⟨⟨t191, t192, t193⟩, A90, H⟩ := H
              replace H : (if (!(t191 == x187000_1) || (!(t192 == x187001_1) || (!(t193 == x187002_1)))) = true then (gimballaw31_CongrShort.l0 k1 (wrap64 (x4_1 + 1)) l0 (l0.length : Int) (wrap64 (x11_1 + 1)) t191 t192 t193) else (gimballaw31_CongrShort.l0 k1 x4_1 l0 (l0.length : Int) (wrap64 (x11_1 + 1)) t191 t192 t193)) = some r := H
              have A9 := Aside0.mk A90
              clear A90
              by_cases c10 : (!(t191 == x187000_1) || (!(t192 == x187001_1) || (!(t193 == x187002_1)))) = true
              · rw [if_pos c10] at H
                have c10b0 : (!(t191 == x187000_1) || (!(t192 == x187001_1) || (!(t193 == x187002_1)))) = true := c10
                clear c10
                have H' := Aside0.mk H
                clear H
                have p188 : 0 ≤ (x11_1 : Int) := of_decide_eq_true (by first | (with_reducible assumption) | assumption)
                have q188 : x11_1 < (l0.length : Int) := of_decide_eq_true (by first | (with_reducible assumption) | assumption)
                obtain ⟨ad188, e188, hx188_0, hx188_1, hx188_2⟩ := at_T23 HR0.out x11_1 p188 q188
                cases e188
                replace hx188_0 := (HB.out.cell (World.block_lt_of_cell? w _ hx188_0)).trans hx188_0
                replace hx188_1 := (HB.out.cell (World.block_lt_of_cell? w _ hx188_1)).trans hx188_1
                replace hx188_2 := (HB.out.cell (World.block_lt_of_cell? w _ hx188_2)).trans hx188_2
                replace p188 := eq_true p188
                replace q188 := eq_true q188
                go_wp2_with (first | ((with_reducible refine gate_dst (N := 6) rfl ?_); refine box_event ?hg (N := 6) ?hd (cs := #[.bool false, .int .i64 0, .int .i64 0]) (t := 23) ?hr ?_; (case hd => rfl); (case hg => rfl); (case hr => first | (go_simp; done) | (go_simp; rfl)); intro gb189 hg w11 hbox hb; have n0_ := Aside0.mk (blk_below (g := gb186) (o := .cells #[.bool x187000_1, .int .i64 x187001_1, .int .i64 x187002_1] 23 (0, 0)) (by (with_reducible repeat (first | refine blk_drewN ?_ _ | refine blk_drew ?_ | refine blk_alloc ?_ _)); exact BK186.out) hb); have n1_ := Aside0.mk (below_step (by repeat (first | (with_reducible first | exact HB.out | apply below_alloc | apply pw_below_drewN | apply below_drew1 | refine below_set ?_ GE186.out) | exact HB.out)) hb); have n2_ := Aside0.mk (hbox); have n3_ := Aside0.mk ((by rw [hg]; exact (below_size (by repeat (first | (with_reducible first | exact HB.out | apply below_alloc | apply pw_below_drewN | apply below_drew1 | refine below_set ?_ GE186.out) | exact HB.out))) : w.heap.size ≤ gb189)); have n4_ := Aside0.mk ((by rw [hg]; exact (below_size (by repeat (first | (with_reducible first | exact HB.out | apply below_alloc | apply pw_below_drewN | apply below_drew1 | refine below_set ?_ GE186.out) | exact HB.out))) : w.heap.size ≤ gb189)); have n5_ := Aside0.mk ((by rw [hg]; exact Nat.ne_of_lt (blk_lt (g := gb186) (o := .cells #[.bool x187000_1, .int .i64 x187001_1, .int .i64 x187002_1] 23 (0, 0)) (by (with_reducible repeat (first | refine blk_drewN ?_ _ | refine blk_drew ?_ | refine blk_alloc ?_ _)); exact BK186.out)) : gb186 ≠ gb189)); have n6_ := Aside0.mk ((by rw [hg]; exact Nat.ne_of_gt (blk_lt (g := gb186) (o := .cells #[.bool x187000_1, .int .i64 x187001_1, .int .i64 x187002_1] 23 (0, 0)) (by (with_reducible repeat (first | refine blk_drewN ?_ _ | refine blk_drew ?_ | refine blk_alloc ?_ _)); exact BK186.out)) : gb189 ≠ gb186)); clear BK186; clear HB; have BK186 := n0_; have HB := n1_; have BK189 := n2_; have GW189 := n3_; have GE189 := n4_; have NB186_189 := n5_; have NB189_186 := n6_; clear n0_ n1_ n2_ n3_ n4_ n5_ n6_; clear hb hbox hg; have hnb12 := NB189_186.out; have hnc12 := NB186_189.out; have hcz13_0 : w11.cell? ⟨gb189, 0, none⟩ = some (.bool false) := (blk_cell BK189.out 0).trans rfl; have hcz13_1 : w11.cell? ⟨gb189, 1, none⟩ = some (.int .i64 0) := (blk_cell BK189.out 1).trans rfl; have hcz13_2 : w11.cell? ⟨gb189, 2, none⟩ = some (.int .i64 0) := (blk_cell BK189.out 2).trans rfl; have hfz13_0 := blk_frozen BK189.out 0; have hfz13_1 := blk_frozen BK189.out 1; have hfz13_2 := blk_frozen BK189.out 2) | ((with_reducible refine gate_callee (f := 13) rfl ?_); refine goesL_ (some 16) rfl rfl Tryd.func13 (by kernel_rfl) rfl #[.agg #[.bool ((rd_T23 l0 x11_1).f0), .int .i64 ((rd_T23 l0 x11_1).f1), .int .i64 ((rd_T23 l0 x11_1).f2)]] rfl (by (try simp only [List.map_toArray, List.map_cons, List.map_nil]); first | done | rfl | (simp only [List.length_drop, List.length_take]; rfl)) ?_; (with_reducible refine (gimbalref31_Fit.calls k1 ((rd_T23 l0 x11_1).f0) ((rd_T23 l0 x11_1).f1) ((rd_T23 l0 x11_1).f2) true _ A7.out).mono ?_); rintro e w14 ⟨rfl, hb⟩; refine ⟨_, rfl, ?_⟩; have n0_ := Aside0.mk (blk_below (g := gb186) (o := .cells #[.bool x187000_1, .int .i64 x187001_1, .int .i64 x187002_1] 23 (0, 0)) (by (with_reducible repeat (first | refine blk_drewN ?_ _ | refine blk_drew ?_ | refine blk_alloc ?_ _)); refine blk_far ?_ NB186_189.out _; (with_reducible repeat (first | refine blk_drewN ?_ _ | refine blk_drew ?_ | refine blk_alloc ?_ _)); refine blk_far ?_ NB186_189.out _; (with_reducible repeat (first | refine blk_drewN ?_ _ | refine blk_drew ?_ | refine blk_alloc ?_ _)); refine blk_far ?_ NB186_189.out _; (with_reducible repeat (first | refine blk_drewN ?_ _ | refine blk_drew ?_ | refine blk_alloc ?_ _)); exact BK186.out) hb); have n1_ := Aside0.mk (blk_below (g := gb189) (o := .cells #[.bool ((rd_T23 l0 x11_1).f0), .int .i64 ((rd_T23 l0 x11_1).f1), .int .i64 ((rd_T23 l0 x11_1).f2)] 23 (0, 0)) (by (with_reducible repeat (first | refine blk_drewN ?_ _ | refine blk_drew ?_ | refine blk_alloc ?_ _)); refine blk_put (cs := #[.bool ((rd_T23 l0 x11_1).f0), .int .i64 ((rd_T23 l0 x11_1).f1), .int .i64 0]) ?_ 2 _ rfl; (with_reducible repeat (first | refine blk_drewN ?_ _ | refine blk_drew ?_ | refine blk_alloc ?_ _)); refine blk_put (cs := #[.bool ((rd_T23 l0 x11_1).f0), .int .i64 0, .int .i64 0]) ?_ 1 _ rfl; (with_reducible repeat (first | refine blk_drewN ?_ _ | refine blk_drew ?_ | refine blk_alloc ?_ _)); refine blk_put (cs := #[.bool false, .int .i64 0, .int .i64 0]) ?_ 0 _ rfl; (with_reducible repeat (first | refine blk_drewN ?_ _ | refine blk_drew ?_ | refine blk_alloc ?_ _)); exact BK189.out) hb); have n2_ := Aside0.mk (below_step (by repeat (first | (with_reducible first | exact HB.out | apply below_alloc | apply pw_below_drewN | apply below_drew1 | refine below_set ?_ GE186.out | refine below_set ?_ GE189.out) | exact HB.out)) hb); clear BK186; clear BK189; clear HB; have BK186 := n0_; have BK189 := n1_; have HB := n2_; clear n0_ n1_ n2_; (try clear hb); (try clear hb2); (try clear hk); (try clear hi); have hcz15_0 : w14.cell? ⟨gb186, 0, none⟩ = some (.bool x187000_1) := (blk_cell BK186.out 0).trans rfl; have hcz15_1 : w14.cell? ⟨gb186, 1, none⟩ = some (.int .i64 x187001_1) := (blk_cell BK186.out 1).trans rfl; have hcz15_2 : w14.cell? ⟨gb186, 2, none⟩ = some (.int .i64 x187002_1) := (blk_cell BK186.out 2).trans rfl; have hfz15_0 := blk_frozen BK186.out 0; have hfz15_1 := blk_frozen BK186.out 1; have hfz15_2 := blk_frozen BK186.out 2; have hcz16_0 : w14.cell? ⟨gb189, 0, none⟩ = some (.bool ((rd_T23 l0 x11_1).f0)) := (blk_cell BK189.out 0).trans rfl; have hcz16_1 : w14.cell? ⟨gb189, 1, none⟩ = some (.int .i64 ((rd_T23 l0 x11_1).f1)) := (blk_cell BK189.out 1).trans rfl; have hcz16_2 : w14.cell? ⟨gb189, 2, none⟩ = some (.int .i64 ((rd_T23 l0 x11_1).f2)) := (blk_cell BK189.out 2).trans rfl; have hfz16_0 := blk_frozen BK189.out 0; have hfz16_1 := blk_frozen BK189.out 1; have hfz16_2 := blk_frozen BK189.out 2) | ((with_reducible refine gate_callee (f := 19) rfl ?_); refine goesL_ (some 21) rfl rfl Tryd.func19 (by kernel_rfl) rfl #[.agg #[.bool x187000_1, .int .i64 x187001_1, .int .i64 x187002_1], .agg #[.bool ((rd_T23 l0 x11_1).f0), .int .i64 ((rd_T23 l0 x11_1).f1), .int .i64 ((rd_T23 l0 x11_1).f2)]] rfl (by (try simp only [List.map_toArray, List.map_cons, List.map_nil]); first | done | rfl | (simp only [List.length_drop, List.length_take]; rfl)) ?_; (with_reducible refine (congr_Join.calls k1 x187000_1 x187001_1 x187002_1 ((rd_T23 l0 x11_1).f0) ((rd_T23 l0 x11_1).f1) ((rd_T23 l0 x11_1).f2) t191 t192 t193 _ A9.out).mono ?_); rintro e w17 ⟨rfl, hb⟩; refine ⟨_, rfl, ?_⟩; have n0_ := Aside0.mk (blk_below (g := gb186) (o := .cells #[.bool x187000_1, .int .i64 x187001_1, .int .i64 x187002_1] 23 (0, 0)) (by (with_reducible repeat (first | refine blk_drewN ?_ _ | refine blk_drew ?_ | refine blk_alloc ?_ _)); exact BK186.out) hb); have n1_ := Aside0.mk (blk_below (g := gb189) (o := .cells #[.bool ((rd_T23 l0 x11_1).f0), .int .i64 ((rd_T23 l0 x11_1).f1), .int .i64 ((rd_T23 l0 x11_1).f2)] 23 (0, 0)) (by (with_reducible repeat (first | refine blk_drewN ?_ _ | refine blk_drew ?_ | refine blk_alloc ?_ _)); exact BK189.out) hb); have n2_ := Aside0.mk (below_step (by repeat (first | (with_reducible first | exact HB.out | apply below_alloc | apply pw_below_drewN | apply below_drew1 | refine below_set ?_ GE186.out | refine below_set ?_ GE189.out) | exact HB.out)) hb); clear BK186; clear BK189; clear HB; have BK186 := n0_; have BK189 := n1_; have HB := n2_; clear n0_ n1_ n2_; (try clear hb); (try clear hb2); (try clear hk); (try clear hi)) | ((with_reducible refine gate_dst (N := 7) rfl ?_); refine box_event ?hg (N := 7) ?hd (cs := #[.bool false, .int .i64 0, .int .i64 0]) (t := 23) ?hr ?_; (case hd => rfl); (case hg => rfl); (case hr => first | (go_simp; done) | (go_simp; rfl)); intro gb194 hg w18 hbox hb; have n0_ := Aside0.mk (blk_below (g := gb186) (o := .cells #[.bool x187000_1, .int .i64 x187001_1, .int .i64 x187002_1] 23 (0, 0)) (by (with_reducible repeat (first | refine blk_drewN ?_ _ | refine blk_drew ?_ | refine blk_alloc ?_ _)); exact BK186.out) hb); have n1_ := Aside0.mk (blk_below (g := gb189) (o := .cells #[.bool ((rd_T23 l0 x11_1).f0), .int .i64 ((rd_T23 l0 x11_1).f1), .int .i64 ((rd_T23 l0 x11_1).f2)] 23 (0, 0)) (by (with_reducible repeat (first | refine blk_drewN ?_ _ | refine blk_drew ?_ | refine blk_alloc ?_ _)); exact BK189.out) hb); have n2_ := Aside0.mk (below_step (by repeat (first | (with_reducible first | exact HB.out | apply below_alloc | apply pw_below_drewN | apply below_drew1 | refine below_set ?_ GE186.out | refine below_set ?_ GE189.out) | exact HB.out)) hb); have n3_ := Aside0.mk (hbox); have n4_ := Aside0.mk ((by rw [hg]; exact (below_size (by repeat (first | (with_reducible first | exact HB.out | apply below_alloc | apply pw_below_drewN | apply below_drew1 | refine below_set ?_ GE186.out | refine below_set ?_ GE189.out) | exact HB.out))) : w.heap.size ≤ gb194)); have n5_ := Aside0.mk ((by rw [hg]; exact (below_size (by repeat (first | (with_reducible first | exact HB.out | apply below_alloc | apply pw_below_drewN | apply below_drew1 | refine below_set ?_ GE186.out | refine below_set ?_ GE189.out) | exact HB.out))) : w.heap.size ≤ gb194)); have n6_ := Aside0.mk ((by rw [hg]; exact Nat.ne_of_lt (blk_lt (g := gb186) (o := .cells #[.bool x187000_1, .int .i64 x187001_1, .int .i64 x187002_1] 23 (0, 0)) (by (with_reducible repeat (first | refine blk_drewN ?_ _ | refine blk_drew ?_ | refine blk_alloc ?_ _)); exact BK186.out)) : gb186 ≠ gb194)); have n7_ := Aside0.mk ((by rw [hg]; exact Nat.ne_of_gt (blk_lt (g := gb186) (o := .cells #[.bool x187000_1, .int .i64 x187001_1, .int .i64 x187002_1] 23 (0, 0)) (by (with_reducible repeat (first | refine blk_drewN ?_ _ | refine blk_drew ?_ | refine blk_alloc ?_ _)); exact BK186.out)) : gb194 ≠ gb186)); have n8_ := Aside0.mk ((by rw [hg]; exact Nat.ne_of_lt (blk_lt (g := gb189) (o := .cells #[.bool ((rd_T23 l0 x11_1).f0), .int .i64 ((rd_T23 l0 x11_1).f1), .int .i64 ((rd_T23 l0 x11_1).f2)] 23 (0, 0)) (by (with_reducible repeat (first | refine blk_drewN ?_ _ | refine blk_drew ?_ | refine blk_alloc ?_ _)); exact BK189.out)) : gb189 ≠ gb194)); have n9_ := Aside0.mk ((by rw [hg]; exact Nat.ne_of_gt (blk_lt (g := gb189) (o := .cells #[.bool ((rd_T23 l0 x11_1).f0), .int .i64 ((rd_T23 l0 x11_1).f1), .int .i64 ((rd_T23 l0 x11_1).f2)] 23 (0, 0)) (by (with_reducible repeat (first | refine blk_drewN ?_ _ | refine blk_drew ?_ | refine blk_alloc ?_ _)); exact BK189.out)) : gb194 ≠ gb189)); clear BK186; clear BK189; clear HB; have BK186 := n0_; have BK189 := n1_; have HB := n2_; have BK194 := n3_; have GW194 := n4_; have GE194 := n5_; have NB186_194 := n6_; have NB194_186 := n7_; have NB189_194 := n8_; have NB194_189 := n9_; clear n0_ n1_ n2_ n3_ n4_ n5_ n6_ n7_ n8_ n9_; clear hb hbox hg; have hnb19 := NB194_186.out; have hnc19 := NB186_194.out; have hnb20 := NB194_189.out; have hnc20 := NB189_194.out; have hcz21_0 : w18.cell? ⟨gb194, 0, none⟩ = some (.bool false) := (blk_cell BK194.out 0).trans rfl; have hcz21_1 : w18.cell? ⟨gb194, 1, none⟩ = some (.int .i64 0) := (blk_cell BK194.out 1).trans rfl; have hcz21_2 : w18.cell? ⟨gb194, 2, none⟩ = some (.int .i64 0) := (blk_cell BK194.out 2).trans rfl; have hfz21_0 := blk_frozen BK194.out 0; have hfz21_1 := blk_frozen BK194.out 1; have hfz21_2 := blk_frozen BK194.out 2; have hcz22_0 : w18.cell? ⟨gb186, 0, none⟩ = some (.bool x187000_1) := (blk_cell BK186.out 0).trans rfl; have hcz22_1 : w18.cell? ⟨gb186, 1, none⟩ = some (.int .i64 x187001_1) := (blk_cell BK186.out 1).trans rfl; have hcz22_2 : w18.cell? ⟨gb186, 2, none⟩ = some (.int .i64 x187002_1) := (blk_cell BK186.out 2).trans rfl; have hfz22_0 := blk_frozen BK186.out 0; have hfz22_1 := blk_frozen BK186.out 1; have hfz22_2 := blk_frozen BK186.out 2))
                go_roundg k1
                case measure => have := HK1.out; omega
                case rel => exact ⟨(wrap64 (x4_1 + 1)), (wrap64 (x11_1 + 1)), (t191), (t192), (t193), (by first | rfl | (simp; done) | (simp [*]; done)), (by first | rfl | (simp; done) | (simp [*]; done)), H', ⟨by have := HK1.out; omega⟩, ⟨by (with_reducible repeat (first | refine blk_drewN ?_ _ | refine blk_drew ?_ | refine blk_alloc ?_ _)); refine blk_put (cs := #[.bool t191, .int .i64 t192, .int .i64 x187002_1]) ?_ 2 _ rfl; (with_reducible repeat (first | refine blk_drewN ?_ _ | refine blk_drew ?_ | refine blk_alloc ?_ _)); refine blk_put (cs := #[.bool t191, .int .i64 x187001_1, .int .i64 x187002_1]) ?_ 1 _ rfl; (with_reducible repeat (first | refine blk_drewN ?_ _ | refine blk_drew ?_ | refine blk_alloc ?_ _)); refine blk_put (cs := #[.bool x187000_1, .int .i64 x187001_1, .int .i64 x187002_1]) ?_ 0 _ rfl; (with_reducible repeat (first | refine blk_drewN ?_ _ | refine blk_drew ?_ | refine blk_alloc ?_ _)); refine blk_far ?_ NB186_194.out _; (with_reducible repeat (first | refine blk_drewN ?_ _ | refine blk_drew ?_ | refine blk_alloc ?_ _)); refine blk_far ?_ NB186_194.out _; (with_reducible repeat (first | refine blk_drewN ?_ _ | refine blk_drew ?_ | refine blk_alloc ?_ _)); refine blk_far ?_ NB186_194.out _; (with_reducible repeat (first | refine blk_drewN ?_ _ | refine blk_drew ?_ | refine blk_alloc ?_ _)); exact BK186.out⟩, ⟨by repeat (first | (with_reducible first | exact HB.out | apply below_alloc | apply pw_below_drewN | apply below_drew1 | refine below_set ?_ GE186.out | refine below_set ?_ GE189.out | refine below_set ?_ GE194.out) | exact HB.out)⟩⟩
              · rw [if_neg c10] at H
                have c10b0 : (!(t191 == x187000_1) || (!(t192 == x187001_1) || (!(t193 == x187002_1)))) = false := by simpa using c10
                clear c10
                have H' := Aside0.mk H
                clear H
                have p188 : 0 ≤ (x11_1 : Int) := of_decide_eq_true (by first | (with_reducible assumption) | assumption)
                have q188 : x11_1 < (l0.length : Int) := of_decide_eq_true (by first | (with_reducible assumption) | assumption)
                obtain ⟨ad188, e188, hx188_0, hx188_1, hx188_2⟩ := at_T23 HR0.out x11_1 p188 q188
                cases e188
                replace hx188_0 := (HB.out.cell (World.block_lt_of_cell? w _ hx188_0)).trans hx188_0
                replace hx188_1 := (HB.out.cell (World.block_lt_of_cell? w _ hx188_1)).trans hx188_1
                replace hx188_2 := (HB.out.cell (World.block_lt_of_cell? w _ hx188_2)).trans hx188_2
                replace p188 := eq_true p188
                replace q188 := eq_true q188
                go_wp2_with (first | ((with_reducible refine gate_dst (N := 6) rfl ?_); refine box_event ?hg (N := 6) ?hd (cs := #[.bool false, .int .i64 0, .int .i64 0]) (t := 23) ?hr ?_; (case hd => rfl); (case hg => rfl); (case hr => first | (go_simp; done) | (go_simp; rfl)); intro gb189 hg w23 hbox hb; have n0_ := Aside0.mk (blk_below (g := gb186) (o := .cells #[.bool x187000_1, .int .i64 x187001_1, .int .i64 x187002_1] 23 (0, 0)) (by (with_reducible repeat (first | refine blk_drewN ?_ _ | refine blk_drew ?_ | refine blk_alloc ?_ _)); exact BK186.out) hb); have n1_ := Aside0.mk (below_step (by repeat (first | (with_reducible first | exact HB.out | apply below_alloc | apply pw_below_drewN | apply below_drew1 | refine below_set ?_ GE186.out) | exact HB.out)) hb); have n2_ := Aside0.mk (hbox); have n3_ := Aside0.mk ((by rw [hg]; exact (below_size (by repeat (first | (with_reducible first | exact HB.out | apply below_alloc | apply pw_below_drewN | apply below_drew1 | refine below_set ?_ GE186.out) | exact HB.out))) : w.heap.size ≤ gb189)); have n4_ := Aside0.mk ((by rw [hg]; exact (below_size (by repeat (first | (with_reducible first | exact HB.out | apply below_alloc | apply pw_below_drewN | apply below_drew1 | refine below_set ?_ GE186.out) | exact HB.out))) : w.heap.size ≤ gb189)); have n5_ := Aside0.mk ((by rw [hg]; exact Nat.ne_of_lt (blk_lt (g := gb186) (o := .cells #[.bool x187000_1, .int .i64 x187001_1, .int .i64 x187002_1] 23 (0, 0)) (by (with_reducible repeat (first | refine blk_drewN ?_ _ | refine blk_drew ?_ | refine blk_alloc ?_ _)); exact BK186.out)) : gb186 ≠ gb189)); have n6_ := Aside0.mk ((by rw [hg]; exact Nat.ne_of_gt (blk_lt (g := gb186) (o := .cells #[.bool x187000_1, .int .i64 x187001_1, .int .i64 x187002_1] 23 (0, 0)) (by (with_reducible repeat (first | refine blk_drewN ?_ _ | refine blk_drew ?_ | refine blk_alloc ?_ _)); exact BK186.out)) : gb189 ≠ gb186)); clear BK186; clear HB; have BK186 := n0_; have HB := n1_; have BK189 := n2_; have GW189 := n3_; have GE189 := n4_; have NB186_189 := n5_; have NB189_186 := n6_; clear n0_ n1_ n2_ n3_ n4_ n5_ n6_; clear hb hbox hg; have hnb24 := NB189_186.out; have hnc24 := NB186_189.out; have hcz25_0 : w23.cell? ⟨gb189, 0, none⟩ = some (.bool false) := (blk_cell BK189.out 0).trans rfl; have hcz25_1 : w23.cell? ⟨gb189, 1, none⟩ = some (.int .i64 0) := (blk_cell BK189.out 1).trans rfl; have hcz25_2 : w23.cell? ⟨gb189, 2, none⟩ = some (.int .i64 0) := (blk_cell BK189.out 2).trans rfl; have hfz25_0 := blk_frozen BK189.out 0; have hfz25_1 := blk_frozen BK189.out 1; have hfz25_2 := blk_frozen BK189.out 2) | ((with_reducible refine gate_callee (f := 13) rfl ?_); refine goesL_ (some 16) rfl rfl Tryd.func13 (by kernel_rfl) rfl #[.agg #[.bool ((rd_T23 l0 x11_1).f0), .int .i64 ((rd_T23 l0 x11_1).f1), .int .i64 ((rd_T23 l0 x11_1).f2)]] rfl (by (try simp only [List.map_toArray, List.map_cons, List.map_nil]); first | done | rfl | (simp only [List.length_drop, List.length_take]; rfl)) ?_; (with_reducible refine (gimbalref31_Fit.calls k1 ((rd_T23 l0 x11_1).f0) ((rd_T23 l0 x11_1).f1) ((rd_T23 l0 x11_1).f2) true _ A7.out).mono ?_); rintro e w26 ⟨rfl, hb⟩; refine ⟨_, rfl, ?_⟩; have n0_ := Aside0.mk (blk_below (g := gb186) (o := .cells #[.bool x187000_1, .int .i64 x187001_1, .int .i64 x187002_1] 23 (0, 0)) (by (with_reducible repeat (first | refine blk_drewN ?_ _ | refine blk_drew ?_ | refine blk_alloc ?_ _)); refine blk_far ?_ NB186_189.out _; (with_reducible repeat (first | refine blk_drewN ?_ _ | refine blk_drew ?_ | refine blk_alloc ?_ _)); refine blk_far ?_ NB186_189.out _; (with_reducible repeat (first | refine blk_drewN ?_ _ | refine blk_drew ?_ | refine blk_alloc ?_ _)); refine blk_far ?_ NB186_189.out _; (with_reducible repeat (first | refine blk_drewN ?_ _ | refine blk_drew ?_ | refine blk_alloc ?_ _)); exact BK186.out) hb); have n1_ := Aside0.mk (blk_below (g := gb189) (o := .cells #[.bool ((rd_T23 l0 x11_1).f0), .int .i64 ((rd_T23 l0 x11_1).f1), .int .i64 ((rd_T23 l0 x11_1).f2)] 23 (0, 0)) (by (with_reducible repeat (first | refine blk_drewN ?_ _ | refine blk_drew ?_ | refine blk_alloc ?_ _)); refine blk_put (cs := #[.bool ((rd_T23 l0 x11_1).f0), .int .i64 ((rd_T23 l0 x11_1).f1), .int .i64 0]) ?_ 2 _ rfl; (with_reducible repeat (first | refine blk_drewN ?_ _ | refine blk_drew ?_ | refine blk_alloc ?_ _)); refine blk_put (cs := #[.bool ((rd_T23 l0 x11_1).f0), .int .i64 0, .int .i64 0]) ?_ 1 _ rfl; (with_reducible repeat (first | refine blk_drewN ?_ _ | refine blk_drew ?_ | refine blk_alloc ?_ _)); refine blk_put (cs := #[.bool false, .int .i64 0, .int .i64 0]) ?_ 0 _ rfl; (with_reducible repeat (first | refine blk_drewN ?_ _ | refine blk_drew ?_ | refine blk_alloc ?_ _)); exact BK189.out) hb); have n2_ := Aside0.mk (below_step (by repeat (first | (with_reducible first | exact HB.out | apply below_alloc | apply pw_below_drewN | apply below_drew1 | refine below_set ?_ GE186.out | refine below_set ?_ GE189.out) | exact HB.out)) hb); clear BK186; clear BK189; clear HB; have BK186 := n0_; have BK189 := n1_; have HB := n2_; clear n0_ n1_ n2_; (try clear hb); (try clear hb2); (try clear hk); (try clear hi); have hcz27_0 : w26.cell? ⟨gb186, 0, none⟩ = some (.bool x187000_1) := (blk_cell BK186.out 0).trans rfl; have hcz27_1 : w26.cell? ⟨gb186, 1, none⟩ = some (.int .i64 x187001_1) := (blk_cell BK186.out 1).trans rfl; have hcz27_2 : w26.cell? ⟨gb186, 2, none⟩ = some (.int .i64 x187002_1) := (blk_cell BK186.out 2).trans rfl; have hfz27_0 := blk_frozen BK186.out 0; have hfz27_1 := blk_frozen BK186.out 1; have hfz27_2 := blk_frozen BK186.out 2; have hcz28_0 : w26.cell? ⟨gb189, 0, none⟩ = some (.bool ((rd_T23 l0 x11_1).f0)) := (blk_cell BK189.out 0).trans rfl; have hcz28_1 : w26.cell? ⟨gb189, 1, none⟩ = some (.int .i64 ((rd_T23 l0 x11_1).f1)) := (blk_cell BK189.out 1).trans rfl; have hcz28_2 : w26.cell? ⟨gb189, 2, none⟩ = some (.int .i64 ((rd_T23 l0 x11_1).f2)) := (blk_cell BK189.out 2).trans rfl; have hfz28_0 := blk_frozen BK189.out 0; have hfz28_1 := blk_frozen BK189.out 1; have hfz28_2 := blk_frozen BK189.out 2) | ((with_reducible refine gate_callee (f := 19) rfl ?_); refine goesL_ (some 21) rfl rfl Tryd.func19 (by kernel_rfl) rfl #[.agg #[.bool x187000_1, .int .i64 x187001_1, .int .i64 x187002_1], .agg #[.bool ((rd_T23 l0 x11_1).f0), .int .i64 ((rd_T23 l0 x11_1).f1), .int .i64 ((rd_T23 l0 x11_1).f2)]] rfl (by (try simp only [List.map_toArray, List.map_cons, List.map_nil]); first | done | rfl | (simp only [List.length_drop, List.length_take]; rfl)) ?_; (with_reducible refine (congr_Join.calls k1 x187000_1 x187001_1 x187002_1 ((rd_T23 l0 x11_1).f0) ((rd_T23 l0 x11_1).f1) ((rd_T23 l0 x11_1).f2) t191 t192 t193 _ A9.out).mono ?_); rintro e w29 ⟨rfl, hb⟩; refine ⟨_, rfl, ?_⟩; have n0_ := Aside0.mk (blk_below (g := gb186) (o := .cells #[.bool x187000_1, .int .i64 x187001_1, .int .i64 x187002_1] 23 (0, 0)) (by (with_reducible repeat (first | refine blk_drewN ?_ _ | refine blk_drew ?_ | refine blk_alloc ?_ _)); exact BK186.out) hb); have n1_ := Aside0.mk (blk_below (g := gb189) (o := .cells #[.bool ((rd_T23 l0 x11_1).f0), .int .i64 ((rd_T23 l0 x11_1).f1), .int .i64 ((rd_T23 l0 x11_1).f2)] 23 (0, 0)) (by (with_reducible repeat (first | refine blk_drewN ?_ _ | refine blk_drew ?_ | refine blk_alloc ?_ _)); exact BK189.out) hb); have n2_ := Aside0.mk (below_step (by repeat (first | (with_reducible first | exact HB.out | apply below_alloc | apply pw_below_drewN | apply below_drew1 | refine below_set ?_ GE186.out | refine below_set ?_ GE189.out) | exact HB.out)) hb); clear BK186; clear BK189; clear HB; have BK186 := n0_; have BK189 := n1_; have HB := n2_; clear n0_ n1_ n2_; (try clear hb); (try clear hb2); (try clear hk); (try clear hi)) | ((with_reducible refine gate_dst (N := 7) rfl ?_); refine box_event ?hg (N := 7) ?hd (cs := #[.bool false, .int .i64 0, .int .i64 0]) (t := 23) ?hr ?_; (case hd => rfl); (case hg => rfl); (case hr => first | (go_simp; done) | (go_simp; rfl)); intro gb194 hg w30 hbox hb; have n0_ := Aside0.mk (blk_below (g := gb186) (o := .cells #[.bool x187000_1, .int .i64 x187001_1, .int .i64 x187002_1] 23 (0, 0)) (by (with_reducible repeat (first | refine blk_drewN ?_ _ | refine blk_drew ?_ | refine blk_alloc ?_ _)); exact BK186.out) hb); have n1_ := Aside0.mk (blk_below (g := gb189) (o := .cells #[.bool ((rd_T23 l0 x11_1).f0), .int .i64 ((rd_T23 l0 x11_1).f1), .int .i64 ((rd_T23 l0 x11_1).f2)] 23 (0, 0)) (by (with_reducible repeat (first | refine blk_drewN ?_ _ | refine blk_drew ?_ | refine blk_alloc ?_ _)); exact BK189.out) hb); have n2_ := Aside0.mk (below_step (by repeat (first | (with_reducible first | exact HB.out | apply below_alloc | apply pw_below_drewN | apply below_drew1 | refine below_set ?_ GE186.out | refine below_set ?_ GE189.out) | exact HB.out)) hb); have n3_ := Aside0.mk (hbox); have n4_ := Aside0.mk ((by rw [hg]; exact (below_size (by repeat (first | (with_reducible first | exact HB.out | apply below_alloc | apply pw_below_drewN | apply below_drew1 | refine below_set ?_ GE186.out | refine below_set ?_ GE189.out) | exact HB.out))) : w.heap.size ≤ gb194)); have n5_ := Aside0.mk ((by rw [hg]; exact (below_size (by repeat (first | (with_reducible first | exact HB.out | apply below_alloc | apply pw_below_drewN | apply below_drew1 | refine below_set ?_ GE186.out | refine below_set ?_ GE189.out) | exact HB.out))) : w.heap.size ≤ gb194)); have n6_ := Aside0.mk ((by rw [hg]; exact Nat.ne_of_lt (blk_lt (g := gb186) (o := .cells #[.bool x187000_1, .int .i64 x187001_1, .int .i64 x187002_1] 23 (0, 0)) (by (with_reducible repeat (first | refine blk_drewN ?_ _ | refine blk_drew ?_ | refine blk_alloc ?_ _)); exact BK186.out)) : gb186 ≠ gb194)); have n7_ := Aside0.mk ((by rw [hg]; exact Nat.ne_of_gt (blk_lt (g := gb186) (o := .cells #[.bool x187000_1, .int .i64 x187001_1, .int .i64 x187002_1] 23 (0, 0)) (by (with_reducible repeat (first | refine blk_drewN ?_ _ | refine blk_drew ?_ | refine blk_alloc ?_ _)); exact BK186.out)) : gb194 ≠ gb186)); have n8_ := Aside0.mk ((by rw [hg]; exact Nat.ne_of_lt (blk_lt (g := gb189) (o := .cells #[.bool ((rd_T23 l0 x11_1).f0), .int .i64 ((rd_T23 l0 x11_1).f1), .int .i64 ((rd_T23 l0 x11_1).f2)] 23 (0, 0)) (by (with_reducible repeat (first | refine blk_drewN ?_ _ | refine blk_drew ?_ | refine blk_alloc ?_ _)); exact BK189.out)) : gb189 ≠ gb194)); have n9_ := Aside0.mk ((by rw [hg]; exact Nat.ne_of_gt (blk_lt (g := gb189) (o := .cells #[.bool ((rd_T23 l0 x11_1).f0), .int .i64 ((rd_T23 l0 x11_1).f1), .int .i64 ((rd_T23 l0 x11_1).f2)] 23 (0, 0)) (by (with_reducible repeat (first | refine blk_drewN ?_ _ | refine blk_drew ?_ | refine blk_alloc ?_ _)); exact BK189.out)) : gb194 ≠ gb189)); clear BK186; clear BK189; clear HB; have BK186 := n0_; have BK189 := n1_; have HB := n2_; have BK194 := n3_; have GW194 := n4_; have GE194 := n5_; have NB186_194 := n6_; have NB194_186 := n7_; have NB189_194 := n8_; have NB194_189 := n9_; clear n0_ n1_ n2_ n3_ n4_ n5_ n6_ n7_ n8_ n9_; clear hb hbox hg; have hnb31 := NB194_186.out; have hnc31 := NB186_194.out; have hnb32 := NB194_189.out; have hnc32 := NB189_194.out; have hcz33_0 : w30.cell? ⟨gb194, 0, none⟩ = some (.bool false) := (blk_cell BK194.out 0).trans rfl; have hcz33_1 : w30.cell? ⟨gb194, 1, none⟩ = some (.int .i64 0) := (blk_cell BK194.out 1).trans rfl; have hcz33_2 : w30.cell? ⟨gb194, 2, none⟩ = some (.int .i64 0) := (blk_cell BK194.out 2).trans rfl; have hfz33_0 := blk_frozen BK194.out 0; have hfz33_1 := blk_frozen BK194.out 1; have hfz33_2 := blk_frozen BK194.out 2; have hcz34_0 : w30.cell? ⟨gb186, 0, none⟩ = some (.bool x187000_1) := (blk_cell BK186.out 0).trans rfl; have hcz34_1 : w30.cell? ⟨gb186, 1, none⟩ = some (.int .i64 x187001_1) := (blk_cell BK186.out 1).trans rfl; have hcz34_2 : w30.cell? ⟨gb186, 2, none⟩ = some (.int .i64 x187002_1) := (blk_cell BK186.out 2).trans rfl; have hfz34_0 := blk_frozen BK186.out 0; have hfz34_1 := blk_frozen BK186.out 1; have hfz34_2 := blk_frozen BK186.out 2))
                go_roundg k1
                case measure => have := HK1.out; omega
                case rel => exact ⟨(x4_1), (wrap64 (x11_1 + 1)), (t191), (t192), (t193), (by first | rfl | (simp; done) | (simp [*]; done)), (by first | rfl | (simp; done) | (simp [*]; done)), H', ⟨by have := HK1.out; omega⟩, ⟨by (with_reducible repeat (first | refine blk_drewN ?_ _ | refine blk_drew ?_ | refine blk_alloc ?_ _)); refine blk_put (cs := #[.bool t191, .int .i64 t192, .int .i64 x187002_1]) ?_ 2 _ rfl; (with_reducible repeat (first | refine blk_drewN ?_ _ | refine blk_drew ?_ | refine blk_alloc ?_ _)); refine blk_put (cs := #[.bool t191, .int .i64 x187001_1, .int .i64 x187002_1]) ?_ 1 _ rfl; (with_reducible repeat (first | refine blk_drewN ?_ _ | refine blk_drew ?_ | refine blk_alloc ?_ _)); refine blk_put (cs := #[.bool x187000_1, .int .i64 x187001_1, .int .i64 x187002_1]) ?_ 0 _ rfl; (with_reducible repeat (first | refine blk_drewN ?_ _ | refine blk_drew ?_ | refine blk_alloc ?_ _)); refine blk_far ?_ NB186_194.out _; (with_reducible repeat (first | refine blk_drewN ?_ _ | refine blk_drew ?_ | refine blk_alloc ?_ _)); refine blk_far ?_ NB186_194.out _; (with_reducible repeat (first | refine blk_drewN ?_ _ | refine blk_drew ?_ | refine blk_alloc ?_ _)); refine blk_far ?_ NB186_194.out _; (with_reducible repeat (first | refine blk_drewN ?_ _ | refine blk_drew ?_ | refine blk_alloc ?_ _)); exact BK186.out⟩, ⟨by repeat (first | (with_reducible first | exact HB.out | apply below_alloc | apply pw_below_drewN | apply below_drew1 | refine below_set ?_ GE186.out | refine below_set ?_ GE189.out | refine below_set ?_ GE194.out) | exact HB.out)⟩⟩
            · replace c8 := Bool.eq_false_iff.mpr c8
              subst c8
              have H1 : ((gimballaw31_awake.f).bind fun t195 => (some t195)) = some r := by rw [if_neg (show ¬ (false = true) by decide)] at H; exact H
              clear H
              have H := H1
              clear H1
              replace H := Option.bind_eq_some_iff.mp H
              obtain ⟨t195, A350, H⟩ := H
              replace H : (some t195) = some r := H
              have A35 := Aside0.mk A350
              clear A350
              obtain rfl := Option.some.inj H
              have p188 : 0 ≤ (x11_1 : Int) := of_decide_eq_true (by first | (with_reducible assumption) | assumption)
              have q188 : x11_1 < (l0.length : Int) := of_decide_eq_true (by first | (with_reducible assumption) | assumption)
              obtain ⟨ad188, e188, hx188_0, hx188_1, hx188_2⟩ := at_T23 HR0.out x11_1 p188 q188
              cases e188
              replace hx188_0 := (HB.out.cell (World.block_lt_of_cell? w _ hx188_0)).trans hx188_0
              replace hx188_1 := (HB.out.cell (World.block_lt_of_cell? w _ hx188_1)).trans hx188_1
              replace hx188_2 := (HB.out.cell (World.block_lt_of_cell? w _ hx188_2)).trans hx188_2
              replace p188 := eq_true p188
              replace q188 := eq_true q188
              go_wp2_with (first | ((with_reducible refine gate_dst (N := 6) rfl ?_); refine box_event ?hg (N := 6) ?hd (cs := #[.bool false, .int .i64 0, .int .i64 0]) (t := 23) ?hr ?_; (case hd => rfl); (case hg => rfl); (case hr => first | (go_simp; done) | (go_simp; rfl)); intro gb189 hg w36 hbox hb; have n0_ := Aside0.mk (blk_below (g := gb186) (o := .cells #[.bool x187000_1, .int .i64 x187001_1, .int .i64 x187002_1] 23 (0, 0)) (by (with_reducible repeat (first | refine blk_drewN ?_ _ | refine blk_drew ?_ | refine blk_alloc ?_ _)); exact BK186.out) hb); have n1_ := Aside0.mk (below_step (by repeat (first | (with_reducible first | exact HB.out | apply below_alloc | apply pw_below_drewN | apply below_drew1 | refine below_set ?_ GE186.out) | exact HB.out)) hb); have n2_ := Aside0.mk (hbox); have n3_ := Aside0.mk ((by rw [hg]; exact (below_size (by repeat (first | (with_reducible first | exact HB.out | apply below_alloc | apply pw_below_drewN | apply below_drew1 | refine below_set ?_ GE186.out) | exact HB.out))) : w.heap.size ≤ gb189)); have n4_ := Aside0.mk ((by rw [hg]; exact (below_size (by repeat (first | (with_reducible first | exact HB.out | apply below_alloc | apply pw_below_drewN | apply below_drew1 | refine below_set ?_ GE186.out) | exact HB.out))) : w.heap.size ≤ gb189)); have n5_ := Aside0.mk ((by rw [hg]; exact Nat.ne_of_lt (blk_lt (g := gb186) (o := .cells #[.bool x187000_1, .int .i64 x187001_1, .int .i64 x187002_1] 23 (0, 0)) (by (with_reducible repeat (first | refine blk_drewN ?_ _ | refine blk_drew ?_ | refine blk_alloc ?_ _)); exact BK186.out)) : gb186 ≠ gb189)); have n6_ := Aside0.mk ((by rw [hg]; exact Nat.ne_of_gt (blk_lt (g := gb186) (o := .cells #[.bool x187000_1, .int .i64 x187001_1, .int .i64 x187002_1] 23 (0, 0)) (by (with_reducible repeat (first | refine blk_drewN ?_ _ | refine blk_drew ?_ | refine blk_alloc ?_ _)); exact BK186.out)) : gb189 ≠ gb186)); clear BK186; clear HB; have BK186 := n0_; have HB := n1_; have BK189 := n2_; have GW189 := n3_; have GE189 := n4_; have NB186_189 := n5_; have NB189_186 := n6_; clear n0_ n1_ n2_ n3_ n4_ n5_ n6_; clear hb hbox hg; have hnb37 := NB189_186.out; have hnc37 := NB186_189.out; have hcz38_0 : w36.cell? ⟨gb189, 0, none⟩ = some (.bool false) := (blk_cell BK189.out 0).trans rfl; have hcz38_1 : w36.cell? ⟨gb189, 1, none⟩ = some (.int .i64 0) := (blk_cell BK189.out 1).trans rfl; have hcz38_2 : w36.cell? ⟨gb189, 2, none⟩ = some (.int .i64 0) := (blk_cell BK189.out 2).trans rfl; have hfz38_0 := blk_frozen BK189.out 0; have hfz38_1 := blk_frozen BK189.out 1; have hfz38_2 := blk_frozen BK189.out 2) | ((with_reducible refine gate_callee (f := 13) rfl ?_); refine goesL_ (some 16) rfl rfl Tryd.func13 (by kernel_rfl) rfl #[.agg #[.bool ((rd_T23 l0 x11_1).f0), .int .i64 ((rd_T23 l0 x11_1).f1), .int .i64 ((rd_T23 l0 x11_1).f2)]] rfl (by (try simp only [List.map_toArray, List.map_cons, List.map_nil]); first | done | rfl | (simp only [List.length_drop, List.length_take]; rfl)) ?_; (with_reducible refine (gimbalref31_Fit.calls k1 ((rd_T23 l0 x11_1).f0) ((rd_T23 l0 x11_1).f1) ((rd_T23 l0 x11_1).f2) false _ A7.out).mono ?_); rintro e w39 ⟨rfl, hb⟩; refine ⟨_, rfl, ?_⟩; have n0_ := Aside0.mk (blk_below (g := gb186) (o := .cells #[.bool x187000_1, .int .i64 x187001_1, .int .i64 x187002_1] 23 (0, 0)) (by (with_reducible repeat (first | refine blk_drewN ?_ _ | refine blk_drew ?_ | refine blk_alloc ?_ _)); refine blk_far ?_ NB186_189.out _; (with_reducible repeat (first | refine blk_drewN ?_ _ | refine blk_drew ?_ | refine blk_alloc ?_ _)); refine blk_far ?_ NB186_189.out _; (with_reducible repeat (first | refine blk_drewN ?_ _ | refine blk_drew ?_ | refine blk_alloc ?_ _)); refine blk_far ?_ NB186_189.out _; (with_reducible repeat (first | refine blk_drewN ?_ _ | refine blk_drew ?_ | refine blk_alloc ?_ _)); exact BK186.out) hb); have n1_ := Aside0.mk (blk_below (g := gb189) (o := .cells #[.bool ((rd_T23 l0 x11_1).f0), .int .i64 ((rd_T23 l0 x11_1).f1), .int .i64 ((rd_T23 l0 x11_1).f2)] 23 (0, 0)) (by (with_reducible repeat (first | refine blk_drewN ?_ _ | refine blk_drew ?_ | refine blk_alloc ?_ _)); refine blk_put (cs := #[.bool ((rd_T23 l0 x11_1).f0), .int .i64 ((rd_T23 l0 x11_1).f1), .int .i64 0]) ?_ 2 _ rfl; (with_reducible repeat (first | refine blk_drewN ?_ _ | refine blk_drew ?_ | refine blk_alloc ?_ _)); refine blk_put (cs := #[.bool ((rd_T23 l0 x11_1).f0), .int .i64 0, .int .i64 0]) ?_ 1 _ rfl; (with_reducible repeat (first | refine blk_drewN ?_ _ | refine blk_drew ?_ | refine blk_alloc ?_ _)); refine blk_put (cs := #[.bool false, .int .i64 0, .int .i64 0]) ?_ 0 _ rfl; (with_reducible repeat (first | refine blk_drewN ?_ _ | refine blk_drew ?_ | refine blk_alloc ?_ _)); exact BK189.out) hb); have n2_ := Aside0.mk (below_step (by repeat (first | (with_reducible first | exact HB.out | apply below_alloc | apply pw_below_drewN | apply below_drew1 | refine below_set ?_ GE186.out | refine below_set ?_ GE189.out) | exact HB.out)) hb); clear BK186; clear BK189; clear HB; have BK186 := n0_; have BK189 := n1_; have HB := n2_; clear n0_ n1_ n2_; (try clear hb); (try clear hb2); (try clear hk); (try clear hi)) | ((with_reducible refine gate_callee (f := 18) rfl ?_); refine goesL_ (some 18) rfl rfl Tryd.func18 (by kernel_rfl) rfl #[] rfl (by (try simp only [List.map_toArray, List.map_cons, List.map_nil]); first | done | rfl | (simp only [List.length_drop, List.length_take]; rfl)) ?_; (with_reducible refine (gimballaw31_awake.calls  t195 _ A35.out).mono ?_); rintro e w40 ⟨rfl, hb⟩; refine ⟨_, rfl, ?_⟩; have n0_ := Aside0.mk (blk_below (g := gb186) (o := .cells #[.bool x187000_1, .int .i64 x187001_1, .int .i64 x187002_1] 23 (0, 0)) (by (with_reducible repeat (first | refine blk_drewN ?_ _ | refine blk_drew ?_ | refine blk_alloc ?_ _)); exact BK186.out) hb); have n1_ := Aside0.mk (blk_below (g := gb189) (o := .cells #[.bool ((rd_T23 l0 x11_1).f0), .int .i64 ((rd_T23 l0 x11_1).f1), .int .i64 ((rd_T23 l0 x11_1).f2)] 23 (0, 0)) (by (with_reducible repeat (first | refine blk_drewN ?_ _ | refine blk_drew ?_ | refine blk_alloc ?_ _)); exact BK189.out) hb); have n2_ := Aside0.mk (below_step (by repeat (first | (with_reducible first | exact HB.out | apply below_alloc | apply pw_below_drewN | apply below_drew1 | refine below_set ?_ GE186.out | refine below_set ?_ GE189.out) | exact HB.out)) hb); clear BK186; clear BK189; clear HB; have BK186 := n0_; have BK189 := n1_; have HB := n2_; clear n0_ n1_ n2_; (try clear hb); (try clear hb2); (try clear hk); (try clear hi)))
              go_ret
              exact ⟨by first | rfl | (simp [errW_none, errW_some] <;> rfl) | (simp [*, errW_none, errW_some] <;> rfl), by repeat (first | (with_reducible first | exact HB.out | apply below_alloc | apply pw_below_drewN | apply below_drew1 | refine below_set ?_ GE186.out | refine below_set ?_ GE189.out) | exact HB.out)⟩
          · rw [if_neg c6] at H
            exact absurd H (by simp)
        · rw [if_neg c5] at H
          exact absurd H (by simp)
      · rw [if_neg c4] at H
        have c4b0 : decide (x11_1 < (l0.length : Int)) = false := decide_eq_false c4
        clear c4
        by_cases c41 : x4_1 ≤ 33
        · rw [if_pos c41] at H
          have c41b0 : decide (x4_1 ≤ 33) = true := decide_eq_true c41
          clear c41
          replace H := Option.bind_eq_some_iff.mp H
          obtain ⟨t187, A420, H⟩ := H
          replace H : (some t187) = some r := H
          have A42 := Aside0.mk A420
          clear A420
          obtain rfl := Option.some.inj H
          go_wp2_with (first | (go_at_call 18; (with_reducible refine (gimballaw31_awake.calls  t187 _ A42.out).mono ?_); rintro e w43 ⟨rfl, hb⟩; have n0_ := Aside0.mk (blk_below (g := gb186) (o := .cells #[.bool x187000_1, .int .i64 x187001_1, .int .i64 x187002_1] 23 (0, 0)) (by (with_reducible repeat (first | refine blk_drewN ?_ _ | refine blk_drew ?_ | refine blk_alloc ?_ _)); exact BK186.out) hb); have n1_ := Aside0.mk (below_step (by repeat (first | (with_reducible first | exact HB.out | apply below_alloc | apply pw_below_drewN | apply below_drew1 | refine below_set ?_ GE186.out) | exact HB.out)) hb); clear BK186; clear HB; have BK186 := n0_; have HB := n1_; clear n0_ n1_; (try clear hb); (try clear hb2); (try clear hk); (try clear hi)))
          go_ret
          exact ⟨by first | rfl | (simp [errW_none, errW_some] <;> rfl) | (simp [*, errW_none, errW_some] <;> rfl), by repeat (first | (with_reducible first | exact HB.out | apply below_alloc | apply pw_below_drewN | apply below_drew1 | refine below_set ?_ GE186.out) | exact HB.out)⟩
        · rw [if_neg c41] at H
          have c41b0 : decide (x4_1 ≤ 33) = false := decide_eq_false c41
          clear c41
          obtain rfl := Option.some.inj H
          go_wp2
          go_ret
          exact ⟨by first | rfl | (simp [errW_none, errW_some] <;> rfl) | (simp [*, errW_none, errW_some] <;> rfl), by repeat (first | (with_reducible first | exact HB.out | apply below_alloc | apply pw_below_drewN | apply below_drew1 | refine below_set ?_ GE186.out) | exact HB.out)⟩

end Go.Proofs.YtfmmjekhknaniaaDoor.Pr
/- A row of joins grows at most 33 times; the law over a row of any congruences answers true. Conditions: the row has at most 2^63 - 1 elements, each with int64 numbers. -/
namespace Go.Proofs.YtfmmjekhknaniaaDoor.Core
open Go.RowKit Go.Proofs.YtfmmjekhknaniaaDoor.Pr Go.Proofs.YtfmmjekhknaniaaDoor.Given Go.Proofs.YtfmmjekhknaniaaDoorW.PrintWords

/-- how often a congruence may still grow. -/
def ht (c : Cg) : Nat := if c.1 = true then 33 else if c.2.1 = 0 then 32 else Nat.log2 c.2.1.toNat

theorem w64_in {n : Int} (h : -9223372036854775808 ≤ n) (k : n ≤ 9223372036854775807) : wrap64 n = n := by
  rw [← IntWalk.i64_left]; exact IntWalk.i64_in n ⟨h, k⟩
theorem mod_le {c : Cg} (h : Fit c) : 0 ≤ c.2.1 ∧ c.2.1 ≤ 4294967295 := by
  rcases h with rfl | ⟨_, h2, _⟩ | ⟨_, h2, _, _, y, h5, h6, _⟩
  · simp
  · omega
  · unfold In32 at h5 h6; omega
theorem log_le {m : Int} (h : m ≤ 4294967295) : Nat.log2 m.toNat ≤ 31 := by
  have : Nat.log2 m.toNat < 32 := by
    rcases Nat.eq_zero_or_pos m.toNat with h0 | h0
    · rw [h0]; decide
    · rw [Nat.log2_lt (by omega)]; omega
  omega

theorem ht_lt {c x : Cg} (hc : Fit c) (hx : Fit x) (h : joinS c x ≠ c) : ht (joinS c x) < ht c := by
  have hd := fit_join hc hx
  have hs : Sub c (joinS c x) := sub_join_l
  generalize hj : joinS c x = d at *
  have hm := mod_le hd
  have hl := log_le hm.2
  rcases hc with rfl | ⟨h1, h2, h3⟩ | ⟨h1, h2, h3, h4, y, h5, h6, h7⟩
  · by_cases hn : d.1 = true
    · exact absurd (none_of_sub hd (Sub.refl d) hn) h
    · unfold ht
      rw [if_neg hn, if_pos rfl]
      split <;> omega
  · obtain ⟨nd, d1, d2⟩ := sub_dvd (Or.inr (Or.inl ⟨h1, h2, h3⟩)) h1 hs
    by_cases h0 : d.2.1 = 0
    · rw [h0] at d2
      have e2 := Int.zero_dvd.mp d2
      exact absurd (show d = c from Prod.ext (by rw [nd, h1]) (Prod.ext (by rw [h0, h2]) (by omega))) h
    · unfold ht
      rw [if_neg (by rw [nd]; simp), if_neg h0, if_neg (by rw [h1]; simp), if_pos h2]
      omega
  · obtain ⟨nd, d1, d2⟩ := sub_dvd (Or.inr (Or.inr ⟨h1, h2, h3, h4, y, h5, h6, h7⟩)) h1 hs
    have h0 : d.2.1 ≠ 0 := by
      intro h0
      rw [h0] at d1
      have := Int.zero_dvd.mp d1
      omega
    obtain ⟨q, hq⟩ := d1
    have hq1 : 1 ≤ q := by
      rcases Int.lt_or_le q 1 with hlt | hle
      · have : d.2.1 * q ≤ 0 := Int.mul_nonpos_of_nonneg_of_nonpos hm.1 (by omega)
        omega
      · exact hle
    have hq2 : q ≠ 1 := by
      rintro rfl
      rw [Int.mul_one] at hq
      have hr := fit_rem hd
      have e2 : d.2.2 = c.2.2 := by
        obtain ⟨z, hz⟩ := d2
        rw [← hq] at hz
        have hr2 : 0 ≤ d.2.2 ∧ d.2.2 < d.2.1 := by
          rcases hd with hd' | ⟨_, hd', _⟩ | ⟨_, _, a1, a2, _⟩
          · rw [hd'] at h0; exact absurd rfl h0
          · exact absurd hd' h0
          · exact ⟨a1, a2⟩
        have hz0 : z = 0 := by
          rcases Int.lt_trichotomy z 0 with hz' | hz' | hz'
          · have : c.2.1 * z ≤ c.2.1 * (-1) := Int.mul_le_mul_of_nonneg_left (by omega) (by omega)
            omega
          · exact hz'
          · have : c.2.1 * 1 ≤ c.2.1 * z := Int.mul_le_mul_of_nonneg_left (by omega) (by omega)
            omega
        rw [hz0, Int.mul_zero] at hz
        omega
      exact absurd (show d = c from Prod.ext (by rw [nd, h1]) (Prod.ext hq.symm e2)) h
    have h2d : 2 * d.2.1 ≤ c.2.1 := by
      have : d.2.1 * 2 ≤ d.2.1 * q := Int.mul_le_mul_of_nonneg_left (by omega) hm.1
      omega
    unfold ht
    rw [if_neg (by rw [nd]; simp), if_neg h0, if_neg (by rw [h1]; simp), if_neg (by omega)]
    have hk := Nat.log2_self_le (n := d.2.1.toNat) (by omega)
    have : Nat.log2 d.2.1.toNat + 1 ≤ Nat.log2 c.2.1.toNat := by
      rw [Nat.le_log2 (by omega), Nat.pow_succ]
      omega
    omega

theorem short_loop (l : List S23) (hl : ∀ i, I64 (rd_T23 l i).f1 ∧ I64 (rd_T23 l i).f2) (hn : l.length ≤ 9223372036854775807) :
    ∀ (n i : Nat) (g : Int) (c : Cg), i + n = l.length → Fit c → 0 ≤ g → g + ht c ≤ 33 → Ev (fun k => gimballaw31_CongrShort.l0 k g l (l.length : Int) (i : Int) c.1 c.2.1 c.2.2) true
  | 0, i, g, c, hi, hc, hg, hh => by
    refine ⟨1, fun k hk => ?_⟩
    obtain ⟨j, rfl⟩ : ∃ j, k = j + 1 := ⟨k - 1, by omega⟩
    show gimballaw31_CongrShort.l0 (j + 1) g l (l.length : Int) (i : Int) c.1 c.2.1 c.2.2 = some true
    rw [gimballaw31_CongrShort.l0, if_neg (by omega), if_pos (by omega)]
    rfl
  | n + 1, i, g, c, hi, hc, hg, hh => by
    have he := hl (i : Int)
    generalize hE : ((rd_T23 l i).f0, (rd_T23 l i).f1, (rd_T23 l i).f2) = e
    have e1 : (rd_T23 l i).f0 = e.1 := by rw [← hE]
    have e2 : (rd_T23 l i).f1 = e.2.1 := by rw [← hE]
    have e3 : (rd_T23 l i).f2 = e.2.2 := by rw [← hE]
    rw [e2, e3] at he
    by_cases hf : Fit e
    · obtain ⟨K1, hK1⟩ := Join_f hc hf
      have hcond : (!((joinS c e).1 == c.1) || (!((joinS c e).2.1 == c.2.1) || (!((joinS c e).2.2 == c.2.2)))) = true ↔ joinS c e ≠ c := by
        constructor
        · intro h h'
          rw [h'] at h
          simp at h
        · intro h
          cases hb : (!((joinS c e).1 == c.1) || (!((joinS c e).2.1 == c.2.1) || (!((joinS c e).2.2 == c.2.2)))) with
          | true => rfl
          | false =>
            simp at hb
            exact absurd (Prod.ext hb.1 (Prod.ext hb.2.1 hb.2.2)) h
      have hg33 : g ≤ 33 := by omega
      by_cases hne : joinS c e ≠ c
      · have hlt := ht_lt hc hf hne
        obtain ⟨K2, hK2⟩ := short_loop l hl hn n (i + 1) (g + 1) (joinS c e) (by omega) (fit_join hc hf) (by omega) (by omega)
        refine ⟨K1 + K2 + 9, fun k hk => ?_⟩
        obtain ⟨j, rfl⟩ : ∃ j, k = (j + 8) + 1 := ⟨k - 9, by omega⟩
        show gimballaw31_CongrShort.l0 ((j + 8) + 1) g l (l.length : Int) (i : Int) c.1 c.2.1 c.2.2 = some true
        have hk1 : congr_Join.f (j + 8) c.1 c.2.1 c.2.2 e.1 e.2.1 e.2.2 = some (joinS c e) := hK1 (j + 8) (by omega)
        have hk2 : gimballaw31_CongrShort.l0 (j + 8) (g + 1) l (l.length : Int) ((i + 1 : Nat) : Int) (joinS c e).1 (joinS c e).2.1 (joinS c e).2.2 = some true := hK2 (j + 8) (by omega)
        rw [gimballaw31_CongrShort.l0, if_pos (by omega), if_pos (by omega), if_pos (by omega), e1, e2, e3, rFit_f e he.1 he.2, Option.bind_some, if_pos (fitB_iff.mpr hf), hk1, Option.bind_some, if_pos (hcond.mpr hne),
          w64_in (by omega) (by omega), w64_in (by omega) (by omega)]
        exact hk2
      · have heq : joinS c e = c := Classical.not_not.mp hne
        obtain ⟨K2, hK2⟩ := short_loop l hl hn n (i + 1) g c (by omega) hc hg hh
        refine ⟨K1 + K2 + 9, fun k hk => ?_⟩
        obtain ⟨j, rfl⟩ : ∃ j, k = (j + 8) + 1 := ⟨k - 9, by omega⟩
        show gimballaw31_CongrShort.l0 ((j + 8) + 1) g l (l.length : Int) (i : Int) c.1 c.2.1 c.2.2 = some true
        have hk1 : congr_Join.f (j + 8) c.1 c.2.1 c.2.2 e.1 e.2.1 e.2.2 = some (joinS c e) := hK1 (j + 8) (by omega)
        have hk2 : gimballaw31_CongrShort.l0 (j + 8) g l (l.length : Int) ((i + 1 : Nat) : Int) c.1 c.2.1 c.2.2 = some true := hK2 (j + 8) (by omega)
        rw [gimballaw31_CongrShort.l0, if_pos (by omega), if_pos (by omega), if_pos (by omega), e1, e2, e3, rFit_f e he.1 he.2, Option.bind_some, if_pos (fitB_iff.mpr hf), hk1, Option.bind_some, if_neg (by rw [hcond]; exact hne),
          w64_in (by omega) (by omega), heq]
        exact hk2
    · refine ⟨9, fun k hk => ?_⟩
      obtain ⟨j, rfl⟩ : ∃ j, k = (j + 8) + 1 := ⟨k - 9, by omega⟩
      show gimballaw31_CongrShort.l0 ((j + 8) + 1) g l (l.length : Int) (i : Int) c.1 c.2.1 c.2.2 = some true
      rw [gimballaw31_CongrShort.l0, if_pos (by omega), if_pos (by omega), if_pos (by omega), e1, e2, e3, rFit_f e he.1 he.2, Option.bind_some, if_neg (by rw [fitB_iff]; exact hf)]
      rfl

theorem short_f (l : List S23) (hl : ∀ i, I64 (rd_T23 l i).f1 ∧ I64 (rd_T23 l i).f2) (hn : l.length ≤ 9223372036854775807) : ∃ k, gimballaw31_CongrShort.f k l = some true := by
  obtain ⟨K, hK⟩ := short_loop l hl hn l.length 0 0 (true, 0, 0) (by omega) (Or.inl rfl) (by omega) (by simp [ht])
  exact ⟨K, hK K (Nat.le_refl _)⟩
end Go.Proofs.YtfmmjekhknaniaaDoor.Core
namespace Go.Proofs.YtfmmjekhknaniaaDoor.Core
open Go.ChangeShapes Go.WideShapes Go.ChangeAt Go.RowKit Go.Deep Pr Go.Proofs.YtfmmjekhknaniaaDoorW.PrintWords
set_option maxRecDepth 100000
instance : Inhabited S23 := ⟨z23⟩

theorem own : ownKnob Tryd.prog.godebug = none := by kernel_rfl
theorem laidOut : laidOutB Tryd.prog = true := by kernel_rfl
theorem cells23 : Tryd.prog.cellsOf 23 = 3 := by kernel_rfl
theorem cells4 : Tryd.prog.cellsOf 4 = 1 := by kernel_rfl
theorem cells2 : Tryd.prog.cellsOf 2 = 1 := by kernel_rfl
theorem read30 : Tryd.prog.readableRec 30 = true := by kernel_rfl
theorem size30 : 30 < Tryd.prog.types.size := of_decide_eq_true (by kernel_rfl)
theorem i64_of {n : Int} (wi : (Lit.int .i64 n).wf = true) : I64 n := by
  simp only [Lit.wf, Bool.and_eq_true, decide_eq_true_eq] at wi
  have hmin : IntKind.i64.min = -9223372036854775808 := by decide +kernel
  have hmax : IntKind.i64.max = 9223372036854775807 := by decide +kernel
  unfold I64
  omega

/-- One congruence, opened. -/
theorem open_congr {H : Type} {enc : TypeId × Value → H} {W : World} {base n : Nat} {sp : Nat → Bool} {held : Bool} {cs : List Value} {x : DataW H × List MemPlace}
    (h : DataW.trod enc Tryd.prog W base sp held n 23 cs = some x) : ∃ s : S23, cs = [.bool s.f0, .int .i64 s.f1, .int .i64 s.f2] ∧ I64 s.f1 ∧ I64 s.f2 := by
  obtain ⟨y0, y1, y2, m, _, hl, h0, h1, h2⟩ := trod_struct3 Tryd.underlying23 h
  rw [cells23] at hl
  match cs, hl with
  | [v0, v1, v2], _ =>
    simp [cells4, cells2] at h0 h1 h2
    obtain ⟨b, hb, _⟩ := DataW.trod_bool Tryd.underlying4 h0
    obtain ⟨m1, hm1, _, w1⟩ := DataW.trod_int Tryd.underlying2 h1
    obtain ⟨m2, hm2, _, w2⟩ := DataW.trod_int Tryd.underlying2 h2
    simp only [List.cons.injEq, and_true] at hb hm1 hm2
    exact ⟨⟨b, m1, m2⟩, by rw [hb, hm1, hm2], i64_of w1, i64_of w2⟩

/-- A row of congruences, opened. -/
theorem open_congrs {H : Type} {enc : TypeId × Value → H} {W : World} {base : Nat} {v : Value} {d : DataW H} {p : List MemPlace}
    (hval : Value.okWide Tryd.prog W .any base 30 v) (h : DataW.Trod enc Tryd.prog W 0 (fun _ => true) true 30 v d p) :
    ∃ (A : Option Addr) (l : List S23) (cap : Nat), v = .slice A l.length cap ∧ l.length ≤ cap ∧ Kd.C k23 W A l.length l ∧ (∀ i, I64 (rd_T23 l i).f1 ∧ I64 (rd_T23 l i).f2) ∧ cap ≤ maxLen := by
  obtain ⟨A, len, cap, rfl⟩ := okWide_slice Tryd.underlying30 hval
  obtain ⟨fuel, hf⟩ := h
  have hz : I64 z23.f1 ∧ I64 z23.f2 := by simp [z23, I64]
  rcases open_slice Tryd.underlying30 (by simpa [Value.cells] using hf) with ⟨hc, _⟩ | ⟨a, len', cap', m, n, D, Pl, hc, _, hl, hm, hmm, _, hx⟩
  · simp only [List.cons.injEq, Value.slice.injEq, and_true] at hc
    obtain ⟨rfl, rfl, rfl⟩ := hc
    exact ⟨none, [], 0, rfl, by simp, ⟨rfl, by simp, fun h => absurd h (by simp)⟩, fun i => by simpa [rd_T23] using hz, by decide⟩
  · simp only [List.cons.injEq, Value.slice.injEq, and_true] at hc
    obtain ⟨rfl, rfl, rfl⟩ := hc
    have hm' : m = cap := by simpa using hmm
    subst hm'
    have each : ∀ i, i < len → ∃ s : S23, (∀ j u, [Value.bool s.f0, .int .i64 s.f1, .int .i64 s.f2][j]? = some u → W.cell? (a.add (i * 3 + j)) = some u) ∧ I64 s.f1 ∧ I64 s.f2 := by
      intro i hi
      obtain ⟨cs', h1, h2⟩ := hx i (by omega)
      obtain ⟨s, hs, w1, w2⟩ := open_congr h2
      obtain ⟨_, hlen, hcell⟩ := World.cells?_some h1
      rw [cells23] at hcell hlen
      refine ⟨s, fun j u hj => ?_, w1, w2⟩
      rw [← hs] at hj
      have hj3 : j < 3 := by
        have := (List.getElem?_eq_some_iff.1 hj).1
        omega
      rw [← hj, ← hcell j hj3, Go.Deep.add_add]
    obtain ⟨q, hq⟩ := choose_lt each
    have hlen : ((List.range len).map q).length = len := by simp
    refine ⟨some a, (List.range len).map q, m, by rw [hlen], by rw [hlen]; exact hl, ⟨rfl, ?_, fun _ => ⟨a, rfl, ?_⟩⟩, ?_, hm⟩
    · rw [hlen]; unfold maxLen at hm; omega
    · intro j s hj
      simp only [List.getElem?_map, Option.map_eq_some_iff] at hj
      obtain ⟨i, hi, rfl⟩ := hj
      obtain ⟨hi1, hi2⟩ := List.getElem?_eq_some_iff.1 hi
      simp at hi1 hi2
      subst hi2
      exact ⟨_, rfl, k23_mk W _, (hq j hi1).1⟩
    · intro i
      unfold rd_T23
      rcases Nat.lt_or_ge i.toNat len with h1 | h1
      · have : ((List.range len).map q).getD i.toNat z23 = q i.toNat := by simp [List.getD, h1]
        rw [this]
        exact (hq _ h1).2
      · have : ((List.range len).map q).getD i.toNat z23 = z23 := by
          simp [List.getD, h1]
        rw [this]
        exact hz

theorem short_contract (H : Type) (enc : TypeId × Value → H) (W : World) (base : Nat) (args : Array Value) (ds gs : List (DataW H)) (before : List MemPlace)
    (hval : ∀ (j : Nat) t v, Tryd.f4.params[j]? = some t → args[j]? = some v → Value.okWide Tryd.prog W .any base t v)
    (hW : DataW.Whole enc Tryd.prog Tryd.f4.params.toList Rows.congrShortSpec.vars false W args.toList ds gs before) :
    Calls Tryd.prog 4 args W fun e W' => ∃ v, e = .returned v ∧ Rows.congrShortSpec.post enc Tryd.prog Tryd.f4 false true false false W args v W' := by
  have hW' := hW
  have hlt := hW.lt
  obtain ⟨p, q, hA0, hV, rfl, hfz, hnd⟩ := hW
  have hA : DataW.TrodAll enc Tryd.prog W 0 (fun _ => true) true Tryd.f4.params.toList args.toList ds p := hA0
  rw [Tryd.params4] at hA hval
  obtain ⟨v0, d0, rfl, rfl, h0⟩ := trodAll_one hA
  obtain ⟨rfl, rfl⟩ := trodVars_none hV
  clear hA0
  simp only [List.append_nil] at hW' hlt
  obtain ⟨A, l, cap, rfl, hlc, hC, hI, hcap⟩ := open_congrs (hval 0 30 v0 rfl rfl) h0
  obtain ⟨k, hk⟩ := short_f l hI (by unfold maxLen at hcap; omega)
  refine (gimballaw31_CongrShort.calls k A cap l true W hC hlc hk).mono fun e W' ⟨he, hb⟩ => ?_
  subst he
  exact ⟨_, rfl, _, _, _, [], _, [], hW', trodAll_mk1 (shut_bool Tryd.underlying4 _), trodAll_mk1 (hb.trod laidOut read30 size30 h0 hlt), rfl, hb.frame _, fun h => by cases h⟩

theorem short_laid_met (os : Os) : laidMet Tryd.prog Rows.congrShortRow.laid ((World.laidAll Tryd.prog os Rows.congrShortRow.laid).forCall (fun _ _ => 0) ⟨#[], #[.slice none 0 0], []⟩).memory :=
  laidMet_laidAll _ (by kernel_rfl) (by kernel_rfl)
theorem short_reads (os : Os) {H : Type} (enc : TypeId × Value → H) : ∃ places, DataW.whole enc Tryd.prog ((World.laidAll Tryd.prog os Rows.congrShortRow.laid).forCall (fun _ _ => 0) ⟨#[], #[.slice none 0 0], []⟩).memory Tryd.f4.params.toList Rows.congrShortSpec.vars false #[Value.slice none 0 0].toList 8 = some ([.nil], [], places) :=
  ⟨[], by kernel_rfl⟩

theorem short_lifted (os : Os) (started : os.Started) (H : Type) (enc : TypeId × Value → H) (F : Stop.Interp) :
    ReturnsInHanded {} Tryd.checked os 4 .any ((OpenSpec.ofChange Rows.congrShortSpec).preRow enc Tryd.prog Tryd.f4 Rows.congrShortRow.domain false Rows.congrShortRow.laid) (((OpenSpec.ofChange Rows.congrShortSpec).at F).post enc Tryd.prog Tryd.f4 false true false false) := by
  obtain ⟨places, hx⟩ := short_reads os enc
  refine returnsInHanded_of_row (C := Tryd.checked) (s := OpenSpec.ofChange Rows.congrShortSpec) own started (by kernel_rfl) Tryd.func4
    (witness_row_at (enc := enc) (C := Tryd.checked) false (World.laidAll Tryd.prog os Rows.congrShortRow.laid) #[.slice none 0 0] (World.laidAll_os _ _ _) (by kernel_rfl) (by kernel_rfl) (by kernel_rfl)
      (OpenSpec.preRow_of_cond 8 hx (by kernel_rfl) (fun k hk => by cases hk) (by kernel_rfl) (short_laid_met os))) ?_
  intro W base args ds gs before hval hW _ _ _ _ _ _
  exact short_contract H enc W base args ds gs before hval hW

theorem short_said : Rows.CongrShortSaid :=
  OpenClaim.holds_of_cond 4 Tryd.f4 rfl rfl rfl rfl rfl rfl rfl ⟨rfl, rfl, rfl, rfl, rfl⟩ rfl rfl rfl rfl rfl (by kernel_rfl) Tryd.func4 (by kernel_rfl)
    (of_decide_eq_true (by kernel_rfl)) (by unfold Func.isWrapper; first | (rw [if_pos (by decide +kernel)]; kernel_rfl) | (rw [if_neg (by decide +kernel)]; exact ⟨rfl, rfl⟩))
    (fun os started H enc _ F => by rw [OpenClaim.pre_eq_preRow]; exact short_lifted os started H enc F)

theorem short_plain (f : FuncId) (fn : Func) (hf : Tryd.pinned.checked.prog.funcNamed "gimbal/gimballaw31.CongrShort" = some f) (hfn : Tryd.pinned.checked.prog.funcs[f]? = some fn) :
    false = Tryd.pinned.checked.prog.looks [] ∧ ∀ (j : Nat) t, fn.params[j]? = some t → Tryd.pinned.checked.prog.wantsStandIn t = false := by
  obtain rfl : f = 4 := Option.some.inj ((show Tryd.prog.funcNamed "gimbal/gimballaw31.CongrShort" = some 4 by kernel_rfl).symm.trans hf) |>.symm
  obtain rfl : fn = Tryd.f4 := (Option.some.inj (Tryd.func4.symm.trans hfn)).symm
  refine ⟨by kernel_rfl, fun j t ht => ?_⟩
  rw [Tryd.params4] at ht
  obtain rfl : t = 30 := by simpa using Array.mem_of_getElem? ht
  exact (show Tryd.prog.wantsStandIn 30 = false by kernel_rfl)

/-- The card. -/
theorem short_card : Rows.CongrShortCardSaid :=
  Claim7.holds_tied_plain_at .later [] _ _ _ _ short_said (fun _ h => by cases h) (by kernel_rfl) (fun _ h => by cases h) congrShort_row_tie rfl ⟨rfl, rfl⟩ (by kernel_rfl) rfl short_plain (by kernel_rfl)
#print axioms short_card
end Go.Proofs.YtfmmjekhknaniaaDoor.Core
namespace Go.Proofs.YtfmmjekhknaniaaDoor
theorem CongrShort_holds : Rows.CongrShortCardSaid := Core.short_card
end Go.Proofs.YtfmmjekhknaniaaDoor
