/- This claim's own texts, joined, with only what the claim uses: Given. -/
import Derived.Test.YtfmmjekhknaniaaDoorMonoP1
import Derived.Test.YtfmmjekhknaniaaDoorProg
import Derived.Below
import Derived.Deep.Draws
import Derived.OwnWalk
import Derived.WalkKit
import Derived.KernelRfl
import Derived.WalkLawsBesides
import Derived.Deep.QuietTactic
import Derived.BigQuiet
namespace Go.Proofs.YtfmmjekhknaniaaDoor.Given
open Go.RowKit

/-- function 100 (bits.Div64) where the high word is 0. -/
theorem div64_zero (lo y : Int) (hlo : 0 ≤ lo) (hlo2 : lo ≤ 18446744073709551615) (hy : 1 ≤ y) (hy2 : y ≤ 18446744073709551615) (w : World) :
    Calls Tryd.prog 100 #[.int .u64 0, .int .u64 lo, .int .u64 y] w fun e w' => e = .returned (.tuple #[.int .u64 (lo / y), .int .u64 (lo % y)]) ∧ ∃ n, w' = w.drewN n := by
  have h1 : (y == 0) = false := by rw [beq_eq_false_iff_ne]; omega
  have h2 : ¬ (y ≤ 0) := by omega
  go_enter Tryd.func100, Tryd.ntmps100
  go_wp2
  go_quiet (fail)
  go_wp2
  go_ret2
  exact ⟨rfl, _, rfl⟩

/-- function 94 (bits.Rem64) where the high word is 0. -/
theorem rem64_zero (lo y : Int) (hlo : 0 ≤ lo) (hlo2 : lo ≤ 18446744073709551615) (hy : 1 ≤ y) (hy2 : y ≤ 18446744073709551615) (w : World) :
    Calls Tryd.prog 94 #[.int .u64 0, .int .u64 lo, .int .u64 y] w fun e w' => e = .returned (.int .u64 (lo % y)) ∧ ∃ n, w' = w.drewN n := by
  have h1 : (y == 0) = false := by rw [beq_eq_false_iff_ne]; omega
  have h2 : ¬ (y ≤ 0) := by omega
  have h3 : Int.tmod 0 y = 0 := Int.zero_tmod y
  go_enter Tryd.func94, Tryd.ntmps94
  go_wp2_with (go_at_call 100; refine (div64_zero lo y hlo hlo2 hy hy2 _).mono ?_; rintro e w' ⟨rfl, n, rfl⟩)
  go_ret
  exact ⟨rfl, _, rfl⟩

/-- function 65 ((congr.words).rest) where the high word is 0. -/
def congr_words_rest.f (a0_0 a0_1 a1 : Int) : Option Int := if a0_0 = 0 ∧ 0 ≤ a0_1 ∧ a0_1 ≤ 18446744073709551615 ∧ 1 ≤ a1 ∧ a1 ≤ 18446744073709551615 then some (a0_1 % a1) else none
theorem congr_words_rest.calls (a0_0 a0_1 a1 r : Int) (w : World) (h : congr_words_rest.f a0_0 a0_1 a1 = some r) :
    Calls Tryd.prog 65 #[.agg #[.int .u64 a0_0, .int .u64 a0_1], .int .u64 a1] w fun e w' => e = .returned (.int .u64 r) ∧ Below w.heap.size w w' := by
  unfold congr_words_rest.f at h
  split at h
  case isFalse => cases h
  case isTrue hc =>
    obtain ⟨rfl, hlo, hlo2, hy, hy2⟩ := hc
    obtain rfl := Option.some.inj h
    clear h
    go_enter Tryd.func65, Tryd.ntmps65
    go_wp2_with (go_at_call 94; refine (rem64_zero a0_1 a1 hlo hlo2 hy hy2 _).mono ?_; rintro e w' ⟨rfl, n, rfl⟩)
    go_ret
    exact ⟨rfl, below_drewN ((Below.refl _ _).alloc (Nat.le_refl _) _) _⟩

/-- function 16 (congr.Text) at 3 mod 8. -/
def congr_Text.f (a0_0 : Bool) (a0_1 a0_2 : Int) : Option ByteArray := if a0_0 = false ∧ a0_1 = 8 ∧ a0_2 = 3 then some (⟨#[51, 32, 109, 111, 100, 32, 56]⟩ : ByteArray) else none
theorem congr_Text.calls (a0_0 : Bool) (a0_1 a0_2 : Int) (r : ByteArray) (w : World) (h : congr_Text.f a0_0 a0_1 a0_2 = some r) :
    Calls Tryd.prog 16 #[.agg #[.bool a0_0, .int .i64 a0_1, .int .i64 a0_2]] w fun e w' => e = .returned (.string r) ∧ Below w.heap.size w w' := by
  unfold congr_Text.f at h
  split at h
  case isFalse => cases h
  case isTrue hc =>
    obtain ⟨rfl, rfl, rfl⟩ := hc
    obtain rfl := Option.some.inj h
    clear h
    have c3 : ∀ w : World, Calls Tryd.prog 58 #[.int .i64 3, .int .i64 10] w fun e w' => e = .returned (.string ⟨#[51]⟩) ∧ w' = w := fun w => (Tryd.strconv_FormatInt_10_small 3 (by omega) w).mono fun e w' h => ⟨h.1.trans (congrArg (fun l : List UInt8 => Ending.returned (.string ⟨l.toArray⟩)) (by decide +kernel)), h.2⟩
    have c8 : ∀ w : World, Calls Tryd.prog 58 #[.int .i64 8, .int .i64 10] w fun e w' => e = .returned (.string ⟨#[56]⟩) ∧ w' = w := fun w => (Tryd.strconv_FormatInt_10_small 8 (by omega) w).mono fun e w' h => ⟨h.1.trans (congrArg (fun l : List UInt8 => Ending.returned (.string ⟨l.toArray⟩)) (by decide +kernel)), h.2⟩
    go_enter Tryd.func16, Tryd.ntmps16
    go_wp2_with fail
    go_quiet (first | ((go_at_call_of 58 (Value.int IntKind.i64 3); exact Calls.quiet_of_same (c3 _))) | ((go_at_call_of 58 (Value.int IntKind.i64 8); exact Calls.quiet_of_same (c8 _))))
    go_wp2
    go_ret
    exact ⟨rfl, below_drewN ((Below.refl _ _).alloc (Nat.le_refl _) _) _⟩

end Go.Proofs.YtfmmjekhknaniaaDoor.Given

