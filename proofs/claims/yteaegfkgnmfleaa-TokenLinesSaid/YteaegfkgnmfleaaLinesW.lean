/- token.Line, bytes.LastIndexByte and the reference's Line by their walks, over a row of bytes at any address, and over nil. -/
import Derived.Test.YteaegfkgnmfleaaProg
import Derived.WalkKit
import Derived.Below
import Derived.Deep.LoopGhost
namespace Go.Proofs.Yteaegfkgnmfleaa.Ln
open Go.RowKit

/-- The last place below k that holds c; -1: none. -/
def li (xs : List Int) (c : Int) : Nat → Int
  | 0 => -1
  | k + 1 => if xs.getD k 0 = c then (k : Int) else li xs c k
/-- How many below k hold c. -/
def cn (xs : List Int) (c : Int) : Nat → Int
  | 0 => 0
  | k + 1 => if xs.getD k 0 = c then cn xs c k + 1 else cn xs c k
theorem li_succ (xs : List Int) (c : Int) (k : Nat) : li xs c (k + 1) = if xs.getD k 0 = c then (k : Int) else li xs c k := rfl
theorem cn_succ (xs : List Int) (c : Int) (k : Nat) : cn xs c (k + 1) = if xs.getD k 0 = c then cn xs c k + 1 else cn xs c k := rfl
theorem wadd (x : Int) : IntKind.i64.wrap (IntKind.i64.wrap x + 1) = IntKind.i64.wrap (x + 1) := by
  simp only [IntKind.wrap_i64]; omega
theorem li_le (xs : List Int) (c : Int) : ∀ k, -1 ≤ li xs c k ∧ li xs c k < k
  | 0 => by simp [li]
  | k + 1 => by
    have := li_le xs c k
    unfold li
    split <;> omega
theorem cn_le (xs : List Int) (c : Int) : ∀ k, 0 ≤ cn xs c k ∧ cn xs c k ≤ k
  | 0 => by simp [cn]
  | k + 1 => by
    have := cn_le xs c k
    unfold cn
    split <;> omega

set_option maxRecDepth 100000 in
theorem last11 (A : Option Addr) (n c : Nat) (xs : List Int) (w : World) (hn : n ≤ 9223372036854775807)
    (hc : ∀ i, i < n → ∃ a, A = some a ∧ w.cell? (a.add i) = some (.int .u8 (xs.getD i 0))) :
    Calls Try.prog 11 #[.slice A n c, .int .u8 10] w fun e w' => e = .returned (.int .i64 (li xs 10 n)) ∧ w' = w := by
  have h1 : IntKind.i64.wrap ((n : Int) - 1) = (n : Int) - 1 := IntWalk.i64_in _ (by omega)
  go_enter Try.func11, Try.ntmps11
  go_wp2
  go_loop [5] (fun i => ∃ k : Nat, k ≤ n ∧ i = .int .i64 ((k : Int) - 1) ∧ li xs 10 n = li xs 10 k) (fun i => match i with | .int _ z => (z + 1).toNat | _ => 0)
  case atStart => exact ⟨n, by omega, rfl, rfl⟩
  case round =>
    obtain ⟨k, hk, rfl, hs⟩ := hrel
    cases k with
    | zero =>
      have hs : li xs 10 n = -1 := hs
      go_wp2
      go_ret
      first | exact ⟨rfl, rfl⟩ | (refine ⟨?_, rfl⟩; rw [hs]; rfl)
    | succ k =>
      obtain ⟨a, rfl, hcell⟩ := hc k (by omega)
      have e1 : ((k + 1 : Nat) : Int) - 1 = (k : Int) := by omega
      have g0 : (0 : Int) ≤ (k : Int) := by omega
      have g1 : (k : Int) < (n : Int) := by omega
      have h2 : IntKind.i64.wrap ((k : Int) - 1) = (k : Int) - 1 := IntWalk.i64_in _ (by omega)
      rw [li_succ] at hs
      rw [e1]
      by_cases h10 : xs.getD k 0 = 10
      · rw [if_pos h10] at hs
        rw [h10] at hcell
        go_wp2
        go_ret
        first | exact ⟨rfl, rfl⟩ | (refine ⟨?_, rfl⟩; rw [hs]; rfl)
      · rw [if_neg h10] at hs
        have hb : (xs.getD k 0 == 10) = false := beq_eq_false_iff_ne.mpr h10
        generalize xs.getD k 0 = z at hcell hb
        go_wp2
        refine ⟨⟨k, by omega, rfl, hs⟩, ?_⟩
        show ((k : Int) - 1 + 1).toNat < ((k : Int) + 1).toNat
        omega

set_option maxRecDepth 100000 in
theorem last7 (A : Option Addr) (n c : Nat) (xs : List Int) (w : World) (hn : n ≤ 9223372036854775807)
    (hc : ∀ i, i < n → ∃ a, A = some a ∧ w.cell? (a.add i) = some (.int .u8 (xs.getD i 0))) :
    Calls Try.prog 7 #[.slice A n c, .int .u8 10] w fun e w' => e = .returned (.int .i64 (li xs 10 n)) ∧ w' = w := by
  go_enter Try.func7, Try.ntmps7
  go_wp2_with (go_at_call 11; with_reducible refine (last11 A n c xs _ hn hc).mono ?_; rintro e w' ⟨rfl, rfl⟩)
  go_ret
  exact ⟨rfl, rfl⟩


set_option maxRecDepth 100000 in
set_option maxHeartbeats 2000000 in
theorem rline5 (A : Option Addr) (n c : Nat) (k : Nat) (xs : List Int) (w : World) (hn : n ≤ 9223372036854775807) (hk : k ≤ n)
    (hc : ∀ i, i < n → ∃ a, A = some a ∧ w.cell? (a.add i) = some (.int .u8 (xs.getD i 0))) :
    Calls Try.prog 5 #[.slice A n c, .int .i64 k] w fun e w' => e = .returned (.tuple #[.int .i64 (IntKind.i64.wrap (1 + cn xs 10 k)), .int .i64 (IntKind.i64.wrap ((k : Int) - li xs 10 k))]) ∧ w' = w := by
  have p0 : ¬ (k : Int) < 0 := by omega
  have p1 : ¬ (k : Int) > (n : Int) := by omega
  go_enter Try.func5, Try.ntmps5
  go_wp2
  go_loop [6, 7, 8] (fun l c i => ∃ j : Nat, j ≤ k ∧ i = .int .i64 (j : Int) ∧ l = .int .i64 (IntKind.i64.wrap (1 + cn xs 10 j)) ∧ c = .int .i64 (IntKind.i64.wrap ((j : Int) - li xs 10 j))) (fun _ _ i => match i with | .int _ z => k - z.toNat | _ => 0)
  case atStart => exact ⟨0, by omega, rfl, rfl, rfl⟩
  case round =>
    obtain ⟨j, hj, rfl, rfl, rfl⟩ := hrel
    by_cases hjk : j < k
    · obtain ⟨a, rfl, hcell⟩ := hc j (by omega)
      have g0 : (0 : Int) ≤ (j : Int) := by omega
      have g1 : (j : Int) < (n : Int) := by omega
      have g2 : (j : Int) < (k : Int) := by omega
      have g3 : IntKind.i64.wrap ((j : Int) + 1) = (j : Int) + 1 := IntWalk.i64_in _ (by omega)
      have hl := li_succ xs 10 j
      have hcn := cn_succ xs 10 j
      by_cases h10 : xs.getD j 0 = 10
      · rw [if_pos h10] at hl hcn
        rw [h10] at hcell
        have e1 : IntKind.i64.wrap (((j + 1 : Nat) : Int) - li xs 10 (j + 1)) = 1 := by rw [hl]; rw [show ((j + 1 : Nat) : Int) - (j : Int) = 1 by omega]; decide +kernel
        have e2 : IntKind.i64.wrap (IntKind.i64.wrap (1 + cn xs 10 j) + 1) = IntKind.i64.wrap (1 + cn xs 10 (j + 1)) := by rw [wadd, hcn]; congr 1; omega
        generalize hL1 : IntKind.i64.wrap (1 + cn xs 10 (j + 1)) = L1 at e2
        generalize IntKind.i64.wrap (1 + cn xs 10 j) = L0 at e2 ⊢
        generalize IntKind.i64.wrap ((j : Int) - li xs 10 j) = C0
        clear hl hcn
        go_wp2
        exact ⟨⟨j + 1, by omega, by push_cast; rfl, by rw [hL1], by rw [e1]⟩, by show k - ((j : Int) + 1).toNat < k - (j : Int).toNat; omega⟩
      · rw [if_neg h10] at hl hcn
        have hb : (xs.getD j 0 == 10) = false := beq_eq_false_iff_ne.mpr h10
        have e1 : IntKind.i64.wrap (IntKind.i64.wrap ((j : Int) - li xs 10 j) + 1) = IntKind.i64.wrap (((j + 1 : Nat) : Int) - li xs 10 (j + 1)) := by rw [wadd, hl]; congr 1; omega
        have e2 : cn xs 10 (j + 1) = cn xs 10 j := hcn
        generalize hC1 : IntKind.i64.wrap (((j + 1 : Nat) : Int) - li xs 10 (j + 1)) = C1 at e1
        generalize IntKind.i64.wrap ((j : Int) - li xs 10 j) = C0 at e1 ⊢
        generalize hL0 : IntKind.i64.wrap (1 + cn xs 10 j) = L0
        generalize xs.getD j 0 = z at hcell hb
        clear hl hcn
        go_wp2
        exact ⟨⟨j + 1, by omega, by push_cast; rfl, by rw [e2, hL0], by rw [hC1]⟩, by show k - ((j : Int) + 1).toNat < k - (j : Int).toNat; omega⟩
    · have e : j = k := by omega
      subst e
      go_wp2
      exact bodyPost_ret (v := .tuple #[.int .i64 _, .int .i64 _]) (by simp [results, Try.results5, go_sem]) rfl ⟨rfl, rfl⟩

set_option maxRecDepth 100000 in
set_option maxHeartbeats 2000000 in
theorem rline5_hi (A : Option Addr) (n c : Nat) (p : Int) (xs : List Int) (w : World) (hn : n ≤ 9223372036854775807) (hp : (n : Int) < p)
    (hc : ∀ i, i < n → ∃ a, A = some a ∧ w.cell? (a.add i) = some (.int .u8 (xs.getD i 0))) :
    Calls Try.prog 5 #[.slice A n c, .int .i64 p] w fun e w' => e = .returned (.tuple #[.int .i64 (IntKind.i64.wrap (1 + cn xs 10 n)), .int .i64 (IntKind.i64.wrap ((n : Int) - li xs 10 n))]) ∧ w' = w := by
  have p0 : ¬ p < 0 := by omega
  have p1 : p > (n : Int) := by omega
  go_enter Try.func5, Try.ntmps5
  go_wp2
  go_loop [6, 7, 8] (fun l c i => ∃ j : Nat, j ≤ n ∧ i = .int .i64 (j : Int) ∧ l = .int .i64 (IntKind.i64.wrap (1 + cn xs 10 j)) ∧ c = .int .i64 (IntKind.i64.wrap ((j : Int) - li xs 10 j))) (fun _ _ i => match i with | .int _ z => n - z.toNat | _ => 0)
  case atStart => exact ⟨0, by omega, rfl, rfl, rfl⟩
  case round =>
    obtain ⟨j, hj, rfl, rfl, rfl⟩ := hrel
    by_cases hjk : j < n
    · obtain ⟨a, rfl, hcell⟩ := hc j (by omega)
      have g0 : (0 : Int) ≤ (j : Int) := by omega
      have g1 : (j : Int) < (n : Int) := by omega
      have g2 : (j : Int) < (n : Int) := by omega
      have g3 : IntKind.i64.wrap ((j : Int) + 1) = (j : Int) + 1 := IntWalk.i64_in _ (by omega)
      have hl := li_succ xs 10 j
      have hcn := cn_succ xs 10 j
      by_cases h10 : xs.getD j 0 = 10
      · rw [if_pos h10] at hl hcn
        rw [h10] at hcell
        have e1 : IntKind.i64.wrap (((j + 1 : Nat) : Int) - li xs 10 (j + 1)) = 1 := by rw [hl]; rw [show ((j + 1 : Nat) : Int) - (j : Int) = 1 by omega]; decide +kernel
        have e2 : IntKind.i64.wrap (IntKind.i64.wrap (1 + cn xs 10 j) + 1) = IntKind.i64.wrap (1 + cn xs 10 (j + 1)) := by rw [wadd, hcn]; congr 1; omega
        generalize hL1 : IntKind.i64.wrap (1 + cn xs 10 (j + 1)) = L1 at e2
        generalize IntKind.i64.wrap (1 + cn xs 10 j) = L0 at e2 ⊢
        generalize IntKind.i64.wrap ((j : Int) - li xs 10 j) = C0
        clear hl hcn
        go_wp2
        exact ⟨⟨j + 1, by omega, by push_cast; rfl, by rw [hL1], by rw [e1]⟩, by show n - ((j : Int) + 1).toNat < n - (j : Int).toNat; omega⟩
      · rw [if_neg h10] at hl hcn
        have hb : (xs.getD j 0 == 10) = false := beq_eq_false_iff_ne.mpr h10
        have e1 : IntKind.i64.wrap (IntKind.i64.wrap ((j : Int) - li xs 10 j) + 1) = IntKind.i64.wrap (((j + 1 : Nat) : Int) - li xs 10 (j + 1)) := by rw [wadd, hl]; congr 1; omega
        have e2 : cn xs 10 (j + 1) = cn xs 10 j := hcn
        generalize hC1 : IntKind.i64.wrap (((j + 1 : Nat) : Int) - li xs 10 (j + 1)) = C1 at e1
        generalize IntKind.i64.wrap ((j : Int) - li xs 10 j) = C0 at e1 ⊢
        generalize hL0 : IntKind.i64.wrap (1 + cn xs 10 j) = L0
        generalize xs.getD j 0 = z at hcell hb
        clear hl hcn
        go_wp2
        exact ⟨⟨j + 1, by omega, by push_cast; rfl, by rw [e2, hL0], by rw [hC1]⟩, by show n - ((j : Int) + 1).toNat < n - (j : Int).toNat; omega⟩
    · have e : j = n := by omega
      subst e
      go_wp2
      exact bodyPost_ret (v := .tuple #[.int .i64 _, .int .i64 _]) (by simp [results, Try.results5, go_sem]) rfl ⟨rfl, rfl⟩

set_option maxRecDepth 100000 in
theorem rline5_lo (A : Option Addr) (n c : Nat) (p : Int) (hp : p < 0) (w : World) :
    Calls Try.prog 5 #[.slice A n c, .int .i64 p] w fun e w' => e = .returned (.tuple #[.int .i64 1, .int .i64 1]) ∧ w' = w := by
  have p1 : ¬ (0 : Int) > (n : Int) := by omega
  go_enter Try.func5, Try.ntmps5
  go_wp2
  go_loop [6, 7, 8] (fun l c i => l = .int .i64 1 ∧ c = .int .i64 1 ∧ i = .int .i64 0) (fun _ _ _ => 0)
  case atStart => exact ⟨rfl, rfl, rfl⟩
  case round =>
    obtain ⟨rfl, rfl, rfl⟩ := hrel
    go_wp2
    exact bodyPost_ret (v := .tuple #[.int .i64 _, .int .i64 _]) (by simp [results, Try.results5, go_sem]) rfl ⟨rfl, rfl⟩
end Go.Proofs.Yteaegfkgnmfleaa.Ln
