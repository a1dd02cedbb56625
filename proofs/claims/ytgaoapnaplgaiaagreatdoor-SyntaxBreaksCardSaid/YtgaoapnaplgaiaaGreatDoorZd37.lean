/- This claim's own texts, joined, with only what the claim uses: ScanH, ScanI. -/
import Derived.Test.YtgaoapnaplgaiaaGreatDoorZd35
import Derived.Test.YtgaoapnaplgaiaaGreatDoorZd36
namespace Go.Proofs.YtgaoapnaplgaiaaGreatDoor.Sc
set_option maxRecDepth 100000
open Go.RowKit Tk

/-- next, where the scanner stands at a place of the text: its token or its error, as 'one' says. -/
theorem next_walk {g : Nat} {A : Option Addr} {n cap : Nat} {xs : List Int} (w : World) (hn : n ≤ 65536) (hcap : n ≤ cap) (hx : xs.length = n) (hT : HasTab w)
    (p : Nat) (hp : p < n) (c0 : w.cell? ⟨g, 0, none⟩ = some (.slice A n cap)) (c1 : w.cell? ⟨g, 1, none⟩ = some (.int .i64 p)) (hL : Lies w A n xs) :
    Calls Tryz.prog 40 #[.pointer (some ⟨g, 0, none⟩)] w fun e w' => Below w.heap.size w w' ∧
      (match one KB (xs.drop p) with
        | .ok (k, m, v) => e = .returned (.tuple #[tok4 k p ((p + m : Nat) : Int) v, .int .i64 0])
        | .error er => ∃ k q z v, e = .returned (.tuple #[tok4 k q z v, .int .i64 er])) := by
  have hdr := drop_at (xs := xs) (i := p) (by omega)
  have hlen : (xs.drop p).length = n - p := by rw [List.length_drop, hx]
  cases hl : isLetter (xs.getD p 0) with
  | true =>
    have hle := runLen_le isWord (xs.drop p)
    refine (next_letter w hn hcap hx hT p hp c0 c1 hL hl (runLen isWord (xs.drop p)) rfl (by omega) (KB ((xs.drop p).take (runLen isWord (xs.drop p)))) rfl).mono ?_
    rintro e w' ⟨hb, rfl⟩
    refine ⟨hb, ?_⟩
    generalize hm : runLen isWord (xs.drop p) = m
    have ho : one KB (xs.drop p) = if KB ((xs.drop p).take m) = 0 then (if 32 < m then .error 33 else .ok (1, m, 0)) else .ok (KB ((xs.drop p).take m), m, 0) := by
      rw [← hm, hdr]
      unfold one
      simp only
      rw [if_pos hl]
    rw [ho]
    by_cases h0 : KB ((xs.drop p).take m) = 0
    · rw [if_pos h0, if_pos h0]
      by_cases h32 : 32 < m
      · rw [if_pos h32, if_pos h32]; exact ⟨_, _, _, _, rfl⟩
      · rw [if_neg h32, if_neg h32]
    · rw [if_neg h0, if_neg h0]
  | false =>
    cases hd : isDigit (xs.getD p 0) with
    | true =>
      have hle := runLen_le isDigit (xs.drop p)
      have h1 : 1 ≤ runLen isDigit (xs.drop p) := by rw [hdr, runLen_cons, if_pos hd]; omega
      refine (next_digit w hn hcap hx hT p hp c0 c1 hL hd (runLen isDigit (xs.drop p)) rfl (by omega) h1).mono ?_
      rintro e w' ⟨hb, he⟩
      refine ⟨hb, ?_⟩
      generalize hm : runLen isDigit (xs.drop p) = m at he
      have ho : one KB (xs.drop p) = if 2147483648 < numOf ((xs.drop p).take m) ∨ (xs.getD p 0 = 48 ∧ 1 < m) then .error 34 else .ok (2, m, numOf ((xs.drop p).take m)) := by
        rw [← hm, hdr]
        unfold one
        simp only
        rw [if_neg (by rw [hl]; simp), if_pos hd]
      rw [ho]
      by_cases hc : 2147483648 < numOf ((xs.drop p).take m) ∨ (xs.getD p 0 = 48 ∧ 1 < m)
      · rw [if_pos hc] at he ⊢
        obtain ⟨v, rfl⟩ := he
        exact ⟨_, _, _, _, rfl⟩
      · rw [if_neg hc] at he ⊢
        exact he
    | false =>
      have hc1 : cls (xs.getD p 0) ≠ 1 := by unfold cls; rw [hd, hl]; simp only [Bool.false_eq_true, if_false]; split <;> omega
      have hc2 : cls (xs.getD p 0) ≠ 2 := by unfold cls; rw [hd, hl]; simp only [Bool.false_eq_true, if_false]; split <;> omega
      obtain ⟨r, hr⟩ : ∃ r, p + r = n := ⟨n - p, by omega⟩
      have ho : one KB (xs.drop p) = if 2 ≤ r ∧ KB ((xs.drop p).take 2) ≠ 0 then .ok (KB ((xs.drop p).take 2), 2, 0) else if KB ((xs.drop p).take 1) ≠ 0 then .ok (KB ((xs.drop p).take 1), 1, 0) else .error 31 := by
        rw [show r = (xs.drop p).length by omega, hdr]
        unfold one
        simp only
        rw [if_neg (by rw [hl]; simp), if_neg (by rw [hd]; simp)]
      rw [ho]
      refine next_other w hn hcap hx hT p hp c0 c1 hL hc1 hc2 r hr (KB ((xs.drop p).take 2)) (KB ((xs.drop p).take 1)) rfl rfl (fun e => _) ?_ ?_ ?_
      · intro h2 hk
        rw [if_pos ⟨h2, hk⟩]
        rfl
      · intro h2 hk
        rw [if_neg (by omega), if_pos hk]
        rfl
      · intro h2 hk k q z v
        rw [if_neg (by omega), if_neg (by omega)]
        exact ⟨_, _, _, _, rfl⟩
def fault (p e : Int) : Value := .agg #[.int .i64 p, .int .i64 e]
set_option maxRecDepth 100000 in
set_option maxHeartbeats 4000000 in
theorem scan_long (A : Option Addr) (n cap : Nat) (w : World) (hn : 65536 < n) :
    Calls Tryz.prog 14 #[.slice A n cap] w fun e w' => Below w.heap.size w w' ∧ e = .returned (.tuple #[.slice none 0 0, fault 0 30]) := by
  have hd : decide ((65536 : Int) < (n : Int)) = true := decide_eq_true (by omega)
  have hb := (Below.refl w.heap.size w).alloc (Nat.le_refl _) (.cells #[.int .i64 0, .int .i64 30] 30)
  go_enter Tryz.func14, Tryz.ntmps14
  go_wp2
  exact bodyPost_ret (v := .tuple #[.slice none 0 0, fault 0 30]) (by simp [results, Tryz.results14, go_sem, fault]) rfl ⟨hb, rfl⟩
end Go.Proofs.YtgaoapnaplgaiaaGreatDoor.Sc

