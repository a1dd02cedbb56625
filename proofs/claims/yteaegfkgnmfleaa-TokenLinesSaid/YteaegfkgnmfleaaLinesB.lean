/- token.Line by its walk. -/
import Derived.Test.YteaegfkgnmfleaaLinesW
import Derived.Test.YteaegfkgnmfleaaShelf
import Derived.Lib.SlBytesConst
import Derived.Lib.Hide
namespace Go.Proofs.Yteaegfkgnmfleaa.Ln
open Go.RowKit

theorem conv22 (w : World) : (convert 22 22 (.slice (some ⟨w.heap.size, 0, none⟩) 1 1)).run Try.prog (w.alloc (.cells #[.int .u8 10] 5)) = .ok (.slice (some ⟨w.heap.size, 0, none⟩) 1 1) (w.alloc (.cells #[.int .u8 10] 5 (1, 2))) :=
  Lib.run_convert_bytes_const w 22 5 #[.int .u8 10] 1 1 Try.underlying22 Try.underlying5

theorem cell10 (w : World) : (w.alloc (.cells #[.int .u8 10] 5 (1, 2))).cell? ⟨w.heap.size, 0, none⟩ = some (.int .u8 10) := by
  rw [World.cell?_alloc_mark]; rfl

set_option maxRecDepth 100000 in
set_option maxHeartbeats 2000000 in
theorem line4 (a : Addr) (n c : Nat) (p : Int) (k : Nat) (xs : List Int) (w : World) (hn : n ≤ 9223372036854775807) (hk : k ≤ n) (hnc : n ≤ c) (hxl : n ≤ xs.length)
    (hp : min (max p 0) (n : Int) = (k : Int))
    (hc : ∀ i, i < n → w.cell? (a.add i) = some (.int .u8 (xs.getD i 0))) (L C : Int)
    (hL : IntKind.i64.wrap (1 + (Lib.countByte (Lib.bytesOf (xs.take k)) 10 : Int)) = L) (hC : IntKind.i64.wrap ((k : Int) - li xs 10 k) = C) :
    Calls Try.prog 4 #[.slice (some a) n c, .int .i64 p] w fun e w' => e = .returned (.tuple #[.int .i64 L, .int .i64 C]) ∧ Below w.heap.size w w' := by
  have hv := conv22 w
  have c6 : Calls Try.prog 6 #[.slice (some a) k c, .slice (some ⟨w.heap.size, 0, none⟩) 1 1] (w.alloc (.cells #[.int .u8 10] 5 (1, 2))) fun e w' => e = .returned (.int .i64 (Lib.countByte (Lib.bytesOf (xs.take k)) 10)) ∧ w' = w.alloc (.cells #[.int .u8 10] 5 (1, 2)) :=
    Try.bytes_Count_one_at a k c w.heap.size 0 1 (xs.take k) 10 _ (by rw [List.length_take]; omega) (fun i hi => by
      rw [show (xs.take k).getD i 0 = xs.getD i 0 by simp [List.getD, hi]]
      exact Lib.cell?_alloc_marked _ (hc i (by omega))) (cell10 w)
  have c7 : Calls Try.prog 7 #[.slice (some a) k c, .int .u8 10] (w.alloc (.cells #[.int .u8 10] 5 (1, 2))) fun e w' => e = .returned (.int .i64 (li xs 10 k)) ∧ w' = w.alloc (.cells #[.int .u8 10] 5 (1, 2)) :=
    last7 (some a) k c xs _ (by omega) (fun i hi => ⟨a, rfl, Lib.cell?_alloc_marked _ (hc i (by omega))⟩)
  have C6 := Lib.hid c6
  have C7 := Lib.hid c7
  clear c6 c7 hc
  go_enter Try.func4, Try.ntmps4
  go_wp2_with (first | (go_at_call 6; with_reducible refine C6.out.mono ?_; rintro e w' ⟨rfl, rfl⟩) | (go_at_call 7; with_reducible refine C7.out.mono ?_; rintro e w' ⟨rfl, rfl⟩))
  exact bodyPost_ret (v := .tuple #[.int .i64 _, .int .i64 _]) (by simp [results, Try.results4, go_sem]) rfl ⟨rfl, (Below.refl _ _).alloc (Nat.le_refl _) _⟩

set_option maxRecDepth 100000 in
theorem line4_nil (p : Int) (w : World) (hp : min (max p 0) (0 : Int) = 0) :
    Calls Try.prog 4 #[.slice none 0 0, .int .i64 p] w fun e w' => e = .returned (.tuple #[.int .i64 1, .int .i64 1]) ∧ Below w.heap.size w w' := by
  have hv := conv22 w
  have C6 := Lib.hid (Try.bytes_Count_one_nil w.heap.size 0 1 10 _ (cell10 w))
  have C7 := Lib.hid (last7 none 0 0 [] (w.alloc (.cells #[.int .u8 10] 5 (1, 2))) (by omega) (fun i hi => by omega))
  go_enter Try.func4, Try.ntmps4
  go_wp2_with (first | (go_at_call 6; with_reducible refine C6.out.mono ?_; rintro e w' ⟨rfl, rfl⟩) | (go_at_call 7; with_reducible refine C7.out.mono ?_; rintro e w' ⟨rfl, rfl⟩; rw [show li [] 10 0 = -1 from rfl]))
  exact bodyPost_ret (v := .tuple #[.int .i64 _, .int .i64 _]) (by simp [results, Try.results4, go_sem]) rfl ⟨rfl, (Below.refl _ _).alloc (Nat.le_refl _) _⟩

theorem cnt_eq : ∀ (k : Nat) (xs : List Int), k ≤ xs.length → (∀ x ∈ xs, 0 ≤ x ∧ x < 256) → (Lib.countByte (Lib.bytesOf (xs.take k)) 10 : Int) = cn xs 10 k
  | 0, xs, _, _ => by simp [Lib.countByte, Lib.bytesOf, cn]
  | k + 1, xs, h, hx => by
    have hk : k < xs.length := by omega
    have ih := cnt_eq k xs (by omega) hx
    have hg : xs.getD k 0 = xs[k] := by simp [List.getD, hk]
    have hb := hx _ (List.getElem_mem hk)
    rw [cn_succ, hg, ← ih, List.take_succ_eq_append_getElem hk]
    unfold Lib.countByte Lib.bytesOf
    rw [List.map_append, List.count_append]
    by_cases h10 : xs[k] = 10
    · rw [if_pos h10, h10]; simp
    · rw [if_neg h10]
      have : ¬ xs[k].toNat.toUInt8 = 10 := by
        intro e
        have e' := congrArg UInt8.toNat e
        rw [UInt8.toNat_ofNat'] at e'
        have e10 : (10 : UInt8).toNat = 10 := rfl
        rw [e10] at e'
        omega
      simp [this]

set_option maxRecDepth 100000 in
theorem law_of (v : Value) (p L C : Int) (w : World) (h4 : Calls Try.prog 4 #[v, .int .i64 p] w fun e w' => e = .returned (.tuple #[.int .i64 L, .int .i64 C]) ∧ Below w.heap.size w w')
    (h5 : ∀ w', Below w.heap.size w w' → Calls Try.prog 5 #[v, .int .i64 p] w' fun e w2 => e = .returned (.tuple #[.int .i64 L, .int .i64 C]) ∧ w2 = w') :
    Calls Try.prog 3 #[v, .int .i64 p] w fun e w' => e = .returned (.bool true) ∧ Below w.heap.size w w' := by
  have H4 := Lib.hid h4
  have H5 := Lib.hid h5
  clear h4 h5
  go_enter Try.func3, Try.ntmps3
  go_wp2_with (first | (go_at_call 4; with_reducible refine H4.out.mono ?_; rintro e w' ⟨rfl, hb⟩) | (go_at_call 5; with_reducible refine (H5.out _ hb).mono ?_; rintro e w2 ⟨rfl, rfl⟩))
  go_ret
  exact ⟨rfl, hb⟩

theorem wrap1 : IntKind.i64.wrap 1 = 1 := by decide +kernel

/-- The law at nil. -/
theorem law_nil (p : Int) (w : World) : Calls Try.prog 3 #[.slice none 0 0, .int .i64 p] w fun e w' => e = .returned (.bool true) ∧ Below w.heap.size w w' := by
  refine law_of _ p 1 1 w (line4_nil p w (by omega)) fun w' _ => ?_
  rcases Int.lt_trichotomy p 0 with h | h | h
  · exact rline5_lo none 0 0 p h w'
  · subst h
    have := rline5 none 0 0 0 [] w' (by omega) (by omega) (fun i hi => by omega)
    rw [show (1 : Int) + cn [] 10 0 = 1 from rfl, show ((0 : Nat) : Int) - li [] 10 0 = 1 from rfl, wrap1] at this
    exact this
  · have := rline5_hi none 0 0 p [] w' (by omega) (by omega) (fun i hi => by omega)
    rw [show (1 : Int) + cn [] 10 0 = 1 from rfl, show ((0 : Nat) : Int) - li [] 10 0 = 1 from rfl, wrap1] at this
    exact this

/-- The law at a row of bytes. -/
theorem law_some (a : Addr) (n c : Nat) (p : Int) (xs : List Int) (w : World) (hn : n ≤ 9223372036854775807) (hnc : n ≤ c) (hxl : n ≤ xs.length) (hx : ∀ x ∈ xs, 0 ≤ x ∧ x < 256)
    (hc : ∀ i, i < n → w.cell? (a.add i) = some (.int .u8 (xs.getD i 0))) :
    Calls Try.prog 3 #[.slice (some a) n c, .int .i64 p] w fun e w' => e = .returned (.bool true) ∧ Below w.heap.size w w' := by
  have hc' : ∀ w', Below w.heap.size w w' → ∀ i, i < n → ∃ b, some a = some b ∧ w'.cell? (b.add i) = some (.int .u8 (xs.getD i 0)) := fun w' hb i hi => by
    have h1 := hc i hi
    have hlt : (a.add i).block < w.heap.size := by
      by_cases hh : (a.add i).block < w.heap.size
      · exact hh
      · unfold World.cell? at h1
        rw [Array.getElem?_eq_none (by omega)] at h1
        cases h1
    exact ⟨a, rfl, (hb.cell hlt).trans h1⟩
  rcases Int.lt_or_le p 0 with h | h
  · refine law_of _ p 1 1 w (line4 a n c p 0 xs w hn (by omega) hnc hxl (by omega) hc 1 1 ?_ ?_) fun w' _ => rline5_lo (some a) n c p h w'
    · rw [cnt_eq 0 xs (by omega) hx]; exact wrap1
    · exact wrap1
  · obtain ⟨q, rfl⟩ := Int.eq_ofNat_of_zero_le h
    rcases Nat.lt_or_ge n q with h2 | h2
    · refine law_of _ _ _ _ w (line4 a n c q n xs w hn (by omega) hnc hxl (by omega) hc _ _ ?_ rfl) fun w' hb => rline5_hi (some a) n c q xs w' hn (by omega) (hc' w' hb)
      rw [cnt_eq n xs hxl hx]
    · refine law_of _ _ _ _ w (line4 a n c q q xs w hn h2 hnc hxl (by omega) hc _ _ ?_ rfl) fun w' hb => rline5 (some a) n c q xs w' hn h2 (hc' w' hb)
      rw [cnt_eq q xs (by omega) hx]
end Go.Proofs.Yteaegfkgnmfleaa.Ln
