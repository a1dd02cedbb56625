/- This claim's own texts, joined, with only what the claim uses: AwkD. -/
import Derived.Test.YtgaoapnaplgaiaaGreatDoorZd41
namespace Go.Proofs.YtgaoapnaplgaiaaGreatDoor.Sc
set_option maxRecDepth 100000
open Go.RowKit Tk Go.Proofs.YtgaoapnaplgaiaaGreatDoor.Wd

set_option maxHeartbeats 4000000 in
theorem awk_deepExpr (A : Option Addr) (k : Nat) (p : Int) (W : World) :
    Calls Tryz.prog 140 #[.agg #[.int .i64 1, .int .i64 1, .string noName, .slice A 0 k, .int .i64 p]] W fun e W' => e = .returned (.int .i64 0) ∧ Below W.heap.size W W' := by
  go_enter Tryz.func140, Tryz.ntmps140
  go_wp2
  refine wp_loop_rounds 1 ?_
  rw [rounds_succ]
  go_wp2
  go_ret
  exact ⟨rfl, (Below.refl _ _).alloc (Nat.le_refl _) _⟩
set_option maxHeartbeats 8000000 in
theorem awk_deepStmt (b1 : Addr) (k1 : Nat) (A5 : Option Addr) (k5 : Nat) (A6 : Option Addr) (k6 : Nat) (A7 : Option Addr) (k7 : Nat) (W : World) (h1 : b1.block < W.heap.size) (he : Cs W b1 (exCells 1 1 noName A7 0 k7 14)) :
    Calls Tryz.prog 116 #[.agg #[.int .i64 1, .string ⟨#[120]⟩, .string noName, .slice (some b1) 1 k1, .slice A5 0 k5, .slice A6 0 k6, .int .i64 11]] W fun e W' => e = .returned (.int .i64 0) ∧ Below W.heap.size W W' := by
  have e0 : W.cell? b1 = some (.int .i64 1) := he 0 _ rfl
  have e1 : W.cell? ⟨b1.block, b1.off + 1, none⟩ = some (.int .i64 1) := he 1 _ rfl
  have e2 : W.cell? ⟨b1.block, b1.off + 2, none⟩ = some (.string noName) := he 2 _ rfl
  have e3 : W.cell? ⟨b1.block, b1.off + 3, none⟩ = some (.slice A7 0 k7) := he 3 _ rfl
  have e4 : W.cell? ⟨b1.block, b1.off + 4, none⟩ = some (.int .i64 14) := he 4 _ rfl
  have he := Aside0.mk he
  have DE := fun o o2 => awk_deepExpr A7 k7 14 ((W.alloc o).alloc o2)
  go_enter Tryz.func116, Tryz.ntmps116
  go_wp2
  refine wp_loop_rounds 2 ?_
  rw [rounds_succ]
  go_wp2_with (go_at_call 140; with_reducible refine (DE _ _).mono ?_)
  rintro e w1 ⟨rfl, hb⟩
  have k0 := (hb.block W.heap.size (by simp; omega)).trans ((_root_.Go.heap_alloc_old _ (.cells #[.int .i64 1, .int .i64 1, .string noName, .slice A7 0 k7, .int .i64 14] 93) (by simp)).trans (blk_new W (.cells #[.int .i64 1, .string ⟨#[120]⟩, .string noName, .slice (some b1) 1 k1, .slice A5 0 k5, .slice A6 0 k6, .int .i64 11] 107)))
  have hbl := Aside0.mk ((((Below.refl W.heap.size W).alloc (Nat.le_refl _) (.cells #[.int .i64 1, .string ⟨#[120]⟩, .string noName, .slice (some b1) 1 k1, .slice A5 0 k5, .slice A6 0 k6, .int .i64 11] 107)).alloc (by simp) (.cells #[.int .i64 1, .int .i64 1, .string noName, .slice A7 0 k7, .int .i64 14] 93)).trans (hb.mono (by simp; omega)))
  clear e0 e1 e2 e3 e4 DE hb
  have c0 : w1.cell? ⟨W.heap.size, 0, none⟩ = some (.int .i64 1) := blk_cell k0 0
  have c4 : w1.cell? ⟨W.heap.size, 4, none⟩ = some (.slice A5 0 k5) := blk_cell k0 4
  have k0 := Aside0.mk k0
  go_wp2
  rw [rounds_succ]
  go_wp2
  refine wp_loop_rounds 1 ?_
  rw [rounds_succ]
  go_wp2
  go_ret
  exact ⟨rfl, hbl.out⟩
set_option maxHeartbeats 4000000 in
theorem fitStmts_nil (A : Option Addr) (k : Nat) (W : World) : Calls Tryz.prog 45 #[.slice A 0 k] W fun e W' => e = .returned (.bool true) ∧ W' = W := by
  go_enter Tryz.func45, Tryz.ntmps45
  go_wp2
  refine wp_loop_rounds 1 ?_
  rw [rounds_succ]
  go_wp2
  go_ret
  exact ⟨rfl, rfl⟩
set_option maxHeartbeats 4000000 in
theorem deepStmts_nil (A : Option Addr) (k : Nat) (W : World) : Calls Tryz.prog 82 #[.slice A 0 k] W fun e W' => e = .returned (.int .i64 0) ∧ W' = W := by
  go_enter Tryz.func82, Tryz.ntmps82
  go_wp2
  refine wp_loop_rounds 1 ?_
  rw [rounds_succ]
  go_wp2
  go_ret
  exact ⟨rfl, rfl⟩
set_option maxHeartbeats 4000000 in
theorem fitStmts_awk (b4 b1 : Addr) (k4 k1 : Nat) (A5 : Option Addr) (k5 : Nat) (A6 : Option Addr) (k6 : Nat) (A7 : Option Addr) (k7 : Nat) (W : World) (hE : Env W) (h : AwkAt W.heap.size W b4 b1 k1 A5 k5 A6 k6 A7 k7) (_h4 : 1 ≤ k4) :
    Calls Tryz.prog 45 #[.slice (some b4) 1 k4] W fun e W' => e = .returned (.bool true) ∧ Below W.heap.size W W' := by
  have l4 := h.l4
  have e0 : W.cell? b4 = some (.int .i64 1) := h.s 0 _ rfl
  have e1 : W.cell? ⟨b4.block, b4.off + 1, none⟩ = some (.string ⟨#[120]⟩) := h.s 1 _ rfl
  have e2 : W.cell? ⟨b4.block, b4.off + 2, none⟩ = some (.string noName) := h.s 2 _ rfl
  have e3 : W.cell? ⟨b4.block, b4.off + 3, none⟩ = some (.slice (some b1) 1 k1) := h.s 3 _ rfl
  have e4 : W.cell? ⟨b4.block, b4.off + 4, none⟩ = some (.slice A5 0 k5) := h.s 4 _ rfl
  have e5 : W.cell? ⟨b4.block, b4.off + 5, none⟩ = some (.slice A6 0 k6) := h.s 5 _ rfl
  have e6 : W.cell? ⟨b4.block, b4.off + 6, none⟩ = some (.int .i64 11) := h.s 6 _ rfl
  have FS := fun o => awk_fitStmt b1 k1 A5 k5 A6 k6 A7 k7 (W.alloc o) (hE.alloc o) (by have := h.l1; simp; omega) (h.e.below ((Below.refl _ _).alloc (Nat.le_refl _) o) h.l1)
  clear h hE
  go_enter Tryz.func45, Tryz.ntmps45
  go_wp2
  refine wp_loop_rounds 2 ?_
  rw [rounds_succ]
  go_wp2_with (go_at_call 81; with_reducible refine (FS _).mono ?_)
  rintro e w1 ⟨rfl, hb⟩
  have hbl := Aside0.mk (((Below.refl W.heap.size W).alloc (Nat.le_refl _) (.cells #[.int .i64 1, .string ⟨#[120]⟩, .string noName, .slice (some b1) 1 k1, .slice A5 0 k5, .slice A6 0 k6, .int .i64 11] 107)).trans (hb.mono (by simp)))
  clear e0 e1 e2 e3 e4 e5 e6 FS hb
  go_wp2
  rw [rounds_succ]
  go_wp2
  go_ret
  exact ⟨rfl, hbl.out⟩
set_option maxHeartbeats 4000000 in
theorem deepStmts_awk (b4 b1 : Addr) (k4 k1 : Nat) (A5 : Option Addr) (k5 : Nat) (A6 : Option Addr) (k6 : Nat) (A7 : Option Addr) (k7 : Nat) (W : World) (h : AwkAt W.heap.size W b4 b1 k1 A5 k5 A6 k6 A7 k7) (_h4 : 1 ≤ k4) :
    Calls Tryz.prog 82 #[.slice (some b4) 1 k4] W fun e W' => e = .returned (.int .i64 0) ∧ Below W.heap.size W W' := by
  have l4 := h.l4
  have e0 : W.cell? b4 = some (.int .i64 1) := h.s 0 _ rfl
  have e1 : W.cell? ⟨b4.block, b4.off + 1, none⟩ = some (.string ⟨#[120]⟩) := h.s 1 _ rfl
  have e2 : W.cell? ⟨b4.block, b4.off + 2, none⟩ = some (.string noName) := h.s 2 _ rfl
  have e3 : W.cell? ⟨b4.block, b4.off + 3, none⟩ = some (.slice (some b1) 1 k1) := h.s 3 _ rfl
  have e4 : W.cell? ⟨b4.block, b4.off + 4, none⟩ = some (.slice A5 0 k5) := h.s 4 _ rfl
  have e5 : W.cell? ⟨b4.block, b4.off + 5, none⟩ = some (.slice A6 0 k6) := h.s 5 _ rfl
  have e6 : W.cell? ⟨b4.block, b4.off + 6, none⟩ = some (.int .i64 11) := h.s 6 _ rfl
  have FS := fun o => awk_deepStmt b1 k1 A5 k5 A6 k6 A7 k7 (W.alloc o) (by have := h.l1; simp; omega) (h.e.below ((Below.refl _ _).alloc (Nat.le_refl _) o) h.l1)
  clear h
  go_enter Tryz.func82, Tryz.ntmps82
  go_wp2
  refine wp_loop_rounds 2 ?_
  rw [rounds_succ]
  go_wp2_with (go_at_call 116; with_reducible refine (FS _).mono ?_)
  rintro e w1 ⟨rfl, hb⟩
  have hbl := Aside0.mk (((Below.refl W.heap.size W).alloc (Nat.le_refl _) (.cells #[.int .i64 1, .string ⟨#[120]⟩, .string noName, .slice (some b1) 1 k1, .slice A5 0 k5, .slice A6 0 k6, .int .i64 11] 107)).trans (hb.mono (by simp)))
  clear e0 e1 e2 e3 e4 e5 e6 FS hb
  go_wp2
  rw [rounds_succ]
  go_wp2
  go_ret
  exact ⟨rfl, hbl.out⟩
end Go.Proofs.YtgaoapnaplgaiaaGreatDoor.Sc

