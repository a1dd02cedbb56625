/- This claim's own texts, joined, with only what the claim uses: LatA, LatB, Ops, Hx15, Hx16, FnCa, Hx21, Hx45, Hx46, Hx47, Hx48, Hx49, Hx50, Hx51, Hx52, Hx53, Hx54, Hx55, Hx58, Hx59, Hx60, Hx61, Hx62, Hx63, FnC, Hx18, Hx19. -/
import Derived.Test.YtfmmjekhknaniaaDoorLatP4
import Derived.Test.YtfmmjekhknaniaaDoorLatP5
import Derived.Test.YtfmmjekhknaniaaDoorProg
import Derived.Deep.DeepCutAuto
import Derived.Below
import Derived.WalkKit
import Derived.Tactics
import Derived.Lib.Hide
import Derived.LoopTactic
import Derived.Deep.RegionHeld3
import Derived.Outline
namespace Go.Proofs.YtfmmjekhknaniaaDoor.Lt
open Go.RowKit Go.Proofs.YtfmmjekhknaniaaDoorW.PrintWords
set_option linter.unusedSimpArgs false

theorem eqA23 (d : Nat) (w : World) (x0 y0 : Bool) (x1 y1 : Int) (x2 y2 : Int) :
    (Op.equalIn (d + 2) 23 (.agg #[.bool x0, .int .i64 x1, .int .i64 x2]) (.agg #[.bool y0, .int .i64 y1, .int .i64 y2])).run Tryd.prog w = .ok (x0 == y0 && (x1 == y1 && (x2 == y2))) w := by
  refine eqA_of Tryd.underlying23 (by kernel_rfl) ?_
  refine eqf_cons (by rfl) (by go_simp; rfl) (by go_simp; rfl) (by go_simp) ?_
  refine eqf_cons (by rfl) (by go_simp; rfl) (by go_simp; rfl) (by go_simp) ?_
  exact eqf_last (by rfl) (by go_simp; rfl) (by go_simp; rfl) (by go_simp)
attribute [local go_sem high] eqA23

theorem bcell {W w1 : World} (hb : Below W.heap.size W w1) : (∀ b o, b < W.heap.size → w1.cell? ⟨b, o, none⟩ = W.cell? ⟨b, o, none⟩) :=
  fun b o h => hb.cell (p := ⟨b, o, none⟩) h
theorem keep9 {w W w' : World} {n : Nat} {a0 b0 c0 : Bool} {a1 a2 b1 b2 c1 c2 : Int} (hb : Below W.heap.size W w') (h : Below n w W ∧ n + 3 ≤ W.heap.size ∧ W.cell? ⟨n, 0, none⟩ = some (.bool a0) ∧ W.cell? ⟨n, 1, none⟩ = some (.int .i64 a1) ∧ W.cell? ⟨n, 2, none⟩ = some (.int .i64 a2) ∧ W.cell? ⟨n + 1, 0, none⟩ = some (.bool b0) ∧ W.cell? ⟨n + 1, 1, none⟩ = some (.int .i64 b1) ∧ W.cell? ⟨n + 1, 2, none⟩ = some (.int .i64 b2) ∧ W.cell? ⟨n + 1 + 1, 0, none⟩ = some (.bool c0) ∧ W.cell? ⟨n + 1 + 1, 1, none⟩ = some (.int .i64 c1) ∧ W.cell? ⟨n + 1 + 1, 2, none⟩ = some (.int .i64 c2)) :
    Below n w w' ∧ n + 3 ≤ w'.heap.size ∧ w'.cell? ⟨n, 0, none⟩ = some (.bool a0) ∧ w'.cell? ⟨n, 1, none⟩ = some (.int .i64 a1) ∧ w'.cell? ⟨n, 2, none⟩ = some (.int .i64 a2) ∧ w'.cell? ⟨n + 1, 0, none⟩ = some (.bool b0) ∧ w'.cell? ⟨n + 1, 1, none⟩ = some (.int .i64 b1) ∧ w'.cell? ⟨n + 1, 2, none⟩ = some (.int .i64 b2) ∧ w'.cell? ⟨n + 1 + 1, 0, none⟩ = some (.bool c0) ∧ w'.cell? ⟨n + 1 + 1, 1, none⟩ = some (.int .i64 c1) ∧ w'.cell? ⟨n + 1 + 1, 2, none⟩ = some (.int .i64 c2) := by
  obtain ⟨h0, hs, h1, h2, h3, h4, h5, h6, h7, h8, h9⟩ := h
  have hc := bcell hb
  refine ⟨h0.trans (hb.mono (by omega)), by have := hb.size; omega, ?_, ?_, ?_, ?_, ?_, ?_, ?_, ?_, ?_⟩
  · rw [hc _ _ (by omega), h1]
  · rw [hc _ _ (by omega), h2]
  · rw [hc _ _ (by omega), h3]
  · rw [hc _ _ (by omega), h4]
  · rw [hc _ _ (by omega), h5]
  · rw [hc _ _ (by omega), h6]
  · rw [hc _ _ (by omega), h7]
  · rw [hc _ _ (by omega), h8]
  · rw [hc _ _ (by omega), h9]
theorem start9 (w : World) (a0 b0 c0 : Bool) (a1 a2 b1 b2 c1 c2 : Int) (W : World) (hW : W = ((w.alloc (.cells #[.bool a0, .int .i64 a1, .int .i64 a2] 23)).alloc (.cells #[.bool b0, .int .i64 b1, .int .i64 b2] 23)).alloc (.cells #[.bool c0, .int .i64 c1, .int .i64 c2] 23)) :
    Below w.heap.size w W ∧ w.heap.size + 3 ≤ W.heap.size ∧ W.cell? ⟨w.heap.size, 0, none⟩ = some (.bool a0) ∧ W.cell? ⟨w.heap.size, 1, none⟩ = some (.int .i64 a1) ∧ W.cell? ⟨w.heap.size, 2, none⟩ = some (.int .i64 a2) ∧ W.cell? ⟨w.heap.size + 1, 0, none⟩ = some (.bool b0) ∧ W.cell? ⟨w.heap.size + 1, 1, none⟩ = some (.int .i64 b1) ∧ W.cell? ⟨w.heap.size + 1, 2, none⟩ = some (.int .i64 b2) ∧ W.cell? ⟨w.heap.size + 1 + 1, 0, none⟩ = some (.bool c0) ∧ W.cell? ⟨w.heap.size + 1 + 1, 1, none⟩ = some (.int .i64 c1) ∧ W.cell? ⟨w.heap.size + 1 + 1, 2, none⟩ = some (.int .i64 c2) := by
  subst hW
  refine ⟨(((Below.refl _ _).alloc (Nat.le_refl _) _).alloc (by simp) _).alloc (by simp; omega) _, by go_simp, ?_⟩
  go_simp

theorem bcell2 {W w1 : World} (hb : Below W.heap.size W w1) : (∀ b o, b < W.heap.size → w1.cell? ⟨b, o, none⟩ = W.cell? ⟨b, o, none⟩) ∧ (∀ b o, b < W.heap.size → w1.frozen? ⟨b, o, none⟩ = W.frozen? ⟨b, o, none⟩) :=
  ⟨fun b o h => hb.cell (p := ⟨b, o, none⟩) h, fun b o h => hb.frozen (p := ⟨b, o, none⟩) h⟩
theorem keep9a {w W : World} {n : Nat} {a0 b0 c0 : Bool} {a1 a2 b1 b2 c1 c2 : Int} (o : Obj) (h : Below n w W ∧ n + 3 ≤ W.heap.size ∧ W.cell? ⟨n, 0, none⟩ = some (.bool a0) ∧ W.cell? ⟨n, 1, none⟩ = some (.int .i64 a1) ∧ W.cell? ⟨n, 2, none⟩ = some (.int .i64 a2) ∧ W.cell? ⟨n + 1, 0, none⟩ = some (.bool b0) ∧ W.cell? ⟨n + 1, 1, none⟩ = some (.int .i64 b1) ∧ W.cell? ⟨n + 1, 2, none⟩ = some (.int .i64 b2) ∧ W.cell? ⟨n + 1 + 1, 0, none⟩ = some (.bool c0) ∧ W.cell? ⟨n + 1 + 1, 1, none⟩ = some (.int .i64 c1) ∧ W.cell? ⟨n + 1 + 1, 2, none⟩ = some (.int .i64 c2)) :
    Below n w (W.alloc o) ∧ n + 3 ≤ (W.alloc o).heap.size ∧ (W.alloc o).cell? ⟨n, 0, none⟩ = some (.bool a0) ∧ (W.alloc o).cell? ⟨n, 1, none⟩ = some (.int .i64 a1) ∧ (W.alloc o).cell? ⟨n, 2, none⟩ = some (.int .i64 a2) ∧ (W.alloc o).cell? ⟨n + 1, 0, none⟩ = some (.bool b0) ∧ (W.alloc o).cell? ⟨n + 1, 1, none⟩ = some (.int .i64 b1) ∧ (W.alloc o).cell? ⟨n + 1, 2, none⟩ = some (.int .i64 b2) ∧ (W.alloc o).cell? ⟨n + 1 + 1, 0, none⟩ = some (.bool c0) ∧ (W.alloc o).cell? ⟨n + 1 + 1, 1, none⟩ = some (.int .i64 c1) ∧ (W.alloc o).cell? ⟨n + 1 + 1, 2, none⟩ = some (.int .i64 c2) := keep9 ((Below.refl _ _).alloc (Nat.le_refl _) o) h
theorem keep9da {w X : World} {n : Nat} {a0 b0 c0 : Bool} {a1 a2 b1 b2 c1 c2 : Int} (o : Obj) (h : Below n w X.drew ∧ n + 3 ≤ X.drew.heap.size ∧ X.drew.cell? ⟨n, 0, none⟩ = some (.bool a0) ∧ X.drew.cell? ⟨n, 1, none⟩ = some (.int .i64 a1) ∧ X.drew.cell? ⟨n, 2, none⟩ = some (.int .i64 a2) ∧ X.drew.cell? ⟨n + 1, 0, none⟩ = some (.bool b0) ∧ X.drew.cell? ⟨n + 1, 1, none⟩ = some (.int .i64 b1) ∧ X.drew.cell? ⟨n + 1, 2, none⟩ = some (.int .i64 b2) ∧ X.drew.cell? ⟨n + 1 + 1, 0, none⟩ = some (.bool c0) ∧ X.drew.cell? ⟨n + 1 + 1, 1, none⟩ = some (.int .i64 c1) ∧ X.drew.cell? ⟨n + 1 + 1, 2, none⟩ = some (.int .i64 c2)) :
    Below n w (X.alloc o).drew ∧ n + 3 ≤ (X.alloc o).drew.heap.size ∧ (X.alloc o).drew.cell? ⟨n, 0, none⟩ = some (.bool a0) ∧ (X.alloc o).drew.cell? ⟨n, 1, none⟩ = some (.int .i64 a1) ∧ (X.alloc o).drew.cell? ⟨n, 2, none⟩ = some (.int .i64 a2) ∧ (X.alloc o).drew.cell? ⟨n + 1, 0, none⟩ = some (.bool b0) ∧ (X.alloc o).drew.cell? ⟨n + 1, 1, none⟩ = some (.int .i64 b1) ∧ (X.alloc o).drew.cell? ⟨n + 1, 2, none⟩ = some (.int .i64 b2) ∧ (X.alloc o).drew.cell? ⟨n + 1 + 1, 0, none⟩ = some (.bool c0) ∧ (X.alloc o).drew.cell? ⟨n + 1 + 1, 1, none⟩ = some (.int .i64 c1) ∧ (X.alloc o).drew.cell? ⟨n + 1 + 1, 2, none⟩ = some (.int .i64 c2) := keep9a (W := X.drew) o h
theorem keep9s {w W : World} {n : Nat} {a0 b0 c0 : Bool} {a1 a2 b1 b2 c1 c2 : Int} (p : Addr) (u : Value) (hp : n + 3 ≤ p.block) (h : Below n w W ∧ n + 3 ≤ W.heap.size ∧ W.cell? ⟨n, 0, none⟩ = some (.bool a0) ∧ W.cell? ⟨n, 1, none⟩ = some (.int .i64 a1) ∧ W.cell? ⟨n, 2, none⟩ = some (.int .i64 a2) ∧ W.cell? ⟨n + 1, 0, none⟩ = some (.bool b0) ∧ W.cell? ⟨n + 1, 1, none⟩ = some (.int .i64 b1) ∧ W.cell? ⟨n + 1, 2, none⟩ = some (.int .i64 b2) ∧ W.cell? ⟨n + 1 + 1, 0, none⟩ = some (.bool c0) ∧ W.cell? ⟨n + 1 + 1, 1, none⟩ = some (.int .i64 c1) ∧ W.cell? ⟨n + 1 + 1, 2, none⟩ = some (.int .i64 c2)) :
    Below n w (W.setCell p u) ∧ n + 3 ≤ (W.setCell p u).heap.size ∧ (W.setCell p u).cell? ⟨n, 0, none⟩ = some (.bool a0) ∧ (W.setCell p u).cell? ⟨n, 1, none⟩ = some (.int .i64 a1) ∧ (W.setCell p u).cell? ⟨n, 2, none⟩ = some (.int .i64 a2) ∧ (W.setCell p u).cell? ⟨n + 1, 0, none⟩ = some (.bool b0) ∧ (W.setCell p u).cell? ⟨n + 1, 1, none⟩ = some (.int .i64 b1) ∧ (W.setCell p u).cell? ⟨n + 1, 2, none⟩ = some (.int .i64 b2) ∧ (W.setCell p u).cell? ⟨n + 1 + 1, 0, none⟩ = some (.bool c0) ∧ (W.setCell p u).cell? ⟨n + 1 + 1, 1, none⟩ = some (.int .i64 c1) ∧ (W.setCell p u).cell? ⟨n + 1 + 1, 2, none⟩ = some (.int .i64 c2) := by
  obtain ⟨h0, hs, h1, h2, h3, h4, h5, h6, h7, h8, h9⟩ := h
  refine ⟨h0.setCell (by omega) u, by simpa [World.setCell] using hs, ?_, ?_, ?_, ?_, ?_, ?_, ?_, ?_, ?_⟩
  all_goals rw [World.cell?_of_block (Below.heap_setCell _ _ _ _ (by dsimp only; omega))]
  all_goals assumption
theorem keep9d {w W : World} {n : Nat} {a0 b0 c0 : Bool} {a1 a2 b1 b2 c1 c2 : Int} (h : Below n w W ∧ n + 3 ≤ W.heap.size ∧ W.cell? ⟨n, 0, none⟩ = some (.bool a0) ∧ W.cell? ⟨n, 1, none⟩ = some (.int .i64 a1) ∧ W.cell? ⟨n, 2, none⟩ = some (.int .i64 a2) ∧ W.cell? ⟨n + 1, 0, none⟩ = some (.bool b0) ∧ W.cell? ⟨n + 1, 1, none⟩ = some (.int .i64 b1) ∧ W.cell? ⟨n + 1, 2, none⟩ = some (.int .i64 b2) ∧ W.cell? ⟨n + 1 + 1, 0, none⟩ = some (.bool c0) ∧ W.cell? ⟨n + 1 + 1, 1, none⟩ = some (.int .i64 c1) ∧ W.cell? ⟨n + 1 + 1, 2, none⟩ = some (.int .i64 c2)) : Below n w W.drew ∧ n + 3 ≤ W.drew.heap.size ∧ W.drew.cell? ⟨n, 0, none⟩ = some (.bool a0) ∧ W.drew.cell? ⟨n, 1, none⟩ = some (.int .i64 a1) ∧ W.drew.cell? ⟨n, 2, none⟩ = some (.int .i64 a2) ∧ W.drew.cell? ⟨n + 1, 0, none⟩ = some (.bool b0) ∧ W.drew.cell? ⟨n + 1, 1, none⟩ = some (.int .i64 b1) ∧ W.drew.cell? ⟨n + 1, 2, none⟩ = some (.int .i64 b2) ∧ W.drew.cell? ⟨n + 1 + 1, 0, none⟩ = some (.bool c0) ∧ W.drew.cell? ⟨n + 1 + 1, 1, none⟩ = some (.int .i64 c1) ∧ W.drew.cell? ⟨n + 1 + 1, 2, none⟩ = some (.int .i64 c2) :=
  ⟨h.1.drew, h.2.1, h.2.2⟩

theorem gk0 {W W' : World} {n : Nat} (h : (W.cell? ⟨n, 0, none⟩ = some (.bool false) ∧ W.cell? ⟨n, 1, none⟩ = some (.int .i64 0) ∧ W.cell? ⟨n, 2, none⟩ = some (.int .i64 0) ∧ W.frozen? ⟨n, 0, none⟩ = false ∧ W.frozen? ⟨n, 1, none⟩ = false ∧ W.frozen? ⟨n, 2, none⟩ = false ∧ n < W.heap.size)) (hb : Below W.heap.size W W') : (W'.cell? ⟨n, 0, none⟩ = some (.bool false) ∧ W'.cell? ⟨n, 1, none⟩ = some (.int .i64 0) ∧ W'.cell? ⟨n, 2, none⟩ = some (.int .i64 0) ∧ W'.frozen? ⟨n, 0, none⟩ = false ∧ W'.frozen? ⟨n, 1, none⟩ = false ∧ W'.frozen? ⟨n, 2, none⟩ = false ∧ n < W'.heap.size) := by
  obtain ⟨h1, h2, h3, h4, h5, h6, h7⟩ := h
  obtain ⟨hc, hf⟩ := bcell2 hb
  refine ⟨?_, ?_, ?_, ?_, ?_, ?_, by have := hb.size; omega⟩
  · rw [hc _ _ h7, h1]
  · rw [hc _ _ h7, h2]
  · rw [hc _ _ h7, h3]
  · rw [hf _ _ h7, h4]
  · rw [hf _ _ h7, h5]
  · rw [hf _ _ h7, h6]
theorem gz (X : World) : ((X.alloc (.cells #[.bool false, .int .i64 0, .int .i64 0] 23)).cell? ⟨X.heap.size, 0, none⟩ = some (.bool false) ∧ (X.alloc (.cells #[.bool false, .int .i64 0, .int .i64 0] 23)).cell? ⟨X.heap.size, 1, none⟩ = some (.int .i64 0) ∧ (X.alloc (.cells #[.bool false, .int .i64 0, .int .i64 0] 23)).cell? ⟨X.heap.size, 2, none⟩ = some (.int .i64 0) ∧ (X.alloc (.cells #[.bool false, .int .i64 0, .int .i64 0] 23)).frozen? ⟨X.heap.size, 0, none⟩ = false ∧ (X.alloc (.cells #[.bool false, .int .i64 0, .int .i64 0] 23)).frozen? ⟨X.heap.size, 1, none⟩ = false ∧ (X.alloc (.cells #[.bool false, .int .i64 0, .int .i64 0] 23)).frozen? ⟨X.heap.size, 2, none⟩ = false ∧ X.heap.size < (X.alloc (.cells #[.bool false, .int .i64 0, .int .i64 0] 23)).heap.size) := by go_simp
theorem gk1 {X W' : World} {n : Nat} (h : (X.cell? ⟨n, 0, none⟩ = some (.bool false) ∧ X.cell? ⟨n, 1, none⟩ = some (.int .i64 0) ∧ X.cell? ⟨n, 2, none⟩ = some (.int .i64 0) ∧ X.frozen? ⟨n, 0, none⟩ = false ∧ X.frozen? ⟨n, 1, none⟩ = false ∧ X.frozen? ⟨n, 2, none⟩ = false ∧ n < X.heap.size)) (hb : Below (X.alloc (.cells #[.bool false, .int .i64 0, .int .i64 0] 23)).heap.size (X.alloc (.cells #[.bool false, .int .i64 0, .int .i64 0] 23)) W') : (W'.cell? ⟨n, 0, none⟩ = some (.bool false) ∧ W'.cell? ⟨n, 1, none⟩ = some (.int .i64 0) ∧ W'.cell? ⟨n, 2, none⟩ = some (.int .i64 0) ∧ W'.frozen? ⟨n, 0, none⟩ = false ∧ W'.frozen? ⟨n, 1, none⟩ = false ∧ W'.frozen? ⟨n, 2, none⟩ = false ∧ n < W'.heap.size) :=
  gk0 (gk0 h ((Below.refl _ _).alloc (Nat.le_refl _) _)) hb
theorem gs1 {X W : World} (hb : Below (X.alloc (.cells #[.bool false, .int .i64 0, .int .i64 0] 23)).heap.size (X.alloc (.cells #[.bool false, .int .i64 0, .int .i64 0] 23)) W) : (W.cell? ⟨X.heap.size, 0, none⟩ = some (.bool false) ∧ W.cell? ⟨X.heap.size, 1, none⟩ = some (.int .i64 0) ∧ W.cell? ⟨X.heap.size, 2, none⟩ = some (.int .i64 0) ∧ W.frozen? ⟨X.heap.size, 0, none⟩ = false ∧ W.frozen? ⟨X.heap.size, 1, none⟩ = false ∧ W.frozen? ⟨X.heap.size, 2, none⟩ = false ∧ X.heap.size < W.heap.size) := gk0 (gz X) hb
theorem gs1d {X W : World} (hb : Below (X.drew.alloc (.cells #[.bool false, .int .i64 0, .int .i64 0] 23)).heap.size (X.drew.alloc (.cells #[.bool false, .int .i64 0, .int .i64 0] 23)) W) : (W.cell? ⟨X.heap.size, 0, none⟩ = some (.bool false) ∧ W.cell? ⟨X.heap.size, 1, none⟩ = some (.int .i64 0) ∧ W.cell? ⟨X.heap.size, 2, none⟩ = some (.int .i64 0) ∧ W.frozen? ⟨X.heap.size, 0, none⟩ = false ∧ W.frozen? ⟨X.heap.size, 1, none⟩ = false ∧ W.frozen? ⟨X.heap.size, 2, none⟩ = false ∧ X.heap.size < W.heap.size) := gk0 (gz X.drew) hb
theorem gs1e {X W : World} (hb : Below (X.alloc (.cells #[.bool false, .int .i64 0, .int .i64 0] 23)).drew.heap.size (X.alloc (.cells #[.bool false, .int .i64 0, .int .i64 0] 23)).drew W) : (W.cell? ⟨X.heap.size, 0, none⟩ = some (.bool false) ∧ W.cell? ⟨X.heap.size, 1, none⟩ = some (.int .i64 0) ∧ W.cell? ⟨X.heap.size, 2, none⟩ = some (.int .i64 0) ∧ W.frozen? ⟨X.heap.size, 0, none⟩ = false ∧ W.frozen? ⟨X.heap.size, 1, none⟩ = false ∧ W.frozen? ⟨X.heap.size, 2, none⟩ = false ∧ X.heap.size < W.heap.size) := gs1d (X := X) hb
theorem gs2 {X W : World} (hb : Below ((X.alloc (.cells #[.bool false, .int .i64 0, .int .i64 0] 23)).alloc (.cells #[.bool false, .int .i64 0, .int .i64 0] 23)).heap.size ((X.alloc (.cells #[.bool false, .int .i64 0, .int .i64 0] 23)).alloc (.cells #[.bool false, .int .i64 0, .int .i64 0] 23)) W) : (W.cell? ⟨X.heap.size, 0, none⟩ = some (.bool false) ∧ W.cell? ⟨X.heap.size, 1, none⟩ = some (.int .i64 0) ∧ W.cell? ⟨X.heap.size, 2, none⟩ = some (.int .i64 0) ∧ W.frozen? ⟨X.heap.size, 0, none⟩ = false ∧ W.frozen? ⟨X.heap.size, 1, none⟩ = false ∧ W.frozen? ⟨X.heap.size, 2, none⟩ = false ∧ X.heap.size < W.heap.size) ∧ (W.cell? ⟨(X.heap.size + 1), 0, none⟩ = some (.bool false) ∧ W.cell? ⟨(X.heap.size + 1), 1, none⟩ = some (.int .i64 0) ∧ W.cell? ⟨(X.heap.size + 1), 2, none⟩ = some (.int .i64 0) ∧ W.frozen? ⟨(X.heap.size + 1), 0, none⟩ = false ∧ W.frozen? ⟨(X.heap.size + 1), 1, none⟩ = false ∧ W.frozen? ⟨(X.heap.size + 1), 2, none⟩ = false ∧ (X.heap.size + 1) < W.heap.size) :=
  ⟨gk1 (gz X) hb, by have := gs1 hb; rw [show (X.alloc (.cells #[.bool false, .int .i64 0, .int .i64 0] 23)).heap.size = X.heap.size + 1 by simp] at this; exact this⟩
theorem gs2d {X W : World} (hb : Below ((X.drew.alloc (.cells #[.bool false, .int .i64 0, .int .i64 0] 23)).alloc (.cells #[.bool false, .int .i64 0, .int .i64 0] 23)).heap.size ((X.drew.alloc (.cells #[.bool false, .int .i64 0, .int .i64 0] 23)).alloc (.cells #[.bool false, .int .i64 0, .int .i64 0] 23)) W) : (W.cell? ⟨X.heap.size, 0, none⟩ = some (.bool false) ∧ W.cell? ⟨X.heap.size, 1, none⟩ = some (.int .i64 0) ∧ W.cell? ⟨X.heap.size, 2, none⟩ = some (.int .i64 0) ∧ W.frozen? ⟨X.heap.size, 0, none⟩ = false ∧ W.frozen? ⟨X.heap.size, 1, none⟩ = false ∧ W.frozen? ⟨X.heap.size, 2, none⟩ = false ∧ X.heap.size < W.heap.size) ∧ (W.cell? ⟨(X.heap.size + 1), 0, none⟩ = some (.bool false) ∧ W.cell? ⟨(X.heap.size + 1), 1, none⟩ = some (.int .i64 0) ∧ W.cell? ⟨(X.heap.size + 1), 2, none⟩ = some (.int .i64 0) ∧ W.frozen? ⟨(X.heap.size + 1), 0, none⟩ = false ∧ W.frozen? ⟨(X.heap.size + 1), 1, none⟩ = false ∧ W.frozen? ⟨(X.heap.size + 1), 2, none⟩ = false ∧ (X.heap.size + 1) < W.heap.size) := gs2 (X := X.drew) hb
theorem gs2e {X W : World} (hb : Below ((X.alloc (.cells #[.bool false, .int .i64 0, .int .i64 0] 23)).alloc (.cells #[.bool false, .int .i64 0, .int .i64 0] 23)).drew.heap.size ((X.alloc (.cells #[.bool false, .int .i64 0, .int .i64 0] 23)).alloc (.cells #[.bool false, .int .i64 0, .int .i64 0] 23)).drew W) : (W.cell? ⟨X.heap.size, 0, none⟩ = some (.bool false) ∧ W.cell? ⟨X.heap.size, 1, none⟩ = some (.int .i64 0) ∧ W.cell? ⟨X.heap.size, 2, none⟩ = some (.int .i64 0) ∧ W.frozen? ⟨X.heap.size, 0, none⟩ = false ∧ W.frozen? ⟨X.heap.size, 1, none⟩ = false ∧ W.frozen? ⟨X.heap.size, 2, none⟩ = false ∧ X.heap.size < W.heap.size) ∧ (W.cell? ⟨(X.heap.size + 1), 0, none⟩ = some (.bool false) ∧ W.cell? ⟨(X.heap.size + 1), 1, none⟩ = some (.int .i64 0) ∧ W.cell? ⟨(X.heap.size + 1), 2, none⟩ = some (.int .i64 0) ∧ W.frozen? ⟨(X.heap.size + 1), 0, none⟩ = false ∧ W.frozen? ⟨(X.heap.size + 1), 1, none⟩ = false ∧ W.frozen? ⟨(X.heap.size + 1), 2, none⟩ = false ∧ (X.heap.size + 1) < W.heap.size) := gs2 (X := X.drew) hb

set_option maxRecDepth 100000 in
set_option maxHeartbeats 4000000 in
theorem lat_unfit (a0 b0 c0 : Bool) (a1 a2 b1 b2 c1 c2 x : Int) (f1 f2 f3 : Bool) (hf : (f1 && f2 && f3) = false)
    (ha : ∀ w, Calls Tryd.prog 13 #[.agg #[.bool a0, .int .i64 a1, .int .i64 a2]] w fun e w' => e = .returned (.bool f1) ∧ Below w.heap.size w w')
    (hb : ∀ w, Calls Tryd.prog 13 #[.agg #[.bool b0, .int .i64 b1, .int .i64 b2]] w fun e w' => e = .returned (.bool f2) ∧ Below w.heap.size w w')
    (hc : ∀ w, Calls Tryd.prog 13 #[.agg #[.bool c0, .int .i64 c1, .int .i64 c2]] w fun e w' => e = .returned (.bool f3) ∧ Below w.heap.size w w')
    (hw : ∀ w, Calls Tryd.prog 18 #[] w fun e w' => e = .returned (.bool true) ∧ Below w.heap.size w w') (w : World) :
    Calls Tryd.prog 5 #[.agg #[.bool a0, .int .i64 a1, .int .i64 a2], .agg #[.bool b0, .int .i64 b1, .int .i64 b2], .agg #[.bool c0, .int .i64 c1, .int .i64 c2], .int .i64 x] w fun e w' => e = .returned (.bool true) ∧ Below w.heap.size w w' := by
  have Ha := Lib.hid ha
  have Hb := Lib.hid hb
  have Hc := Lib.hid hc
  have Hw := Lib.hid hw
  clear ha hb hc hw
  have hS := start9 w a0 b0 c0 a1 a2 b1 b2 c1 c2 _ rfl
  have ⟨k, k', k0, k1, k2, k3, k4, k5, k6, k7, k8⟩ := hS
  clear k k'
  cases f1 <;> cases f2 <;> cases f3 <;> simp only [Bool.and_true, Bool.and_false, Bool.true_and, Bool.false_and] at hf <;> first | cases hf | skip
  all_goals (
    go_enter Tryd.func5, Tryd.ntmps5
    go_wp2_with (first | (go_at_call 13; with_reducible refine (Ha.out _).mono ?_; rintro e w1 ⟨rfl, hb⟩; replace hS := keep9 hb hS; clear hb k0 k1 k2 k3 k4 k5 k6 k7 k8; have ⟨k, k', k0, k1, k2, k3, k4, k5, k6, k7, k8⟩ := hS; clear k k') | (go_at_call 13; with_reducible refine (Hb.out _).mono ?_; rintro e w1 ⟨rfl, hb⟩; replace hS := keep9 hb hS; clear hb k0 k1 k2 k3 k4 k5 k6 k7 k8; have ⟨k, k', k0, k1, k2, k3, k4, k5, k6, k7, k8⟩ := hS; clear k k') | (go_at_call 13; with_reducible refine (Hc.out _).mono ?_; rintro e w1 ⟨rfl, hb⟩; replace hS := keep9 hb hS; clear hb k0 k1 k2 k3 k4 k5 k6 k7 k8; have ⟨k, k', k0, k1, k2, k3, k4, k5, k6, k7, k8⟩ := hS; clear k k') | (go_at_call 18; with_reducible refine (Hw.out _).mono ?_; rintro e w1 ⟨rfl, hb⟩; replace hS := keep9 hb hS; clear hb k0 k1 k2 k3 k4 k5 k6 k7 k8; have ⟨k, k', k0, k1, k2, k3, k4, k5, k6, k7, k8⟩ := hS; clear k k'))
    go_ret
    exact ⟨rfl, hS.1⟩)

theorem keep15 {w W w' : World} {n : Nat} {a0 b0 c0 : Bool} {a1 a2 b1 b2 c1 c2 : Int} {j0 m0 : Bool} {j1 j2 m1 m2 : Int} {n9 n10 : Nat} (hb : Below W.heap.size W w') (h : (Below n w W ∧ n + 3 ≤ W.heap.size ∧ W.cell? ⟨n, 0, none⟩ = some (.bool a0) ∧ W.cell? ⟨n, 1, none⟩ = some (.int .i64 a1) ∧ W.cell? ⟨n, 2, none⟩ = some (.int .i64 a2) ∧ W.cell? ⟨n + 1, 0, none⟩ = some (.bool b0) ∧ W.cell? ⟨n + 1, 1, none⟩ = some (.int .i64 b1) ∧ W.cell? ⟨n + 1, 2, none⟩ = some (.int .i64 b2) ∧ W.cell? ⟨n + 1 + 1, 0, none⟩ = some (.bool c0) ∧ W.cell? ⟨n + 1 + 1, 1, none⟩ = some (.int .i64 c1) ∧ W.cell? ⟨n + 1 + 1, 2, none⟩ = some (.int .i64 c2)) ∧ (W.cell? ⟨n9, 0, none⟩ = some (.bool j0) ∧ W.cell? ⟨n9, 1, none⟩ = some (.int .i64 j1) ∧ W.cell? ⟨n9, 2, none⟩ = some (.int .i64 j2)) ∧ (W.cell? ⟨n10, 0, none⟩ = some (.bool m0) ∧ W.cell? ⟨n10, 1, none⟩ = some (.int .i64 m1) ∧ W.cell? ⟨n10, 2, none⟩ = some (.int .i64 m2)) ∧ n9 < W.heap.size ∧ n10 < W.heap.size) :
    (Below n w w' ∧ n + 3 ≤ w'.heap.size ∧ w'.cell? ⟨n, 0, none⟩ = some (.bool a0) ∧ w'.cell? ⟨n, 1, none⟩ = some (.int .i64 a1) ∧ w'.cell? ⟨n, 2, none⟩ = some (.int .i64 a2) ∧ w'.cell? ⟨n + 1, 0, none⟩ = some (.bool b0) ∧ w'.cell? ⟨n + 1, 1, none⟩ = some (.int .i64 b1) ∧ w'.cell? ⟨n + 1, 2, none⟩ = some (.int .i64 b2) ∧ w'.cell? ⟨n + 1 + 1, 0, none⟩ = some (.bool c0) ∧ w'.cell? ⟨n + 1 + 1, 1, none⟩ = some (.int .i64 c1) ∧ w'.cell? ⟨n + 1 + 1, 2, none⟩ = some (.int .i64 c2)) ∧ (w'.cell? ⟨n9, 0, none⟩ = some (.bool j0) ∧ w'.cell? ⟨n9, 1, none⟩ = some (.int .i64 j1) ∧ w'.cell? ⟨n9, 2, none⟩ = some (.int .i64 j2)) ∧ (w'.cell? ⟨n10, 0, none⟩ = some (.bool m0) ∧ w'.cell? ⟨n10, 1, none⟩ = some (.int .i64 m1) ∧ w'.cell? ⟨n10, 2, none⟩ = some (.int .i64 m2)) ∧ n9 < w'.heap.size ∧ n10 < w'.heap.size := by
  obtain ⟨h0, ⟨h1, h2, h3⟩, ⟨h4, h5, h6⟩, h7, h8⟩ := h
  have hc := bcell hb
  have hs := hb.size
  refine ⟨keep9 hb h0, ⟨?_, ?_, ?_⟩, ⟨?_, ?_, ?_⟩, by omega, by omega⟩
  · rw [hc _ _ h7, h1]
  · rw [hc _ _ h7, h2]
  · rw [hc _ _ h7, h3]
  · rw [hc _ _ h8, h4]
  · rw [hc _ _ h8, h5]
  · rw [hc _ _ h8, h6]
theorem keep15d {w W : World} {n : Nat} {a0 b0 c0 : Bool} {a1 a2 b1 b2 c1 c2 : Int} {j0 m0 : Bool} {j1 j2 m1 m2 : Int} {n9 n10 : Nat} (h : (Below n w W ∧ n + 3 ≤ W.heap.size ∧ W.cell? ⟨n, 0, none⟩ = some (.bool a0) ∧ W.cell? ⟨n, 1, none⟩ = some (.int .i64 a1) ∧ W.cell? ⟨n, 2, none⟩ = some (.int .i64 a2) ∧ W.cell? ⟨n + 1, 0, none⟩ = some (.bool b0) ∧ W.cell? ⟨n + 1, 1, none⟩ = some (.int .i64 b1) ∧ W.cell? ⟨n + 1, 2, none⟩ = some (.int .i64 b2) ∧ W.cell? ⟨n + 1 + 1, 0, none⟩ = some (.bool c0) ∧ W.cell? ⟨n + 1 + 1, 1, none⟩ = some (.int .i64 c1) ∧ W.cell? ⟨n + 1 + 1, 2, none⟩ = some (.int .i64 c2)) ∧ (W.cell? ⟨n9, 0, none⟩ = some (.bool j0) ∧ W.cell? ⟨n9, 1, none⟩ = some (.int .i64 j1) ∧ W.cell? ⟨n9, 2, none⟩ = some (.int .i64 j2)) ∧ (W.cell? ⟨n10, 0, none⟩ = some (.bool m0) ∧ W.cell? ⟨n10, 1, none⟩ = some (.int .i64 m1) ∧ W.cell? ⟨n10, 2, none⟩ = some (.int .i64 m2)) ∧ n9 < W.heap.size ∧ n10 < W.heap.size) : (Below n w W.drew ∧ n + 3 ≤ W.drew.heap.size ∧ W.drew.cell? ⟨n, 0, none⟩ = some (.bool a0) ∧ W.drew.cell? ⟨n, 1, none⟩ = some (.int .i64 a1) ∧ W.drew.cell? ⟨n, 2, none⟩ = some (.int .i64 a2) ∧ W.drew.cell? ⟨n + 1, 0, none⟩ = some (.bool b0) ∧ W.drew.cell? ⟨n + 1, 1, none⟩ = some (.int .i64 b1) ∧ W.drew.cell? ⟨n + 1, 2, none⟩ = some (.int .i64 b2) ∧ W.drew.cell? ⟨n + 1 + 1, 0, none⟩ = some (.bool c0) ∧ W.drew.cell? ⟨n + 1 + 1, 1, none⟩ = some (.int .i64 c1) ∧ W.drew.cell? ⟨n + 1 + 1, 2, none⟩ = some (.int .i64 c2)) ∧ (W.drew.cell? ⟨n9, 0, none⟩ = some (.bool j0) ∧ W.drew.cell? ⟨n9, 1, none⟩ = some (.int .i64 j1) ∧ W.drew.cell? ⟨n9, 2, none⟩ = some (.int .i64 j2)) ∧ (W.drew.cell? ⟨n10, 0, none⟩ = some (.bool m0) ∧ W.drew.cell? ⟨n10, 1, none⟩ = some (.int .i64 m1) ∧ W.drew.cell? ⟨n10, 2, none⟩ = some (.int .i64 m2)) ∧ n9 < W.drew.heap.size ∧ n10 < W.drew.heap.size :=
  ⟨keep9d h.1, h.2⟩
end Go.Proofs.YtfmmjekhknaniaaDoor.Lt

namespace Go.Proofs.YtfmmjekhknaniaaDoor.Lt
open Go.RowKit
set_option linter.unusedSimpArgs false
attribute [local go_sem high] eqA23

set_option maxRecDepth 100000 in
set_option maxHeartbeats 4000000 in
theorem lat_fit (a0 b0 c0 : Bool) (a1 a2 b1 b2 c1 c2 x : Int) (j0 m0 : Bool) (j1 j2 m1 m2 : Int)
    (ha : ∀ w, Calls Tryd.prog 13 #[.agg #[.bool a0, .int .i64 a1, .int .i64 a2]] w fun e w' => e = .returned (.bool true) ∧ Below w.heap.size w w')
    (hb : ∀ w, Calls Tryd.prog 13 #[.agg #[.bool b0, .int .i64 b1, .int .i64 b2]] w fun e w' => e = .returned (.bool true) ∧ Below w.heap.size w w')
    (hc : ∀ w, Calls Tryd.prog 13 #[.agg #[.bool c0, .int .i64 c1, .int .i64 c2]] w fun e w' => e = .returned (.bool true) ∧ Below w.heap.size w w')
    (hj : ∀ w, Calls Tryd.prog 19 #[.agg #[.bool a0, .int .i64 a1, .int .i64 a2], .agg #[.bool b0, .int .i64 b1, .int .i64 b2]] w fun e w' => e = .returned (.agg #[.bool j0, .int .i64 j1, .int .i64 j2]) ∧ Below w.heap.size w w')
    (hm : ∀ w, Calls Tryd.prog 20 #[.agg #[.bool a0, .int .i64 a1, .int .i64 a2], .agg #[.bool b0, .int .i64 b1, .int .i64 b2]] w fun e w' => e = .returned (.agg #[.bool m0, .int .i64 m1, .int .i64 m2]) ∧ Below w.heap.size w w')
    (l1 l2 l3 l4 l5 l6 l7 l8 : Bool)
    (haj : ∀ w, Calls Tryd.prog 21 #[.agg #[.bool a0, .int .i64 a1, .int .i64 a2], .agg #[.bool j0, .int .i64 j1, .int .i64 j2]] w fun e w' => e = .returned (.bool true) ∧ Below w.heap.size w w')
    (hbj : ∀ w, Calls Tryd.prog 21 #[.agg #[.bool b0, .int .i64 b1, .int .i64 b2], .agg #[.bool j0, .int .i64 j1, .int .i64 j2]] w fun e w' => e = .returned (.bool true) ∧ Below w.heap.size w w')
    (hma : ∀ w, Calls Tryd.prog 21 #[.agg #[.bool m0, .int .i64 m1, .int .i64 m2], .agg #[.bool a0, .int .i64 a1, .int .i64 a2]] w fun e w' => e = .returned (.bool true) ∧ Below w.heap.size w w')
    (hmb : ∀ w, Calls Tryd.prog 21 #[.agg #[.bool m0, .int .i64 m1, .int .i64 m2], .agg #[.bool b0, .int .i64 b1, .int .i64 b2]] w fun e w' => e = .returned (.bool true) ∧ Below w.heap.size w w')
    (hab : ∀ w, Calls Tryd.prog 21 #[.agg #[.bool a0, .int .i64 a1, .int .i64 a2], .agg #[.bool b0, .int .i64 b1, .int .i64 b2]] w fun e w' => e = .returned (.bool l1) ∧ Below w.heap.size w w')
    (hba : ∀ w, Calls Tryd.prog 21 #[.agg #[.bool b0, .int .i64 b1, .int .i64 b2], .agg #[.bool a0, .int .i64 a1, .int .i64 a2]] w fun e w' => e = .returned (.bool l2) ∧ Below w.heap.size w w')
    (hbc : ∀ w, Calls Tryd.prog 21 #[.agg #[.bool b0, .int .i64 b1, .int .i64 b2], .agg #[.bool c0, .int .i64 c1, .int .i64 c2]] w fun e w' => e = .returned (.bool l3) ∧ Below w.heap.size w w')
    (hac : ∀ w, Calls Tryd.prog 21 #[.agg #[.bool a0, .int .i64 a1, .int .i64 a2], .agg #[.bool c0, .int .i64 c1, .int .i64 c2]] w fun e w' => e = .returned (.bool l4) ∧ Below w.heap.size w w')
    (hjc : ∀ w, Calls Tryd.prog 21 #[.agg #[.bool j0, .int .i64 j1, .int .i64 j2], .agg #[.bool c0, .int .i64 c1, .int .i64 c2]] w fun e w' => e = .returned (.bool l5) ∧ Below w.heap.size w w')
    (hca : ∀ w, Calls Tryd.prog 21 #[.agg #[.bool c0, .int .i64 c1, .int .i64 c2], .agg #[.bool a0, .int .i64 a1, .int .i64 a2]] w fun e w' => e = .returned (.bool l6) ∧ Below w.heap.size w w')
    (hcb : ∀ w, Calls Tryd.prog 21 #[.agg #[.bool c0, .int .i64 c1, .int .i64 c2], .agg #[.bool b0, .int .i64 b1, .int .i64 b2]] w fun e w' => e = .returned (.bool l7) ∧ Below w.heap.size w w')
    (hcm : ∀ w, Calls Tryd.prog 21 #[.agg #[.bool c0, .int .i64 c1, .int .i64 c2], .agg #[.bool m0, .int .i64 m1, .int .i64 m2]] w fun e w' => e = .returned (.bool l8) ∧ Below w.heap.size w w')
    (y : Int) (ok h : Bool) (hn : ∀ w, Calls Tryd.prog 22 #[.agg #[.bool a0, .int .i64 a1, .int .i64 a2], .int .i64 x] w fun e w' => e = .returned (.tuple #[.int .i64 y, .bool ok]) ∧ Below w.heap.size w w')
    (hhm : ok = true → ∀ w, Calls Tryd.prog 14 #[.agg #[.bool m0, .int .i64 m1, .int .i64 m2], .int .i64 y] w fun e w' => e = .returned (.bool h) ∧ Below w.heap.size w w')
    (hhb : ok = true → ∀ w, Calls Tryd.prog 14 #[.agg #[.bool b0, .int .i64 b1, .int .i64 b2], .int .i64 y] w fun e w' => e = .returned (.bool h) ∧ Below w.heap.size w w')
    (haw : ∀ w, Calls Tryd.prog 18 #[] w fun e w' => e = .returned (.bool true) ∧ Below w.heap.size w w')
    (t1 : l1 = true → l2 = true → (a0 == b0 && (a1 == b1 && (a2 == b2))) = true) (t2 : l1 = true → l3 = true → l4 = true) (t3 : l4 = true → l3 = true → l5 = true) (t4 : l6 = true → l7 = true → l8 = true) (w : World) :
    Calls Tryd.prog 5 #[.agg #[.bool a0, .int .i64 a1, .int .i64 a2], .agg #[.bool b0, .int .i64 b1, .int .i64 b2], .agg #[.bool c0, .int .i64 c1, .int .i64 c2], .int .i64 x] w fun e w' => e = .returned (.bool true) ∧ Below w.heap.size w w' := by
  have Haj := Lib.hid haj
  clear haj
  have Hbj := Lib.hid hbj
  clear hbj
  have Hma := Lib.hid hma
  clear hma
  have Hmb := Lib.hid hmb
  clear hmb
  have Hab := Lib.hid hab
  clear hab
  have Hba := Lib.hid hba
  clear hba
  have Hbc := Lib.hid hbc
  clear hbc
  have Hac := Lib.hid hac
  clear hac
  have Hjc := Lib.hid hjc
  clear hjc
  have Hca := Lib.hid hca
  clear hca
  have Hcb := Lib.hid hcb
  clear hcb
  have Hcm := Lib.hid hcm
  clear hcm
  have Hn := Lib.hid hn
  have Hhm := Lib.hid hhm
  have Hhb := Lib.hid hhb
  have Haw := Lib.hid haw
  have T1 := Lib.hid t1
  have T2 := Lib.hid t2
  have T3 := Lib.hid t3
  have T4 := Lib.hid t4
  clear hn hhm hhb haw t1 t2 t3 t4
  have Ha := Lib.hid ha
  have Hb := Lib.hid hb
  have Hc := Lib.hid hc
  have Hj := Lib.hid hj
  have Hm := Lib.hid hm
  clear ha hb hc hj hm
  have hS := start9 w a0 b0 c0 a1 a2 b1 b2 c1 c2 _ rfl
  have ⟨k, k', k0, k1, k2, k3, k4, k5, k6, k7, k8⟩ := hS
  clear k k'
  go_enter Tryd.func5, Tryd.ntmps5
  go_upto_region 3 with (first | (go_at_call 13; with_reducible refine (Ha.out _).mono ?_; rintro e w1 ⟨rfl, hb⟩; replace hS := keep9 hb hS; clear hb k0 k1 k2 k3 k4 k5 k6 k7 k8; have ⟨k, k', k0, k1, k2, k3, k4, k5, k6, k7, k8⟩ := hS; clear k k') | (go_at_call 13; with_reducible refine (Hb.out _).mono ?_; rintro e w1 ⟨rfl, hb⟩; replace hS := keep9 hb hS; clear hb k0 k1 k2 k3 k4 k5 k6 k7 k8; have ⟨k, k', k0, k1, k2, k3, k4, k5, k6, k7, k8⟩ := hS; clear k k') | (go_at_call 13; with_reducible refine (Hc.out _).mono ?_; rintro e w1 ⟨rfl, hb⟩; replace hS := keep9 hb hS; clear hb k0 k1 k2 k3 k4 k5 k6 k7 k8; have ⟨k, k', k0, k1, k2, k3, k4, k5, k6, k7, k8⟩ := hS; clear k k'))
  clear k0 k1 k2 k3 k4 k5 k6 k7 k8
  go_cut [9, 10] (fun s9 s10 wc => ∃ n9 n10 : Nat, s9 = .pointer (some ⟨n9, 0, none⟩) ∧ s10 = .pointer (some ⟨n10, 0, none⟩) ∧ (Below w.heap.size w wc ∧ w.heap.size + 3 ≤ wc.heap.size ∧ wc.cell? ⟨w.heap.size, 0, none⟩ = some (.bool a0) ∧ wc.cell? ⟨w.heap.size, 1, none⟩ = some (.int .i64 a1) ∧ wc.cell? ⟨w.heap.size, 2, none⟩ = some (.int .i64 a2) ∧ wc.cell? ⟨w.heap.size + 1, 0, none⟩ = some (.bool b0) ∧ wc.cell? ⟨w.heap.size + 1, 1, none⟩ = some (.int .i64 b1) ∧ wc.cell? ⟨w.heap.size + 1, 2, none⟩ = some (.int .i64 b2) ∧ wc.cell? ⟨w.heap.size + 1 + 1, 0, none⟩ = some (.bool c0) ∧ wc.cell? ⟨w.heap.size + 1 + 1, 1, none⟩ = some (.int .i64 c1) ∧ wc.cell? ⟨w.heap.size + 1 + 1, 2, none⟩ = some (.int .i64 c2)) ∧ (wc.cell? ⟨n9, 0, none⟩ = some (.bool j0) ∧ wc.cell? ⟨n9, 1, none⟩ = some (.int .i64 j1) ∧ wc.cell? ⟨n9, 2, none⟩ = some (.int .i64 j2)) ∧ (wc.cell? ⟨n10, 0, none⟩ = some (.bool m0) ∧ wc.cell? ⟨n10, 1, none⟩ = some (.int .i64 m1) ∧ wc.cell? ⟨n10, 2, none⟩ = some (.int .i64 m2)) ∧ n9 < wc.heap.size ∧ n10 < wc.heap.size)
  case first =>
    go_region_held3 (fun w' => Below w.heap.size w w' ∧ w.heap.size + 3 ≤ w'.heap.size ∧ w'.cell? ⟨w.heap.size, 0, none⟩ = some (.bool a0) ∧ w'.cell? ⟨w.heap.size, 1, none⟩ = some (.int .i64 a1) ∧ w'.cell? ⟨w.heap.size, 2, none⟩ = some (.int .i64 a2) ∧ w'.cell? ⟨w.heap.size + 1, 0, none⟩ = some (.bool b0) ∧ w'.cell? ⟨w.heap.size + 1, 1, none⟩ = some (.int .i64 b1) ∧ w'.cell? ⟨w.heap.size + 1, 2, none⟩ = some (.int .i64 b2) ∧ w'.cell? ⟨w.heap.size + 1 + 1, 0, none⟩ = some (.bool c0) ∧ w'.cell? ⟨w.heap.size + 1 + 1, 1, none⟩ = some (.int .i64 c1) ∧ w'.cell? ⟨w.heap.size + 1 + 1, 2, none⟩ = some (.int .i64 c2))
      (first | with_reducible exact keep9d hS | with_reducible exact keep9 (by assumption) (by assumption) | with_reducible exact keep9a _ (by assumption) | with_reducible exact keep9da _ (by assumption) | with_reducible exact keep9a _ (keep9a _ HS2.out) | with_reducible exact keep9a _ HS2.out | with_reducible exact keep9a _ (keep9a _ HS1.out) | (with_reducible refine keep9s _ _ ?_ ?_; rotate_left; with_reducible refine keep9s _ _ ?_ ?_; rotate_left; with_reducible refine keep9s _ _ ?_ ?_; rotate_left; with_reducible assumption; all_goals (first | exact hS.2.1 | exact hz1 | exact hz2 | exact Nat.le_succ_of_le hS.2.1 | exact Nat.le_succ_of_le hz1 | exact Nat.le_succ_of_le hz2)) | (with_reducible refine keep9a _ ?_; with_reducible refine keep9s _ _ ?_ ?_; rotate_left; with_reducible refine keep9s _ _ ?_ ?_; rotate_left; with_reducible refine keep9s _ _ ?_ ?_; rotate_left; with_reducible exact HS2.out; all_goals (first | exact hS.2.1 | exact hz1 | exact hz2 | exact Nat.le_succ_of_le hS.2.1 | exact Nat.le_succ_of_le hz1 | exact Nat.le_succ_of_le hz2)))
      (first | (go_at_call 19; with_reducible refine (Hj.out _).mono ?_; rintro e w1 ⟨rfl, hb⟩; obtain ⟨hbc, hbf⟩ := bcell2 hb; have HS1 := Lib.hid (keep9 hb (by assumption)); have hz1 := HS1.out.2.1; (first | (have ⟨RA, RB⟩ := gs2e hb) | (have ⟨RA, RB⟩ := gs2d hb) | (have RA := gs1e hb) | (have RA := gs1d hb) | skip)) | (go_at_call 20; with_reducible refine (Hm.out _).mono ?_; rintro e w2 ⟨rfl, hb⟩; obtain ⟨hbc, hbf⟩ := bcell2 hb; have HS2 := Lib.hid (keep9 hb (by assumption)); have hz2 := HS2.out.2.1; (first | (have ⟨RC, RD⟩ := gs2 hb) | (have RC := gs1 hb) | skip); (first | (have RA2 := gk0 RA hb) | (have RA2 := gk1 RA hb) | skip); (first | (have RB2 := gk0 RB hb) | (have RB2 := gk1 RB hb) | skip)))
    all_goals (
      go_wp2_with fail
      go_meet
      refine ⟨_, _, rfl, rfl, by assumption, ?_, ?_, ?_, ?_⟩
      all_goals (try go_simp)
      all_goals (first | done | omega))
  case rest =>
    obtain ⟨n9, n10, rfl, rfl, hS⟩ := hcut
    have ⟨⟨kk, kk', k0, k1, k2, k3, k4, k5, k6, k7, k8⟩, ⟨k9, k10, k11⟩, ⟨k12, k13, k14⟩, kk2, kk3⟩ := hS; clear kk kk' kk2 kk3
    go_upto_region 4 with fail
    go_cut [85] (fun s85 wx => s85 = .bool false ∧ (Below w.heap.size w wx ∧ w.heap.size + 3 ≤ wx.heap.size ∧ wx.cell? ⟨w.heap.size, 0, none⟩ = some (.bool a0) ∧ wx.cell? ⟨w.heap.size, 1, none⟩ = some (.int .i64 a1) ∧ wx.cell? ⟨w.heap.size, 2, none⟩ = some (.int .i64 a2) ∧ wx.cell? ⟨w.heap.size + 1, 0, none⟩ = some (.bool b0) ∧ wx.cell? ⟨w.heap.size + 1, 1, none⟩ = some (.int .i64 b1) ∧ wx.cell? ⟨w.heap.size + 1, 2, none⟩ = some (.int .i64 b2) ∧ wx.cell? ⟨w.heap.size + 1 + 1, 0, none⟩ = some (.bool c0) ∧ wx.cell? ⟨w.heap.size + 1 + 1, 1, none⟩ = some (.int .i64 c1) ∧ wx.cell? ⟨w.heap.size + 1 + 1, 2, none⟩ = some (.int .i64 c2)) ∧ (wx.cell? ⟨n9, 0, none⟩ = some (.bool j0) ∧ wx.cell? ⟨n9, 1, none⟩ = some (.int .i64 j1) ∧ wx.cell? ⟨n9, 2, none⟩ = some (.int .i64 j2)) ∧ (wx.cell? ⟨n10, 0, none⟩ = some (.bool m0) ∧ wx.cell? ⟨n10, 1, none⟩ = some (.int .i64 m1) ∧ wx.cell? ⟨n10, 2, none⟩ = some (.int .i64 m2)) ∧ n9 < wx.heap.size ∧ n10 < wx.heap.size)
    case first =>
      cases l1 with
      | false =>
        go_wp2_with (first | (go_at_call 21; with_reducible refine (Haj.out _).mono ?_; rintro e w1 ⟨rfl, hb⟩; replace hS := keep15 hb hS; clear hb k0 k1 k2 k3 k4 k5 k6 k7 k8 k9 k10 k11 k12 k13 k14; have ⟨⟨kk, kk', k0, k1, k2, k3, k4, k5, k6, k7, k8⟩, ⟨k9, k10, k11⟩, ⟨k12, k13, k14⟩, kk2, kk3⟩ := hS; clear kk kk' kk2 kk3) | (go_at_call 21; with_reducible refine (Hbj.out _).mono ?_; rintro e w1 ⟨rfl, hb⟩; replace hS := keep15 hb hS; clear hb k0 k1 k2 k3 k4 k5 k6 k7 k8 k9 k10 k11 k12 k13 k14; have ⟨⟨kk, kk', k0, k1, k2, k3, k4, k5, k6, k7, k8⟩, ⟨k9, k10, k11⟩, ⟨k12, k13, k14⟩, kk2, kk3⟩ := hS; clear kk kk' kk2 kk3) | (go_at_call 21; with_reducible refine (Hma.out _).mono ?_; rintro e w1 ⟨rfl, hb⟩; replace hS := keep15 hb hS; clear hb k0 k1 k2 k3 k4 k5 k6 k7 k8 k9 k10 k11 k12 k13 k14; have ⟨⟨kk, kk', k0, k1, k2, k3, k4, k5, k6, k7, k8⟩, ⟨k9, k10, k11⟩, ⟨k12, k13, k14⟩, kk2, kk3⟩ := hS; clear kk kk' kk2 kk3) | (go_at_call 21; with_reducible refine (Hmb.out _).mono ?_; rintro e w1 ⟨rfl, hb⟩; replace hS := keep15 hb hS; clear hb k0 k1 k2 k3 k4 k5 k6 k7 k8 k9 k10 k11 k12 k13 k14; have ⟨⟨kk, kk', k0, k1, k2, k3, k4, k5, k6, k7, k8⟩, ⟨k9, k10, k11⟩, ⟨k12, k13, k14⟩, kk2, kk3⟩ := hS; clear kk kk' kk2 kk3) | (go_at_call 21; with_reducible refine (Hab.out _).mono ?_; rintro e w1 ⟨rfl, hb⟩; replace hS := keep15 hb hS; clear hb k0 k1 k2 k3 k4 k5 k6 k7 k8 k9 k10 k11 k12 k13 k14; have ⟨⟨kk, kk', k0, k1, k2, k3, k4, k5, k6, k7, k8⟩, ⟨k9, k10, k11⟩, ⟨k12, k13, k14⟩, kk2, kk3⟩ := hS; clear kk kk' kk2 kk3) | (go_at_call 21; with_reducible refine (Hba.out _).mono ?_; rintro e w1 ⟨rfl, hb⟩; replace hS := keep15 hb hS; clear hb k0 k1 k2 k3 k4 k5 k6 k7 k8 k9 k10 k11 k12 k13 k14; have ⟨⟨kk, kk', k0, k1, k2, k3, k4, k5, k6, k7, k8⟩, ⟨k9, k10, k11⟩, ⟨k12, k13, k14⟩, kk2, kk3⟩ := hS; clear kk kk' kk2 kk3) | (go_at_call 21; with_reducible refine (Hbc.out _).mono ?_; rintro e w1 ⟨rfl, hb⟩; replace hS := keep15 hb hS; clear hb k0 k1 k2 k3 k4 k5 k6 k7 k8 k9 k10 k11 k12 k13 k14; have ⟨⟨kk, kk', k0, k1, k2, k3, k4, k5, k6, k7, k8⟩, ⟨k9, k10, k11⟩, ⟨k12, k13, k14⟩, kk2, kk3⟩ := hS; clear kk kk' kk2 kk3) | (go_at_call 21; with_reducible refine (Hac.out _).mono ?_; rintro e w1 ⟨rfl, hb⟩; replace hS := keep15 hb hS; clear hb k0 k1 k2 k3 k4 k5 k6 k7 k8 k9 k10 k11 k12 k13 k14; have ⟨⟨kk, kk', k0, k1, k2, k3, k4, k5, k6, k7, k8⟩, ⟨k9, k10, k11⟩, ⟨k12, k13, k14⟩, kk2, kk3⟩ := hS; clear kk kk' kk2 kk3) | (go_at_call 21; with_reducible refine (Hjc.out _).mono ?_; rintro e w1 ⟨rfl, hb⟩; replace hS := keep15 hb hS; clear hb k0 k1 k2 k3 k4 k5 k6 k7 k8 k9 k10 k11 k12 k13 k14; have ⟨⟨kk, kk', k0, k1, k2, k3, k4, k5, k6, k7, k8⟩, ⟨k9, k10, k11⟩, ⟨k12, k13, k14⟩, kk2, kk3⟩ := hS; clear kk kk' kk2 kk3) | (go_at_call 21; with_reducible refine (Hca.out _).mono ?_; rintro e w1 ⟨rfl, hb⟩; replace hS := keep15 hb hS; clear hb k0 k1 k2 k3 k4 k5 k6 k7 k8 k9 k10 k11 k12 k13 k14; have ⟨⟨kk, kk', k0, k1, k2, k3, k4, k5, k6, k7, k8⟩, ⟨k9, k10, k11⟩, ⟨k12, k13, k14⟩, kk2, kk3⟩ := hS; clear kk kk' kk2 kk3) | (go_at_call 21; with_reducible refine (Hcb.out _).mono ?_; rintro e w1 ⟨rfl, hb⟩; replace hS := keep15 hb hS; clear hb k0 k1 k2 k3 k4 k5 k6 k7 k8 k9 k10 k11 k12 k13 k14; have ⟨⟨kk, kk', k0, k1, k2, k3, k4, k5, k6, k7, k8⟩, ⟨k9, k10, k11⟩, ⟨k12, k13, k14⟩, kk2, kk3⟩ := hS; clear kk kk' kk2 kk3) | (go_at_call 21; with_reducible refine (Hcm.out _).mono ?_; rintro e w1 ⟨rfl, hb⟩; replace hS := keep15 hb hS; clear hb k0 k1 k2 k3 k4 k5 k6 k7 k8 k9 k10 k11 k12 k13 k14; have ⟨⟨kk, kk', k0, k1, k2, k3, k4, k5, k6, k7, k8⟩, ⟨k9, k10, k11⟩, ⟨k12, k13, k14⟩, kk2, kk3⟩ := hS; clear kk kk' kk2 kk3))
        go_meet
        exact ⟨rfl, hS⟩
      | true =>
        cases l2 with
        | false =>
          cases l3 with
          | false =>
            go_wp2_with (first | (go_at_call 21; with_reducible refine (Haj.out _).mono ?_; rintro e w1 ⟨rfl, hb⟩; replace hS := keep15 hb hS; clear hb k0 k1 k2 k3 k4 k5 k6 k7 k8 k9 k10 k11 k12 k13 k14; have ⟨⟨kk, kk', k0, k1, k2, k3, k4, k5, k6, k7, k8⟩, ⟨k9, k10, k11⟩, ⟨k12, k13, k14⟩, kk2, kk3⟩ := hS; clear kk kk' kk2 kk3) | (go_at_call 21; with_reducible refine (Hbj.out _).mono ?_; rintro e w1 ⟨rfl, hb⟩; replace hS := keep15 hb hS; clear hb k0 k1 k2 k3 k4 k5 k6 k7 k8 k9 k10 k11 k12 k13 k14; have ⟨⟨kk, kk', k0, k1, k2, k3, k4, k5, k6, k7, k8⟩, ⟨k9, k10, k11⟩, ⟨k12, k13, k14⟩, kk2, kk3⟩ := hS; clear kk kk' kk2 kk3) | (go_at_call 21; with_reducible refine (Hma.out _).mono ?_; rintro e w1 ⟨rfl, hb⟩; replace hS := keep15 hb hS; clear hb k0 k1 k2 k3 k4 k5 k6 k7 k8 k9 k10 k11 k12 k13 k14; have ⟨⟨kk, kk', k0, k1, k2, k3, k4, k5, k6, k7, k8⟩, ⟨k9, k10, k11⟩, ⟨k12, k13, k14⟩, kk2, kk3⟩ := hS; clear kk kk' kk2 kk3) | (go_at_call 21; with_reducible refine (Hmb.out _).mono ?_; rintro e w1 ⟨rfl, hb⟩; replace hS := keep15 hb hS; clear hb k0 k1 k2 k3 k4 k5 k6 k7 k8 k9 k10 k11 k12 k13 k14; have ⟨⟨kk, kk', k0, k1, k2, k3, k4, k5, k6, k7, k8⟩, ⟨k9, k10, k11⟩, ⟨k12, k13, k14⟩, kk2, kk3⟩ := hS; clear kk kk' kk2 kk3) | (go_at_call 21; with_reducible refine (Hab.out _).mono ?_; rintro e w1 ⟨rfl, hb⟩; replace hS := keep15 hb hS; clear hb k0 k1 k2 k3 k4 k5 k6 k7 k8 k9 k10 k11 k12 k13 k14; have ⟨⟨kk, kk', k0, k1, k2, k3, k4, k5, k6, k7, k8⟩, ⟨k9, k10, k11⟩, ⟨k12, k13, k14⟩, kk2, kk3⟩ := hS; clear kk kk' kk2 kk3) | (go_at_call 21; with_reducible refine (Hba.out _).mono ?_; rintro e w1 ⟨rfl, hb⟩; replace hS := keep15 hb hS; clear hb k0 k1 k2 k3 k4 k5 k6 k7 k8 k9 k10 k11 k12 k13 k14; have ⟨⟨kk, kk', k0, k1, k2, k3, k4, k5, k6, k7, k8⟩, ⟨k9, k10, k11⟩, ⟨k12, k13, k14⟩, kk2, kk3⟩ := hS; clear kk kk' kk2 kk3) | (go_at_call 21; with_reducible refine (Hbc.out _).mono ?_; rintro e w1 ⟨rfl, hb⟩; replace hS := keep15 hb hS; clear hb k0 k1 k2 k3 k4 k5 k6 k7 k8 k9 k10 k11 k12 k13 k14; have ⟨⟨kk, kk', k0, k1, k2, k3, k4, k5, k6, k7, k8⟩, ⟨k9, k10, k11⟩, ⟨k12, k13, k14⟩, kk2, kk3⟩ := hS; clear kk kk' kk2 kk3) | (go_at_call 21; with_reducible refine (Hac.out _).mono ?_; rintro e w1 ⟨rfl, hb⟩; replace hS := keep15 hb hS; clear hb k0 k1 k2 k3 k4 k5 k6 k7 k8 k9 k10 k11 k12 k13 k14; have ⟨⟨kk, kk', k0, k1, k2, k3, k4, k5, k6, k7, k8⟩, ⟨k9, k10, k11⟩, ⟨k12, k13, k14⟩, kk2, kk3⟩ := hS; clear kk kk' kk2 kk3) | (go_at_call 21; with_reducible refine (Hjc.out _).mono ?_; rintro e w1 ⟨rfl, hb⟩; replace hS := keep15 hb hS; clear hb k0 k1 k2 k3 k4 k5 k6 k7 k8 k9 k10 k11 k12 k13 k14; have ⟨⟨kk, kk', k0, k1, k2, k3, k4, k5, k6, k7, k8⟩, ⟨k9, k10, k11⟩, ⟨k12, k13, k14⟩, kk2, kk3⟩ := hS; clear kk kk' kk2 kk3) | (go_at_call 21; with_reducible refine (Hca.out _).mono ?_; rintro e w1 ⟨rfl, hb⟩; replace hS := keep15 hb hS; clear hb k0 k1 k2 k3 k4 k5 k6 k7 k8 k9 k10 k11 k12 k13 k14; have ⟨⟨kk, kk', k0, k1, k2, k3, k4, k5, k6, k7, k8⟩, ⟨k9, k10, k11⟩, ⟨k12, k13, k14⟩, kk2, kk3⟩ := hS; clear kk kk' kk2 kk3) | (go_at_call 21; with_reducible refine (Hcb.out _).mono ?_; rintro e w1 ⟨rfl, hb⟩; replace hS := keep15 hb hS; clear hb k0 k1 k2 k3 k4 k5 k6 k7 k8 k9 k10 k11 k12 k13 k14; have ⟨⟨kk, kk', k0, k1, k2, k3, k4, k5, k6, k7, k8⟩, ⟨k9, k10, k11⟩, ⟨k12, k13, k14⟩, kk2, kk3⟩ := hS; clear kk kk' kk2 kk3) | (go_at_call 21; with_reducible refine (Hcm.out _).mono ?_; rintro e w1 ⟨rfl, hb⟩; replace hS := keep15 hb hS; clear hb k0 k1 k2 k3 k4 k5 k6 k7 k8 k9 k10 k11 k12 k13 k14; have ⟨⟨kk, kk', k0, k1, k2, k3, k4, k5, k6, k7, k8⟩, ⟨k9, k10, k11⟩, ⟨k12, k13, k14⟩, kk2, kk3⟩ := hS; clear kk kk' kk2 kk3))
            go_meet
            exact ⟨rfl, hS⟩
          | true =>
            obtain rfl := T2.out rfl rfl
            go_wp2_with (first | (go_at_call 21; with_reducible refine (Haj.out _).mono ?_; rintro e w1 ⟨rfl, hb⟩; replace hS := keep15 hb hS; clear hb k0 k1 k2 k3 k4 k5 k6 k7 k8 k9 k10 k11 k12 k13 k14; have ⟨⟨kk, kk', k0, k1, k2, k3, k4, k5, k6, k7, k8⟩, ⟨k9, k10, k11⟩, ⟨k12, k13, k14⟩, kk2, kk3⟩ := hS; clear kk kk' kk2 kk3) | (go_at_call 21; with_reducible refine (Hbj.out _).mono ?_; rintro e w1 ⟨rfl, hb⟩; replace hS := keep15 hb hS; clear hb k0 k1 k2 k3 k4 k5 k6 k7 k8 k9 k10 k11 k12 k13 k14; have ⟨⟨kk, kk', k0, k1, k2, k3, k4, k5, k6, k7, k8⟩, ⟨k9, k10, k11⟩, ⟨k12, k13, k14⟩, kk2, kk3⟩ := hS; clear kk kk' kk2 kk3) | (go_at_call 21; with_reducible refine (Hma.out _).mono ?_; rintro e w1 ⟨rfl, hb⟩; replace hS := keep15 hb hS; clear hb k0 k1 k2 k3 k4 k5 k6 k7 k8 k9 k10 k11 k12 k13 k14; have ⟨⟨kk, kk', k0, k1, k2, k3, k4, k5, k6, k7, k8⟩, ⟨k9, k10, k11⟩, ⟨k12, k13, k14⟩, kk2, kk3⟩ := hS; clear kk kk' kk2 kk3) | (go_at_call 21; with_reducible refine (Hmb.out _).mono ?_; rintro e w1 ⟨rfl, hb⟩; replace hS := keep15 hb hS; clear hb k0 k1 k2 k3 k4 k5 k6 k7 k8 k9 k10 k11 k12 k13 k14; have ⟨⟨kk, kk', k0, k1, k2, k3, k4, k5, k6, k7, k8⟩, ⟨k9, k10, k11⟩, ⟨k12, k13, k14⟩, kk2, kk3⟩ := hS; clear kk kk' kk2 kk3) | (go_at_call 21; with_reducible refine (Hab.out _).mono ?_; rintro e w1 ⟨rfl, hb⟩; replace hS := keep15 hb hS; clear hb k0 k1 k2 k3 k4 k5 k6 k7 k8 k9 k10 k11 k12 k13 k14; have ⟨⟨kk, kk', k0, k1, k2, k3, k4, k5, k6, k7, k8⟩, ⟨k9, k10, k11⟩, ⟨k12, k13, k14⟩, kk2, kk3⟩ := hS; clear kk kk' kk2 kk3) | (go_at_call 21; with_reducible refine (Hba.out _).mono ?_; rintro e w1 ⟨rfl, hb⟩; replace hS := keep15 hb hS; clear hb k0 k1 k2 k3 k4 k5 k6 k7 k8 k9 k10 k11 k12 k13 k14; have ⟨⟨kk, kk', k0, k1, k2, k3, k4, k5, k6, k7, k8⟩, ⟨k9, k10, k11⟩, ⟨k12, k13, k14⟩, kk2, kk3⟩ := hS; clear kk kk' kk2 kk3) | (go_at_call 21; with_reducible refine (Hbc.out _).mono ?_; rintro e w1 ⟨rfl, hb⟩; replace hS := keep15 hb hS; clear hb k0 k1 k2 k3 k4 k5 k6 k7 k8 k9 k10 k11 k12 k13 k14; have ⟨⟨kk, kk', k0, k1, k2, k3, k4, k5, k6, k7, k8⟩, ⟨k9, k10, k11⟩, ⟨k12, k13, k14⟩, kk2, kk3⟩ := hS; clear kk kk' kk2 kk3) | (go_at_call 21; with_reducible refine (Hac.out _).mono ?_; rintro e w1 ⟨rfl, hb⟩; replace hS := keep15 hb hS; clear hb k0 k1 k2 k3 k4 k5 k6 k7 k8 k9 k10 k11 k12 k13 k14; have ⟨⟨kk, kk', k0, k1, k2, k3, k4, k5, k6, k7, k8⟩, ⟨k9, k10, k11⟩, ⟨k12, k13, k14⟩, kk2, kk3⟩ := hS; clear kk kk' kk2 kk3) | (go_at_call 21; with_reducible refine (Hjc.out _).mono ?_; rintro e w1 ⟨rfl, hb⟩; replace hS := keep15 hb hS; clear hb k0 k1 k2 k3 k4 k5 k6 k7 k8 k9 k10 k11 k12 k13 k14; have ⟨⟨kk, kk', k0, k1, k2, k3, k4, k5, k6, k7, k8⟩, ⟨k9, k10, k11⟩, ⟨k12, k13, k14⟩, kk2, kk3⟩ := hS; clear kk kk' kk2 kk3) | (go_at_call 21; with_reducible refine (Hca.out _).mono ?_; rintro e w1 ⟨rfl, hb⟩; replace hS := keep15 hb hS; clear hb k0 k1 k2 k3 k4 k5 k6 k7 k8 k9 k10 k11 k12 k13 k14; have ⟨⟨kk, kk', k0, k1, k2, k3, k4, k5, k6, k7, k8⟩, ⟨k9, k10, k11⟩, ⟨k12, k13, k14⟩, kk2, kk3⟩ := hS; clear kk kk' kk2 kk3) | (go_at_call 21; with_reducible refine (Hcb.out _).mono ?_; rintro e w1 ⟨rfl, hb⟩; replace hS := keep15 hb hS; clear hb k0 k1 k2 k3 k4 k5 k6 k7 k8 k9 k10 k11 k12 k13 k14; have ⟨⟨kk, kk', k0, k1, k2, k3, k4, k5, k6, k7, k8⟩, ⟨k9, k10, k11⟩, ⟨k12, k13, k14⟩, kk2, kk3⟩ := hS; clear kk kk' kk2 kk3) | (go_at_call 21; with_reducible refine (Hcm.out _).mono ?_; rintro e w1 ⟨rfl, hb⟩; replace hS := keep15 hb hS; clear hb k0 k1 k2 k3 k4 k5 k6 k7 k8 k9 k10 k11 k12 k13 k14; have ⟨⟨kk, kk', k0, k1, k2, k3, k4, k5, k6, k7, k8⟩, ⟨k9, k10, k11⟩, ⟨k12, k13, k14⟩, kk2, kk3⟩ := hS; clear kk kk' kk2 kk3))
            go_meet
            exact ⟨rfl, hS⟩
        | true =>
          have he := T1.out rfl rfl
          cases l3 with
          | false =>
            go_wp2_with (first | (go_at_call 21; with_reducible refine (Haj.out _).mono ?_; rintro e w1 ⟨rfl, hb⟩; replace hS := keep15 hb hS; clear hb k0 k1 k2 k3 k4 k5 k6 k7 k8 k9 k10 k11 k12 k13 k14; have ⟨⟨kk, kk', k0, k1, k2, k3, k4, k5, k6, k7, k8⟩, ⟨k9, k10, k11⟩, ⟨k12, k13, k14⟩, kk2, kk3⟩ := hS; clear kk kk' kk2 kk3) | (go_at_call 21; with_reducible refine (Hbj.out _).mono ?_; rintro e w1 ⟨rfl, hb⟩; replace hS := keep15 hb hS; clear hb k0 k1 k2 k3 k4 k5 k6 k7 k8 k9 k10 k11 k12 k13 k14; have ⟨⟨kk, kk', k0, k1, k2, k3, k4, k5, k6, k7, k8⟩, ⟨k9, k10, k11⟩, ⟨k12, k13, k14⟩, kk2, kk3⟩ := hS; clear kk kk' kk2 kk3) | (go_at_call 21; with_reducible refine (Hma.out _).mono ?_; rintro e w1 ⟨rfl, hb⟩; replace hS := keep15 hb hS; clear hb k0 k1 k2 k3 k4 k5 k6 k7 k8 k9 k10 k11 k12 k13 k14; have ⟨⟨kk, kk', k0, k1, k2, k3, k4, k5, k6, k7, k8⟩, ⟨k9, k10, k11⟩, ⟨k12, k13, k14⟩, kk2, kk3⟩ := hS; clear kk kk' kk2 kk3) | (go_at_call 21; with_reducible refine (Hmb.out _).mono ?_; rintro e w1 ⟨rfl, hb⟩; replace hS := keep15 hb hS; clear hb k0 k1 k2 k3 k4 k5 k6 k7 k8 k9 k10 k11 k12 k13 k14; have ⟨⟨kk, kk', k0, k1, k2, k3, k4, k5, k6, k7, k8⟩, ⟨k9, k10, k11⟩, ⟨k12, k13, k14⟩, kk2, kk3⟩ := hS; clear kk kk' kk2 kk3) | (go_at_call 21; with_reducible refine (Hab.out _).mono ?_; rintro e w1 ⟨rfl, hb⟩; replace hS := keep15 hb hS; clear hb k0 k1 k2 k3 k4 k5 k6 k7 k8 k9 k10 k11 k12 k13 k14; have ⟨⟨kk, kk', k0, k1, k2, k3, k4, k5, k6, k7, k8⟩, ⟨k9, k10, k11⟩, ⟨k12, k13, k14⟩, kk2, kk3⟩ := hS; clear kk kk' kk2 kk3) | (go_at_call 21; with_reducible refine (Hba.out _).mono ?_; rintro e w1 ⟨rfl, hb⟩; replace hS := keep15 hb hS; clear hb k0 k1 k2 k3 k4 k5 k6 k7 k8 k9 k10 k11 k12 k13 k14; have ⟨⟨kk, kk', k0, k1, k2, k3, k4, k5, k6, k7, k8⟩, ⟨k9, k10, k11⟩, ⟨k12, k13, k14⟩, kk2, kk3⟩ := hS; clear kk kk' kk2 kk3) | (go_at_call 21; with_reducible refine (Hbc.out _).mono ?_; rintro e w1 ⟨rfl, hb⟩; replace hS := keep15 hb hS; clear hb k0 k1 k2 k3 k4 k5 k6 k7 k8 k9 k10 k11 k12 k13 k14; have ⟨⟨kk, kk', k0, k1, k2, k3, k4, k5, k6, k7, k8⟩, ⟨k9, k10, k11⟩, ⟨k12, k13, k14⟩, kk2, kk3⟩ := hS; clear kk kk' kk2 kk3) | (go_at_call 21; with_reducible refine (Hac.out _).mono ?_; rintro e w1 ⟨rfl, hb⟩; replace hS := keep15 hb hS; clear hb k0 k1 k2 k3 k4 k5 k6 k7 k8 k9 k10 k11 k12 k13 k14; have ⟨⟨kk, kk', k0, k1, k2, k3, k4, k5, k6, k7, k8⟩, ⟨k9, k10, k11⟩, ⟨k12, k13, k14⟩, kk2, kk3⟩ := hS; clear kk kk' kk2 kk3) | (go_at_call 21; with_reducible refine (Hjc.out _).mono ?_; rintro e w1 ⟨rfl, hb⟩; replace hS := keep15 hb hS; clear hb k0 k1 k2 k3 k4 k5 k6 k7 k8 k9 k10 k11 k12 k13 k14; have ⟨⟨kk, kk', k0, k1, k2, k3, k4, k5, k6, k7, k8⟩, ⟨k9, k10, k11⟩, ⟨k12, k13, k14⟩, kk2, kk3⟩ := hS; clear kk kk' kk2 kk3) | (go_at_call 21; with_reducible refine (Hca.out _).mono ?_; rintro e w1 ⟨rfl, hb⟩; replace hS := keep15 hb hS; clear hb k0 k1 k2 k3 k4 k5 k6 k7 k8 k9 k10 k11 k12 k13 k14; have ⟨⟨kk, kk', k0, k1, k2, k3, k4, k5, k6, k7, k8⟩, ⟨k9, k10, k11⟩, ⟨k12, k13, k14⟩, kk2, kk3⟩ := hS; clear kk kk' kk2 kk3) | (go_at_call 21; with_reducible refine (Hcb.out _).mono ?_; rintro e w1 ⟨rfl, hb⟩; replace hS := keep15 hb hS; clear hb k0 k1 k2 k3 k4 k5 k6 k7 k8 k9 k10 k11 k12 k13 k14; have ⟨⟨kk, kk', k0, k1, k2, k3, k4, k5, k6, k7, k8⟩, ⟨k9, k10, k11⟩, ⟨k12, k13, k14⟩, kk2, kk3⟩ := hS; clear kk kk' kk2 kk3) | (go_at_call 21; with_reducible refine (Hcm.out _).mono ?_; rintro e w1 ⟨rfl, hb⟩; replace hS := keep15 hb hS; clear hb k0 k1 k2 k3 k4 k5 k6 k7 k8 k9 k10 k11 k12 k13 k14; have ⟨⟨kk, kk', k0, k1, k2, k3, k4, k5, k6, k7, k8⟩, ⟨k9, k10, k11⟩, ⟨k12, k13, k14⟩, kk2, kk3⟩ := hS; clear kk kk' kk2 kk3))
            go_meet
            exact ⟨rfl, hS⟩
          | true =>
            obtain rfl := T2.out rfl rfl
            go_wp2_with (first | (go_at_call 21; with_reducible refine (Haj.out _).mono ?_; rintro e w1 ⟨rfl, hb⟩; replace hS := keep15 hb hS; clear hb k0 k1 k2 k3 k4 k5 k6 k7 k8 k9 k10 k11 k12 k13 k14; have ⟨⟨kk, kk', k0, k1, k2, k3, k4, k5, k6, k7, k8⟩, ⟨k9, k10, k11⟩, ⟨k12, k13, k14⟩, kk2, kk3⟩ := hS; clear kk kk' kk2 kk3) | (go_at_call 21; with_reducible refine (Hbj.out _).mono ?_; rintro e w1 ⟨rfl, hb⟩; replace hS := keep15 hb hS; clear hb k0 k1 k2 k3 k4 k5 k6 k7 k8 k9 k10 k11 k12 k13 k14; have ⟨⟨kk, kk', k0, k1, k2, k3, k4, k5, k6, k7, k8⟩, ⟨k9, k10, k11⟩, ⟨k12, k13, k14⟩, kk2, kk3⟩ := hS; clear kk kk' kk2 kk3) | (go_at_call 21; with_reducible refine (Hma.out _).mono ?_; rintro e w1 ⟨rfl, hb⟩; replace hS := keep15 hb hS; clear hb k0 k1 k2 k3 k4 k5 k6 k7 k8 k9 k10 k11 k12 k13 k14; have ⟨⟨kk, kk', k0, k1, k2, k3, k4, k5, k6, k7, k8⟩, ⟨k9, k10, k11⟩, ⟨k12, k13, k14⟩, kk2, kk3⟩ := hS; clear kk kk' kk2 kk3) | (go_at_call 21; with_reducible refine (Hmb.out _).mono ?_; rintro e w1 ⟨rfl, hb⟩; replace hS := keep15 hb hS; clear hb k0 k1 k2 k3 k4 k5 k6 k7 k8 k9 k10 k11 k12 k13 k14; have ⟨⟨kk, kk', k0, k1, k2, k3, k4, k5, k6, k7, k8⟩, ⟨k9, k10, k11⟩, ⟨k12, k13, k14⟩, kk2, kk3⟩ := hS; clear kk kk' kk2 kk3) | (go_at_call 21; with_reducible refine (Hab.out _).mono ?_; rintro e w1 ⟨rfl, hb⟩; replace hS := keep15 hb hS; clear hb k0 k1 k2 k3 k4 k5 k6 k7 k8 k9 k10 k11 k12 k13 k14; have ⟨⟨kk, kk', k0, k1, k2, k3, k4, k5, k6, k7, k8⟩, ⟨k9, k10, k11⟩, ⟨k12, k13, k14⟩, kk2, kk3⟩ := hS; clear kk kk' kk2 kk3) | (go_at_call 21; with_reducible refine (Hba.out _).mono ?_; rintro e w1 ⟨rfl, hb⟩; replace hS := keep15 hb hS; clear hb k0 k1 k2 k3 k4 k5 k6 k7 k8 k9 k10 k11 k12 k13 k14; have ⟨⟨kk, kk', k0, k1, k2, k3, k4, k5, k6, k7, k8⟩, ⟨k9, k10, k11⟩, ⟨k12, k13, k14⟩, kk2, kk3⟩ := hS; clear kk kk' kk2 kk3) | (go_at_call 21; with_reducible refine (Hbc.out _).mono ?_; rintro e w1 ⟨rfl, hb⟩; replace hS := keep15 hb hS; clear hb k0 k1 k2 k3 k4 k5 k6 k7 k8 k9 k10 k11 k12 k13 k14; have ⟨⟨kk, kk', k0, k1, k2, k3, k4, k5, k6, k7, k8⟩, ⟨k9, k10, k11⟩, ⟨k12, k13, k14⟩, kk2, kk3⟩ := hS; clear kk kk' kk2 kk3) | (go_at_call 21; with_reducible refine (Hac.out _).mono ?_; rintro e w1 ⟨rfl, hb⟩; replace hS := keep15 hb hS; clear hb k0 k1 k2 k3 k4 k5 k6 k7 k8 k9 k10 k11 k12 k13 k14; have ⟨⟨kk, kk', k0, k1, k2, k3, k4, k5, k6, k7, k8⟩, ⟨k9, k10, k11⟩, ⟨k12, k13, k14⟩, kk2, kk3⟩ := hS; clear kk kk' kk2 kk3) | (go_at_call 21; with_reducible refine (Hjc.out _).mono ?_; rintro e w1 ⟨rfl, hb⟩; replace hS := keep15 hb hS; clear hb k0 k1 k2 k3 k4 k5 k6 k7 k8 k9 k10 k11 k12 k13 k14; have ⟨⟨kk, kk', k0, k1, k2, k3, k4, k5, k6, k7, k8⟩, ⟨k9, k10, k11⟩, ⟨k12, k13, k14⟩, kk2, kk3⟩ := hS; clear kk kk' kk2 kk3) | (go_at_call 21; with_reducible refine (Hca.out _).mono ?_; rintro e w1 ⟨rfl, hb⟩; replace hS := keep15 hb hS; clear hb k0 k1 k2 k3 k4 k5 k6 k7 k8 k9 k10 k11 k12 k13 k14; have ⟨⟨kk, kk', k0, k1, k2, k3, k4, k5, k6, k7, k8⟩, ⟨k9, k10, k11⟩, ⟨k12, k13, k14⟩, kk2, kk3⟩ := hS; clear kk kk' kk2 kk3) | (go_at_call 21; with_reducible refine (Hcb.out _).mono ?_; rintro e w1 ⟨rfl, hb⟩; replace hS := keep15 hb hS; clear hb k0 k1 k2 k3 k4 k5 k6 k7 k8 k9 k10 k11 k12 k13 k14; have ⟨⟨kk, kk', k0, k1, k2, k3, k4, k5, k6, k7, k8⟩, ⟨k9, k10, k11⟩, ⟨k12, k13, k14⟩, kk2, kk3⟩ := hS; clear kk kk' kk2 kk3) | (go_at_call 21; with_reducible refine (Hcm.out _).mono ?_; rintro e w1 ⟨rfl, hb⟩; replace hS := keep15 hb hS; clear hb k0 k1 k2 k3 k4 k5 k6 k7 k8 k9 k10 k11 k12 k13 k14; have ⟨⟨kk, kk', k0, k1, k2, k3, k4, k5, k6, k7, k8⟩, ⟨k9, k10, k11⟩, ⟨k12, k13, k14⟩, kk2, kk3⟩ := hS; clear kk kk' kk2 kk3))
            go_meet
            exact ⟨rfl, hS⟩
    case rest =>
      obtain ⟨rfl, hS⟩ := hcut
      clear k0 k1 k2 k3 k4 k5 k6 k7 k8 k9 k10 k11 k12 k13 k14
      have ⟨⟨kk, kk', k0, k1, k2, k3, k4, k5, k6, k7, k8⟩, ⟨k9, k10, k11⟩, ⟨k12, k13, k14⟩, kk2, kk3⟩ := hS; clear kk kk' kk2 kk3
      go_upto_region 6 with fail
      go_cut [115] (fun s115 wx => s115 = .bool false ∧ (Below w.heap.size w wx ∧ w.heap.size + 3 ≤ wx.heap.size ∧ wx.cell? ⟨w.heap.size, 0, none⟩ = some (.bool a0) ∧ wx.cell? ⟨w.heap.size, 1, none⟩ = some (.int .i64 a1) ∧ wx.cell? ⟨w.heap.size, 2, none⟩ = some (.int .i64 a2) ∧ wx.cell? ⟨w.heap.size + 1, 0, none⟩ = some (.bool b0) ∧ wx.cell? ⟨w.heap.size + 1, 1, none⟩ = some (.int .i64 b1) ∧ wx.cell? ⟨w.heap.size + 1, 2, none⟩ = some (.int .i64 b2) ∧ wx.cell? ⟨w.heap.size + 1 + 1, 0, none⟩ = some (.bool c0) ∧ wx.cell? ⟨w.heap.size + 1 + 1, 1, none⟩ = some (.int .i64 c1) ∧ wx.cell? ⟨w.heap.size + 1 + 1, 2, none⟩ = some (.int .i64 c2)) ∧ (wx.cell? ⟨n9, 0, none⟩ = some (.bool j0) ∧ wx.cell? ⟨n9, 1, none⟩ = some (.int .i64 j1) ∧ wx.cell? ⟨n9, 2, none⟩ = some (.int .i64 j2)) ∧ (wx.cell? ⟨n10, 0, none⟩ = some (.bool m0) ∧ wx.cell? ⟨n10, 1, none⟩ = some (.int .i64 m1) ∧ wx.cell? ⟨n10, 2, none⟩ = some (.int .i64 m2)) ∧ n9 < wx.heap.size ∧ n10 < wx.heap.size)
      case first =>
        have main : (l4 = true ∧ l3 = true → l5 = true) ∧ (l6 = true ∧ l7 = true → l8 = true) := ⟨fun h => T3.out h.1 h.2, fun h => T4.out h.1 h.2⟩
        clear main
        cases l4 with
        | false =>
          cases l6 with
          | false =>
            go_wp2_with (first | (go_at_call 21; with_reducible refine (Haj.out _).mono ?_; rintro e w1 ⟨rfl, hb⟩; replace hS := keep15 hb hS; clear hb k0 k1 k2 k3 k4 k5 k6 k7 k8 k9 k10 k11 k12 k13 k14; have ⟨⟨kk, kk', k0, k1, k2, k3, k4, k5, k6, k7, k8⟩, ⟨k9, k10, k11⟩, ⟨k12, k13, k14⟩, kk2, kk3⟩ := hS; clear kk kk' kk2 kk3) | (go_at_call 21; with_reducible refine (Hbj.out _).mono ?_; rintro e w1 ⟨rfl, hb⟩; replace hS := keep15 hb hS; clear hb k0 k1 k2 k3 k4 k5 k6 k7 k8 k9 k10 k11 k12 k13 k14; have ⟨⟨kk, kk', k0, k1, k2, k3, k4, k5, k6, k7, k8⟩, ⟨k9, k10, k11⟩, ⟨k12, k13, k14⟩, kk2, kk3⟩ := hS; clear kk kk' kk2 kk3) | (go_at_call 21; with_reducible refine (Hma.out _).mono ?_; rintro e w1 ⟨rfl, hb⟩; replace hS := keep15 hb hS; clear hb k0 k1 k2 k3 k4 k5 k6 k7 k8 k9 k10 k11 k12 k13 k14; have ⟨⟨kk, kk', k0, k1, k2, k3, k4, k5, k6, k7, k8⟩, ⟨k9, k10, k11⟩, ⟨k12, k13, k14⟩, kk2, kk3⟩ := hS; clear kk kk' kk2 kk3) | (go_at_call 21; with_reducible refine (Hmb.out _).mono ?_; rintro e w1 ⟨rfl, hb⟩; replace hS := keep15 hb hS; clear hb k0 k1 k2 k3 k4 k5 k6 k7 k8 k9 k10 k11 k12 k13 k14; have ⟨⟨kk, kk', k0, k1, k2, k3, k4, k5, k6, k7, k8⟩, ⟨k9, k10, k11⟩, ⟨k12, k13, k14⟩, kk2, kk3⟩ := hS; clear kk kk' kk2 kk3) | (go_at_call 21; with_reducible refine (Hab.out _).mono ?_; rintro e w1 ⟨rfl, hb⟩; replace hS := keep15 hb hS; clear hb k0 k1 k2 k3 k4 k5 k6 k7 k8 k9 k10 k11 k12 k13 k14; have ⟨⟨kk, kk', k0, k1, k2, k3, k4, k5, k6, k7, k8⟩, ⟨k9, k10, k11⟩, ⟨k12, k13, k14⟩, kk2, kk3⟩ := hS; clear kk kk' kk2 kk3) | (go_at_call 21; with_reducible refine (Hba.out _).mono ?_; rintro e w1 ⟨rfl, hb⟩; replace hS := keep15 hb hS; clear hb k0 k1 k2 k3 k4 k5 k6 k7 k8 k9 k10 k11 k12 k13 k14; have ⟨⟨kk, kk', k0, k1, k2, k3, k4, k5, k6, k7, k8⟩, ⟨k9, k10, k11⟩, ⟨k12, k13, k14⟩, kk2, kk3⟩ := hS; clear kk kk' kk2 kk3) | (go_at_call 21; with_reducible refine (Hbc.out _).mono ?_; rintro e w1 ⟨rfl, hb⟩; replace hS := keep15 hb hS; clear hb k0 k1 k2 k3 k4 k5 k6 k7 k8 k9 k10 k11 k12 k13 k14; have ⟨⟨kk, kk', k0, k1, k2, k3, k4, k5, k6, k7, k8⟩, ⟨k9, k10, k11⟩, ⟨k12, k13, k14⟩, kk2, kk3⟩ := hS; clear kk kk' kk2 kk3) | (go_at_call 21; with_reducible refine (Hac.out _).mono ?_; rintro e w1 ⟨rfl, hb⟩; replace hS := keep15 hb hS; clear hb k0 k1 k2 k3 k4 k5 k6 k7 k8 k9 k10 k11 k12 k13 k14; have ⟨⟨kk, kk', k0, k1, k2, k3, k4, k5, k6, k7, k8⟩, ⟨k9, k10, k11⟩, ⟨k12, k13, k14⟩, kk2, kk3⟩ := hS; clear kk kk' kk2 kk3) | (go_at_call 21; with_reducible refine (Hjc.out _).mono ?_; rintro e w1 ⟨rfl, hb⟩; replace hS := keep15 hb hS; clear hb k0 k1 k2 k3 k4 k5 k6 k7 k8 k9 k10 k11 k12 k13 k14; have ⟨⟨kk, kk', k0, k1, k2, k3, k4, k5, k6, k7, k8⟩, ⟨k9, k10, k11⟩, ⟨k12, k13, k14⟩, kk2, kk3⟩ := hS; clear kk kk' kk2 kk3) | (go_at_call 21; with_reducible refine (Hca.out _).mono ?_; rintro e w1 ⟨rfl, hb⟩; replace hS := keep15 hb hS; clear hb k0 k1 k2 k3 k4 k5 k6 k7 k8 k9 k10 k11 k12 k13 k14; have ⟨⟨kk, kk', k0, k1, k2, k3, k4, k5, k6, k7, k8⟩, ⟨k9, k10, k11⟩, ⟨k12, k13, k14⟩, kk2, kk3⟩ := hS; clear kk kk' kk2 kk3) | (go_at_call 21; with_reducible refine (Hcb.out _).mono ?_; rintro e w1 ⟨rfl, hb⟩; replace hS := keep15 hb hS; clear hb k0 k1 k2 k3 k4 k5 k6 k7 k8 k9 k10 k11 k12 k13 k14; have ⟨⟨kk, kk', k0, k1, k2, k3, k4, k5, k6, k7, k8⟩, ⟨k9, k10, k11⟩, ⟨k12, k13, k14⟩, kk2, kk3⟩ := hS; clear kk kk' kk2 kk3) | (go_at_call 21; with_reducible refine (Hcm.out _).mono ?_; rintro e w1 ⟨rfl, hb⟩; replace hS := keep15 hb hS; clear hb k0 k1 k2 k3 k4 k5 k6 k7 k8 k9 k10 k11 k12 k13 k14; have ⟨⟨kk, kk', k0, k1, k2, k3, k4, k5, k6, k7, k8⟩, ⟨k9, k10, k11⟩, ⟨k12, k13, k14⟩, kk2, kk3⟩ := hS; clear kk kk' kk2 kk3))
            go_meet
            exact ⟨rfl, hS⟩
          | true =>
            cases l7 with
            | false =>
              go_wp2_with (first | (go_at_call 21; with_reducible refine (Haj.out _).mono ?_; rintro e w1 ⟨rfl, hb⟩; replace hS := keep15 hb hS; clear hb k0 k1 k2 k3 k4 k5 k6 k7 k8 k9 k10 k11 k12 k13 k14; have ⟨⟨kk, kk', k0, k1, k2, k3, k4, k5, k6, k7, k8⟩, ⟨k9, k10, k11⟩, ⟨k12, k13, k14⟩, kk2, kk3⟩ := hS; clear kk kk' kk2 kk3) | (go_at_call 21; with_reducible refine (Hbj.out _).mono ?_; rintro e w1 ⟨rfl, hb⟩; replace hS := keep15 hb hS; clear hb k0 k1 k2 k3 k4 k5 k6 k7 k8 k9 k10 k11 k12 k13 k14; have ⟨⟨kk, kk', k0, k1, k2, k3, k4, k5, k6, k7, k8⟩, ⟨k9, k10, k11⟩, ⟨k12, k13, k14⟩, kk2, kk3⟩ := hS; clear kk kk' kk2 kk3) | (go_at_call 21; with_reducible refine (Hma.out _).mono ?_; rintro e w1 ⟨rfl, hb⟩; replace hS := keep15 hb hS; clear hb k0 k1 k2 k3 k4 k5 k6 k7 k8 k9 k10 k11 k12 k13 k14; have ⟨⟨kk, kk', k0, k1, k2, k3, k4, k5, k6, k7, k8⟩, ⟨k9, k10, k11⟩, ⟨k12, k13, k14⟩, kk2, kk3⟩ := hS; clear kk kk' kk2 kk3) | (go_at_call 21; with_reducible refine (Hmb.out _).mono ?_; rintro e w1 ⟨rfl, hb⟩; replace hS := keep15 hb hS; clear hb k0 k1 k2 k3 k4 k5 k6 k7 k8 k9 k10 k11 k12 k13 k14; have ⟨⟨kk, kk', k0, k1, k2, k3, k4, k5, k6, k7, k8⟩, ⟨k9, k10, k11⟩, ⟨k12, k13, k14⟩, kk2, kk3⟩ := hS; clear kk kk' kk2 kk3) | (go_at_call 21; with_reducible refine (Hab.out _).mono ?_; rintro e w1 ⟨rfl, hb⟩; replace hS := keep15 hb hS; clear hb k0 k1 k2 k3 k4 k5 k6 k7 k8 k9 k10 k11 k12 k13 k14; have ⟨⟨kk, kk', k0, k1, k2, k3, k4, k5, k6, k7, k8⟩, ⟨k9, k10, k11⟩, ⟨k12, k13, k14⟩, kk2, kk3⟩ := hS; clear kk kk' kk2 kk3) | (go_at_call 21; with_reducible refine (Hba.out _).mono ?_; rintro e w1 ⟨rfl, hb⟩; replace hS := keep15 hb hS; clear hb k0 k1 k2 k3 k4 k5 k6 k7 k8 k9 k10 k11 k12 k13 k14; have ⟨⟨kk, kk', k0, k1, k2, k3, k4, k5, k6, k7, k8⟩, ⟨k9, k10, k11⟩, ⟨k12, k13, k14⟩, kk2, kk3⟩ := hS; clear kk kk' kk2 kk3) | (go_at_call 21; with_reducible refine (Hbc.out _).mono ?_; rintro e w1 ⟨rfl, hb⟩; replace hS := keep15 hb hS; clear hb k0 k1 k2 k3 k4 k5 k6 k7 k8 k9 k10 k11 k12 k13 k14; have ⟨⟨kk, kk', k0, k1, k2, k3, k4, k5, k6, k7, k8⟩, ⟨k9, k10, k11⟩, ⟨k12, k13, k14⟩, kk2, kk3⟩ := hS; clear kk kk' kk2 kk3) | (go_at_call 21; with_reducible refine (Hac.out _).mono ?_; rintro e w1 ⟨rfl, hb⟩; replace hS := keep15 hb hS; clear hb k0 k1 k2 k3 k4 k5 k6 k7 k8 k9 k10 k11 k12 k13 k14; have ⟨⟨kk, kk', k0, k1, k2, k3, k4, k5, k6, k7, k8⟩, ⟨k9, k10, k11⟩, ⟨k12, k13, k14⟩, kk2, kk3⟩ := hS; clear kk kk' kk2 kk3) | (go_at_call 21; with_reducible refine (Hjc.out _).mono ?_; rintro e w1 ⟨rfl, hb⟩; replace hS := keep15 hb hS; clear hb k0 k1 k2 k3 k4 k5 k6 k7 k8 k9 k10 k11 k12 k13 k14; have ⟨⟨kk, kk', k0, k1, k2, k3, k4, k5, k6, k7, k8⟩, ⟨k9, k10, k11⟩, ⟨k12, k13, k14⟩, kk2, kk3⟩ := hS; clear kk kk' kk2 kk3) | (go_at_call 21; with_reducible refine (Hca.out _).mono ?_; rintro e w1 ⟨rfl, hb⟩; replace hS := keep15 hb hS; clear hb k0 k1 k2 k3 k4 k5 k6 k7 k8 k9 k10 k11 k12 k13 k14; have ⟨⟨kk, kk', k0, k1, k2, k3, k4, k5, k6, k7, k8⟩, ⟨k9, k10, k11⟩, ⟨k12, k13, k14⟩, kk2, kk3⟩ := hS; clear kk kk' kk2 kk3) | (go_at_call 21; with_reducible refine (Hcb.out _).mono ?_; rintro e w1 ⟨rfl, hb⟩; replace hS := keep15 hb hS; clear hb k0 k1 k2 k3 k4 k5 k6 k7 k8 k9 k10 k11 k12 k13 k14; have ⟨⟨kk, kk', k0, k1, k2, k3, k4, k5, k6, k7, k8⟩, ⟨k9, k10, k11⟩, ⟨k12, k13, k14⟩, kk2, kk3⟩ := hS; clear kk kk' kk2 kk3) | (go_at_call 21; with_reducible refine (Hcm.out _).mono ?_; rintro e w1 ⟨rfl, hb⟩; replace hS := keep15 hb hS; clear hb k0 k1 k2 k3 k4 k5 k6 k7 k8 k9 k10 k11 k12 k13 k14; have ⟨⟨kk, kk', k0, k1, k2, k3, k4, k5, k6, k7, k8⟩, ⟨k9, k10, k11⟩, ⟨k12, k13, k14⟩, kk2, kk3⟩ := hS; clear kk kk' kk2 kk3))
              go_meet
              exact ⟨rfl, hS⟩
            | true =>
              obtain rfl := T4.out rfl rfl
              go_wp2_with (first | (go_at_call 21; with_reducible refine (Haj.out _).mono ?_; rintro e w1 ⟨rfl, hb⟩; replace hS := keep15 hb hS; clear hb k0 k1 k2 k3 k4 k5 k6 k7 k8 k9 k10 k11 k12 k13 k14; have ⟨⟨kk, kk', k0, k1, k2, k3, k4, k5, k6, k7, k8⟩, ⟨k9, k10, k11⟩, ⟨k12, k13, k14⟩, kk2, kk3⟩ := hS; clear kk kk' kk2 kk3) | (go_at_call 21; with_reducible refine (Hbj.out _).mono ?_; rintro e w1 ⟨rfl, hb⟩; replace hS := keep15 hb hS; clear hb k0 k1 k2 k3 k4 k5 k6 k7 k8 k9 k10 k11 k12 k13 k14; have ⟨⟨kk, kk', k0, k1, k2, k3, k4, k5, k6, k7, k8⟩, ⟨k9, k10, k11⟩, ⟨k12, k13, k14⟩, kk2, kk3⟩ := hS; clear kk kk' kk2 kk3) | (go_at_call 21; with_reducible refine (Hma.out _).mono ?_; rintro e w1 ⟨rfl, hb⟩; replace hS := keep15 hb hS; clear hb k0 k1 k2 k3 k4 k5 k6 k7 k8 k9 k10 k11 k12 k13 k14; have ⟨⟨kk, kk', k0, k1, k2, k3, k4, k5, k6, k7, k8⟩, ⟨k9, k10, k11⟩, ⟨k12, k13, k14⟩, kk2, kk3⟩ := hS; clear kk kk' kk2 kk3) | (go_at_call 21; with_reducible refine (Hmb.out _).mono ?_; rintro e w1 ⟨rfl, hb⟩; replace hS := keep15 hb hS; clear hb k0 k1 k2 k3 k4 k5 k6 k7 k8 k9 k10 k11 k12 k13 k14; have ⟨⟨kk, kk', k0, k1, k2, k3, k4, k5, k6, k7, k8⟩, ⟨k9, k10, k11⟩, ⟨k12, k13, k14⟩, kk2, kk3⟩ := hS; clear kk kk' kk2 kk3) | (go_at_call 21; with_reducible refine (Hab.out _).mono ?_; rintro e w1 ⟨rfl, hb⟩; replace hS := keep15 hb hS; clear hb k0 k1 k2 k3 k4 k5 k6 k7 k8 k9 k10 k11 k12 k13 k14; have ⟨⟨kk, kk', k0, k1, k2, k3, k4, k5, k6, k7, k8⟩, ⟨k9, k10, k11⟩, ⟨k12, k13, k14⟩, kk2, kk3⟩ := hS; clear kk kk' kk2 kk3) | (go_at_call 21; with_reducible refine (Hba.out _).mono ?_; rintro e w1 ⟨rfl, hb⟩; replace hS := keep15 hb hS; clear hb k0 k1 k2 k3 k4 k5 k6 k7 k8 k9 k10 k11 k12 k13 k14; have ⟨⟨kk, kk', k0, k1, k2, k3, k4, k5, k6, k7, k8⟩, ⟨k9, k10, k11⟩, ⟨k12, k13, k14⟩, kk2, kk3⟩ := hS; clear kk kk' kk2 kk3) | (go_at_call 21; with_reducible refine (Hbc.out _).mono ?_; rintro e w1 ⟨rfl, hb⟩; replace hS := keep15 hb hS; clear hb k0 k1 k2 k3 k4 k5 k6 k7 k8 k9 k10 k11 k12 k13 k14; have ⟨⟨kk, kk', k0, k1, k2, k3, k4, k5, k6, k7, k8⟩, ⟨k9, k10, k11⟩, ⟨k12, k13, k14⟩, kk2, kk3⟩ := hS; clear kk kk' kk2 kk3) | (go_at_call 21; with_reducible refine (Hac.out _).mono ?_; rintro e w1 ⟨rfl, hb⟩; replace hS := keep15 hb hS; clear hb k0 k1 k2 k3 k4 k5 k6 k7 k8 k9 k10 k11 k12 k13 k14; have ⟨⟨kk, kk', k0, k1, k2, k3, k4, k5, k6, k7, k8⟩, ⟨k9, k10, k11⟩, ⟨k12, k13, k14⟩, kk2, kk3⟩ := hS; clear kk kk' kk2 kk3) | (go_at_call 21; with_reducible refine (Hjc.out _).mono ?_; rintro e w1 ⟨rfl, hb⟩; replace hS := keep15 hb hS; clear hb k0 k1 k2 k3 k4 k5 k6 k7 k8 k9 k10 k11 k12 k13 k14; have ⟨⟨kk, kk', k0, k1, k2, k3, k4, k5, k6, k7, k8⟩, ⟨k9, k10, k11⟩, ⟨k12, k13, k14⟩, kk2, kk3⟩ := hS; clear kk kk' kk2 kk3) | (go_at_call 21; with_reducible refine (Hca.out _).mono ?_; rintro e w1 ⟨rfl, hb⟩; replace hS := keep15 hb hS; clear hb k0 k1 k2 k3 k4 k5 k6 k7 k8 k9 k10 k11 k12 k13 k14; have ⟨⟨kk, kk', k0, k1, k2, k3, k4, k5, k6, k7, k8⟩, ⟨k9, k10, k11⟩, ⟨k12, k13, k14⟩, kk2, kk3⟩ := hS; clear kk kk' kk2 kk3) | (go_at_call 21; with_reducible refine (Hcb.out _).mono ?_; rintro e w1 ⟨rfl, hb⟩; replace hS := keep15 hb hS; clear hb k0 k1 k2 k3 k4 k5 k6 k7 k8 k9 k10 k11 k12 k13 k14; have ⟨⟨kk, kk', k0, k1, k2, k3, k4, k5, k6, k7, k8⟩, ⟨k9, k10, k11⟩, ⟨k12, k13, k14⟩, kk2, kk3⟩ := hS; clear kk kk' kk2 kk3) | (go_at_call 21; with_reducible refine (Hcm.out _).mono ?_; rintro e w1 ⟨rfl, hb⟩; replace hS := keep15 hb hS; clear hb k0 k1 k2 k3 k4 k5 k6 k7 k8 k9 k10 k11 k12 k13 k14; have ⟨⟨kk, kk', k0, k1, k2, k3, k4, k5, k6, k7, k8⟩, ⟨k9, k10, k11⟩, ⟨k12, k13, k14⟩, kk2, kk3⟩ := hS; clear kk kk' kk2 kk3))
              go_meet
              exact ⟨rfl, hS⟩
        | true =>
          cases l3 with
          | false =>
            cases l6 with
            | false =>
              go_wp2_with (first | (go_at_call 21; with_reducible refine (Haj.out _).mono ?_; rintro e w1 ⟨rfl, hb⟩; replace hS := keep15 hb hS; clear hb k0 k1 k2 k3 k4 k5 k6 k7 k8 k9 k10 k11 k12 k13 k14; have ⟨⟨kk, kk', k0, k1, k2, k3, k4, k5, k6, k7, k8⟩, ⟨k9, k10, k11⟩, ⟨k12, k13, k14⟩, kk2, kk3⟩ := hS; clear kk kk' kk2 kk3) | (go_at_call 21; with_reducible refine (Hbj.out _).mono ?_; rintro e w1 ⟨rfl, hb⟩; replace hS := keep15 hb hS; clear hb k0 k1 k2 k3 k4 k5 k6 k7 k8 k9 k10 k11 k12 k13 k14; have ⟨⟨kk, kk', k0, k1, k2, k3, k4, k5, k6, k7, k8⟩, ⟨k9, k10, k11⟩, ⟨k12, k13, k14⟩, kk2, kk3⟩ := hS; clear kk kk' kk2 kk3) | (go_at_call 21; with_reducible refine (Hma.out _).mono ?_; rintro e w1 ⟨rfl, hb⟩; replace hS := keep15 hb hS; clear hb k0 k1 k2 k3 k4 k5 k6 k7 k8 k9 k10 k11 k12 k13 k14; have ⟨⟨kk, kk', k0, k1, k2, k3, k4, k5, k6, k7, k8⟩, ⟨k9, k10, k11⟩, ⟨k12, k13, k14⟩, kk2, kk3⟩ := hS; clear kk kk' kk2 kk3) | (go_at_call 21; with_reducible refine (Hmb.out _).mono ?_; rintro e w1 ⟨rfl, hb⟩; replace hS := keep15 hb hS; clear hb k0 k1 k2 k3 k4 k5 k6 k7 k8 k9 k10 k11 k12 k13 k14; have ⟨⟨kk, kk', k0, k1, k2, k3, k4, k5, k6, k7, k8⟩, ⟨k9, k10, k11⟩, ⟨k12, k13, k14⟩, kk2, kk3⟩ := hS; clear kk kk' kk2 kk3) | (go_at_call 21; with_reducible refine (Hab.out _).mono ?_; rintro e w1 ⟨rfl, hb⟩; replace hS := keep15 hb hS; clear hb k0 k1 k2 k3 k4 k5 k6 k7 k8 k9 k10 k11 k12 k13 k14; have ⟨⟨kk, kk', k0, k1, k2, k3, k4, k5, k6, k7, k8⟩, ⟨k9, k10, k11⟩, ⟨k12, k13, k14⟩, kk2, kk3⟩ := hS; clear kk kk' kk2 kk3) | (go_at_call 21; with_reducible refine (Hba.out _).mono ?_; rintro e w1 ⟨rfl, hb⟩; replace hS := keep15 hb hS; clear hb k0 k1 k2 k3 k4 k5 k6 k7 k8 k9 k10 k11 k12 k13 k14; have ⟨⟨kk, kk', k0, k1, k2, k3, k4, k5, k6, k7, k8⟩, ⟨k9, k10, k11⟩, ⟨k12, k13, k14⟩, kk2, kk3⟩ := hS; clear kk kk' kk2 kk3) | (go_at_call 21; with_reducible refine (Hbc.out _).mono ?_; rintro e w1 ⟨rfl, hb⟩; replace hS := keep15 hb hS; clear hb k0 k1 k2 k3 k4 k5 k6 k7 k8 k9 k10 k11 k12 k13 k14; have ⟨⟨kk, kk', k0, k1, k2, k3, k4, k5, k6, k7, k8⟩, ⟨k9, k10, k11⟩, ⟨k12, k13, k14⟩, kk2, kk3⟩ := hS; clear kk kk' kk2 kk3) | (go_at_call 21; with_reducible refine (Hac.out _).mono ?_; rintro e w1 ⟨rfl, hb⟩; replace hS := keep15 hb hS; clear hb k0 k1 k2 k3 k4 k5 k6 k7 k8 k9 k10 k11 k12 k13 k14; have ⟨⟨kk, kk', k0, k1, k2, k3, k4, k5, k6, k7, k8⟩, ⟨k9, k10, k11⟩, ⟨k12, k13, k14⟩, kk2, kk3⟩ := hS; clear kk kk' kk2 kk3) | (go_at_call 21; with_reducible refine (Hjc.out _).mono ?_; rintro e w1 ⟨rfl, hb⟩; replace hS := keep15 hb hS; clear hb k0 k1 k2 k3 k4 k5 k6 k7 k8 k9 k10 k11 k12 k13 k14; have ⟨⟨kk, kk', k0, k1, k2, k3, k4, k5, k6, k7, k8⟩, ⟨k9, k10, k11⟩, ⟨k12, k13, k14⟩, kk2, kk3⟩ := hS; clear kk kk' kk2 kk3) | (go_at_call 21; with_reducible refine (Hca.out _).mono ?_; rintro e w1 ⟨rfl, hb⟩; replace hS := keep15 hb hS; clear hb k0 k1 k2 k3 k4 k5 k6 k7 k8 k9 k10 k11 k12 k13 k14; have ⟨⟨kk, kk', k0, k1, k2, k3, k4, k5, k6, k7, k8⟩, ⟨k9, k10, k11⟩, ⟨k12, k13, k14⟩, kk2, kk3⟩ := hS; clear kk kk' kk2 kk3) | (go_at_call 21; with_reducible refine (Hcb.out _).mono ?_; rintro e w1 ⟨rfl, hb⟩; replace hS := keep15 hb hS; clear hb k0 k1 k2 k3 k4 k5 k6 k7 k8 k9 k10 k11 k12 k13 k14; have ⟨⟨kk, kk', k0, k1, k2, k3, k4, k5, k6, k7, k8⟩, ⟨k9, k10, k11⟩, ⟨k12, k13, k14⟩, kk2, kk3⟩ := hS; clear kk kk' kk2 kk3) | (go_at_call 21; with_reducible refine (Hcm.out _).mono ?_; rintro e w1 ⟨rfl, hb⟩; replace hS := keep15 hb hS; clear hb k0 k1 k2 k3 k4 k5 k6 k7 k8 k9 k10 k11 k12 k13 k14; have ⟨⟨kk, kk', k0, k1, k2, k3, k4, k5, k6, k7, k8⟩, ⟨k9, k10, k11⟩, ⟨k12, k13, k14⟩, kk2, kk3⟩ := hS; clear kk kk' kk2 kk3))
              go_meet
              exact ⟨rfl, hS⟩
            | true =>
              cases l7 with
              | false =>
                go_wp2_with (first | (go_at_call 21; with_reducible refine (Haj.out _).mono ?_; rintro e w1 ⟨rfl, hb⟩; replace hS := keep15 hb hS; clear hb k0 k1 k2 k3 k4 k5 k6 k7 k8 k9 k10 k11 k12 k13 k14; have ⟨⟨kk, kk', k0, k1, k2, k3, k4, k5, k6, k7, k8⟩, ⟨k9, k10, k11⟩, ⟨k12, k13, k14⟩, kk2, kk3⟩ := hS; clear kk kk' kk2 kk3) | (go_at_call 21; with_reducible refine (Hbj.out _).mono ?_; rintro e w1 ⟨rfl, hb⟩; replace hS := keep15 hb hS; clear hb k0 k1 k2 k3 k4 k5 k6 k7 k8 k9 k10 k11 k12 k13 k14; have ⟨⟨kk, kk', k0, k1, k2, k3, k4, k5, k6, k7, k8⟩, ⟨k9, k10, k11⟩, ⟨k12, k13, k14⟩, kk2, kk3⟩ := hS; clear kk kk' kk2 kk3) | (go_at_call 21; with_reducible refine (Hma.out _).mono ?_; rintro e w1 ⟨rfl, hb⟩; replace hS := keep15 hb hS; clear hb k0 k1 k2 k3 k4 k5 k6 k7 k8 k9 k10 k11 k12 k13 k14; have ⟨⟨kk, kk', k0, k1, k2, k3, k4, k5, k6, k7, k8⟩, ⟨k9, k10, k11⟩, ⟨k12, k13, k14⟩, kk2, kk3⟩ := hS; clear kk kk' kk2 kk3) | (go_at_call 21; with_reducible refine (Hmb.out _).mono ?_; rintro e w1 ⟨rfl, hb⟩; replace hS := keep15 hb hS; clear hb k0 k1 k2 k3 k4 k5 k6 k7 k8 k9 k10 k11 k12 k13 k14; have ⟨⟨kk, kk', k0, k1, k2, k3, k4, k5, k6, k7, k8⟩, ⟨k9, k10, k11⟩, ⟨k12, k13, k14⟩, kk2, kk3⟩ := hS; clear kk kk' kk2 kk3) | (go_at_call 21; with_reducible refine (Hab.out _).mono ?_; rintro e w1 ⟨rfl, hb⟩; replace hS := keep15 hb hS; clear hb k0 k1 k2 k3 k4 k5 k6 k7 k8 k9 k10 k11 k12 k13 k14; have ⟨⟨kk, kk', k0, k1, k2, k3, k4, k5, k6, k7, k8⟩, ⟨k9, k10, k11⟩, ⟨k12, k13, k14⟩, kk2, kk3⟩ := hS; clear kk kk' kk2 kk3) | (go_at_call 21; with_reducible refine (Hba.out _).mono ?_; rintro e w1 ⟨rfl, hb⟩; replace hS := keep15 hb hS; clear hb k0 k1 k2 k3 k4 k5 k6 k7 k8 k9 k10 k11 k12 k13 k14; have ⟨⟨kk, kk', k0, k1, k2, k3, k4, k5, k6, k7, k8⟩, ⟨k9, k10, k11⟩, ⟨k12, k13, k14⟩, kk2, kk3⟩ := hS; clear kk kk' kk2 kk3) | (go_at_call 21; with_reducible refine (Hbc.out _).mono ?_; rintro e w1 ⟨rfl, hb⟩; replace hS := keep15 hb hS; clear hb k0 k1 k2 k3 k4 k5 k6 k7 k8 k9 k10 k11 k12 k13 k14; have ⟨⟨kk, kk', k0, k1, k2, k3, k4, k5, k6, k7, k8⟩, ⟨k9, k10, k11⟩, ⟨k12, k13, k14⟩, kk2, kk3⟩ := hS; clear kk kk' kk2 kk3) | (go_at_call 21; with_reducible refine (Hac.out _).mono ?_; rintro e w1 ⟨rfl, hb⟩; replace hS := keep15 hb hS; clear hb k0 k1 k2 k3 k4 k5 k6 k7 k8 k9 k10 k11 k12 k13 k14; have ⟨⟨kk, kk', k0, k1, k2, k3, k4, k5, k6, k7, k8⟩, ⟨k9, k10, k11⟩, ⟨k12, k13, k14⟩, kk2, kk3⟩ := hS; clear kk kk' kk2 kk3) | (go_at_call 21; with_reducible refine (Hjc.out _).mono ?_; rintro e w1 ⟨rfl, hb⟩; replace hS := keep15 hb hS; clear hb k0 k1 k2 k3 k4 k5 k6 k7 k8 k9 k10 k11 k12 k13 k14; have ⟨⟨kk, kk', k0, k1, k2, k3, k4, k5, k6, k7, k8⟩, ⟨k9, k10, k11⟩, ⟨k12, k13, k14⟩, kk2, kk3⟩ := hS; clear kk kk' kk2 kk3) | (go_at_call 21; with_reducible refine (Hca.out _).mono ?_; rintro e w1 ⟨rfl, hb⟩; replace hS := keep15 hb hS; clear hb k0 k1 k2 k3 k4 k5 k6 k7 k8 k9 k10 k11 k12 k13 k14; have ⟨⟨kk, kk', k0, k1, k2, k3, k4, k5, k6, k7, k8⟩, ⟨k9, k10, k11⟩, ⟨k12, k13, k14⟩, kk2, kk3⟩ := hS; clear kk kk' kk2 kk3) | (go_at_call 21; with_reducible refine (Hcb.out _).mono ?_; rintro e w1 ⟨rfl, hb⟩; replace hS := keep15 hb hS; clear hb k0 k1 k2 k3 k4 k5 k6 k7 k8 k9 k10 k11 k12 k13 k14; have ⟨⟨kk, kk', k0, k1, k2, k3, k4, k5, k6, k7, k8⟩, ⟨k9, k10, k11⟩, ⟨k12, k13, k14⟩, kk2, kk3⟩ := hS; clear kk kk' kk2 kk3) | (go_at_call 21; with_reducible refine (Hcm.out _).mono ?_; rintro e w1 ⟨rfl, hb⟩; replace hS := keep15 hb hS; clear hb k0 k1 k2 k3 k4 k5 k6 k7 k8 k9 k10 k11 k12 k13 k14; have ⟨⟨kk, kk', k0, k1, k2, k3, k4, k5, k6, k7, k8⟩, ⟨k9, k10, k11⟩, ⟨k12, k13, k14⟩, kk2, kk3⟩ := hS; clear kk kk' kk2 kk3))
                go_meet
                exact ⟨rfl, hS⟩
              | true =>
                obtain rfl := T4.out rfl rfl
                go_wp2_with (first | (go_at_call 21; with_reducible refine (Haj.out _).mono ?_; rintro e w1 ⟨rfl, hb⟩; replace hS := keep15 hb hS; clear hb k0 k1 k2 k3 k4 k5 k6 k7 k8 k9 k10 k11 k12 k13 k14; have ⟨⟨kk, kk', k0, k1, k2, k3, k4, k5, k6, k7, k8⟩, ⟨k9, k10, k11⟩, ⟨k12, k13, k14⟩, kk2, kk3⟩ := hS; clear kk kk' kk2 kk3) | (go_at_call 21; with_reducible refine (Hbj.out _).mono ?_; rintro e w1 ⟨rfl, hb⟩; replace hS := keep15 hb hS; clear hb k0 k1 k2 k3 k4 k5 k6 k7 k8 k9 k10 k11 k12 k13 k14; have ⟨⟨kk, kk', k0, k1, k2, k3, k4, k5, k6, k7, k8⟩, ⟨k9, k10, k11⟩, ⟨k12, k13, k14⟩, kk2, kk3⟩ := hS; clear kk kk' kk2 kk3) | (go_at_call 21; with_reducible refine (Hma.out _).mono ?_; rintro e w1 ⟨rfl, hb⟩; replace hS := keep15 hb hS; clear hb k0 k1 k2 k3 k4 k5 k6 k7 k8 k9 k10 k11 k12 k13 k14; have ⟨⟨kk, kk', k0, k1, k2, k3, k4, k5, k6, k7, k8⟩, ⟨k9, k10, k11⟩, ⟨k12, k13, k14⟩, kk2, kk3⟩ := hS; clear kk kk' kk2 kk3) | (go_at_call 21; with_reducible refine (Hmb.out _).mono ?_; rintro e w1 ⟨rfl, hb⟩; replace hS := keep15 hb hS; clear hb k0 k1 k2 k3 k4 k5 k6 k7 k8 k9 k10 k11 k12 k13 k14; have ⟨⟨kk, kk', k0, k1, k2, k3, k4, k5, k6, k7, k8⟩, ⟨k9, k10, k11⟩, ⟨k12, k13, k14⟩, kk2, kk3⟩ := hS; clear kk kk' kk2 kk3) | (go_at_call 21; with_reducible refine (Hab.out _).mono ?_; rintro e w1 ⟨rfl, hb⟩; replace hS := keep15 hb hS; clear hb k0 k1 k2 k3 k4 k5 k6 k7 k8 k9 k10 k11 k12 k13 k14; have ⟨⟨kk, kk', k0, k1, k2, k3, k4, k5, k6, k7, k8⟩, ⟨k9, k10, k11⟩, ⟨k12, k13, k14⟩, kk2, kk3⟩ := hS; clear kk kk' kk2 kk3) | (go_at_call 21; with_reducible refine (Hba.out _).mono ?_; rintro e w1 ⟨rfl, hb⟩; replace hS := keep15 hb hS; clear hb k0 k1 k2 k3 k4 k5 k6 k7 k8 k9 k10 k11 k12 k13 k14; have ⟨⟨kk, kk', k0, k1, k2, k3, k4, k5, k6, k7, k8⟩, ⟨k9, k10, k11⟩, ⟨k12, k13, k14⟩, kk2, kk3⟩ := hS; clear kk kk' kk2 kk3) | (go_at_call 21; with_reducible refine (Hbc.out _).mono ?_; rintro e w1 ⟨rfl, hb⟩; replace hS := keep15 hb hS; clear hb k0 k1 k2 k3 k4 k5 k6 k7 k8 k9 k10 k11 k12 k13 k14; have ⟨⟨kk, kk', k0, k1, k2, k3, k4, k5, k6, k7, k8⟩, ⟨k9, k10, k11⟩, ⟨k12, k13, k14⟩, kk2, kk3⟩ := hS; clear kk kk' kk2 kk3) | (go_at_call 21; with_reducible refine (Hac.out _).mono ?_; rintro e w1 ⟨rfl, hb⟩; replace hS := keep15 hb hS; clear hb k0 k1 k2 k3 k4 k5 k6 k7 k8 k9 k10 k11 k12 k13 k14; have ⟨⟨kk, kk', k0, k1, k2, k3, k4, k5, k6, k7, k8⟩, ⟨k9, k10, k11⟩, ⟨k12, k13, k14⟩, kk2, kk3⟩ := hS; clear kk kk' kk2 kk3) | (go_at_call 21; with_reducible refine (Hjc.out _).mono ?_; rintro e w1 ⟨rfl, hb⟩; replace hS := keep15 hb hS; clear hb k0 k1 k2 k3 k4 k5 k6 k7 k8 k9 k10 k11 k12 k13 k14; have ⟨⟨kk, kk', k0, k1, k2, k3, k4, k5, k6, k7, k8⟩, ⟨k9, k10, k11⟩, ⟨k12, k13, k14⟩, kk2, kk3⟩ := hS; clear kk kk' kk2 kk3) | (go_at_call 21; with_reducible refine (Hca.out _).mono ?_; rintro e w1 ⟨rfl, hb⟩; replace hS := keep15 hb hS; clear hb k0 k1 k2 k3 k4 k5 k6 k7 k8 k9 k10 k11 k12 k13 k14; have ⟨⟨kk, kk', k0, k1, k2, k3, k4, k5, k6, k7, k8⟩, ⟨k9, k10, k11⟩, ⟨k12, k13, k14⟩, kk2, kk3⟩ := hS; clear kk kk' kk2 kk3) | (go_at_call 21; with_reducible refine (Hcb.out _).mono ?_; rintro e w1 ⟨rfl, hb⟩; replace hS := keep15 hb hS; clear hb k0 k1 k2 k3 k4 k5 k6 k7 k8 k9 k10 k11 k12 k13 k14; have ⟨⟨kk, kk', k0, k1, k2, k3, k4, k5, k6, k7, k8⟩, ⟨k9, k10, k11⟩, ⟨k12, k13, k14⟩, kk2, kk3⟩ := hS; clear kk kk' kk2 kk3) | (go_at_call 21; with_reducible refine (Hcm.out _).mono ?_; rintro e w1 ⟨rfl, hb⟩; replace hS := keep15 hb hS; clear hb k0 k1 k2 k3 k4 k5 k6 k7 k8 k9 k10 k11 k12 k13 k14; have ⟨⟨kk, kk', k0, k1, k2, k3, k4, k5, k6, k7, k8⟩, ⟨k9, k10, k11⟩, ⟨k12, k13, k14⟩, kk2, kk3⟩ := hS; clear kk kk' kk2 kk3))
                go_meet
                exact ⟨rfl, hS⟩
          | true =>
            obtain rfl := T3.out rfl rfl
            cases l6 with
            | false =>
              go_wp2_with (first | (go_at_call 21; with_reducible refine (Haj.out _).mono ?_; rintro e w1 ⟨rfl, hb⟩; replace hS := keep15 hb hS; clear hb k0 k1 k2 k3 k4 k5 k6 k7 k8 k9 k10 k11 k12 k13 k14; have ⟨⟨kk, kk', k0, k1, k2, k3, k4, k5, k6, k7, k8⟩, ⟨k9, k10, k11⟩, ⟨k12, k13, k14⟩, kk2, kk3⟩ := hS; clear kk kk' kk2 kk3) | (go_at_call 21; with_reducible refine (Hbj.out _).mono ?_; rintro e w1 ⟨rfl, hb⟩; replace hS := keep15 hb hS; clear hb k0 k1 k2 k3 k4 k5 k6 k7 k8 k9 k10 k11 k12 k13 k14; have ⟨⟨kk, kk', k0, k1, k2, k3, k4, k5, k6, k7, k8⟩, ⟨k9, k10, k11⟩, ⟨k12, k13, k14⟩, kk2, kk3⟩ := hS; clear kk kk' kk2 kk3) | (go_at_call 21; with_reducible refine (Hma.out _).mono ?_; rintro e w1 ⟨rfl, hb⟩; replace hS := keep15 hb hS; clear hb k0 k1 k2 k3 k4 k5 k6 k7 k8 k9 k10 k11 k12 k13 k14; have ⟨⟨kk, kk', k0, k1, k2, k3, k4, k5, k6, k7, k8⟩, ⟨k9, k10, k11⟩, ⟨k12, k13, k14⟩, kk2, kk3⟩ := hS; clear kk kk' kk2 kk3) | (go_at_call 21; with_reducible refine (Hmb.out _).mono ?_; rintro e w1 ⟨rfl, hb⟩; replace hS := keep15 hb hS; clear hb k0 k1 k2 k3 k4 k5 k6 k7 k8 k9 k10 k11 k12 k13 k14; have ⟨⟨kk, kk', k0, k1, k2, k3, k4, k5, k6, k7, k8⟩, ⟨k9, k10, k11⟩, ⟨k12, k13, k14⟩, kk2, kk3⟩ := hS; clear kk kk' kk2 kk3) | (go_at_call 21; with_reducible refine (Hab.out _).mono ?_; rintro e w1 ⟨rfl, hb⟩; replace hS := keep15 hb hS; clear hb k0 k1 k2 k3 k4 k5 k6 k7 k8 k9 k10 k11 k12 k13 k14; have ⟨⟨kk, kk', k0, k1, k2, k3, k4, k5, k6, k7, k8⟩, ⟨k9, k10, k11⟩, ⟨k12, k13, k14⟩, kk2, kk3⟩ := hS; clear kk kk' kk2 kk3) | (go_at_call 21; with_reducible refine (Hba.out _).mono ?_; rintro e w1 ⟨rfl, hb⟩; replace hS := keep15 hb hS; clear hb k0 k1 k2 k3 k4 k5 k6 k7 k8 k9 k10 k11 k12 k13 k14; have ⟨⟨kk, kk', k0, k1, k2, k3, k4, k5, k6, k7, k8⟩, ⟨k9, k10, k11⟩, ⟨k12, k13, k14⟩, kk2, kk3⟩ := hS; clear kk kk' kk2 kk3) | (go_at_call 21; with_reducible refine (Hbc.out _).mono ?_; rintro e w1 ⟨rfl, hb⟩; replace hS := keep15 hb hS; clear hb k0 k1 k2 k3 k4 k5 k6 k7 k8 k9 k10 k11 k12 k13 k14; have ⟨⟨kk, kk', k0, k1, k2, k3, k4, k5, k6, k7, k8⟩, ⟨k9, k10, k11⟩, ⟨k12, k13, k14⟩, kk2, kk3⟩ := hS; clear kk kk' kk2 kk3) | (go_at_call 21; with_reducible refine (Hac.out _).mono ?_; rintro e w1 ⟨rfl, hb⟩; replace hS := keep15 hb hS; clear hb k0 k1 k2 k3 k4 k5 k6 k7 k8 k9 k10 k11 k12 k13 k14; have ⟨⟨kk, kk', k0, k1, k2, k3, k4, k5, k6, k7, k8⟩, ⟨k9, k10, k11⟩, ⟨k12, k13, k14⟩, kk2, kk3⟩ := hS; clear kk kk' kk2 kk3) | (go_at_call 21; with_reducible refine (Hjc.out _).mono ?_; rintro e w1 ⟨rfl, hb⟩; replace hS := keep15 hb hS; clear hb k0 k1 k2 k3 k4 k5 k6 k7 k8 k9 k10 k11 k12 k13 k14; have ⟨⟨kk, kk', k0, k1, k2, k3, k4, k5, k6, k7, k8⟩, ⟨k9, k10, k11⟩, ⟨k12, k13, k14⟩, kk2, kk3⟩ := hS; clear kk kk' kk2 kk3) | (go_at_call 21; with_reducible refine (Hca.out _).mono ?_; rintro e w1 ⟨rfl, hb⟩; replace hS := keep15 hb hS; clear hb k0 k1 k2 k3 k4 k5 k6 k7 k8 k9 k10 k11 k12 k13 k14; have ⟨⟨kk, kk', k0, k1, k2, k3, k4, k5, k6, k7, k8⟩, ⟨k9, k10, k11⟩, ⟨k12, k13, k14⟩, kk2, kk3⟩ := hS; clear kk kk' kk2 kk3) | (go_at_call 21; with_reducible refine (Hcb.out _).mono ?_; rintro e w1 ⟨rfl, hb⟩; replace hS := keep15 hb hS; clear hb k0 k1 k2 k3 k4 k5 k6 k7 k8 k9 k10 k11 k12 k13 k14; have ⟨⟨kk, kk', k0, k1, k2, k3, k4, k5, k6, k7, k8⟩, ⟨k9, k10, k11⟩, ⟨k12, k13, k14⟩, kk2, kk3⟩ := hS; clear kk kk' kk2 kk3) | (go_at_call 21; with_reducible refine (Hcm.out _).mono ?_; rintro e w1 ⟨rfl, hb⟩; replace hS := keep15 hb hS; clear hb k0 k1 k2 k3 k4 k5 k6 k7 k8 k9 k10 k11 k12 k13 k14; have ⟨⟨kk, kk', k0, k1, k2, k3, k4, k5, k6, k7, k8⟩, ⟨k9, k10, k11⟩, ⟨k12, k13, k14⟩, kk2, kk3⟩ := hS; clear kk kk' kk2 kk3))
              go_meet
              exact ⟨rfl, hS⟩
            | true =>
              cases l7 with
              | false =>
                go_wp2_with (first | (go_at_call 21; with_reducible refine (Haj.out _).mono ?_; rintro e w1 ⟨rfl, hb⟩; replace hS := keep15 hb hS; clear hb k0 k1 k2 k3 k4 k5 k6 k7 k8 k9 k10 k11 k12 k13 k14; have ⟨⟨kk, kk', k0, k1, k2, k3, k4, k5, k6, k7, k8⟩, ⟨k9, k10, k11⟩, ⟨k12, k13, k14⟩, kk2, kk3⟩ := hS; clear kk kk' kk2 kk3) | (go_at_call 21; with_reducible refine (Hbj.out _).mono ?_; rintro e w1 ⟨rfl, hb⟩; replace hS := keep15 hb hS; clear hb k0 k1 k2 k3 k4 k5 k6 k7 k8 k9 k10 k11 k12 k13 k14; have ⟨⟨kk, kk', k0, k1, k2, k3, k4, k5, k6, k7, k8⟩, ⟨k9, k10, k11⟩, ⟨k12, k13, k14⟩, kk2, kk3⟩ := hS; clear kk kk' kk2 kk3) | (go_at_call 21; with_reducible refine (Hma.out _).mono ?_; rintro e w1 ⟨rfl, hb⟩; replace hS := keep15 hb hS; clear hb k0 k1 k2 k3 k4 k5 k6 k7 k8 k9 k10 k11 k12 k13 k14; have ⟨⟨kk, kk', k0, k1, k2, k3, k4, k5, k6, k7, k8⟩, ⟨k9, k10, k11⟩, ⟨k12, k13, k14⟩, kk2, kk3⟩ := hS; clear kk kk' kk2 kk3) | (go_at_call 21; with_reducible refine (Hmb.out _).mono ?_; rintro e w1 ⟨rfl, hb⟩; replace hS := keep15 hb hS; clear hb k0 k1 k2 k3 k4 k5 k6 k7 k8 k9 k10 k11 k12 k13 k14; have ⟨⟨kk, kk', k0, k1, k2, k3, k4, k5, k6, k7, k8⟩, ⟨k9, k10, k11⟩, ⟨k12, k13, k14⟩, kk2, kk3⟩ := hS; clear kk kk' kk2 kk3) | (go_at_call 21; with_reducible refine (Hab.out _).mono ?_; rintro e w1 ⟨rfl, hb⟩; replace hS := keep15 hb hS; clear hb k0 k1 k2 k3 k4 k5 k6 k7 k8 k9 k10 k11 k12 k13 k14; have ⟨⟨kk, kk', k0, k1, k2, k3, k4, k5, k6, k7, k8⟩, ⟨k9, k10, k11⟩, ⟨k12, k13, k14⟩, kk2, kk3⟩ := hS; clear kk kk' kk2 kk3) | (go_at_call 21; with_reducible refine (Hba.out _).mono ?_; rintro e w1 ⟨rfl, hb⟩; replace hS := keep15 hb hS; clear hb k0 k1 k2 k3 k4 k5 k6 k7 k8 k9 k10 k11 k12 k13 k14; have ⟨⟨kk, kk', k0, k1, k2, k3, k4, k5, k6, k7, k8⟩, ⟨k9, k10, k11⟩, ⟨k12, k13, k14⟩, kk2, kk3⟩ := hS; clear kk kk' kk2 kk3) | (go_at_call 21; with_reducible refine (Hbc.out _).mono ?_; rintro e w1 ⟨rfl, hb⟩; replace hS := keep15 hb hS; clear hb k0 k1 k2 k3 k4 k5 k6 k7 k8 k9 k10 k11 k12 k13 k14; have ⟨⟨kk, kk', k0, k1, k2, k3, k4, k5, k6, k7, k8⟩, ⟨k9, k10, k11⟩, ⟨k12, k13, k14⟩, kk2, kk3⟩ := hS; clear kk kk' kk2 kk3) | (go_at_call 21; with_reducible refine (Hac.out _).mono ?_; rintro e w1 ⟨rfl, hb⟩; replace hS := keep15 hb hS; clear hb k0 k1 k2 k3 k4 k5 k6 k7 k8 k9 k10 k11 k12 k13 k14; have ⟨⟨kk, kk', k0, k1, k2, k3, k4, k5, k6, k7, k8⟩, ⟨k9, k10, k11⟩, ⟨k12, k13, k14⟩, kk2, kk3⟩ := hS; clear kk kk' kk2 kk3) | (go_at_call 21; with_reducible refine (Hjc.out _).mono ?_; rintro e w1 ⟨rfl, hb⟩; replace hS := keep15 hb hS; clear hb k0 k1 k2 k3 k4 k5 k6 k7 k8 k9 k10 k11 k12 k13 k14; have ⟨⟨kk, kk', k0, k1, k2, k3, k4, k5, k6, k7, k8⟩, ⟨k9, k10, k11⟩, ⟨k12, k13, k14⟩, kk2, kk3⟩ := hS; clear kk kk' kk2 kk3) | (go_at_call 21; with_reducible refine (Hca.out _).mono ?_; rintro e w1 ⟨rfl, hb⟩; replace hS := keep15 hb hS; clear hb k0 k1 k2 k3 k4 k5 k6 k7 k8 k9 k10 k11 k12 k13 k14; have ⟨⟨kk, kk', k0, k1, k2, k3, k4, k5, k6, k7, k8⟩, ⟨k9, k10, k11⟩, ⟨k12, k13, k14⟩, kk2, kk3⟩ := hS; clear kk kk' kk2 kk3) | (go_at_call 21; with_reducible refine (Hcb.out _).mono ?_; rintro e w1 ⟨rfl, hb⟩; replace hS := keep15 hb hS; clear hb k0 k1 k2 k3 k4 k5 k6 k7 k8 k9 k10 k11 k12 k13 k14; have ⟨⟨kk, kk', k0, k1, k2, k3, k4, k5, k6, k7, k8⟩, ⟨k9, k10, k11⟩, ⟨k12, k13, k14⟩, kk2, kk3⟩ := hS; clear kk kk' kk2 kk3) | (go_at_call 21; with_reducible refine (Hcm.out _).mono ?_; rintro e w1 ⟨rfl, hb⟩; replace hS := keep15 hb hS; clear hb k0 k1 k2 k3 k4 k5 k6 k7 k8 k9 k10 k11 k12 k13 k14; have ⟨⟨kk, kk', k0, k1, k2, k3, k4, k5, k6, k7, k8⟩, ⟨k9, k10, k11⟩, ⟨k12, k13, k14⟩, kk2, kk3⟩ := hS; clear kk kk' kk2 kk3))
                go_meet
                exact ⟨rfl, hS⟩
              | true =>
                obtain rfl := T4.out rfl rfl
                go_wp2_with (first | (go_at_call 21; with_reducible refine (Haj.out _).mono ?_; rintro e w1 ⟨rfl, hb⟩; replace hS := keep15 hb hS; clear hb k0 k1 k2 k3 k4 k5 k6 k7 k8 k9 k10 k11 k12 k13 k14; have ⟨⟨kk, kk', k0, k1, k2, k3, k4, k5, k6, k7, k8⟩, ⟨k9, k10, k11⟩, ⟨k12, k13, k14⟩, kk2, kk3⟩ := hS; clear kk kk' kk2 kk3) | (go_at_call 21; with_reducible refine (Hbj.out _).mono ?_; rintro e w1 ⟨rfl, hb⟩; replace hS := keep15 hb hS; clear hb k0 k1 k2 k3 k4 k5 k6 k7 k8 k9 k10 k11 k12 k13 k14; have ⟨⟨kk, kk', k0, k1, k2, k3, k4, k5, k6, k7, k8⟩, ⟨k9, k10, k11⟩, ⟨k12, k13, k14⟩, kk2, kk3⟩ := hS; clear kk kk' kk2 kk3) | (go_at_call 21; with_reducible refine (Hma.out _).mono ?_; rintro e w1 ⟨rfl, hb⟩; replace hS := keep15 hb hS; clear hb k0 k1 k2 k3 k4 k5 k6 k7 k8 k9 k10 k11 k12 k13 k14; have ⟨⟨kk, kk', k0, k1, k2, k3, k4, k5, k6, k7, k8⟩, ⟨k9, k10, k11⟩, ⟨k12, k13, k14⟩, kk2, kk3⟩ := hS; clear kk kk' kk2 kk3) | (go_at_call 21; with_reducible refine (Hmb.out _).mono ?_; rintro e w1 ⟨rfl, hb⟩; replace hS := keep15 hb hS; clear hb k0 k1 k2 k3 k4 k5 k6 k7 k8 k9 k10 k11 k12 k13 k14; have ⟨⟨kk, kk', k0, k1, k2, k3, k4, k5, k6, k7, k8⟩, ⟨k9, k10, k11⟩, ⟨k12, k13, k14⟩, kk2, kk3⟩ := hS; clear kk kk' kk2 kk3) | (go_at_call 21; with_reducible refine (Hab.out _).mono ?_; rintro e w1 ⟨rfl, hb⟩; replace hS := keep15 hb hS; clear hb k0 k1 k2 k3 k4 k5 k6 k7 k8 k9 k10 k11 k12 k13 k14; have ⟨⟨kk, kk', k0, k1, k2, k3, k4, k5, k6, k7, k8⟩, ⟨k9, k10, k11⟩, ⟨k12, k13, k14⟩, kk2, kk3⟩ := hS; clear kk kk' kk2 kk3) | (go_at_call 21; with_reducible refine (Hba.out _).mono ?_; rintro e w1 ⟨rfl, hb⟩; replace hS := keep15 hb hS; clear hb k0 k1 k2 k3 k4 k5 k6 k7 k8 k9 k10 k11 k12 k13 k14; have ⟨⟨kk, kk', k0, k1, k2, k3, k4, k5, k6, k7, k8⟩, ⟨k9, k10, k11⟩, ⟨k12, k13, k14⟩, kk2, kk3⟩ := hS; clear kk kk' kk2 kk3) | (go_at_call 21; with_reducible refine (Hbc.out _).mono ?_; rintro e w1 ⟨rfl, hb⟩; replace hS := keep15 hb hS; clear hb k0 k1 k2 k3 k4 k5 k6 k7 k8 k9 k10 k11 k12 k13 k14; have ⟨⟨kk, kk', k0, k1, k2, k3, k4, k5, k6, k7, k8⟩, ⟨k9, k10, k11⟩, ⟨k12, k13, k14⟩, kk2, kk3⟩ := hS; clear kk kk' kk2 kk3) | (go_at_call 21; with_reducible refine (Hac.out _).mono ?_; rintro e w1 ⟨rfl, hb⟩; replace hS := keep15 hb hS; clear hb k0 k1 k2 k3 k4 k5 k6 k7 k8 k9 k10 k11 k12 k13 k14; have ⟨⟨kk, kk', k0, k1, k2, k3, k4, k5, k6, k7, k8⟩, ⟨k9, k10, k11⟩, ⟨k12, k13, k14⟩, kk2, kk3⟩ := hS; clear kk kk' kk2 kk3) | (go_at_call 21; with_reducible refine (Hjc.out _).mono ?_; rintro e w1 ⟨rfl, hb⟩; replace hS := keep15 hb hS; clear hb k0 k1 k2 k3 k4 k5 k6 k7 k8 k9 k10 k11 k12 k13 k14; have ⟨⟨kk, kk', k0, k1, k2, k3, k4, k5, k6, k7, k8⟩, ⟨k9, k10, k11⟩, ⟨k12, k13, k14⟩, kk2, kk3⟩ := hS; clear kk kk' kk2 kk3) | (go_at_call 21; with_reducible refine (Hca.out _).mono ?_; rintro e w1 ⟨rfl, hb⟩; replace hS := keep15 hb hS; clear hb k0 k1 k2 k3 k4 k5 k6 k7 k8 k9 k10 k11 k12 k13 k14; have ⟨⟨kk, kk', k0, k1, k2, k3, k4, k5, k6, k7, k8⟩, ⟨k9, k10, k11⟩, ⟨k12, k13, k14⟩, kk2, kk3⟩ := hS; clear kk kk' kk2 kk3) | (go_at_call 21; with_reducible refine (Hcb.out _).mono ?_; rintro e w1 ⟨rfl, hb⟩; replace hS := keep15 hb hS; clear hb k0 k1 k2 k3 k4 k5 k6 k7 k8 k9 k10 k11 k12 k13 k14; have ⟨⟨kk, kk', k0, k1, k2, k3, k4, k5, k6, k7, k8⟩, ⟨k9, k10, k11⟩, ⟨k12, k13, k14⟩, kk2, kk3⟩ := hS; clear kk kk' kk2 kk3) | (go_at_call 21; with_reducible refine (Hcm.out _).mono ?_; rintro e w1 ⟨rfl, hb⟩; replace hS := keep15 hb hS; clear hb k0 k1 k2 k3 k4 k5 k6 k7 k8 k9 k10 k11 k12 k13 k14; have ⟨⟨kk, kk', k0, k1, k2, k3, k4, k5, k6, k7, k8⟩, ⟨k9, k10, k11⟩, ⟨k12, k13, k14⟩, kk2, kk3⟩ := hS; clear kk kk' kk2 kk3))
                go_meet
                exact ⟨rfl, hS⟩
      case rest =>
        obtain ⟨rfl, hS⟩ := hcut
        clear k0 k1 k2 k3 k4 k5 k6 k7 k8 k9 k10 k11 k12 k13 k14
        have ⟨⟨kk, kk', k0, k1, k2, k3, k4, k5, k6, k7, k8⟩, ⟨k9, k10, k11⟩, ⟨k12, k13, k14⟩, kk2, kk3⟩ := hS; clear kk kk' kk2 kk3
        go_upto_region 9 with (first | (go_at_call 22; with_reducible refine (Hn.out _).mono ?_; rintro e w1 ⟨rfl, hb⟩; replace hS := keep15 hb hS; clear hb k0 k1 k2 k3 k4 k5 k6 k7 k8 k9 k10 k11 k12 k13 k14; have ⟨⟨kk, kk', k0, k1, k2, k3, k4, k5, k6, k7, k8⟩, ⟨k9, k10, k11⟩, ⟨k12, k13, k14⟩, kk2, kk3⟩ := hS; clear kk kk' kk2 kk3))
        cases ok with
        | false =>
          clear k0 k1 k2 k3 k4 k5 k6 k7 k8 k9 k10 k11 k12 k13 k14
          refine wp_region_held_drew (S := (fun w' => (Below w.heap.size w w' ∧ w.heap.size + 3 ≤ w'.heap.size ∧ w'.cell? ⟨w.heap.size, 0, none⟩ = some (.bool a0) ∧ w'.cell? ⟨w.heap.size, 1, none⟩ = some (.int .i64 a1) ∧ w'.cell? ⟨w.heap.size, 2, none⟩ = some (.int .i64 a2) ∧ w'.cell? ⟨w.heap.size + 1, 0, none⟩ = some (.bool b0) ∧ w'.cell? ⟨w.heap.size + 1, 1, none⟩ = some (.int .i64 b1) ∧ w'.cell? ⟨w.heap.size + 1, 2, none⟩ = some (.int .i64 b2) ∧ w'.cell? ⟨w.heap.size + 1 + 1, 0, none⟩ = some (.bool c0) ∧ w'.cell? ⟨w.heap.size + 1 + 1, 1, none⟩ = some (.int .i64 c1) ∧ w'.cell? ⟨w.heap.size + 1 + 1, 2, none⟩ = some (.int .i64 c2)) ∧ (w'.cell? ⟨n9, 0, none⟩ = some (.bool j0) ∧ w'.cell? ⟨n9, 1, none⟩ = some (.int .i64 j1) ∧ w'.cell? ⟨n9, 2, none⟩ = some (.int .i64 j2)) ∧ (w'.cell? ⟨n10, 0, none⟩ = some (.bool m0) ∧ w'.cell? ⟨n10, 1, none⟩ = some (.int .i64 m1) ∧ w'.cell? ⟨n10, 2, none⟩ = some (.int .i64 m2)) ∧ n9 < w'.heap.size ∧ n10 < w'.heap.size)) (by kernel_rfl) (keep15d hS) (fun hHeld => ?_)
          refine wpAnyH_take (i := 0) (v := .bool false) rfl (by kernel_rfl) (by kernel_rfl) (by kernel_rfl) (fun _ _ _ h => h) (Or.inl ⟨by rfl, fun w hSw => by (try dsimp only at hSw); go_simp⟩) (by assumption) ?_
          try simp only [Act.put, List.setIfInBounds_toArray, List.set_cons_zero, List.set_cons_succ]
          refine wpAnyH_take (i := 1) (v := .bool true) rfl (by kernel_rfl) (by kernel_rfl) (by kernel_rfl) (fun _ _ _ h => h) (Or.inl ⟨by rfl, fun w hSw => by (try dsimp only at hSw); go_simp⟩) (by assumption) ?_
          try simp only [Act.put, List.setIfInBounds_toArray, List.set_cons_zero, List.set_cons_succ]
          refine wpAnyH_take (i := 2) (v := .bool true) rfl (by kernel_rfl) (by kernel_rfl) (by kernel_rfl) (fun _ _ _ h => h) (Or.inl ⟨by rfl, fun w hSw => by (try dsimp only at hSw); go_simp⟩) (by assumption) ?_
          try simp only [Act.put, List.setIfInBounds_toArray, List.set_cons_zero, List.set_cons_succ]
          refine wpAnyH_take (i := 3) (v := undef) rfl (by kernel_rfl) (by kernel_rfl) (by kernel_rfl) (fun _ _ _ h => h) (Or.inr ⟨by rfl, rfl⟩) (by assumption) ?_
          try simp only [Act.put, List.setIfInBounds_toArray, List.set_cons_zero, List.set_cons_succ]
          refine wpAnyH_take (i := 4) (v := undef) rfl (by kernel_rfl) (by kernel_rfl) (by kernel_rfl) (fun _ _ _ h => h) (Or.inr ⟨by rfl, rfl⟩) (by assumption) ?_
          try simp only [Act.put, List.setIfInBounds_toArray, List.set_cons_zero, List.set_cons_succ]
          refine wpAnyH_take (i := 6) (v := undef) rfl (by kernel_rfl) (by kernel_rfl) (by kernel_rfl) (fun _ _ _ h => h) (Or.inr ⟨by rfl, rfl⟩) (by assumption) ?_
          try simp only [Act.put, List.setIfInBounds_toArray, List.set_cons_zero, List.set_cons_succ]
          refine wpAnyH_take (i := 7) (v := undef) rfl (by kernel_rfl) (by kernel_rfl) (by kernel_rfl) (fun _ _ _ h => h) (Or.inr ⟨by rfl, rfl⟩) (by assumption) ?_
          try simp only [Act.put, List.setIfInBounds_toArray, List.set_cons_zero, List.set_cons_succ]
          refine wpAnyH_ready (rs := [5]) (by kernel_rfl) (by simp) ?_
          refine AllReadyH.cons rfl (fun K hK => ?_) AllReadyH.nil
          go_simp
          refine hK.out _ _ (by assumption) (fun hHeld => ?_)
          clear hK K
          try simp only [Act.put, List.setIfInBounds_toArray, List.set_cons_zero, List.set_cons_succ]
          refine wpAnyH_ready (rs := [8]) (by kernel_rfl) (by simp) ?_
          refine AllReadyH.cons rfl (fun K hK => ?_) AllReadyH.nil
          go_simp
          refine hK.out _ _ (by assumption) (fun hHeld => ?_)
          clear hK K
          try simp only [Act.put, List.setIfInBounds_toArray, List.set_cons_zero, List.set_cons_succ]
          refine wpAnyH_take (i := 9) (v := undef) rfl (by kernel_rfl) (by kernel_rfl) (by kernel_rfl) (fun _ _ _ h => h) (Or.inr ⟨by rfl, rfl⟩) (by assumption) ?_
          try simp only [Act.put, List.setIfInBounds_toArray, List.set_cons_zero, List.set_cons_succ]
          refine wpAnyH_take (i := 10) (v := .bool true) rfl (by kernel_rfl) (by kernel_rfl) (by kernel_rfl) (fun _ _ _ h => h) (Or.inl ⟨by rfl, fun w hSw => by (try dsimp only at hSw); go_simp⟩) (by assumption) ?_
          try simp only [Act.put, List.setIfInBounds_toArray, List.set_cons_zero, List.set_cons_succ]
          refine wpAnyH_take (i := 11) (v := .bool true) rfl (by kernel_rfl) (by kernel_rfl) (by kernel_rfl) (fun _ _ _ h => h) (Or.inl ⟨by rfl, fun w hSw => by (try dsimp only at hSw); go_simp⟩) (by assumption) ?_
          try simp only [Act.put, List.setIfInBounds_toArray, List.set_cons_zero, List.set_cons_succ]
          refine wpAnyH_ready (rs := [12]) (by kernel_rfl) (by simp) ?_
          refine AllReadyH.cons rfl (fun K hK => ?_) AllReadyH.nil
          go_simp
          go_at_call 18; with_reducible refine (Haw.out _).mono ?_; rintro e w2 ⟨rfl, hb⟩
          refine hK.out _ _ (keep15 (by assumption) (by assumption)) (fun hHeld => ?_)
          clear hK K
          try simp only [Act.put, List.setIfInBounds_toArray, List.set_cons_zero, List.set_cons_succ]
          refine wpAnyH_take (i := 13) (v := .bool true) rfl (by kernel_rfl) (by kernel_rfl) (by kernel_rfl) (fun _ _ _ h => h) (Or.inl ⟨by rfl, fun w hSw => by (try dsimp only at hSw); go_simp⟩) (by assumption) ?_
          try simp only [Act.put, List.setIfInBounds_toArray, List.set_cons_zero, List.set_cons_succ]
          refine wpAnyH_take (i := 14) (v := .bool true) rfl (by kernel_rfl) (by kernel_rfl) (by kernel_rfl) (fun _ _ _ h => h) (Or.inl ⟨by rfl, fun w hSw => by (try dsimp only at hSw); go_simp⟩) (by assumption) ?_
          try simp only [Act.put, List.setIfInBounds_toArray, List.set_cons_zero, List.set_cons_succ]
          refine wpAnyH_done (by kernel_rfl) ?_ _
          simp only [Act.put, List.getElem_toArray, List.getElem_cons_succ, List.getElem_cons_zero, List.setIfInBounds_toArray, List.set_cons_zero, List.set_cons_succ]
          go_wp2
          go_ret
          exact ⟨rfl, (by assumption : (Below w.heap.size w w2 ∧ _) ∧ _).1.1⟩
        | true =>
          have HM := Lib.hid (Hhm.out rfl)
          have HB := Lib.hid (Hhb.out rfl)
          clear k0 k1 k2 k3 k4 k5 k6 k7 k8 k9 k10 k11 k12 k13 k14
          cases h
          all_goals (
            go_region_held3 (fun w' => (Below w.heap.size w w' ∧ w.heap.size + 3 ≤ w'.heap.size ∧ w'.cell? ⟨w.heap.size, 0, none⟩ = some (.bool a0) ∧ w'.cell? ⟨w.heap.size, 1, none⟩ = some (.int .i64 a1) ∧ w'.cell? ⟨w.heap.size, 2, none⟩ = some (.int .i64 a2) ∧ w'.cell? ⟨w.heap.size + 1, 0, none⟩ = some (.bool b0) ∧ w'.cell? ⟨w.heap.size + 1, 1, none⟩ = some (.int .i64 b1) ∧ w'.cell? ⟨w.heap.size + 1, 2, none⟩ = some (.int .i64 b2) ∧ w'.cell? ⟨w.heap.size + 1 + 1, 0, none⟩ = some (.bool c0) ∧ w'.cell? ⟨w.heap.size + 1 + 1, 1, none⟩ = some (.int .i64 c1) ∧ w'.cell? ⟨w.heap.size + 1 + 1, 2, none⟩ = some (.int .i64 c2)) ∧ (w'.cell? ⟨n9, 0, none⟩ = some (.bool j0) ∧ w'.cell? ⟨n9, 1, none⟩ = some (.int .i64 j1) ∧ w'.cell? ⟨n9, 2, none⟩ = some (.int .i64 j2)) ∧ (w'.cell? ⟨n10, 0, none⟩ = some (.bool m0) ∧ w'.cell? ⟨n10, 1, none⟩ = some (.int .i64 m1) ∧ w'.cell? ⟨n10, 2, none⟩ = some (.int .i64 m2)) ∧ n9 < w'.heap.size ∧ n10 < w'.heap.size) (first | with_reducible exact keep15d hS | with_reducible exact keep15 (by assumption) (by assumption))
              (first | (go_at_call 14; with_reducible refine (HM.out _).mono ?_; rintro e w1 ⟨rfl, hb⟩) | (go_at_call 14; with_reducible refine (HB.out _).mono ?_; rintro e w1 ⟨rfl, hb⟩) | (go_at_call 18; with_reducible refine (Haw.out _).mono ?_; rintro e w2 ⟨rfl, hb⟩)))
          all_goals (
            rename_i hS2
            go_wp2
            go_ret
            exact ⟨rfl, hS2.1.1⟩)
end Go.Proofs.YtfmmjekhknaniaaDoor.Lt

namespace Go.Proofs.YtfmmjekhknaniaaDoor.Core

def Sub (a b : Cg) : Prop := ∀ x, Mem a x → Mem b x
open Classical in
noncomputable def leqB (a b : Cg) : Bool := decide (Sub a b)
theorem leqB_iff {a b : Cg} : leqB a b = true ↔ Sub a b := by unfold leqB; simp
theorem Sub.refl (a : Cg) : Sub a a := fun _ h => h
theorem Sub.trans {a b c : Cg} (h : Sub a b) (k : Sub b c) : Sub a c := fun x hx => k x (h x hx)
theorem Sub.none {a : Cg} (b : Cg) (h : a.1 = true) : Sub a b := fun x hx => by rw [hx.1] at h; cases h
theorem sub_antisymm {a b : Cg} (ha : Fit a) (hb : Fit b) (h : Sub a b) (k : Sub b a) : a = b := fit_ext ha hb fun x => ⟨h x, k x⟩
theorem none_of_sub {a b : Cg} (ha : Fit a) (h : Sub a b) (hb : b.1 = true) : a = (true, 0, 0) := by
  by_cases hn : a.1 = true
  · exact fit_of_none ha hn
  · obtain ⟨x, hx⟩ := fit_some ha (by simpa using hn)
    have := (h x hx).1
    rw [hb] at this; cases this

theorem bfalse {b : Bool} (h : ¬ b = true) : b = false := by simpa using h

def joinS (a b : Cg) : Cg := if a.1 = true then b else if b.1 = true then a else norm (G (G a.2.1 b.2.1) (a.2.2 - b.2.2)) a.2.2
theorem fit_join {a b : Cg} (ha : Fit a) (hb : Fit b) : Fit (joinS a b) := by
  unfold joinS; split
  · exact hb
  · split
    · exact ha
    · exact fit_norm (G_nonneg _ _)
theorem sub_join_l {a b : Cg} : Sub a (joinS a b) := by
  unfold joinS
  by_cases h1 : a.1 = true
  · exact Sub.none _ h1
  · rw [if_neg h1]
    by_cases h2 : b.1 = true
    · rw [if_pos h2]; exact Sub.refl _
    · rw [if_neg h2]
      intro x hx
      rw [mem_norm (G_nonneg _ _)]
      exact ⟨hx.2.1, Int.dvd_trans (Int.dvd_trans (G_dvd_l _ _) (G_dvd_l _ _)) hx.2.2⟩
theorem sub_join_r {a b : Cg} : Sub b (joinS a b) := by
  unfold joinS
  by_cases h1 : a.1 = true
  · rw [if_pos h1]; exact Sub.refl _
  · rw [if_neg h1]
    by_cases h2 : b.1 = true
    · exact Sub.none _ h2
    · rw [if_neg h2]
      intro x hx
      rw [mem_norm (G_nonneg _ _)]
      exact ⟨hx.2.1, dvd_sub_trans (Int.dvd_trans (Int.dvd_trans (G_dvd_l _ _) (G_dvd_r _ _)) hx.2.2) (dvd_sub_comm' (G_dvd_r _ _))⟩
theorem join_least {a b c : Cg} (ha : Fit a) (hb : Fit b) (h : Sub a c) (k : Sub b c) : Sub (joinS a b) c := by
  unfold joinS
  by_cases h1 : a.1 = true
  · rw [if_pos h1]; exact k
  · rw [if_neg h1]
    by_cases h2 : b.1 = true
    · rw [if_pos h2]; exact h
    · rw [if_neg h2]
      obtain ⟨c0, c1, c2⟩ := sub_dvd ha (bfalse h1) h
      obtain ⟨_, d1, d2⟩ := sub_dvd hb (bfalse h2) k
      intro x hx
      rw [mem_norm (G_nonneg _ _)] at hx
      refine ⟨c0, hx.1, dvd_sub_trans (Int.dvd_trans ?_ hx.2) c2⟩
      rw [dvd_G, dvd_G]
      exact ⟨⟨c1, d1⟩, dvd_sub_trans c2 (dvd_sub_comm' d2)⟩
theorem join_eq_iff {a b : Cg} (ha : Fit a) (hb : Fit b) : joinS a b = b ↔ Sub a b :=
  ⟨fun h => by have := sub_join_l (a := a) (b := b); rwa [h] at this, fun h => sub_antisymm (fit_join ha hb) hb (join_least ha hb h (Sub.refl _)) sub_join_r⟩

/-- what both have. -/
def IsMeet (a b r : Cg) : Prop := Fit r ∧ ∀ x, Mem r x ↔ Mem a x ∧ Mem b x
theorem IsMeet.comm {a b r : Cg} (h : IsMeet a b r) : IsMeet b a r := ⟨h.1, fun x => (h.2 x).trans And.comm⟩

end Go.Proofs.YtfmmjekhknaniaaDoor.Core

namespace Go.Proofs.YtfmmjekhknaniaaDoor.Pr
open Go.RowKit Go.Proofs.YtfmmjekhknaniaaDoor.Given Go.Proofs.YtfmmjekhknaniaaDoorW.PrintWords Go.Proofs.YtfmmjekhknaniaaDoorW.PrintLast Go.Proofs.YtfmmjekhknaniaaDoorW.PrintMore
attribute [local go_sem] max2_int min2_int max_two min_two max_three min_three max_four min_four   -- for this text's walks alone
set_option linter.unusedVariables false
set_option linter.unusedSimpArgs false

def congr_apart.f (k : Nat) (a0_0 : Bool) (a0_1 : Int) (a0_2 : Int) (a1_0 : Bool) (a1_1 : Int) (a1_2 : Int) : Option (Int) := (congr_gcd_uint64.f k (IntKind.u64.wrap (a0_1)) (IntKind.u64.wrap (a1_1))).bind fun t176 => ((congr_size.f (wrap64 (a0_2 - a1_2))).bind fun t177 => ((congr_gcd_uint64.f k t176 t177).bind fun t178 => (some t178)))
theorem congr_apart.mono : ∀ a0 a1 a2 a3 a4 a5 k, LeO (congr_apart.f k a0 a1 a2 a3 a4 a5) (congr_apart.f (k + 1) a0 a1 a2 a3 a4 a5) := by
  intro a0 a1 a2 a3 a4 a5 k
  unfold congr_apart.f
  repeat' first
      | (with_reducible exact congr_gcd_uint64.mono _ _ _)
      | (with_reducible exact LeO.refl _)
      | (with_reducible exact LeO.none _)
      | (with_reducible refine LeO.ite ?_ ?_)
      | (with_reducible refine LeO.bind ?_ (fun _ => ?_))
      | exact congr_gcd_uint64.mono _ _ _
      | exact LeO.none _
      | refine LeO.ite ?_ ?_
      | refine LeO.bind ?_ (fun _ => ?_)
set_option maxHeartbeats 8000000 in
set_option maxRecDepth 100000 in
theorem congr_apart.calls (k : Nat) (a0_0 : Bool) (a0_1 : Int) (a0_2 : Int) (a1_0 : Bool) (a1_1 : Int) (a1_2 : Int) (r : Int) (w : World) (h : congr_apart.f k a0_0 a0_1 a0_2 a1_0 a1_1 a1_2 = some r) :
    Calls Tryd.prog 61 #[.agg #[.bool a0_0, .int .i64 a0_1, .int .i64 a0_2], .agg #[.bool a1_0, .int .i64 a1_1, .int .i64 a1_2]] w fun e w' => e = .returned (.int .u64 r) ∧ Below w.heap.size w w' := by
  have hu23 := Tryd.underlying23
  have HB := Aside0.mk (Below.refl w.heap.size w)
  have H : ((congr_gcd_uint64.f k (IntKind.u64.wrap (a0_1)) (IntKind.u64.wrap (a1_1))).bind fun t176 => ((congr_size.f (wrap64 (a0_2 - a1_2))).bind fun t177 => ((congr_gcd_uint64.f k t176 t177).bind fun t178 => (some t178)))) = some r := h
  clear h
  replace H := Option.bind_eq_some_iff.mp H
  obtain ⟨t176, A30, H⟩ := H
  replace H : ((congr_size.f (wrap64 (a0_2 - a1_2))).bind fun t177 => ((congr_gcd_uint64.f k t176 t177).bind fun t178 => (some t178))) = some r := H
  have A3 := Aside0.mk A30
  clear A30
  replace H := Option.bind_eq_some_iff.mp H
  obtain ⟨t177, A40, H⟩ := H
  replace H : ((congr_gcd_uint64.f k t176 t177).bind fun t178 => (some t178)) = some r := H
  have A4 := Aside0.mk A40
  clear A40
  replace H := Option.bind_eq_some_iff.mp H
  obtain ⟨t178, A50, H⟩ := H
  replace H : (some t178) = some r := H
  have A5 := Aside0.mk A50
  clear A50
  obtain rfl := Option.some.inj H
  go_enter Tryd.func61, Tryd.ntmps61
  go_wp2_with (first | ((with_reducible refine gate_dst (N := 2) rfl ?_); refine box_event ?hg (N := 2) ?hd (cs := #[.bool a0_0, .int .i64 a0_1, .int .i64 a0_2]) (t := 23) ?hr ?_; (case hd => rfl); (case hg => rfl); (case hr => first | (go_simp; done) | (go_simp; rfl)); intro gb174 hg w6 hbox hb; have n0_ := Aside0.mk (below_step (by repeat (first | (with_reducible first | exact HB.out | apply below_alloc | apply pw_below_drewN | apply below_drew1) | exact HB.out)) hb); have n1_ := Aside0.mk (hbox); have n2_ := Aside0.mk ((by rw [hg]; exact (below_size (by repeat (first | (with_reducible first | exact HB.out | apply below_alloc | apply pw_below_drewN | apply below_drew1) | exact HB.out))) : w.heap.size ≤ gb174)); have n3_ := Aside0.mk ((by rw [hg]; exact (below_size (by repeat (first | (with_reducible first | exact HB.out | apply below_alloc | apply pw_below_drewN | apply below_drew1) | exact HB.out))) : w.heap.size ≤ gb174)); clear HB; have HB := n0_; have BK174 := n1_; have GW174 := n2_; have GE174 := n3_; clear n0_ n1_ n2_ n3_; clear hb hbox hg) | ((with_reducible refine gate_dst (N := 3) rfl ?_); refine box_event ?hg (N := 3) ?hd (cs := #[.bool a1_0, .int .i64 a1_1, .int .i64 a1_2]) (t := 23) ?hr ?_; (case hd => rfl); (case hg => rfl); (case hr => first | (go_simp; done) | (go_simp; rfl)); intro gb175 hg w7 hbox hb; have n0_ := Aside0.mk (blk_below (g := gb174) (o := .cells #[.bool a0_0, .int .i64 a0_1, .int .i64 a0_2] 23 (0, 0)) (by (with_reducible repeat (first | refine blk_drewN ?_ _ | refine blk_drew ?_ | refine blk_alloc ?_ _)); exact BK174.out) hb); have n1_ := Aside0.mk (below_step (by repeat (first | (with_reducible first | exact HB.out | apply below_alloc | apply pw_below_drewN | apply below_drew1 | refine below_set ?_ GE174.out) | exact HB.out)) hb); have n2_ := Aside0.mk (hbox); have n3_ := Aside0.mk ((by rw [hg]; exact (below_size (by repeat (first | (with_reducible first | exact HB.out | apply below_alloc | apply pw_below_drewN | apply below_drew1 | refine below_set ?_ GE174.out) | exact HB.out))) : w.heap.size ≤ gb175)); have n4_ := Aside0.mk ((by rw [hg]; exact (below_size (by repeat (first | (with_reducible first | exact HB.out | apply below_alloc | apply pw_below_drewN | apply below_drew1 | refine below_set ?_ GE174.out) | exact HB.out))) : w.heap.size ≤ gb175)); have n5_ := Aside0.mk ((by rw [hg]; exact Nat.ne_of_lt (blk_lt (g := gb174) (o := .cells #[.bool a0_0, .int .i64 a0_1, .int .i64 a0_2] 23 (0, 0)) (by (with_reducible repeat (first | refine blk_drewN ?_ _ | refine blk_drew ?_ | refine blk_alloc ?_ _)); exact BK174.out)) : gb174 ≠ gb175)); have n6_ := Aside0.mk ((by rw [hg]; exact Nat.ne_of_gt (blk_lt (g := gb174) (o := .cells #[.bool a0_0, .int .i64 a0_1, .int .i64 a0_2] 23 (0, 0)) (by (with_reducible repeat (first | refine blk_drewN ?_ _ | refine blk_drew ?_ | refine blk_alloc ?_ _)); exact BK174.out)) : gb175 ≠ gb174)); clear BK174; clear HB; have BK174 := n0_; have HB := n1_; have BK175 := n2_; have GW175 := n3_; have GE175 := n4_; have NB174_175 := n5_; have NB175_174 := n6_; clear n0_ n1_ n2_ n3_ n4_ n5_ n6_; clear hb hbox hg; have hnb8 := NB174_175.out; have hnc8 := NB175_174.out; have hcz9_0 : w7.cell? ⟨gb174, 0, none⟩ = some (.bool a0_0) := (blk_cell BK174.out 0).trans rfl; have hcz9_1 : w7.cell? ⟨gb174, 1, none⟩ = some (.int .i64 a0_1) := (blk_cell BK174.out 1).trans rfl; have hcz9_2 : w7.cell? ⟨gb174, 2, none⟩ = some (.int .i64 a0_2) := (blk_cell BK174.out 2).trans rfl; have hfz9_0 := blk_frozen BK174.out 0; have hfz9_1 := blk_frozen BK174.out 1; have hfz9_2 := blk_frozen BK174.out 2; have hcz10_0 : w7.cell? ⟨gb175, 0, none⟩ = some (.bool a1_0) := (blk_cell BK175.out 0).trans rfl; have hcz10_1 : w7.cell? ⟨gb175, 1, none⟩ = some (.int .i64 a1_1) := (blk_cell BK175.out 1).trans rfl; have hcz10_2 : w7.cell? ⟨gb175, 2, none⟩ = some (.int .i64 a1_2) := (blk_cell BK175.out 2).trans rfl; have hfz10_0 := blk_frozen BK175.out 0; have hfz10_1 := blk_frozen BK175.out 1; have hfz10_2 := blk_frozen BK175.out 2) | (go_at_call 62; (with_reducible refine (congr_gcd_uint64.calls k (IntKind.u64.wrap (a0_1)) (IntKind.u64.wrap (a1_1)) t176 _ A3.out).mono ?_); rintro e w' ⟨rfl, ⟨nd, rfl⟩⟩; (try first | exact ⟨rfl, _, World.drewN_drewN _ _ _⟩ | exact ⟨rfl, _, Eq.trans (World.drewN_drewN _ _ _) (congrArg (World.drewN _) (Nat.add_assoc _ _ _))⟩)) | (go_at_call 52; (with_reducible refine (congr_size.calls (wrap64 (a0_2 - a1_2)) t177 _ A4.out).mono ?_); rintro e w' ⟨rfl, ⟨nd, rfl⟩⟩; (try first | exact ⟨rfl, _, World.drewN_drewN _ _ _⟩ | exact ⟨rfl, _, Eq.trans (World.drewN_drewN _ _ _) (congrArg (World.drewN _) (Nat.add_assoc _ _ _))⟩)) | (go_at_call 62; (with_reducible refine (congr_gcd_uint64.calls k t176 t177 t178 _ A5.out).mono ?_); rintro e w' ⟨rfl, ⟨nd, rfl⟩⟩; (try first | exact ⟨rfl, _, World.drewN_drewN _ _ _⟩ | exact ⟨rfl, _, Eq.trans (World.drewN_drewN _ _ _) (congrArg (World.drewN _) (Nat.add_assoc _ _ _))⟩)))
  repeat (go_quiet (first | ((with_reducible refine gate_dst (N := 2) rfl ?_); refine box_event ?hg (N := 2) ?hd (cs := #[.bool a0_0, .int .i64 a0_1, .int .i64 a0_2]) (t := 23) ?hr ?_; (case hd => rfl); (case hg => rfl); (case hr => first | (go_simp; done) | (go_simp; rfl)); intro gb174 hg w6 hbox hb; have n0_ := Aside0.mk (below_step (by repeat (first | (with_reducible first | exact HB.out | apply below_alloc | apply pw_below_drewN | apply below_drew1) | exact HB.out)) hb); have n1_ := Aside0.mk (hbox); have n2_ := Aside0.mk ((by rw [hg]; exact (below_size (by repeat (first | (with_reducible first | exact HB.out | apply below_alloc | apply pw_below_drewN | apply below_drew1) | exact HB.out))) : w.heap.size ≤ gb174)); have n3_ := Aside0.mk ((by rw [hg]; exact (below_size (by repeat (first | (with_reducible first | exact HB.out | apply below_alloc | apply pw_below_drewN | apply below_drew1) | exact HB.out))) : w.heap.size ≤ gb174)); clear HB; have HB := n0_; have BK174 := n1_; have GW174 := n2_; have GE174 := n3_; clear n0_ n1_ n2_ n3_; clear hb hbox hg) | ((with_reducible refine gate_dst (N := 3) rfl ?_); refine box_event ?hg (N := 3) ?hd (cs := #[.bool a1_0, .int .i64 a1_1, .int .i64 a1_2]) (t := 23) ?hr ?_; (case hd => rfl); (case hg => rfl); (case hr => first | (go_simp; done) | (go_simp; rfl)); intro gb175 hg w7 hbox hb; have n0_ := Aside0.mk (blk_below (g := gb174) (o := .cells #[.bool a0_0, .int .i64 a0_1, .int .i64 a0_2] 23 (0, 0)) (by (with_reducible repeat (first | refine blk_drewN ?_ _ | refine blk_drew ?_ | refine blk_alloc ?_ _)); exact BK174.out) hb); have n1_ := Aside0.mk (below_step (by repeat (first | (with_reducible first | exact HB.out | apply below_alloc | apply pw_below_drewN | apply below_drew1 | refine below_set ?_ GE174.out) | exact HB.out)) hb); have n2_ := Aside0.mk (hbox); have n3_ := Aside0.mk ((by rw [hg]; exact (below_size (by repeat (first | (with_reducible first | exact HB.out | apply below_alloc | apply pw_below_drewN | apply below_drew1 | refine below_set ?_ GE174.out) | exact HB.out))) : w.heap.size ≤ gb175)); have n4_ := Aside0.mk ((by rw [hg]; exact (below_size (by repeat (first | (with_reducible first | exact HB.out | apply below_alloc | apply pw_below_drewN | apply below_drew1 | refine below_set ?_ GE174.out) | exact HB.out))) : w.heap.size ≤ gb175)); have n5_ := Aside0.mk ((by rw [hg]; exact Nat.ne_of_lt (blk_lt (g := gb174) (o := .cells #[.bool a0_0, .int .i64 a0_1, .int .i64 a0_2] 23 (0, 0)) (by (with_reducible repeat (first | refine blk_drewN ?_ _ | refine blk_drew ?_ | refine blk_alloc ?_ _)); exact BK174.out)) : gb174 ≠ gb175)); have n6_ := Aside0.mk ((by rw [hg]; exact Nat.ne_of_gt (blk_lt (g := gb174) (o := .cells #[.bool a0_0, .int .i64 a0_1, .int .i64 a0_2] 23 (0, 0)) (by (with_reducible repeat (first | refine blk_drewN ?_ _ | refine blk_drew ?_ | refine blk_alloc ?_ _)); exact BK174.out)) : gb175 ≠ gb174)); clear BK174; clear HB; have BK174 := n0_; have HB := n1_; have BK175 := n2_; have GW175 := n3_; have GE175 := n4_; have NB174_175 := n5_; have NB175_174 := n6_; clear n0_ n1_ n2_ n3_ n4_ n5_ n6_; clear hb hbox hg; have hnb8 := NB174_175.out; have hnc8 := NB175_174.out; have hcz9_0 : w7.cell? ⟨gb174, 0, none⟩ = some (.bool a0_0) := (blk_cell BK174.out 0).trans rfl; have hcz9_1 : w7.cell? ⟨gb174, 1, none⟩ = some (.int .i64 a0_1) := (blk_cell BK174.out 1).trans rfl; have hcz9_2 : w7.cell? ⟨gb174, 2, none⟩ = some (.int .i64 a0_2) := (blk_cell BK174.out 2).trans rfl; have hfz9_0 := blk_frozen BK174.out 0; have hfz9_1 := blk_frozen BK174.out 1; have hfz9_2 := blk_frozen BK174.out 2; have hcz10_0 : w7.cell? ⟨gb175, 0, none⟩ = some (.bool a1_0) := (blk_cell BK175.out 0).trans rfl; have hcz10_1 : w7.cell? ⟨gb175, 1, none⟩ = some (.int .i64 a1_1) := (blk_cell BK175.out 1).trans rfl; have hcz10_2 : w7.cell? ⟨gb175, 2, none⟩ = some (.int .i64 a1_2) := (blk_cell BK175.out 2).trans rfl; have hfz10_0 := blk_frozen BK175.out 0; have hfz10_1 := blk_frozen BK175.out 1; have hfz10_2 := blk_frozen BK175.out 2) | (go_at_call 62; (with_reducible refine (congr_gcd_uint64.calls k (IntKind.u64.wrap (a0_1)) (IntKind.u64.wrap (a1_1)) t176 _ A3.out).mono ?_); rintro e w' ⟨rfl, ⟨nd, rfl⟩⟩; (try first | exact ⟨rfl, _, World.drewN_drewN _ _ _⟩ | exact ⟨rfl, _, Eq.trans (World.drewN_drewN _ _ _) (congrArg (World.drewN _) (Nat.add_assoc _ _ _))⟩)) | (go_at_call 52; (with_reducible refine (congr_size.calls (wrap64 (a0_2 - a1_2)) t177 _ A4.out).mono ?_); rintro e w' ⟨rfl, ⟨nd, rfl⟩⟩; (try first | exact ⟨rfl, _, World.drewN_drewN _ _ _⟩ | exact ⟨rfl, _, Eq.trans (World.drewN_drewN _ _ _) (congrArg (World.drewN _) (Nat.add_assoc _ _ _))⟩)) | (go_at_call 62; (with_reducible refine (congr_gcd_uint64.calls k t176 t177 t178 _ A5.out).mono ?_); rintro e w' ⟨rfl, ⟨nd, rfl⟩⟩; (try first | exact ⟨rfl, _, World.drewN_drewN _ _ _⟩ | exact ⟨rfl, _, Eq.trans (World.drewN_drewN _ _ _) (congrArg (World.drewN _) (Nat.add_assoc _ _ _))⟩))); try go_wp2_with (first | ((with_reducible refine gate_dst (N := 2) rfl ?_); refine box_event ?hg (N := 2) ?hd (cs := #[.bool a0_0, .int .i64 a0_1, .int .i64 a0_2]) (t := 23) ?hr ?_; (case hd => rfl); (case hg => rfl); (case hr => first | (go_simp; done) | (go_simp; rfl)); intro gb174 hg w6 hbox hb; have n0_ := Aside0.mk (below_step (by repeat (first | (with_reducible first | exact HB.out | apply below_alloc | apply pw_below_drewN | apply below_drew1) | exact HB.out)) hb); have n1_ := Aside0.mk (hbox); have n2_ := Aside0.mk ((by rw [hg]; exact (below_size (by repeat (first | (with_reducible first | exact HB.out | apply below_alloc | apply pw_below_drewN | apply below_drew1) | exact HB.out))) : w.heap.size ≤ gb174)); have n3_ := Aside0.mk ((by rw [hg]; exact (below_size (by repeat (first | (with_reducible first | exact HB.out | apply below_alloc | apply pw_below_drewN | apply below_drew1) | exact HB.out))) : w.heap.size ≤ gb174)); clear HB; have HB := n0_; have BK174 := n1_; have GW174 := n2_; have GE174 := n3_; clear n0_ n1_ n2_ n3_; clear hb hbox hg) | ((with_reducible refine gate_dst (N := 3) rfl ?_); refine box_event ?hg (N := 3) ?hd (cs := #[.bool a1_0, .int .i64 a1_1, .int .i64 a1_2]) (t := 23) ?hr ?_; (case hd => rfl); (case hg => rfl); (case hr => first | (go_simp; done) | (go_simp; rfl)); intro gb175 hg w7 hbox hb; have n0_ := Aside0.mk (blk_below (g := gb174) (o := .cells #[.bool a0_0, .int .i64 a0_1, .int .i64 a0_2] 23 (0, 0)) (by (with_reducible repeat (first | refine blk_drewN ?_ _ | refine blk_drew ?_ | refine blk_alloc ?_ _)); exact BK174.out) hb); have n1_ := Aside0.mk (below_step (by repeat (first | (with_reducible first | exact HB.out | apply below_alloc | apply pw_below_drewN | apply below_drew1 | refine below_set ?_ GE174.out) | exact HB.out)) hb); have n2_ := Aside0.mk (hbox); have n3_ := Aside0.mk ((by rw [hg]; exact (below_size (by repeat (first | (with_reducible first | exact HB.out | apply below_alloc | apply pw_below_drewN | apply below_drew1 | refine below_set ?_ GE174.out) | exact HB.out))) : w.heap.size ≤ gb175)); have n4_ := Aside0.mk ((by rw [hg]; exact (below_size (by repeat (first | (with_reducible first | exact HB.out | apply below_alloc | apply pw_below_drewN | apply below_drew1 | refine below_set ?_ GE174.out) | exact HB.out))) : w.heap.size ≤ gb175)); have n5_ := Aside0.mk ((by rw [hg]; exact Nat.ne_of_lt (blk_lt (g := gb174) (o := .cells #[.bool a0_0, .int .i64 a0_1, .int .i64 a0_2] 23 (0, 0)) (by (with_reducible repeat (first | refine blk_drewN ?_ _ | refine blk_drew ?_ | refine blk_alloc ?_ _)); exact BK174.out)) : gb174 ≠ gb175)); have n6_ := Aside0.mk ((by rw [hg]; exact Nat.ne_of_gt (blk_lt (g := gb174) (o := .cells #[.bool a0_0, .int .i64 a0_1, .int .i64 a0_2] 23 (0, 0)) (by (with_reducible repeat (first | refine blk_drewN ?_ _ | refine blk_drew ?_ | refine blk_alloc ?_ _)); exact BK174.out)) : gb175 ≠ gb174)); clear BK174; clear HB; have BK174 := n0_; have HB := n1_; have BK175 := n2_; have GW175 := n3_; have GE175 := n4_; have NB174_175 := n5_; have NB175_174 := n6_; clear n0_ n1_ n2_ n3_ n4_ n5_ n6_; clear hb hbox hg; have hnb8 := NB174_175.out; have hnc8 := NB175_174.out; have hcz9_0 : w7.cell? ⟨gb174, 0, none⟩ = some (.bool a0_0) := (blk_cell BK174.out 0).trans rfl; have hcz9_1 : w7.cell? ⟨gb174, 1, none⟩ = some (.int .i64 a0_1) := (blk_cell BK174.out 1).trans rfl; have hcz9_2 : w7.cell? ⟨gb174, 2, none⟩ = some (.int .i64 a0_2) := (blk_cell BK174.out 2).trans rfl; have hfz9_0 := blk_frozen BK174.out 0; have hfz9_1 := blk_frozen BK174.out 1; have hfz9_2 := blk_frozen BK174.out 2; have hcz10_0 : w7.cell? ⟨gb175, 0, none⟩ = some (.bool a1_0) := (blk_cell BK175.out 0).trans rfl; have hcz10_1 : w7.cell? ⟨gb175, 1, none⟩ = some (.int .i64 a1_1) := (blk_cell BK175.out 1).trans rfl; have hcz10_2 : w7.cell? ⟨gb175, 2, none⟩ = some (.int .i64 a1_2) := (blk_cell BK175.out 2).trans rfl; have hfz10_0 := blk_frozen BK175.out 0; have hfz10_1 := blk_frozen BK175.out 1; have hfz10_2 := blk_frozen BK175.out 2) | (go_at_call 62; (with_reducible refine (congr_gcd_uint64.calls k (IntKind.u64.wrap (a0_1)) (IntKind.u64.wrap (a1_1)) t176 _ A3.out).mono ?_); rintro e w' ⟨rfl, ⟨nd, rfl⟩⟩; (try first | exact ⟨rfl, _, World.drewN_drewN _ _ _⟩ | exact ⟨rfl, _, Eq.trans (World.drewN_drewN _ _ _) (congrArg (World.drewN _) (Nat.add_assoc _ _ _))⟩)) | (go_at_call 52; (with_reducible refine (congr_size.calls (wrap64 (a0_2 - a1_2)) t177 _ A4.out).mono ?_); rintro e w' ⟨rfl, ⟨nd, rfl⟩⟩; (try first | exact ⟨rfl, _, World.drewN_drewN _ _ _⟩ | exact ⟨rfl, _, Eq.trans (World.drewN_drewN _ _ _) (congrArg (World.drewN _) (Nat.add_assoc _ _ _))⟩)) | (go_at_call 62; (with_reducible refine (congr_gcd_uint64.calls k t176 t177 t178 _ A5.out).mono ?_); rintro e w' ⟨rfl, ⟨nd, rfl⟩⟩; (try first | exact ⟨rfl, _, World.drewN_drewN _ _ _⟩ | exact ⟨rfl, _, Eq.trans (World.drewN_drewN _ _ _) (congrArg (World.drewN _) (Nat.add_assoc _ _ _))⟩))))
  go_ret
  exact ⟨by first | rfl | (simp [errW_none, errW_some] <;> rfl) | (simp [*, errW_none, errW_some] <;> rfl), by repeat (first | (with_reducible first | exact HB.out | apply below_alloc | apply pw_below_drewN | apply below_drew1 | refine below_set ?_ GE174.out | refine below_set ?_ GE175.out) | exact HB.out)⟩

end Go.Proofs.YtfmmjekhknaniaaDoor.Pr

namespace Go.Proofs.YtfmmjekhknaniaaDoor.Pr
open Go.RowKit Go.Proofs.YtfmmjekhknaniaaDoor.Given Go.Proofs.YtfmmjekhknaniaaDoorW.PrintWords Go.Proofs.YtfmmjekhknaniaaDoorW.PrintLast Go.Proofs.YtfmmjekhknaniaaDoorW.PrintMore
attribute [local go_sem] max2_int min2_int max_two min_two max_three min_three max_four min_four   -- for this text's walks alone
set_option linter.unusedVariables false
set_option linter.unusedSimpArgs false

def congr_Join.f (k : Nat) (a0_0 : Bool) (a0_1 : Int) (a0_2 : Int) (a1_0 : Bool) (a1_1 : Int) (a1_2 : Int) : Option (Bool × Int × Int) := if a0_0 = true then (some (a1_0, a1_1, a1_2)) else (if a1_0 = true then (some (a0_0, a0_1, a0_2)) else ((congr_apart.f k a0_0 a0_1 a0_2 a1_0 a1_1 a1_2).bind fun t182 => ((congr_by.f k t182 a0_2).bind fun bt183 => (some (bt183.1, bt183.2.1, bt183.2.2)))))
theorem congr_Join.mono : ∀ a0 a1 a2 a3 a4 a5 k, LeO (congr_Join.f k a0 a1 a2 a3 a4 a5) (congr_Join.f (k + 1) a0 a1 a2 a3 a4 a5) := by
  intro a0 a1 a2 a3 a4 a5 k
  unfold congr_Join.f
  repeat' first
      | (with_reducible exact congr_apart.mono _ _ _ _ _ _ _)
      | (with_reducible exact congr_by.mono _ _ _)
      | (with_reducible exact LeO.refl _)
      | (with_reducible exact LeO.none _)
      | (with_reducible refine LeO.ite ?_ ?_)
      | (with_reducible refine LeO.bind ?_ (fun _ => ?_))
      | exact congr_apart.mono _ _ _ _ _ _ _
      | exact congr_by.mono _ _ _
      | exact LeO.none _
      | refine LeO.ite ?_ ?_
      | refine LeO.bind ?_ (fun _ => ?_)
set_option maxHeartbeats 8000000 in
set_option maxRecDepth 100000 in
theorem congr_Join.calls (k : Nat) (a0_0 : Bool) (a0_1 : Int) (a0_2 : Int) (a1_0 : Bool) (a1_1 : Int) (a1_2 : Int) (r1 : Bool) (r2 : Int) (r3 : Int) (w : World) (h : congr_Join.f k a0_0 a0_1 a0_2 a1_0 a1_1 a1_2 = some (r1, r2, r3)) :
    Calls Tryd.prog 19 #[.agg #[.bool a0_0, .int .i64 a0_1, .int .i64 a0_2], .agg #[.bool a1_0, .int .i64 a1_1, .int .i64 a1_2]] w fun e w' => e = .returned (.agg #[.bool r1, .int .i64 r2, .int .i64 r3]) ∧ Below w.heap.size w w' := by
  have hu23 := Tryd.underlying23
  have HB := Aside0.mk (Below.refl w.heap.size w)
  have H : (if a0_0 = true then (some (a1_0, a1_1, a1_2)) else (if a1_0 = true then (some (a0_0, a0_1, a0_2)) else ((congr_apart.f k a0_0 a0_1 a0_2 a1_0 a1_1 a1_2).bind fun t182 => ((congr_by.f k t182 a0_2).bind fun bt183 => (some (bt183.1, bt183.2.1, bt183.2.2)))))) = some (r1, r2, r3) := h
  clear h
  by_cases c3 : a0_0 = true
  · subst c3
    have H1 : (some (a1_0, a1_1, a1_2)) = some (r1, r2, r3) := by rw [if_pos rfl] at H; exact H
    clear H
    have H := H1
    clear H1
    simp only [Option.some.injEq, Prod.mk.injEq] at H
    obtain ⟨rfl, rfl, rfl⟩ := H
    go_enter Tryd.func19, Tryd.ntmps19
    go_wp2_with (first | ((with_reducible refine gate_dst (N := 2) rfl ?_); refine box_event ?hg (N := 2) ?hd (cs := #[.bool true, .int .i64 a0_1, .int .i64 a0_2]) (t := 23) ?hr ?_; (case hd => rfl); (case hg => rfl); (case hr => first | (go_simp; done) | (go_simp; rfl)); intro gb179 hg w4 hbox hb; have n0_ := Aside0.mk (below_step (by repeat (first | (with_reducible first | exact HB.out | apply below_alloc | apply pw_below_drewN | apply below_drew1) | exact HB.out)) hb); have n1_ := Aside0.mk (hbox); have n2_ := Aside0.mk ((by rw [hg]; exact (below_size (by repeat (first | (with_reducible first | exact HB.out | apply below_alloc | apply pw_below_drewN | apply below_drew1) | exact HB.out))) : w.heap.size ≤ gb179)); have n3_ := Aside0.mk ((by rw [hg]; exact (below_size (by repeat (first | (with_reducible first | exact HB.out | apply below_alloc | apply pw_below_drewN | apply below_drew1) | exact HB.out))) : w.heap.size ≤ gb179)); clear HB; have HB := n0_; have BK179 := n1_; have GW179 := n2_; have GE179 := n3_; clear n0_ n1_ n2_ n3_; clear hb hbox hg) | ((with_reducible refine gate_dst (N := 3) rfl ?_); refine box_event ?hg (N := 3) ?hd (cs := #[.bool a1_0, .int .i64 a1_1, .int .i64 a1_2]) (t := 23) ?hr ?_; (case hd => rfl); (case hg => rfl); (case hr => first | (go_simp; done) | (go_simp; rfl)); intro gb180 hg w5 hbox hb; have n0_ := Aside0.mk (blk_below (g := gb179) (o := .cells #[.bool true, .int .i64 a0_1, .int .i64 a0_2] 23 (0, 0)) (by (with_reducible repeat (first | refine blk_drewN ?_ _ | refine blk_drew ?_ | refine blk_alloc ?_ _)); exact BK179.out) hb); have n1_ := Aside0.mk (below_step (by repeat (first | (with_reducible first | exact HB.out | apply below_alloc | apply pw_below_drewN | apply below_drew1 | refine below_set ?_ GE179.out) | exact HB.out)) hb); have n2_ := Aside0.mk (hbox); have n3_ := Aside0.mk ((by rw [hg]; exact (below_size (by repeat (first | (with_reducible first | exact HB.out | apply below_alloc | apply pw_below_drewN | apply below_drew1 | refine below_set ?_ GE179.out) | exact HB.out))) : w.heap.size ≤ gb180)); have n4_ := Aside0.mk ((by rw [hg]; exact (below_size (by repeat (first | (with_reducible first | exact HB.out | apply below_alloc | apply pw_below_drewN | apply below_drew1 | refine below_set ?_ GE179.out) | exact HB.out))) : w.heap.size ≤ gb180)); have n5_ := Aside0.mk ((by rw [hg]; exact Nat.ne_of_lt (blk_lt (g := gb179) (o := .cells #[.bool true, .int .i64 a0_1, .int .i64 a0_2] 23 (0, 0)) (by (with_reducible repeat (first | refine blk_drewN ?_ _ | refine blk_drew ?_ | refine blk_alloc ?_ _)); exact BK179.out)) : gb179 ≠ gb180)); have n6_ := Aside0.mk ((by rw [hg]; exact Nat.ne_of_gt (blk_lt (g := gb179) (o := .cells #[.bool true, .int .i64 a0_1, .int .i64 a0_2] 23 (0, 0)) (by (with_reducible repeat (first | refine blk_drewN ?_ _ | refine blk_drew ?_ | refine blk_alloc ?_ _)); exact BK179.out)) : gb180 ≠ gb179)); clear BK179; clear HB; have BK179 := n0_; have HB := n1_; have BK180 := n2_; have GW180 := n3_; have GE180 := n4_; have NB179_180 := n5_; have NB180_179 := n6_; clear n0_ n1_ n2_ n3_ n4_ n5_ n6_; clear hb hbox hg) | ((with_reducible refine gate_dst (N := 4) rfl ?_); refine box_event ?hg (N := 4) ?hd (cs := #[.bool false, .int .i64 0, .int .i64 0]) (t := 23) ?hr ?_; (case hd => rfl); (case hg => rfl); (case hr => first | (go_simp; done) | (go_simp; rfl)); intro gb181 hg w6 hbox hb; have n0_ := Aside0.mk (blk_below (g := gb179) (o := .cells #[.bool true, .int .i64 a0_1, .int .i64 a0_2] 23 (0, 0)) (by (with_reducible repeat (first | refine blk_drewN ?_ _ | refine blk_drew ?_ | refine blk_alloc ?_ _)); exact BK179.out) hb); have n1_ := Aside0.mk (blk_below (g := gb180) (o := .cells #[.bool a1_0, .int .i64 a1_1, .int .i64 a1_2] 23 (0, 0)) (by (with_reducible repeat (first | refine blk_drewN ?_ _ | refine blk_drew ?_ | refine blk_alloc ?_ _)); exact BK180.out) hb); have n2_ := Aside0.mk (below_step (by repeat (first | (with_reducible first | exact HB.out | apply below_alloc | apply pw_below_drewN | apply below_drew1 | refine below_set ?_ GE179.out | refine below_set ?_ GE180.out) | exact HB.out)) hb); have n3_ := Aside0.mk (hbox); have n4_ := Aside0.mk ((by rw [hg]; exact (below_size (by repeat (first | (with_reducible first | exact HB.out | apply below_alloc | apply pw_below_drewN | apply below_drew1 | refine below_set ?_ GE179.out | refine below_set ?_ GE180.out) | exact HB.out))) : w.heap.size ≤ gb181)); have n5_ := Aside0.mk ((by rw [hg]; exact (below_size (by repeat (first | (with_reducible first | exact HB.out | apply below_alloc | apply pw_below_drewN | apply below_drew1 | refine below_set ?_ GE179.out | refine below_set ?_ GE180.out) | exact HB.out))) : w.heap.size ≤ gb181)); have n6_ := Aside0.mk ((by rw [hg]; exact Nat.ne_of_lt (blk_lt (g := gb179) (o := .cells #[.bool true, .int .i64 a0_1, .int .i64 a0_2] 23 (0, 0)) (by (with_reducible repeat (first | refine blk_drewN ?_ _ | refine blk_drew ?_ | refine blk_alloc ?_ _)); exact BK179.out)) : gb179 ≠ gb181)); have n7_ := Aside0.mk ((by rw [hg]; exact Nat.ne_of_gt (blk_lt (g := gb179) (o := .cells #[.bool true, .int .i64 a0_1, .int .i64 a0_2] 23 (0, 0)) (by (with_reducible repeat (first | refine blk_drewN ?_ _ | refine blk_drew ?_ | refine blk_alloc ?_ _)); exact BK179.out)) : gb181 ≠ gb179)); have n8_ := Aside0.mk ((by rw [hg]; exact Nat.ne_of_lt (blk_lt (g := gb180) (o := .cells #[.bool a1_0, .int .i64 a1_1, .int .i64 a1_2] 23 (0, 0)) (by (with_reducible repeat (first | refine blk_drewN ?_ _ | refine blk_drew ?_ | refine blk_alloc ?_ _)); exact BK180.out)) : gb180 ≠ gb181)); have n9_ := Aside0.mk ((by rw [hg]; exact Nat.ne_of_gt (blk_lt (g := gb180) (o := .cells #[.bool a1_0, .int .i64 a1_1, .int .i64 a1_2] 23 (0, 0)) (by (with_reducible repeat (first | refine blk_drewN ?_ _ | refine blk_drew ?_ | refine blk_alloc ?_ _)); exact BK180.out)) : gb181 ≠ gb180)); clear BK179; clear BK180; clear HB; have BK179 := n0_; have BK180 := n1_; have HB := n2_; have BK181 := n3_; have GW181 := n4_; have GE181 := n5_; have NB179_181 := n6_; have NB181_179 := n7_; have NB180_181 := n8_; have NB181_180 := n9_; clear n0_ n1_ n2_ n3_ n4_ n5_ n6_ n7_ n8_ n9_; clear hb hbox hg; have hnb7 := NB179_180.out; have hnc7 := NB180_179.out; have hnb8 := NB179_181.out; have hnc8 := NB181_179.out; have hcz9_0 : w6.cell? ⟨gb179, 0, none⟩ = some (.bool true) := (blk_cell BK179.out 0).trans rfl; have hcz9_1 : w6.cell? ⟨gb179, 1, none⟩ = some (.int .i64 a0_1) := (blk_cell BK179.out 1).trans rfl; have hcz9_2 : w6.cell? ⟨gb179, 2, none⟩ = some (.int .i64 a0_2) := (blk_cell BK179.out 2).trans rfl; have hfz9_0 := blk_frozen BK179.out 0; have hfz9_1 := blk_frozen BK179.out 1; have hfz9_2 := blk_frozen BK179.out 2; have hnb10 := NB180_181.out; have hnc10 := NB181_180.out; have hcz11_0 : w6.cell? ⟨gb180, 0, none⟩ = some (.bool a1_0) := (blk_cell BK180.out 0).trans rfl; have hcz11_1 : w6.cell? ⟨gb180, 1, none⟩ = some (.int .i64 a1_1) := (blk_cell BK180.out 1).trans rfl; have hcz11_2 : w6.cell? ⟨gb180, 2, none⟩ = some (.int .i64 a1_2) := (blk_cell BK180.out 2).trans rfl; have hfz11_0 := blk_frozen BK180.out 0; have hfz11_1 := blk_frozen BK180.out 1; have hfz11_2 := blk_frozen BK180.out 2; have hcz12_0 : w6.cell? ⟨gb181, 0, none⟩ = some (.bool false) := (blk_cell BK181.out 0).trans rfl; have hcz12_1 : w6.cell? ⟨gb181, 1, none⟩ = some (.int .i64 0) := (blk_cell BK181.out 1).trans rfl; have hcz12_2 : w6.cell? ⟨gb181, 2, none⟩ = some (.int .i64 0) := (blk_cell BK181.out 2).trans rfl; have hfz12_0 := blk_frozen BK181.out 0; have hfz12_1 := blk_frozen BK181.out 1; have hfz12_2 := blk_frozen BK181.out 2))
    refine bodyPost_ret (results_cell_row rfl _ _ gb181 23 #[.bool a1_0, .int .i64 a1_1, .int .i64 a1_2] (0, 0) _ rfl (by (with_reducible repeat (first | refine blk_drewN ?_ _ | refine blk_drew ?_ | refine blk_alloc ?_ _)); refine blk_put (cs := #[.bool a1_0, .int .i64 a1_1, .int .i64 0]) ?_ 2 _ rfl; (with_reducible repeat (first | refine blk_drewN ?_ _ | refine blk_drew ?_ | refine blk_alloc ?_ _)); refine blk_put (cs := #[.bool a1_0, .int .i64 0, .int .i64 0]) ?_ 1 _ rfl; (with_reducible repeat (first | refine blk_drewN ?_ _ | refine blk_drew ?_ | refine blk_alloc ?_ _)); refine blk_put (cs := #[.bool false, .int .i64 0, .int .i64 0]) ?_ 0 _ rfl; (with_reducible repeat (first | refine blk_drewN ?_ _ | refine blk_drew ?_ | refine blk_alloc ?_ _)); exact BK181.out) Tryd.underlying23 rfl (by kernel_rfl)) rfl ?_
    exact ⟨by first | rfl | (simp [errW_none, errW_some] <;> rfl) | (simp [*, errW_none, errW_some] <;> rfl), by repeat (first | (with_reducible first | exact HB.out | apply below_alloc | apply pw_below_drewN | apply below_drew1 | refine below_set ?_ GE179.out | refine below_set ?_ GE180.out | refine below_set ?_ GE181.out) | exact HB.out)⟩
  · replace c3 := Bool.eq_false_iff.mpr c3
    subst c3
    have H1 : (if a1_0 = true then (some (false, a0_1, a0_2)) else ((congr_apart.f k false a0_1 a0_2 a1_0 a1_1 a1_2).bind fun t182 => ((congr_by.f k t182 a0_2).bind fun bt183 => (some (bt183.1, bt183.2.1, bt183.2.2))))) = some (r1, r2, r3) := by rw [if_neg (show ¬ (false = true) by decide)] at H; exact H
    clear H
    have H := H1
    clear H1
    by_cases c13 : a1_0 = true
    · subst c13
      have H1 : (some (false, a0_1, a0_2)) = some (r1, r2, r3) := by rw [if_pos rfl] at H; exact H
      clear H
      have H := H1
      clear H1
      simp only [Option.some.injEq, Prod.mk.injEq] at H
      obtain ⟨rfl, rfl, rfl⟩ := H
      go_enter Tryd.func19, Tryd.ntmps19
      go_wp2_with (first | ((with_reducible refine gate_dst (N := 2) rfl ?_); refine box_event ?hg (N := 2) ?hd (cs := #[.bool false, .int .i64 a0_1, .int .i64 a0_2]) (t := 23) ?hr ?_; (case hd => rfl); (case hg => rfl); (case hr => first | (go_simp; done) | (go_simp; rfl)); intro gb179 hg w14 hbox hb; have n0_ := Aside0.mk (below_step (by repeat (first | (with_reducible first | exact HB.out | apply below_alloc | apply pw_below_drewN | apply below_drew1) | exact HB.out)) hb); have n1_ := Aside0.mk (hbox); have n2_ := Aside0.mk ((by rw [hg]; exact (below_size (by repeat (first | (with_reducible first | exact HB.out | apply below_alloc | apply pw_below_drewN | apply below_drew1) | exact HB.out))) : w.heap.size ≤ gb179)); have n3_ := Aside0.mk ((by rw [hg]; exact (below_size (by repeat (first | (with_reducible first | exact HB.out | apply below_alloc | apply pw_below_drewN | apply below_drew1) | exact HB.out))) : w.heap.size ≤ gb179)); clear HB; have HB := n0_; have BK179 := n1_; have GW179 := n2_; have GE179 := n3_; clear n0_ n1_ n2_ n3_; clear hb hbox hg) | ((with_reducible refine gate_dst (N := 3) rfl ?_); refine box_event ?hg (N := 3) ?hd (cs := #[.bool true, .int .i64 a1_1, .int .i64 a1_2]) (t := 23) ?hr ?_; (case hd => rfl); (case hg => rfl); (case hr => first | (go_simp; done) | (go_simp; rfl)); intro gb180 hg w15 hbox hb; have n0_ := Aside0.mk (blk_below (g := gb179) (o := .cells #[.bool false, .int .i64 a0_1, .int .i64 a0_2] 23 (0, 0)) (by (with_reducible repeat (first | refine blk_drewN ?_ _ | refine blk_drew ?_ | refine blk_alloc ?_ _)); exact BK179.out) hb); have n1_ := Aside0.mk (below_step (by repeat (first | (with_reducible first | exact HB.out | apply below_alloc | apply pw_below_drewN | apply below_drew1 | refine below_set ?_ GE179.out) | exact HB.out)) hb); have n2_ := Aside0.mk (hbox); have n3_ := Aside0.mk ((by rw [hg]; exact (below_size (by repeat (first | (with_reducible first | exact HB.out | apply below_alloc | apply pw_below_drewN | apply below_drew1 | refine below_set ?_ GE179.out) | exact HB.out))) : w.heap.size ≤ gb180)); have n4_ := Aside0.mk ((by rw [hg]; exact (below_size (by repeat (first | (with_reducible first | exact HB.out | apply below_alloc | apply pw_below_drewN | apply below_drew1 | refine below_set ?_ GE179.out) | exact HB.out))) : w.heap.size ≤ gb180)); have n5_ := Aside0.mk ((by rw [hg]; exact Nat.ne_of_lt (blk_lt (g := gb179) (o := .cells #[.bool false, .int .i64 a0_1, .int .i64 a0_2] 23 (0, 0)) (by (with_reducible repeat (first | refine blk_drewN ?_ _ | refine blk_drew ?_ | refine blk_alloc ?_ _)); exact BK179.out)) : gb179 ≠ gb180)); have n6_ := Aside0.mk ((by rw [hg]; exact Nat.ne_of_gt (blk_lt (g := gb179) (o := .cells #[.bool false, .int .i64 a0_1, .int .i64 a0_2] 23 (0, 0)) (by (with_reducible repeat (first | refine blk_drewN ?_ _ | refine blk_drew ?_ | refine blk_alloc ?_ _)); exact BK179.out)) : gb180 ≠ gb179)); clear BK179; clear HB; have BK179 := n0_; have HB := n1_; have BK180 := n2_; have GW180 := n3_; have GE180 := n4_; have NB179_180 := n5_; have NB180_179 := n6_; clear n0_ n1_ n2_ n3_ n4_ n5_ n6_; clear hb hbox hg) | ((with_reducible refine gate_dst (N := 4) rfl ?_); refine box_event ?hg (N := 4) ?hd (cs := #[.bool false, .int .i64 0, .int .i64 0]) (t := 23) ?hr ?_; (case hd => rfl); (case hg => rfl); (case hr => first | (go_simp; done) | (go_simp; rfl)); intro gb181 hg w16 hbox hb; have n0_ := Aside0.mk (blk_below (g := gb179) (o := .cells #[.bool false, .int .i64 a0_1, .int .i64 a0_2] 23 (0, 0)) (by (with_reducible repeat (first | refine blk_drewN ?_ _ | refine blk_drew ?_ | refine blk_alloc ?_ _)); exact BK179.out) hb); have n1_ := Aside0.mk (blk_below (g := gb180) (o := .cells #[.bool true, .int .i64 a1_1, .int .i64 a1_2] 23 (0, 0)) (by (with_reducible repeat (first | refine blk_drewN ?_ _ | refine blk_drew ?_ | refine blk_alloc ?_ _)); exact BK180.out) hb); have n2_ := Aside0.mk (below_step (by repeat (first | (with_reducible first | exact HB.out | apply below_alloc | apply pw_below_drewN | apply below_drew1 | refine below_set ?_ GE179.out | refine below_set ?_ GE180.out) | exact HB.out)) hb); have n3_ := Aside0.mk (hbox); have n4_ := Aside0.mk ((by rw [hg]; exact (below_size (by repeat (first | (with_reducible first | exact HB.out | apply below_alloc | apply pw_below_drewN | apply below_drew1 | refine below_set ?_ GE179.out | refine below_set ?_ GE180.out) | exact HB.out))) : w.heap.size ≤ gb181)); have n5_ := Aside0.mk ((by rw [hg]; exact (below_size (by repeat (first | (with_reducible first | exact HB.out | apply below_alloc | apply pw_below_drewN | apply below_drew1 | refine below_set ?_ GE179.out | refine below_set ?_ GE180.out) | exact HB.out))) : w.heap.size ≤ gb181)); have n6_ := Aside0.mk ((by rw [hg]; exact Nat.ne_of_lt (blk_lt (g := gb179) (o := .cells #[.bool false, .int .i64 a0_1, .int .i64 a0_2] 23 (0, 0)) (by (with_reducible repeat (first | refine blk_drewN ?_ _ | refine blk_drew ?_ | refine blk_alloc ?_ _)); exact BK179.out)) : gb179 ≠ gb181)); have n7_ := Aside0.mk ((by rw [hg]; exact Nat.ne_of_gt (blk_lt (g := gb179) (o := .cells #[.bool false, .int .i64 a0_1, .int .i64 a0_2] 23 (0, 0)) (by (with_reducible repeat (first | refine blk_drewN ?_ _ | refine blk_drew ?_ | refine blk_alloc ?_ _)); exact BK179.out)) : gb181 ≠ gb179)); have n8_ := Aside0.mk ((by rw [hg]; exact Nat.ne_of_lt (blk_lt (g := gb180) (o := .cells #[.bool true, .int .i64 a1_1, .int .i64 a1_2] 23 (0, 0)) (by (with_reducible repeat (first | refine blk_drewN ?_ _ | refine blk_drew ?_ | refine blk_alloc ?_ _)); exact BK180.out)) : gb180 ≠ gb181)); have n9_ := Aside0.mk ((by rw [hg]; exact Nat.ne_of_gt (blk_lt (g := gb180) (o := .cells #[.bool true, .int .i64 a1_1, .int .i64 a1_2] 23 (0, 0)) (by (with_reducible repeat (first | refine blk_drewN ?_ _ | refine blk_drew ?_ | refine blk_alloc ?_ _)); exact BK180.out)) : gb181 ≠ gb180)); clear BK179; clear BK180; clear HB; have BK179 := n0_; have BK180 := n1_; have HB := n2_; have BK181 := n3_; have GW181 := n4_; have GE181 := n5_; have NB179_181 := n6_; have NB181_179 := n7_; have NB180_181 := n8_; have NB181_180 := n9_; clear n0_ n1_ n2_ n3_ n4_ n5_ n6_ n7_ n8_ n9_; clear hb hbox hg; have hnb17 := NB179_180.out; have hnc17 := NB180_179.out; have hnb18 := NB179_181.out; have hnc18 := NB181_179.out; have hcz19_0 : w16.cell? ⟨gb179, 0, none⟩ = some (.bool false) := (blk_cell BK179.out 0).trans rfl; have hcz19_1 : w16.cell? ⟨gb179, 1, none⟩ = some (.int .i64 a0_1) := (blk_cell BK179.out 1).trans rfl; have hcz19_2 : w16.cell? ⟨gb179, 2, none⟩ = some (.int .i64 a0_2) := (blk_cell BK179.out 2).trans rfl; have hfz19_0 := blk_frozen BK179.out 0; have hfz19_1 := blk_frozen BK179.out 1; have hfz19_2 := blk_frozen BK179.out 2; have hnb20 := NB180_181.out; have hnc20 := NB181_180.out; have hcz21_0 : w16.cell? ⟨gb180, 0, none⟩ = some (.bool true) := (blk_cell BK180.out 0).trans rfl; have hcz21_1 : w16.cell? ⟨gb180, 1, none⟩ = some (.int .i64 a1_1) := (blk_cell BK180.out 1).trans rfl; have hcz21_2 : w16.cell? ⟨gb180, 2, none⟩ = some (.int .i64 a1_2) := (blk_cell BK180.out 2).trans rfl; have hfz21_0 := blk_frozen BK180.out 0; have hfz21_1 := blk_frozen BK180.out 1; have hfz21_2 := blk_frozen BK180.out 2; have hcz22_0 : w16.cell? ⟨gb181, 0, none⟩ = some (.bool false) := (blk_cell BK181.out 0).trans rfl; have hcz22_1 : w16.cell? ⟨gb181, 1, none⟩ = some (.int .i64 0) := (blk_cell BK181.out 1).trans rfl; have hcz22_2 : w16.cell? ⟨gb181, 2, none⟩ = some (.int .i64 0) := (blk_cell BK181.out 2).trans rfl; have hfz22_0 := blk_frozen BK181.out 0; have hfz22_1 := blk_frozen BK181.out 1; have hfz22_2 := blk_frozen BK181.out 2))
      refine bodyPost_ret (results_cell_row rfl _ _ gb181 23 #[.bool false, .int .i64 a0_1, .int .i64 a0_2] (0, 0) _ rfl (by (with_reducible repeat (first | refine blk_drewN ?_ _ | refine blk_drew ?_ | refine blk_alloc ?_ _)); refine blk_put (cs := #[.bool false, .int .i64 a0_1, .int .i64 0]) ?_ 2 _ rfl; (with_reducible repeat (first | refine blk_drewN ?_ _ | refine blk_drew ?_ | refine blk_alloc ?_ _)); refine blk_put (cs := #[.bool false, .int .i64 0, .int .i64 0]) ?_ 1 _ rfl; (with_reducible repeat (first | refine blk_drewN ?_ _ | refine blk_drew ?_ | refine blk_alloc ?_ _)); refine blk_put (cs := #[.bool false, .int .i64 0, .int .i64 0]) ?_ 0 _ rfl; (with_reducible repeat (first | refine blk_drewN ?_ _ | refine blk_drew ?_ | refine blk_alloc ?_ _)); exact BK181.out) Tryd.underlying23 rfl (by kernel_rfl)) rfl ?_
      exact ⟨by first | rfl | (simp [errW_none, errW_some] <;> rfl) | (simp [*, errW_none, errW_some] <;> rfl), by repeat (first | (with_reducible first | exact HB.out | apply below_alloc | apply pw_below_drewN | apply below_drew1 | refine below_set ?_ GE179.out | refine below_set ?_ GE180.out | refine below_set ?_ GE181.out) | exact HB.out)⟩
    · replace c13 := Bool.eq_false_iff.mpr c13
      subst c13
      have H1 : ((congr_apart.f k false a0_1 a0_2 false a1_1 a1_2).bind fun t182 => ((congr_by.f k t182 a0_2).bind fun bt183 => (some (bt183.1, bt183.2.1, bt183.2.2)))) = some (r1, r2, r3) := by rw [if_neg (show ¬ (false = true) by decide)] at H; exact H
      clear H
      have H := H1
      clear H1
      replace H := Option.bind_eq_some_iff.mp H
      obtain ⟨t182, A230, H⟩ := H
      replace H : ((congr_by.f k t182 a0_2).bind fun bt183 => (some (bt183.1, bt183.2.1, bt183.2.2))) = some (r1, r2, r3) := H
      have A23 := Aside0.mk A230
      clear A230
      replace H := Option.bind_eq_some_iff.mp H
      obtain ⟨⟨t183, t184, t185⟩, A240, H⟩ := H
      replace H : (some (t183, t184, t185)) = some (r1, r2, r3) := H
      have A24 := Aside0.mk A240
      clear A240
      simp only [Option.some.injEq, Prod.mk.injEq] at H
      obtain ⟨rfl, rfl, rfl⟩ := H
      go_enter Tryd.func19, Tryd.ntmps19
      try go_wp2_with (first | ((with_reducible refine gate_dst (N := 2) rfl ?_); refine box_event ?hg (N := 2) ?hd (cs := #[.bool false, .int .i64 a0_1, .int .i64 a0_2]) (t := 23) ?hr ?_; (case hd => rfl); (case hg => rfl); (case hr => first | (go_simp; done) | (go_simp; rfl)); intro gb179 hg w25 hbox hb; have n0_ := Aside0.mk (below_step (by repeat (first | (with_reducible first | exact HB.out | apply below_alloc | apply pw_below_drewN | apply below_drew1) | exact HB.out)) hb); have n1_ := Aside0.mk (hbox); have n2_ := Aside0.mk ((by rw [hg]; exact (below_size (by repeat (first | (with_reducible first | exact HB.out | apply below_alloc | apply pw_below_drewN | apply below_drew1) | exact HB.out))) : w.heap.size ≤ gb179)); have n3_ := Aside0.mk ((by rw [hg]; exact (below_size (by repeat (first | (with_reducible first | exact HB.out | apply below_alloc | apply pw_below_drewN | apply below_drew1) | exact HB.out))) : w.heap.size ≤ gb179)); clear HB; have HB := n0_; have BK179 := n1_; have GW179 := n2_; have GE179 := n3_; clear n0_ n1_ n2_ n3_; clear hb hbox hg) | ((with_reducible refine gate_dst (N := 3) rfl ?_); refine box_event ?hg (N := 3) ?hd (cs := #[.bool false, .int .i64 a1_1, .int .i64 a1_2]) (t := 23) ?hr ?_; (case hd => rfl); (case hg => rfl); (case hr => first | (go_simp; done) | (go_simp; rfl)); intro gb180 hg w26 hbox hb; have n0_ := Aside0.mk (blk_below (g := gb179) (o := .cells #[.bool false, .int .i64 a0_1, .int .i64 a0_2] 23 (0, 0)) (by (with_reducible repeat (first | refine blk_drewN ?_ _ | refine blk_drew ?_ | refine blk_alloc ?_ _)); exact BK179.out) hb); have n1_ := Aside0.mk (below_step (by repeat (first | (with_reducible first | exact HB.out | apply below_alloc | apply pw_below_drewN | apply below_drew1 | refine below_set ?_ GE179.out) | exact HB.out)) hb); have n2_ := Aside0.mk (hbox); have n3_ := Aside0.mk ((by rw [hg]; exact (below_size (by repeat (first | (with_reducible first | exact HB.out | apply below_alloc | apply pw_below_drewN | apply below_drew1 | refine below_set ?_ GE179.out) | exact HB.out))) : w.heap.size ≤ gb180)); have n4_ := Aside0.mk ((by rw [hg]; exact (below_size (by repeat (first | (with_reducible first | exact HB.out | apply below_alloc | apply pw_below_drewN | apply below_drew1 | refine below_set ?_ GE179.out) | exact HB.out))) : w.heap.size ≤ gb180)); have n5_ := Aside0.mk ((by rw [hg]; exact Nat.ne_of_lt (blk_lt (g := gb179) (o := .cells #[.bool false, .int .i64 a0_1, .int .i64 a0_2] 23 (0, 0)) (by (with_reducible repeat (first | refine blk_drewN ?_ _ | refine blk_drew ?_ | refine blk_alloc ?_ _)); exact BK179.out)) : gb179 ≠ gb180)); have n6_ := Aside0.mk ((by rw [hg]; exact Nat.ne_of_gt (blk_lt (g := gb179) (o := .cells #[.bool false, .int .i64 a0_1, .int .i64 a0_2] 23 (0, 0)) (by (with_reducible repeat (first | refine blk_drewN ?_ _ | refine blk_drew ?_ | refine blk_alloc ?_ _)); exact BK179.out)) : gb180 ≠ gb179)); clear BK179; clear HB; have BK179 := n0_; have HB := n1_; have BK180 := n2_; have GW180 := n3_; have GE180 := n4_; have NB179_180 := n5_; have NB180_179 := n6_; clear n0_ n1_ n2_ n3_ n4_ n5_ n6_; clear hb hbox hg) | ((with_reducible refine gate_dst (N := 4) rfl ?_); refine box_event ?hg (N := 4) ?hd (cs := #[.bool false, .int .i64 0, .int .i64 0]) (t := 23) ?hr ?_; (case hd => rfl); (case hg => rfl); (case hr => first | (go_simp; done) | (go_simp; rfl)); intro gb181 hg w27 hbox hb; have n0_ := Aside0.mk (blk_below (g := gb179) (o := .cells #[.bool false, .int .i64 a0_1, .int .i64 a0_2] 23 (0, 0)) (by (with_reducible repeat (first | refine blk_drewN ?_ _ | refine blk_drew ?_ | refine blk_alloc ?_ _)); exact BK179.out) hb); have n1_ := Aside0.mk (blk_below (g := gb180) (o := .cells #[.bool false, .int .i64 a1_1, .int .i64 a1_2] 23 (0, 0)) (by (with_reducible repeat (first | refine blk_drewN ?_ _ | refine blk_drew ?_ | refine blk_alloc ?_ _)); exact BK180.out) hb); have n2_ := Aside0.mk (below_step (by repeat (first | (with_reducible first | exact HB.out | apply below_alloc | apply pw_below_drewN | apply below_drew1 | refine below_set ?_ GE179.out | refine below_set ?_ GE180.out) | exact HB.out)) hb); have n3_ := Aside0.mk (hbox); have n4_ := Aside0.mk ((by rw [hg]; exact (below_size (by repeat (first | (with_reducible first | exact HB.out | apply below_alloc | apply pw_below_drewN | apply below_drew1 | refine below_set ?_ GE179.out | refine below_set ?_ GE180.out) | exact HB.out))) : w.heap.size ≤ gb181)); have n5_ := Aside0.mk ((by rw [hg]; exact (below_size (by repeat (first | (with_reducible first | exact HB.out | apply below_alloc | apply pw_below_drewN | apply below_drew1 | refine below_set ?_ GE179.out | refine below_set ?_ GE180.out) | exact HB.out))) : w.heap.size ≤ gb181)); have n6_ := Aside0.mk ((by rw [hg]; exact Nat.ne_of_lt (blk_lt (g := gb179) (o := .cells #[.bool false, .int .i64 a0_1, .int .i64 a0_2] 23 (0, 0)) (by (with_reducible repeat (first | refine blk_drewN ?_ _ | refine blk_drew ?_ | refine blk_alloc ?_ _)); exact BK179.out)) : gb179 ≠ gb181)); have n7_ := Aside0.mk ((by rw [hg]; exact Nat.ne_of_gt (blk_lt (g := gb179) (o := .cells #[.bool false, .int .i64 a0_1, .int .i64 a0_2] 23 (0, 0)) (by (with_reducible repeat (first | refine blk_drewN ?_ _ | refine blk_drew ?_ | refine blk_alloc ?_ _)); exact BK179.out)) : gb181 ≠ gb179)); have n8_ := Aside0.mk ((by rw [hg]; exact Nat.ne_of_lt (blk_lt (g := gb180) (o := .cells #[.bool false, .int .i64 a1_1, .int .i64 a1_2] 23 (0, 0)) (by (with_reducible repeat (first | refine blk_drewN ?_ _ | refine blk_drew ?_ | refine blk_alloc ?_ _)); exact BK180.out)) : gb180 ≠ gb181)); have n9_ := Aside0.mk ((by rw [hg]; exact Nat.ne_of_gt (blk_lt (g := gb180) (o := .cells #[.bool false, .int .i64 a1_1, .int .i64 a1_2] 23 (0, 0)) (by (with_reducible repeat (first | refine blk_drewN ?_ _ | refine blk_drew ?_ | refine blk_alloc ?_ _)); exact BK180.out)) : gb181 ≠ gb180)); clear BK179; clear BK180; clear HB; have BK179 := n0_; have BK180 := n1_; have HB := n2_; have BK181 := n3_; have GW181 := n4_; have GE181 := n5_; have NB179_181 := n6_; have NB181_179 := n7_; have NB180_181 := n8_; have NB181_180 := n9_; clear n0_ n1_ n2_ n3_ n4_ n5_ n6_ n7_ n8_ n9_; clear hb hbox hg; have hnb28 := NB179_180.out; have hnc28 := NB180_179.out; have hnb29 := NB179_181.out; have hnc29 := NB181_179.out; have hcz30_0 : w27.cell? ⟨gb179, 0, none⟩ = some (.bool false) := (blk_cell BK179.out 0).trans rfl; have hcz30_1 : w27.cell? ⟨gb179, 1, none⟩ = some (.int .i64 a0_1) := (blk_cell BK179.out 1).trans rfl; have hcz30_2 : w27.cell? ⟨gb179, 2, none⟩ = some (.int .i64 a0_2) := (blk_cell BK179.out 2).trans rfl; have hfz30_0 := blk_frozen BK179.out 0; have hfz30_1 := blk_frozen BK179.out 1; have hfz30_2 := blk_frozen BK179.out 2; have hnb31 := NB180_181.out; have hnc31 := NB181_180.out; have hcz32_0 : w27.cell? ⟨gb180, 0, none⟩ = some (.bool false) := (blk_cell BK180.out 0).trans rfl; have hcz32_1 : w27.cell? ⟨gb180, 1, none⟩ = some (.int .i64 a1_1) := (blk_cell BK180.out 1).trans rfl; have hcz32_2 : w27.cell? ⟨gb180, 2, none⟩ = some (.int .i64 a1_2) := (blk_cell BK180.out 2).trans rfl; have hfz32_0 := blk_frozen BK180.out 0; have hfz32_1 := blk_frozen BK180.out 1; have hfz32_2 := blk_frozen BK180.out 2))
      have n0_ := Aside0.mk (blk_drew BK179.out)
      have n1_ := Aside0.mk (blk_drew BK180.out)
      have n2_ := Aside0.mk (blk_drew BK181.out)
      have n3_ := Aside0.mk (below_drew1 HB.out)
      clear BK179
      clear BK180
      clear BK181
      clear HB
      have BK179 := n0_
      have BK180 := n1_
      have BK181 := n2_
      have HB := n3_
      clear n0_ n1_ n2_ n3_
      refine start_ (n := 7) (S := fun w' => w'.cell? ⟨gb179, 0, none⟩ = some (.bool false) ∧ w'.cell? ⟨gb179, 1, none⟩ = some (.int .i64 a0_1) ∧ w'.cell? ⟨gb179, 2, none⟩ = some (.int .i64 a0_2) ∧ w'.cell? ⟨gb180, 0, none⟩ = some (.bool false) ∧ w'.cell? ⟨gb180, 1, none⟩ = some (.int .i64 a1_1) ∧ w'.cell? ⟨gb180, 2, none⟩ = some (.int .i64 a1_2)) (ds := []) #[false, false, false, false, false, false, false] (by kernel_rfl) rfl rfl ⟨(blk_cell BK179.out 0).trans rfl, (blk_cell BK179.out 1).trans rfl, (blk_cell BK179.out 2).trans rfl, (blk_cell BK180.out 0).trans rfl, (blk_cell BK180.out 1).trans rfl, (blk_cell BK180.out 2).trans rfl⟩ (fun hHeld => ?_)
      generalize w27.drew = w33 at BK179 BK180 BK181 HB hHeld ⊢
      refine pure_ (i := 3) (N := some 16) (v := ?_) (a' := ?_) #[false, false, false, true, false, false, false] rfl rfl (by kernel_rfl) (fun _ _ _ h => h) (Or.inl ⟨by rfl, ?_⟩) ?_ ?_
      rotate_left
      · intro w'
        go_simp
        with_reducible rfl
      rotate_left
      · simp only [Act.put, List.setIfInBounds_toArray, List.set_cons_zero, List.set_cons_succ, i64_w, i32_w]
        rfl
      refine take_ (i := 0) (N := some 13) (v := ?_) (a' := ?_) #[true, false, false, true, false, false, false] rfl rfl (by kernel_rfl) (fun _ _ _ h => h) (Or.inl ⟨by rfl, ?_⟩) hHeld ?_ ?_
      rotate_left
      · rintro w' ⟨s0, s1, s2, s3, s4, s5⟩
        go_simp
        with_reducible rfl
      rotate_left
      · simp only [Act.put, List.setIfInBounds_toArray, List.set_cons_zero, List.set_cons_succ, i64_w, i32_w]
        rfl
      refine take_ (i := 1) (N := some 14) (v := ?_) (a' := ?_) #[true, true, false, true, false, false, false] rfl rfl (by kernel_rfl) (fun _ _ _ h => h) (Or.inl ⟨by rfl, ?_⟩) hHeld ?_ ?_
      rotate_left
      · rintro w' ⟨s0, s1, s2, s3, s4, s5⟩
        go_simp
        with_reducible rfl
      rotate_left
      · simp only [Act.put, List.setIfInBounds_toArray, List.set_cons_zero, List.set_cons_succ, i64_w, i32_w]
        rfl
      refine take_ (i := 4) (N := some 17) (v := ?_) (a' := ?_) #[true, true, false, true, true, false, false] rfl rfl (by kernel_rfl) (fun _ _ _ h => h) (Or.inl ⟨by rfl, ?_⟩) hHeld ?_ ?_
      rotate_left
      · rintro w' ⟨s0, s1, s2, s3, s4, s5⟩
        go_simp
        with_reducible rfl
      rotate_left
      · simp only [Act.put, List.setIfInBounds_toArray, List.set_cons_zero, List.set_cons_succ, i64_w, i32_w]
        rfl
      refine one_ (i := 2) (N := some 15) #[true, true, true, true, true, false, false] rfl rfl (by kernel_rfl) (by decide) (fun K hK => ?_)
      refine goes_ Tryd.func61 (by kernel_rfl) rfl #[.agg #[.bool false, .int .i64 a0_1, .int .i64 a0_2], .agg #[.bool false, .int .i64 a1_1, .int .i64 a1_2]] (by rfl) rfl rfl (by (try simp only [List.map_toArray, List.map_cons, List.map_nil]); first | done | rfl | (simp only [List.length_drop, List.length_take]; rfl)) ?_
      with_reducible refine (congr_apart.calls k false a0_1 a0_2 false a1_1 a1_2 t182 _ A23.out).mono ?_
      rintro e w34 ⟨rfl, hb⟩
      refine ⟨_, rfl, ?_⟩
      have n0_ := Aside0.mk (blk_below (g := gb179) (o := .cells #[.bool false, .int .i64 a0_1, .int .i64 a0_2] 23 (0, 0)) (by (with_reducible repeat (first | refine blk_drewN ?_ _ | refine blk_drew ?_ | refine blk_alloc ?_ _)); exact BK179.out) hb)
      have n1_ := Aside0.mk (blk_below (g := gb180) (o := .cells #[.bool false, .int .i64 a1_1, .int .i64 a1_2] 23 (0, 0)) (by (with_reducible repeat (first | refine blk_drewN ?_ _ | refine blk_drew ?_ | refine blk_alloc ?_ _)); exact BK180.out) hb)
      have n2_ := Aside0.mk (blk_below (g := gb181) (o := .cells #[.bool false, .int .i64 0, .int .i64 0] 23 (0, 0)) (by (with_reducible repeat (first | refine blk_drewN ?_ _ | refine blk_drew ?_ | refine blk_alloc ?_ _)); exact BK181.out) hb)
      have n3_ := Aside0.mk (below_step (by repeat (first | (with_reducible first | exact HB.out | apply below_alloc | apply pw_below_drewN | apply below_drew1 | refine below_set ?_ GE179.out | refine below_set ?_ GE180.out | refine below_set ?_ GE181.out) | exact HB.out)) hb)
      clear BK179
      clear BK180
      clear BK181
      clear HB
      have BK179 := n0_
      have BK180 := n1_
      have BK181 := n2_
      have HB := n3_
      clear n0_ n1_ n2_ n3_
      (try clear hb)
      (try clear hb2)
      (try clear hk)
      (try clear hi)
      refine hK.out _ _ ⟨(blk_cell BK179.out 0).trans rfl, (blk_cell BK179.out 1).trans rfl, (blk_cell BK179.out 2).trans rfl, (blk_cell BK180.out 0).trans rfl, (blk_cell BK180.out 1).trans rfl, (blk_cell BK180.out 2).trans rfl⟩ (fun hHeld => ?_)
      clear hK K
      refine norm_ (a' := ?_) ?_ ?_
      rotate_left
      · show Act.put _ (some 15) _ = _
        simp only [Act.put, List.setIfInBounds_toArray, List.set_cons_zero, List.set_cons_succ, i64_w, i32_w]
        rfl
      refine one_ (i := 5) (N := some 18) #[true, true, true, true, true, true, false] rfl rfl (by kernel_rfl) (by decide) (fun K hK => ?_)
      refine goes_ Tryd.func60 (by kernel_rfl) rfl #[.int .u64 t182, .int .i64 a0_2] (by rfl) rfl rfl (by (try simp only [List.map_toArray, List.map_cons, List.map_nil]); first | done | rfl | (simp only [List.length_drop, List.length_take]; rfl)) ?_
      with_reducible refine (congr_by.calls k t182 a0_2 t183 t184 t185 _ A24.out).mono ?_
      rintro e w35 ⟨rfl, hb⟩
      refine ⟨_, rfl, ?_⟩
      have n0_ := Aside0.mk (blk_below (g := gb179) (o := .cells #[.bool false, .int .i64 a0_1, .int .i64 a0_2] 23 (0, 0)) (by (with_reducible repeat (first | refine blk_drewN ?_ _ | refine blk_drew ?_ | refine blk_alloc ?_ _)); exact BK179.out) hb)
      have n1_ := Aside0.mk (blk_below (g := gb180) (o := .cells #[.bool false, .int .i64 a1_1, .int .i64 a1_2] 23 (0, 0)) (by (with_reducible repeat (first | refine blk_drewN ?_ _ | refine blk_drew ?_ | refine blk_alloc ?_ _)); exact BK180.out) hb)
      have n2_ := Aside0.mk (blk_below (g := gb181) (o := .cells #[.bool false, .int .i64 0, .int .i64 0] 23 (0, 0)) (by (with_reducible repeat (first | refine blk_drewN ?_ _ | refine blk_drew ?_ | refine blk_alloc ?_ _)); exact BK181.out) hb)
      have n3_ := Aside0.mk (below_step (by repeat (first | (with_reducible first | exact HB.out | apply below_alloc | apply pw_below_drewN | apply below_drew1 | refine below_set ?_ GE179.out | refine below_set ?_ GE180.out | refine below_set ?_ GE181.out) | exact HB.out)) hb)
      clear BK179
      clear BK180
      clear BK181
      clear HB
      have BK179 := n0_
      have BK180 := n1_
      have BK181 := n2_
      have HB := n3_
      clear n0_ n1_ n2_ n3_
      (try clear hb)
      (try clear hb2)
      (try clear hk)
      (try clear hi)
      refine hK.out _ _ ⟨(blk_cell BK179.out 0).trans rfl, (blk_cell BK179.out 1).trans rfl, (blk_cell BK179.out 2).trans rfl, (blk_cell BK180.out 0).trans rfl, (blk_cell BK180.out 1).trans rfl, (blk_cell BK180.out 2).trans rfl⟩ (fun hHeld => ?_)
      clear hK K
      refine norm_ (a' := ?_) ?_ ?_
      rotate_left
      · show Act.put _ (some 18) _ = _
        simp only [Act.put, List.setIfInBounds_toArray, List.set_cons_zero, List.set_cons_succ, i64_w, i32_w]
        rfl
      refine one_ (i := 6) (N := none) #[true, true, true, true, true, true, true] rfl rfl (by kernel_rfl) (by decide) (fun K hK => ?_)
      have hs36 : w35.cell? ⟨gb181, 0, none⟩ = some (.bool false) := (blk_cell BK181.out 0).trans rfl
      have hfs36 := blk_frozen BK181.out 0
      have hns36_0 := NB179_181.out
      have hns36_1 := NB180_181.out
      have hms36_0 := NB181_179.out
      have hms36_1 := NB181_180.out
      have hs37 : w35.cell? ⟨gb181, 1, none⟩ = some (.int .i64 0) := (blk_cell BK181.out 1).trans rfl
      have hfs37 := blk_frozen BK181.out 1
      have hns37_0 := NB179_181.out
      have hns37_1 := NB180_181.out
      have hms37_0 := NB181_179.out
      have hms37_1 := NB181_180.out
      have hs38 : w35.cell? ⟨gb181, 2, none⟩ = some (.int .i64 0) := (blk_cell BK181.out 2).trans rfl
      have hfs38 := blk_frozen BK181.out 2
      have hns38_0 := NB179_181.out
      have hns38_1 := NB180_181.out
      have hms38_0 := NB181_179.out
      have hms38_1 := NB181_180.out
      refine skip_ (w1 := ?_) (by rfl) rfl ?_ ?_
      rotate_left
      · go_simp
        rfl
      refine hK.out _ _ ⟨((cell_far (p := ⟨gb181, _, none⟩) NB179_181.out _).trans (((cell_far (p := ⟨gb181, _, none⟩) NB179_181.out _).trans (((cell_far (p := ⟨gb181, _, none⟩) NB179_181.out _).trans (hHeld.1)))))), ((cell_far (p := ⟨gb181, _, none⟩) NB179_181.out _).trans (((cell_far (p := ⟨gb181, _, none⟩) NB179_181.out _).trans (((cell_far (p := ⟨gb181, _, none⟩) NB179_181.out _).trans (hHeld.2.1)))))), ((cell_far (p := ⟨gb181, _, none⟩) NB179_181.out _).trans (((cell_far (p := ⟨gb181, _, none⟩) NB179_181.out _).trans (((cell_far (p := ⟨gb181, _, none⟩) NB179_181.out _).trans (hHeld.2.2.1)))))), ((cell_far (p := ⟨gb181, _, none⟩) NB180_181.out _).trans (((cell_far (p := ⟨gb181, _, none⟩) NB180_181.out _).trans (((cell_far (p := ⟨gb181, _, none⟩) NB180_181.out _).trans (hHeld.2.2.2.1)))))), ((cell_far (p := ⟨gb181, _, none⟩) NB180_181.out _).trans (((cell_far (p := ⟨gb181, _, none⟩) NB180_181.out _).trans (((cell_far (p := ⟨gb181, _, none⟩) NB180_181.out _).trans (hHeld.2.2.2.2.1)))))), ((cell_far (p := ⟨gb181, _, none⟩) NB180_181.out _).trans (((cell_far (p := ⟨gb181, _, none⟩) NB180_181.out _).trans (((cell_far (p := ⟨gb181, _, none⟩) NB180_181.out _).trans (hHeld.2.2.2.2.2))))))⟩ (fun hHeld => ?_)
      clear hK K
      refine done_ (by kernel_rfl) ?_
      try go_wp2
      refine bodyPost_ret (results_cell_row rfl _ _ gb181 23 #[.bool t183, .int .i64 t184, .int .i64 t185] (0, 0) _ rfl (by (with_reducible repeat (first | refine blk_drewN ?_ _ | refine blk_drew ?_ | refine blk_alloc ?_ _)); refine blk_put (cs := #[.bool t183, .int .i64 t184, .int .i64 0]) ?_ 2 _ rfl; (with_reducible repeat (first | refine blk_drewN ?_ _ | refine blk_drew ?_ | refine blk_alloc ?_ _)); refine blk_put (cs := #[.bool t183, .int .i64 0, .int .i64 0]) ?_ 1 _ rfl; (with_reducible repeat (first | refine blk_drewN ?_ _ | refine blk_drew ?_ | refine blk_alloc ?_ _)); refine blk_put (cs := #[.bool false, .int .i64 0, .int .i64 0]) ?_ 0 _ rfl; (with_reducible repeat (first | refine blk_drewN ?_ _ | refine blk_drew ?_ | refine blk_alloc ?_ _)); exact BK181.out) Tryd.underlying23 rfl (by kernel_rfl)) rfl ?_
      exact ⟨by first | rfl | (simp [errW_none, errW_some] <;> rfl) | (simp [*, errW_none, errW_some] <;> rfl), by repeat (first | (with_reducible first | exact HB.out | apply below_alloc | apply pw_below_drewN | apply below_drew1 | refine below_set ?_ GE179.out | refine below_set ?_ GE180.out | refine below_set ?_ GE181.out) | exact HB.out)⟩

end Go.Proofs.YtfmmjekhknaniaaDoor.Pr

namespace Go.Proofs.YtfmmjekhknaniaaDoor.Core
open Go.RowKit Go.Proofs.YtfmmjekhknaniaaDoor.Pr Go.Proofs.YtfmmjekhknaniaaDoorW.PrintWords

theorem ev_of {α : Type} {g : Nat → Option α} {r : α} (n : Nat) (h : ∀ k, g (k + n) = some r) : Ev g r :=
  ⟨n, fun k hk => by obtain ⟨j, rfl⟩ : ∃ j, k = j + n := ⟨k - n, by omega⟩; exact h j⟩

theorem G_ab (a b : Int) : G a (ab b) = G a b := by
  refine Int.dvd_antisymm (G_nonneg _ _) (G_nonneg _ _) ?_ ?_
  · rw [dvd_G]; exact ⟨G_dvd_l _ _, dvd_ab.mp (G_dvd_r a (ab b))⟩
  · rw [dvd_G]; exact ⟨G_dvd_l _ _, dvd_ab.mpr (G_dvd_r a b)⟩
theorem ab_le {x m : Int} (h : -m ≤ x) (h' : x ≤ m) : ab x ≤ m := by unfold ab; split <;> omega

theorem apart_f {a b : Cg} (ha : Fit a) (hb : Fit b) : Ev (fun k => congr_apart.f k a.1 a.2.1 a.2.2 b.1 b.2.1 b.2.2) (G (G a.2.1 b.2.1) (a.2.2 - b.2.2)) := by
  have ma := fit_mod ha
  have mb := fit_mod hb
  unfold congr_apart.f
  rw [u64_id (n := a.2.1) (by omega) (by omega), u64_id (n := b.2.1) (by omega) (by omega), w64_id (n := a.2.2 - b.2.2) (by omega) (by omega)]
  refine Ev.bind (gcd_f (by omega) (by omega)) ?_
  rw [size_f (by omega) (by omega)]
  simp only [Option.bind_some]
  have := gcd_f (G_nonneg a.2.1 b.2.1) (ab_nonneg (a.2.2 - b.2.2))
  rw [G_ab] at this
  exact Ev.bind this (Ev.now _)

theorem apart_le {a b : Cg} (ha : Fit a) (hb : Fit b) : G (G a.2.1 b.2.1) (a.2.2 - b.2.2) ≤ 18446744073709551615 := by
  have ma := fit_mod ha
  have mb := fit_mod hb
  rw [← G_ab]
  exact G_le (G_nonneg _ _) (ab_nonneg _) (G_le (by omega) (by omega) (by omega) (by omega)) (ab_le (by omega) (by omega))

theorem Join_f {a b : Cg} (ha : Fit a) (hb : Fit b) : Ev (fun k => congr_Join.f k a.1 a.2.1 a.2.2 b.1 b.2.1 b.2.2) (joinS a b) := by
  have ma := fit_mod ha
  unfold congr_Join.f joinS
  by_cases h1 : a.1 = true
  · simp only [if_pos h1]; exact Ev.now _
  · simp only [if_neg h1]
    by_cases h2 : b.1 = true
    · simp only [if_pos h2]; exact Ev.now _
    · simp only [if_neg h2]
      refine Ev.bind (apart_f ha hb) ?_
      exact Ev.bind (ev_of 1 (by_f (G_nonneg _ _) (apart_le ha hb) (by omega) (by omega))) (Ev.now _)

end Go.Proofs.YtfmmjekhknaniaaDoor.Core

namespace Go.Proofs.YtfmmjekhknaniaaDoor.Pr
open Go.RowKit Go.Proofs.YtfmmjekhknaniaaDoor.Given Go.Proofs.YtfmmjekhknaniaaDoorW.PrintWords Go.Proofs.YtfmmjekhknaniaaDoorW.PrintLast Go.Proofs.YtfmmjekhknaniaaDoorW.PrintMore
attribute [local go_sem] max2_int min2_int max_two min_two max_three min_three max_four min_four   -- for this text's walks alone
set_option linter.unusedVariables false
set_option linter.unusedSimpArgs false

attribute [local go_sem high] eqA23
def congr_Leq.f (k : Nat) (a0_0 : Bool) (a0_1 : Int) (a0_2 : Int) (a1_0 : Bool) (a1_1 : Int) (a1_2 : Int) : Option (Bool) := if a0_0 = true then (some true) else (if a1_0 = true then (some false) else ((congr_Join.f k a0_0 a0_1 a0_2 a1_0 a1_1 a1_2).bind fun bt225 => (some (bt225.1 == a1_0 && (bt225.2.1 == a1_1 && (bt225.2.2 == a1_2))))))
theorem congr_Leq.mono : ∀ a0 a1 a2 a3 a4 a5 k, LeO (congr_Leq.f k a0 a1 a2 a3 a4 a5) (congr_Leq.f (k + 1) a0 a1 a2 a3 a4 a5) := by
  intro a0 a1 a2 a3 a4 a5 k
  unfold congr_Leq.f
  repeat' first
      | (with_reducible exact congr_Join.mono _ _ _ _ _ _ _)
      | (with_reducible exact LeO.refl _)
      | (with_reducible exact LeO.none _)
      | (with_reducible refine LeO.ite ?_ ?_)
      | (with_reducible refine LeO.bind ?_ (fun _ => ?_))
      | exact congr_Join.mono _ _ _ _ _ _ _
      | exact LeO.none _
      | refine LeO.ite ?_ ?_
      | refine LeO.bind ?_ (fun _ => ?_)
def congr_Leq.T1 : Bool × List (List Nat × List Nat) := (true, [([], []), ([0], [0]), ([1], [1]), ([2], [2]), ([3, 2], [2, 3]), ([4, 2], [2, 4]), ([5, 2, 2], [2, 5]), ([6], [6]), ([6], [6]), ([7, 8, 6, 6], [6, 7, 8]), ([6], [6]), ([9, 10, 6], [6, 9, 10]), ([6, 11, 2], [2, 6, 11]), ([2, 12], [2, 12]), ([13, 9, 0, 1, 2, 3, 4, 5, 6, 7, 8, 9, 10, 11, 12, 13], [13])])
def congr_Leq.B1 : List Nat := [0, 1, 3, 7, 15, 31, 63, 127, 127, 511, 127, 2047, 4095, 8191, 16383]
theorem congr_Leq.tab1 : rtab .any (opsOf Tryd.f21 1) = congr_Leq.T1 := by kernel_rfl
theorem congr_Leq.bits1 : waitsOk congr_Leq.T1.2 congr_Leq.B1 = true := by kernel_rfl
set_option maxHeartbeats 8000000 in
set_option maxRecDepth 100000 in
theorem congr_Leq.calls (k : Nat) (a0_0 : Bool) (a0_1 : Int) (a0_2 : Int) (a1_0 : Bool) (a1_1 : Int) (a1_2 : Int) (r : Bool) (w : World) (h : congr_Leq.f k a0_0 a0_1 a0_2 a1_0 a1_1 a1_2 = some r) :
    Calls Tryd.prog 21 #[.agg #[.bool a0_0, .int .i64 a0_1, .int .i64 a0_2], .agg #[.bool a1_0, .int .i64 a1_1, .int .i64 a1_2]] w fun e w' => e = .returned (.bool r) ∧ Below w.heap.size w w' := by
  have hu23 := Tryd.underlying23
  have HB := Aside0.mk (Below.refl w.heap.size w)
  have H : (if a0_0 = true then (some true) else (if a1_0 = true then (some false) else ((congr_Join.f k a0_0 a0_1 a0_2 a1_0 a1_1 a1_2).bind fun bt225 => (some (bt225.1 == a1_0 && (bt225.2.1 == a1_1 && (bt225.2.2 == a1_2))))))) = some r := h
  clear h
  by_cases c3 : a0_0 = true
  · subst c3
    have H1 : (some true) = some r := by rw [if_pos rfl] at H; exact H
    clear H
    have H := H1
    clear H1
    obtain rfl := Option.some.inj H
    go_enter Tryd.func21, Tryd.ntmps21
    try go_wp2_with (first | ((with_reducible refine gate_dst (N := 2) rfl ?_); refine box_event ?hg (N := 2) ?hd (cs := #[.bool true, .int .i64 a0_1, .int .i64 a0_2]) (t := 23) ?hr ?_; (case hd => rfl); (case hg => rfl); (case hr => first | (go_simp; done) | (go_simp; rfl)); intro gb223 hg w4 hbox hb; have n0_ := Aside0.mk (below_step (by repeat (first | (with_reducible first | exact HB.out | apply below_alloc | apply pw_below_drewN | apply below_drew1) | exact HB.out)) hb); have n1_ := Aside0.mk (hbox); have n2_ := Aside0.mk ((by rw [hg]; exact (below_size (by repeat (first | (with_reducible first | exact HB.out | apply below_alloc | apply pw_below_drewN | apply below_drew1) | exact HB.out))) : w.heap.size ≤ gb223)); have n3_ := Aside0.mk ((by rw [hg]; exact (below_size (by repeat (first | (with_reducible first | exact HB.out | apply below_alloc | apply pw_below_drewN | apply below_drew1) | exact HB.out))) : w.heap.size ≤ gb223)); clear HB; have HB := n0_; have BK223 := n1_; have GW223 := n2_; have GE223 := n3_; clear n0_ n1_ n2_ n3_; clear hb hbox hg) | ((with_reducible refine gate_dst (N := 3) rfl ?_); refine box_event ?hg (N := 3) ?hd (cs := #[.bool a1_0, .int .i64 a1_1, .int .i64 a1_2]) (t := 23) ?hr ?_; (case hd => rfl); (case hg => rfl); (case hr => first | (go_simp; done) | (go_simp; rfl)); intro gb224 hg w5 hbox hb; have n0_ := Aside0.mk (blk_below (g := gb223) (o := .cells #[.bool true, .int .i64 a0_1, .int .i64 a0_2] 23 (0, 0)) (by (with_reducible repeat (first | refine blk_drewN ?_ _ | refine blk_drew ?_ | refine blk_alloc ?_ _)); exact BK223.out) hb); have n1_ := Aside0.mk (below_step (by repeat (first | (with_reducible first | exact HB.out | apply below_alloc | apply pw_below_drewN | apply below_drew1 | refine below_set ?_ GE223.out) | exact HB.out)) hb); have n2_ := Aside0.mk (hbox); have n3_ := Aside0.mk ((by rw [hg]; exact (below_size (by repeat (first | (with_reducible first | exact HB.out | apply below_alloc | apply pw_below_drewN | apply below_drew1 | refine below_set ?_ GE223.out) | exact HB.out))) : w.heap.size ≤ gb224)); have n4_ := Aside0.mk ((by rw [hg]; exact (below_size (by repeat (first | (with_reducible first | exact HB.out | apply below_alloc | apply pw_below_drewN | apply below_drew1 | refine below_set ?_ GE223.out) | exact HB.out))) : w.heap.size ≤ gb224)); have n5_ := Aside0.mk ((by rw [hg]; exact Nat.ne_of_lt (blk_lt (g := gb223) (o := .cells #[.bool true, .int .i64 a0_1, .int .i64 a0_2] 23 (0, 0)) (by (with_reducible repeat (first | refine blk_drewN ?_ _ | refine blk_drew ?_ | refine blk_alloc ?_ _)); exact BK223.out)) : gb223 ≠ gb224)); have n6_ := Aside0.mk ((by rw [hg]; exact Nat.ne_of_gt (blk_lt (g := gb223) (o := .cells #[.bool true, .int .i64 a0_1, .int .i64 a0_2] 23 (0, 0)) (by (with_reducible repeat (first | refine blk_drewN ?_ _ | refine blk_drew ?_ | refine blk_alloc ?_ _)); exact BK223.out)) : gb224 ≠ gb223)); clear BK223; clear HB; have BK223 := n0_; have HB := n1_; have BK224 := n2_; have GW224 := n3_; have GE224 := n4_; have NB223_224 := n5_; have NB224_223 := n6_; clear n0_ n1_ n2_ n3_ n4_ n5_ n6_; clear hb hbox hg))
    have n0_ := Aside0.mk (blk_drew BK223.out)
    have n1_ := Aside0.mk (blk_drew BK224.out)
    have n2_ := Aside0.mk (below_drew1 HB.out)
    clear BK223
    clear BK224
    clear HB
    have BK223 := n0_
    have BK224 := n1_
    have HB := n2_
    clear n0_ n1_ n2_
    refine start_ (n := 15) (S := fun w' => w'.cell? ⟨gb223, 0, none⟩ = some (.bool true) ∧ w'.cell? ⟨gb223, 1, none⟩ = some (.int .i64 a0_1) ∧ w'.cell? ⟨gb223, 2, none⟩ = some (.int .i64 a0_2)) (ds := []) #[false, false, false, false, false, false, false, false, false, false, false, false, false, false, false] (by kernel_rfl) rfl rfl ⟨(blk_cell BK223.out 0).trans rfl, (blk_cell BK223.out 1).trans rfl, (blk_cell BK223.out 2).trans rfl⟩ (fun hHeld => ?_); refine with_tabW congr_Leq.tab1 congr_Leq.bits1 (fun HT_ HW_ => ?_)
    generalize w5.drew = w6 at BK223 BK224 HB hHeld ⊢
    refine pure_ (i := 0) (N := some 5) (v := ?_) (a' := ?_) #[true, false, false, false, false, false, false, false, false, false, false, false, false, false, false] rfl rfl (any_of HT_.out (by kernel_rfl)) (fun _ _ _ h => h) (Or.inl ⟨by rfl, ?_⟩) ?_ ?_
    rotate_left
    · intro w'
      go_simp
      with_reducible rfl
    rotate_left
    · simp only [Act.put, List.setIfInBounds_toArray, List.set_cons_zero, List.set_cons_succ, i64_w, i32_w]
      rfl
    refine take_ (i := 1) (N := some 6) (v := ?_) (a' := ?_) #[true, true, false, false, false, false, false, false, false, false, false, false, false, false, false] rfl rfl (take_ofW HT_.out HW_.out (by kernel_rfl)) (fun _ _ _ h => h) (Or.inl ⟨by rfl, ?_⟩) hHeld ?_ ?_
    rotate_left
    · rintro w' ⟨s0, s1, s2⟩
      go_simp
      with_reducible rfl
    rotate_left
    · simp only [Act.put, List.setIfInBounds_toArray, List.set_cons_zero, List.set_cons_succ, i64_w, i32_w]
      rfl
    refine pure_ (i := 2) (N := some 7) (v := ?_) (a' := ?_) #[true, true, true, false, false, false, false, false, false, false, false, false, false, false, false] rfl rfl (any_of HT_.out (by kernel_rfl)) (fun _ _ _ h => h) (Or.inl ⟨by rfl, ?_⟩) ?_ ?_
    rotate_left
    · intro w'
      go_simp
      with_reducible rfl
    rotate_left
    · simp only [Act.put, List.setIfInBounds_toArray, List.set_cons_zero, List.set_cons_succ, i64_w, i32_w]
      rfl
    refine pure_ (i := 3) (N := some 8) (v := undef) (a' := ?_) #[true, true, true, true, false, false, false, false, false, false, false, false, false, false, false] rfl rfl (any_of HT_.out (by kernel_rfl)) (fun _ _ _ h => h) (Or.inr ⟨by rfl, rfl⟩) ?_ ?_
    rotate_left
    · simp only [Act.put, List.setIfInBounds_toArray, List.set_cons_zero, List.set_cons_succ, i64_w, i32_w]
      rfl
    refine pure_ (i := 4) (N := some 9) (v := undef) (a' := ?_) #[true, true, true, true, true, false, false, false, false, false, false, false, false, false, false] rfl rfl (any_of HT_.out (by kernel_rfl)) (fun _ _ _ h => h) (Or.inr ⟨by rfl, rfl⟩) ?_ ?_
    rotate_left
    · simp only [Act.put, List.setIfInBounds_toArray, List.set_cons_zero, List.set_cons_succ, i64_w, i32_w]
      rfl
    refine pure_ (i := 5) (N := some 10) (v := undef) (a' := ?_) #[true, true, true, true, true, true, false, false, false, false, false, false, false, false, false] rfl rfl (any_of HT_.out (by kernel_rfl)) (fun _ _ _ h => h) (Or.inr ⟨by rfl, rfl⟩) ?_ ?_
    rotate_left
    · simp only [Act.put, List.setIfInBounds_toArray, List.set_cons_zero, List.set_cons_succ, i64_w, i32_w]
      rfl
    refine pure_ (i := 6) (N := some 11) (v := undef) (a' := ?_) #[true, true, true, true, true, true, true, false, false, false, false, false, false, false, false] rfl rfl (any_of HT_.out (by kernel_rfl)) (fun _ _ _ h => h) (Or.inr ⟨by rfl, rfl⟩) ?_ ?_
    rotate_left
    · simp only [Act.put, List.setIfInBounds_toArray, List.set_cons_zero, List.set_cons_succ, i64_w, i32_w]
      rfl
    refine pure_ (i := 7) (N := some 12) (v := undef) (a' := ?_) #[true, true, true, true, true, true, true, true, false, false, false, false, false, false, false] rfl rfl (any_of HT_.out (by kernel_rfl)) (fun _ _ _ h => h) (Or.inr ⟨by rfl, rfl⟩) ?_ ?_
    rotate_left
    · simp only [Act.put, List.setIfInBounds_toArray, List.set_cons_zero, List.set_cons_succ, i64_w, i32_w]
      rfl
    refine pure_ (i := 8) (N := some 13) (v := undef) (a' := ?_) #[true, true, true, true, true, true, true, true, true, false, false, false, false, false, false] rfl rfl (any_of HT_.out (by kernel_rfl)) (fun _ _ _ h => h) (Or.inr ⟨by rfl, rfl⟩) ?_ ?_
    rotate_left
    · simp only [Act.put, List.setIfInBounds_toArray, List.set_cons_zero, List.set_cons_succ, i64_w, i32_w]
      rfl
    refine pure_ (i := 9) (N := some 14) (v := undef) (a' := ?_) #[true, true, true, true, true, true, true, true, true, true, false, false, false, false, false] rfl rfl (any_of HT_.out (by kernel_rfl)) (fun _ _ _ h => h) (Or.inr ⟨by rfl, rfl⟩) ?_ ?_
    rotate_left
    · simp only [Act.put, List.setIfInBounds_toArray, List.set_cons_zero, List.set_cons_succ, i64_w, i32_w]
      rfl
    refine pure_ (i := 10) (N := some 15) (v := undef) (a' := ?_) #[true, true, true, true, true, true, true, true, true, true, true, false, false, false, false] rfl rfl (any_of HT_.out (by kernel_rfl)) (fun _ _ _ h => h) (Or.inr ⟨by rfl, rfl⟩) ?_ ?_
    rotate_left
    · simp only [Act.put, List.setIfInBounds_toArray, List.set_cons_zero, List.set_cons_succ, i64_w, i32_w]
      rfl
    refine pure_ (i := 11) (N := some 16) (v := undef) (a' := ?_) #[true, true, true, true, true, true, true, true, true, true, true, true, false, false, false] rfl rfl (any_of HT_.out (by kernel_rfl)) (fun _ _ _ h => h) (Or.inr ⟨by rfl, rfl⟩) ?_ ?_
    rotate_left
    · simp only [Act.put, List.setIfInBounds_toArray, List.set_cons_zero, List.set_cons_succ, i64_w, i32_w]
      rfl
    refine pure_ (i := 12) (N := some 17) (v := undef) (a' := ?_) #[true, true, true, true, true, true, true, true, true, true, true, true, true, false, false] rfl rfl (any_of HT_.out (by kernel_rfl)) (fun _ _ _ h => h) (Or.inr ⟨by rfl, rfl⟩) ?_ ?_
    rotate_left
    · simp only [Act.put, List.setIfInBounds_toArray, List.set_cons_zero, List.set_cons_succ, i64_w, i32_w]
      rfl
    refine pure_ (i := 13) (N := some 18) (v := ?_) (a' := ?_) #[true, true, true, true, true, true, true, true, true, true, true, true, true, true, false] rfl rfl (any_of HT_.out (by kernel_rfl)) (fun _ _ _ h => h) (Or.inl ⟨by rfl, ?_⟩) ?_ ?_
    rotate_left
    · intro w'
      go_simp
      with_reducible rfl
    rotate_left
    · simp only [Act.put, List.setIfInBounds_toArray, List.set_cons_zero, List.set_cons_succ, i64_w, i32_w]
      rfl
    refine pure_ (i := 14) (N := some 4) (v := ?_) (a' := ?_) #[true, true, true, true, true, true, true, true, true, true, true, true, true, true, true] rfl rfl (any_of HT_.out (by kernel_rfl)) (fun _ _ _ h => h) (Or.inl ⟨by rfl, ?_⟩) ?_ ?_
    rotate_left
    · intro w'
      go_simp
      with_reducible rfl
    rotate_left
    · simp only [Act.put, List.setIfInBounds_toArray, List.set_cons_zero, List.set_cons_succ, i64_w, i32_w]
      rfl
    refine done_ (done_of HT_.out (by kernel_rfl)) ?_
    try go_wp2
    go_ret
    exact ⟨by first | rfl | (simp [errW_none, errW_some] <;> rfl) | (simp [*, errW_none, errW_some] <;> rfl), by repeat (first | (with_reducible first | exact HB.out | apply below_alloc | apply pw_below_drewN | apply below_drew1 | refine below_set ?_ GE223.out | refine below_set ?_ GE224.out) | exact HB.out)⟩
  · replace c3 := Bool.eq_false_iff.mpr c3
    subst c3
    have H1 : (if a1_0 = true then (some false) else ((congr_Join.f k false a0_1 a0_2 a1_0 a1_1 a1_2).bind fun bt225 => (some (bt225.1 == a1_0 && (bt225.2.1 == a1_1 && (bt225.2.2 == a1_2)))))) = some r := by rw [if_neg (show ¬ (false = true) by decide)] at H; exact H
    clear H
    have H := H1
    clear H1
    by_cases c7 : a1_0 = true
    · subst c7
      have H1 : (some false) = some r := by rw [if_pos rfl] at H; exact H
      clear H
      have H := H1
      clear H1
      obtain rfl := Option.some.inj H
      go_enter Tryd.func21, Tryd.ntmps21
      try go_wp2_with (first | ((with_reducible refine gate_dst (N := 2) rfl ?_); refine box_event ?hg (N := 2) ?hd (cs := #[.bool false, .int .i64 a0_1, .int .i64 a0_2]) (t := 23) ?hr ?_; (case hd => rfl); (case hg => rfl); (case hr => first | (go_simp; done) | (go_simp; rfl)); intro gb223 hg w8 hbox hb; have n0_ := Aside0.mk (below_step (by repeat (first | (with_reducible first | exact HB.out | apply below_alloc | apply pw_below_drewN | apply below_drew1) | exact HB.out)) hb); have n1_ := Aside0.mk (hbox); have n2_ := Aside0.mk ((by rw [hg]; exact (below_size (by repeat (first | (with_reducible first | exact HB.out | apply below_alloc | apply pw_below_drewN | apply below_drew1) | exact HB.out))) : w.heap.size ≤ gb223)); have n3_ := Aside0.mk ((by rw [hg]; exact (below_size (by repeat (first | (with_reducible first | exact HB.out | apply below_alloc | apply pw_below_drewN | apply below_drew1) | exact HB.out))) : w.heap.size ≤ gb223)); clear HB; have HB := n0_; have BK223 := n1_; have GW223 := n2_; have GE223 := n3_; clear n0_ n1_ n2_ n3_; clear hb hbox hg) | ((with_reducible refine gate_dst (N := 3) rfl ?_); refine box_event ?hg (N := 3) ?hd (cs := #[.bool true, .int .i64 a1_1, .int .i64 a1_2]) (t := 23) ?hr ?_; (case hd => rfl); (case hg => rfl); (case hr => first | (go_simp; done) | (go_simp; rfl)); intro gb224 hg w9 hbox hb; have n0_ := Aside0.mk (blk_below (g := gb223) (o := .cells #[.bool false, .int .i64 a0_1, .int .i64 a0_2] 23 (0, 0)) (by (with_reducible repeat (first | refine blk_drewN ?_ _ | refine blk_drew ?_ | refine blk_alloc ?_ _)); exact BK223.out) hb); have n1_ := Aside0.mk (below_step (by repeat (first | (with_reducible first | exact HB.out | apply below_alloc | apply pw_below_drewN | apply below_drew1 | refine below_set ?_ GE223.out) | exact HB.out)) hb); have n2_ := Aside0.mk (hbox); have n3_ := Aside0.mk ((by rw [hg]; exact (below_size (by repeat (first | (with_reducible first | exact HB.out | apply below_alloc | apply pw_below_drewN | apply below_drew1 | refine below_set ?_ GE223.out) | exact HB.out))) : w.heap.size ≤ gb224)); have n4_ := Aside0.mk ((by rw [hg]; exact (below_size (by repeat (first | (with_reducible first | exact HB.out | apply below_alloc | apply pw_below_drewN | apply below_drew1 | refine below_set ?_ GE223.out) | exact HB.out))) : w.heap.size ≤ gb224)); have n5_ := Aside0.mk ((by rw [hg]; exact Nat.ne_of_lt (blk_lt (g := gb223) (o := .cells #[.bool false, .int .i64 a0_1, .int .i64 a0_2] 23 (0, 0)) (by (with_reducible repeat (first | refine blk_drewN ?_ _ | refine blk_drew ?_ | refine blk_alloc ?_ _)); exact BK223.out)) : gb223 ≠ gb224)); have n6_ := Aside0.mk ((by rw [hg]; exact Nat.ne_of_gt (blk_lt (g := gb223) (o := .cells #[.bool false, .int .i64 a0_1, .int .i64 a0_2] 23 (0, 0)) (by (with_reducible repeat (first | refine blk_drewN ?_ _ | refine blk_drew ?_ | refine blk_alloc ?_ _)); exact BK223.out)) : gb224 ≠ gb223)); clear BK223; clear HB; have BK223 := n0_; have HB := n1_; have BK224 := n2_; have GW224 := n3_; have GE224 := n4_; have NB223_224 := n5_; have NB224_223 := n6_; clear n0_ n1_ n2_ n3_ n4_ n5_ n6_; clear hb hbox hg))
      have n0_ := Aside0.mk (blk_drew BK223.out)
      have n1_ := Aside0.mk (blk_drew BK224.out)
      have n2_ := Aside0.mk (below_drew1 HB.out)
      clear BK223
      clear BK224
      clear HB
      have BK223 := n0_
      have BK224 := n1_
      have HB := n2_
      clear n0_ n1_ n2_
      refine start_ (n := 15) (S := fun w' => w'.cell? ⟨gb223, 0, none⟩ = some (.bool false) ∧ w'.cell? ⟨gb223, 1, none⟩ = some (.int .i64 a0_1) ∧ w'.cell? ⟨gb223, 2, none⟩ = some (.int .i64 a0_2) ∧ w'.cell? ⟨gb224, 0, none⟩ = some (.bool true) ∧ w'.cell? ⟨gb224, 1, none⟩ = some (.int .i64 a1_1) ∧ w'.cell? ⟨gb224, 2, none⟩ = some (.int .i64 a1_2)) (ds := []) #[false, false, false, false, false, false, false, false, false, false, false, false, false, false, false] (by kernel_rfl) rfl rfl ⟨(blk_cell BK223.out 0).trans rfl, (blk_cell BK223.out 1).trans rfl, (blk_cell BK223.out 2).trans rfl, (blk_cell BK224.out 0).trans rfl, (blk_cell BK224.out 1).trans rfl, (blk_cell BK224.out 2).trans rfl⟩ (fun hHeld => ?_); refine with_tabW congr_Leq.tab1 congr_Leq.bits1 (fun HT_ HW_ => ?_)
      generalize w9.drew = w10 at BK223 BK224 HB hHeld ⊢
      refine pure_ (i := 0) (N := some 5) (v := ?_) (a' := ?_) #[true, false, false, false, false, false, false, false, false, false, false, false, false, false, false] rfl rfl (any_of HT_.out (by kernel_rfl)) (fun _ _ _ h => h) (Or.inl ⟨by rfl, ?_⟩) ?_ ?_
      rotate_left
      · intro w'
        go_simp
        with_reducible rfl
      rotate_left
      · simp only [Act.put, List.setIfInBounds_toArray, List.set_cons_zero, List.set_cons_succ, i64_w, i32_w]
        rfl
      refine take_ (i := 1) (N := some 6) (v := ?_) (a' := ?_) #[true, true, false, false, false, false, false, false, false, false, false, false, false, false, false] rfl rfl (take_ofW HT_.out HW_.out (by kernel_rfl)) (fun _ _ _ h => h) (Or.inl ⟨by rfl, ?_⟩) hHeld ?_ ?_
      rotate_left
      · rintro w' ⟨s0, s1, s2, s3, s4, s5⟩
        go_simp
        with_reducible rfl
      rotate_left
      · simp only [Act.put, List.setIfInBounds_toArray, List.set_cons_zero, List.set_cons_succ, i64_w, i32_w]
        rfl
      refine pure_ (i := 2) (N := some 7) (v := ?_) (a' := ?_) #[true, true, true, false, false, false, false, false, false, false, false, false, false, false, false] rfl rfl (any_of HT_.out (by kernel_rfl)) (fun _ _ _ h => h) (Or.inl ⟨by rfl, ?_⟩) ?_ ?_
      rotate_left
      · intro w'
        go_simp
        with_reducible rfl
      rotate_left
      · simp only [Act.put, List.setIfInBounds_toArray, List.set_cons_zero, List.set_cons_succ, i64_w, i32_w]
        rfl
      refine pure_ (i := 3) (N := some 8) (v := ?_) (a' := ?_) #[true, true, true, true, false, false, false, false, false, false, false, false, false, false, false] rfl rfl (any_of HT_.out (by kernel_rfl)) (fun _ _ _ h => h) (Or.inl ⟨by rfl, ?_⟩) ?_ ?_
      rotate_left
      · intro w'
        go_simp
        with_reducible rfl
      rotate_left
      · simp only [Act.put, List.setIfInBounds_toArray, List.set_cons_zero, List.set_cons_succ, i64_w, i32_w]
        rfl
      refine take_ (i := 4) (N := some 9) (v := ?_) (a' := ?_) #[true, true, true, true, true, false, false, false, false, false, false, false, false, false, false] rfl rfl (take_ofW HT_.out HW_.out (by kernel_rfl)) (fun _ _ _ h => h) (Or.inl ⟨by rfl, ?_⟩) hHeld ?_ ?_
      rotate_left
      · rintro w' ⟨s0, s1, s2, s3, s4, s5⟩
        go_simp
        with_reducible rfl
      rotate_left
      · simp only [Act.put, List.setIfInBounds_toArray, List.set_cons_zero, List.set_cons_succ, i64_w, i32_w]
        rfl
      refine pure_ (i := 5) (N := some 10) (v := ?_) (a' := ?_) #[true, true, true, true, true, true, false, false, false, false, false, false, false, false, false] rfl rfl (any_of HT_.out (by kernel_rfl)) (fun _ _ _ h => h) (Or.inl ⟨by rfl, ?_⟩) ?_ ?_
      rotate_left
      · intro w'
        go_simp
        with_reducible rfl
      rotate_left
      · simp only [Act.put, List.setIfInBounds_toArray, List.set_cons_zero, List.set_cons_succ, i64_w, i32_w]
        rfl
      refine pure_ (i := 6) (N := some 11) (v := ?_) (a' := ?_) #[true, true, true, true, true, true, true, false, false, false, false, false, false, false, false] rfl rfl (any_of HT_.out (by kernel_rfl)) (fun _ _ _ h => h) (Or.inl ⟨by rfl, ?_⟩) ?_ ?_
      rotate_left
      · intro w'
        go_simp
        with_reducible rfl
      rotate_left
      · simp only [Act.put, List.setIfInBounds_toArray, List.set_cons_zero, List.set_cons_succ, i64_w, i32_w]
        rfl
      refine pure_ (i := 7) (N := some 12) (v := undef) (a' := ?_) #[true, true, true, true, true, true, true, true, false, false, false, false, false, false, false] rfl rfl (any_of HT_.out (by kernel_rfl)) (fun _ _ _ h => h) (Or.inr ⟨by rfl, rfl⟩) ?_ ?_
      rotate_left
      · simp only [Act.put, List.setIfInBounds_toArray, List.set_cons_zero, List.set_cons_succ, i64_w, i32_w]
        rfl
      refine pure_ (i := 8) (N := some 13) (v := undef) (a' := ?_) #[true, true, true, true, true, true, true, true, true, false, false, false, false, false, false] rfl rfl (any_of HT_.out (by kernel_rfl)) (fun _ _ _ h => h) (Or.inr ⟨by rfl, rfl⟩) ?_ ?_
      rotate_left
      · simp only [Act.put, List.setIfInBounds_toArray, List.set_cons_zero, List.set_cons_succ, i64_w, i32_w]
        rfl
      refine pure_ (i := 9) (N := some 14) (v := undef) (a' := ?_) #[true, true, true, true, true, true, true, true, true, true, false, false, false, false, false] rfl rfl (any_of HT_.out (by kernel_rfl)) (fun _ _ _ h => h) (Or.inr ⟨by rfl, rfl⟩) ?_ ?_
      rotate_left
      · simp only [Act.put, List.setIfInBounds_toArray, List.set_cons_zero, List.set_cons_succ, i64_w, i32_w]
        rfl
      refine pure_ (i := 10) (N := some 15) (v := undef) (a' := ?_) #[true, true, true, true, true, true, true, true, true, true, true, false, false, false, false] rfl rfl (any_of HT_.out (by kernel_rfl)) (fun _ _ _ h => h) (Or.inr ⟨by rfl, rfl⟩) ?_ ?_
      rotate_left
      · simp only [Act.put, List.setIfInBounds_toArray, List.set_cons_zero, List.set_cons_succ, i64_w, i32_w]
        rfl
      refine pure_ (i := 11) (N := some 16) (v := undef) (a' := ?_) #[true, true, true, true, true, true, true, true, true, true, true, true, false, false, false] rfl rfl (any_of HT_.out (by kernel_rfl)) (fun _ _ _ h => h) (Or.inr ⟨by rfl, rfl⟩) ?_ ?_
      rotate_left
      · simp only [Act.put, List.setIfInBounds_toArray, List.set_cons_zero, List.set_cons_succ, i64_w, i32_w]
        rfl
      refine pure_ (i := 12) (N := some 17) (v := ?_) (a' := ?_) #[true, true, true, true, true, true, true, true, true, true, true, true, true, false, false] rfl rfl (any_of HT_.out (by kernel_rfl)) (fun _ _ _ h => h) (Or.inl ⟨by rfl, ?_⟩) ?_ ?_
      rotate_left
      · intro w'
        go_simp
        with_reducible rfl
      rotate_left
      · simp only [Act.put, List.setIfInBounds_toArray, List.set_cons_zero, List.set_cons_succ, i64_w, i32_w]
        rfl
      refine pure_ (i := 13) (N := some 18) (v := ?_) (a' := ?_) #[true, true, true, true, true, true, true, true, true, true, true, true, true, true, false] rfl rfl (any_of HT_.out (by kernel_rfl)) (fun _ _ _ h => h) (Or.inl ⟨by rfl, ?_⟩) ?_ ?_
      rotate_left
      · intro w'
        go_simp
        with_reducible rfl
      rotate_left
      · simp only [Act.put, List.setIfInBounds_toArray, List.set_cons_zero, List.set_cons_succ, i64_w, i32_w]
        rfl
      refine pure_ (i := 14) (N := some 4) (v := ?_) (a' := ?_) #[true, true, true, true, true, true, true, true, true, true, true, true, true, true, true] rfl rfl (any_of HT_.out (by kernel_rfl)) (fun _ _ _ h => h) (Or.inl ⟨by rfl, ?_⟩) ?_ ?_
      rotate_left
      · intro w'
        go_simp
        with_reducible rfl
      rotate_left
      · simp only [Act.put, List.setIfInBounds_toArray, List.set_cons_zero, List.set_cons_succ, i64_w, i32_w]
        rfl
      refine done_ (done_of HT_.out (by kernel_rfl)) ?_
      try go_wp2
      go_ret
      exact ⟨by first | rfl | (simp [errW_none, errW_some] <;> rfl) | (simp [*, errW_none, errW_some] <;> rfl), by repeat (first | (with_reducible first | exact HB.out | apply below_alloc | apply pw_below_drewN | apply below_drew1 | refine below_set ?_ GE223.out | refine below_set ?_ GE224.out) | exact HB.out)⟩
    · replace c7 := Bool.eq_false_iff.mpr c7
      subst c7
      have H1 : ((congr_Join.f k false a0_1 a0_2 false a1_1 a1_2).bind fun bt225 => (some (bt225.1 == false && (bt225.2.1 == a1_1 && (bt225.2.2 == a1_2))))) = some r := by rw [if_neg (show ¬ (false = true) by decide)] at H; exact H
      clear H
      have H := H1
      clear H1
      replace H := Option.bind_eq_some_iff.mp H
      obtain ⟨⟨t225, t226, t227⟩, A110, H⟩ := H
      replace H : (some (t225 == false && (t226 == a1_1 && (t227 == a1_2)))) = some r := H
      have A11 := Aside0.mk A110
      clear A110
      obtain rfl := Option.some.inj H
      go_enter Tryd.func21, Tryd.ntmps21
      try go_wp2_with (first | ((with_reducible refine gate_dst (N := 2) rfl ?_); refine box_event ?hg (N := 2) ?hd (cs := #[.bool false, .int .i64 a0_1, .int .i64 a0_2]) (t := 23) ?hr ?_; (case hd => rfl); (case hg => rfl); (case hr => first | (go_simp; done) | (go_simp; rfl)); intro gb223 hg w12 hbox hb; have n0_ := Aside0.mk (below_step (by repeat (first | (with_reducible first | exact HB.out | apply below_alloc | apply pw_below_drewN | apply below_drew1) | exact HB.out)) hb); have n1_ := Aside0.mk (hbox); have n2_ := Aside0.mk ((by rw [hg]; exact (below_size (by repeat (first | (with_reducible first | exact HB.out | apply below_alloc | apply pw_below_drewN | apply below_drew1) | exact HB.out))) : w.heap.size ≤ gb223)); have n3_ := Aside0.mk ((by rw [hg]; exact (below_size (by repeat (first | (with_reducible first | exact HB.out | apply below_alloc | apply pw_below_drewN | apply below_drew1) | exact HB.out))) : w.heap.size ≤ gb223)); clear HB; have HB := n0_; have BK223 := n1_; have GW223 := n2_; have GE223 := n3_; clear n0_ n1_ n2_ n3_; clear hb hbox hg) | ((with_reducible refine gate_dst (N := 3) rfl ?_); refine box_event ?hg (N := 3) ?hd (cs := #[.bool false, .int .i64 a1_1, .int .i64 a1_2]) (t := 23) ?hr ?_; (case hd => rfl); (case hg => rfl); (case hr => first | (go_simp; done) | (go_simp; rfl)); intro gb224 hg w13 hbox hb; have n0_ := Aside0.mk (blk_below (g := gb223) (o := .cells #[.bool false, .int .i64 a0_1, .int .i64 a0_2] 23 (0, 0)) (by (with_reducible repeat (first | refine blk_drewN ?_ _ | refine blk_drew ?_ | refine blk_alloc ?_ _)); exact BK223.out) hb); have n1_ := Aside0.mk (below_step (by repeat (first | (with_reducible first | exact HB.out | apply below_alloc | apply pw_below_drewN | apply below_drew1 | refine below_set ?_ GE223.out) | exact HB.out)) hb); have n2_ := Aside0.mk (hbox); have n3_ := Aside0.mk ((by rw [hg]; exact (below_size (by repeat (first | (with_reducible first | exact HB.out | apply below_alloc | apply pw_below_drewN | apply below_drew1 | refine below_set ?_ GE223.out) | exact HB.out))) : w.heap.size ≤ gb224)); have n4_ := Aside0.mk ((by rw [hg]; exact (below_size (by repeat (first | (with_reducible first | exact HB.out | apply below_alloc | apply pw_below_drewN | apply below_drew1 | refine below_set ?_ GE223.out) | exact HB.out))) : w.heap.size ≤ gb224)); have n5_ := Aside0.mk ((by rw [hg]; exact Nat.ne_of_lt (blk_lt (g := gb223) (o := .cells #[.bool false, .int .i64 a0_1, .int .i64 a0_2] 23 (0, 0)) (by (with_reducible repeat (first | refine blk_drewN ?_ _ | refine blk_drew ?_ | refine blk_alloc ?_ _)); exact BK223.out)) : gb223 ≠ gb224)); have n6_ := Aside0.mk ((by rw [hg]; exact Nat.ne_of_gt (blk_lt (g := gb223) (o := .cells #[.bool false, .int .i64 a0_1, .int .i64 a0_2] 23 (0, 0)) (by (with_reducible repeat (first | refine blk_drewN ?_ _ | refine blk_drew ?_ | refine blk_alloc ?_ _)); exact BK223.out)) : gb224 ≠ gb223)); clear BK223; clear HB; have BK223 := n0_; have HB := n1_; have BK224 := n2_; have GW224 := n3_; have GE224 := n4_; have NB223_224 := n5_; have NB224_223 := n6_; clear n0_ n1_ n2_ n3_ n4_ n5_ n6_; clear hb hbox hg))
      have n0_ := Aside0.mk (blk_drew BK223.out)
      have n1_ := Aside0.mk (blk_drew BK224.out)
      have n2_ := Aside0.mk (below_drew1 HB.out)
      clear BK223
      clear BK224
      clear HB
      have BK223 := n0_
      have BK224 := n1_
      have HB := n2_
      clear n0_ n1_ n2_
      refine start_ (n := 15) (S := fun w' => w'.cell? ⟨gb223, 0, none⟩ = some (.bool false) ∧ w'.cell? ⟨gb223, 1, none⟩ = some (.int .i64 a0_1) ∧ w'.cell? ⟨gb223, 2, none⟩ = some (.int .i64 a0_2) ∧ w'.cell? ⟨gb224, 0, none⟩ = some (.bool false) ∧ w'.cell? ⟨gb224, 1, none⟩ = some (.int .i64 a1_1) ∧ w'.cell? ⟨gb224, 2, none⟩ = some (.int .i64 a1_2)) (ds := []) #[false, false, false, false, false, false, false, false, false, false, false, false, false, false, false] (by kernel_rfl) rfl rfl ⟨(blk_cell BK223.out 0).trans rfl, (blk_cell BK223.out 1).trans rfl, (blk_cell BK223.out 2).trans rfl, (blk_cell BK224.out 0).trans rfl, (blk_cell BK224.out 1).trans rfl, (blk_cell BK224.out 2).trans rfl⟩ (fun hHeld => ?_); refine with_tabW congr_Leq.tab1 congr_Leq.bits1 (fun HT_ HW_ => ?_)
      generalize w13.drew = w14 at BK223 BK224 HB hHeld ⊢
      refine pure_ (i := 0) (N := some 5) (v := ?_) (a' := ?_) #[true, false, false, false, false, false, false, false, false, false, false, false, false, false, false] rfl rfl (any_of HT_.out (by kernel_rfl)) (fun _ _ _ h => h) (Or.inl ⟨by rfl, ?_⟩) ?_ ?_
      rotate_left
      · intro w'
        go_simp
        with_reducible rfl
      rotate_left
      · simp only [Act.put, List.setIfInBounds_toArray, List.set_cons_zero, List.set_cons_succ, i64_w, i32_w]
        rfl
      refine take_ (i := 1) (N := some 6) (v := ?_) (a' := ?_) #[true, true, false, false, false, false, false, false, false, false, false, false, false, false, false] rfl rfl (take_ofW HT_.out HW_.out (by kernel_rfl)) (fun _ _ _ h => h) (Or.inl ⟨by rfl, ?_⟩) hHeld ?_ ?_
      rotate_left
      · rintro w' ⟨s0, s1, s2, s3, s4, s5⟩
        go_simp
        with_reducible rfl
      rotate_left
      · simp only [Act.put, List.setIfInBounds_toArray, List.set_cons_zero, List.set_cons_succ, i64_w, i32_w]
        rfl
      refine pure_ (i := 2) (N := some 7) (v := ?_) (a' := ?_) #[true, true, true, false, false, false, false, false, false, false, false, false, false, false, false] rfl rfl (any_of HT_.out (by kernel_rfl)) (fun _ _ _ h => h) (Or.inl ⟨by rfl, ?_⟩) ?_ ?_
      rotate_left
      · intro w'
        go_simp
        with_reducible rfl
      rotate_left
      · simp only [Act.put, List.setIfInBounds_toArray, List.set_cons_zero, List.set_cons_succ, i64_w, i32_w]
        rfl
      refine pure_ (i := 3) (N := some 8) (v := ?_) (a' := ?_) #[true, true, true, true, false, false, false, false, false, false, false, false, false, false, false] rfl rfl (any_of HT_.out (by kernel_rfl)) (fun _ _ _ h => h) (Or.inl ⟨by rfl, ?_⟩) ?_ ?_
      rotate_left
      · intro w'
        go_simp
        with_reducible rfl
      rotate_left
      · simp only [Act.put, List.setIfInBounds_toArray, List.set_cons_zero, List.set_cons_succ, i64_w, i32_w]
        rfl
      refine take_ (i := 4) (N := some 9) (v := ?_) (a' := ?_) #[true, true, true, true, true, false, false, false, false, false, false, false, false, false, false] rfl rfl (take_ofW HT_.out HW_.out (by kernel_rfl)) (fun _ _ _ h => h) (Or.inl ⟨by rfl, ?_⟩) hHeld ?_ ?_
      rotate_left
      · rintro w' ⟨s0, s1, s2, s3, s4, s5⟩
        go_simp
        with_reducible rfl
      rotate_left
      · simp only [Act.put, List.setIfInBounds_toArray, List.set_cons_zero, List.set_cons_succ, i64_w, i32_w]
        rfl
      refine pure_ (i := 5) (N := some 10) (v := ?_) (a' := ?_) #[true, true, true, true, true, true, false, false, false, false, false, false, false, false, false] rfl rfl (any_of HT_.out (by kernel_rfl)) (fun _ _ _ h => h) (Or.inl ⟨by rfl, ?_⟩) ?_ ?_
      rotate_left
      · intro w'
        go_simp
        with_reducible rfl
      rotate_left
      · simp only [Act.put, List.setIfInBounds_toArray, List.set_cons_zero, List.set_cons_succ, i64_w, i32_w]
        rfl
      refine pure_ (i := 6) (N := some 11) (v := ?_) (a' := ?_) #[true, true, true, true, true, true, true, false, false, false, false, false, false, false, false] rfl rfl (any_of HT_.out (by kernel_rfl)) (fun _ _ _ h => h) (Or.inl ⟨by rfl, ?_⟩) ?_ ?_
      rotate_left
      · intro w'
        go_simp
        with_reducible rfl
      rotate_left
      · simp only [Act.put, List.setIfInBounds_toArray, List.set_cons_zero, List.set_cons_succ, i64_w, i32_w]
        rfl
      refine take_ (i := 7) (N := some 12) (v := ?_) (a' := ?_) #[true, true, true, true, true, true, true, true, false, false, false, false, false, false, false] rfl rfl (take_ofW HT_.out HW_.out (by kernel_rfl)) (fun _ _ _ h => h) (Or.inl ⟨by rfl, ?_⟩) hHeld ?_ ?_
      rotate_left
      · rintro w' ⟨s0, s1, s2, s3, s4, s5⟩
        go_simp
        with_reducible rfl
      rotate_left
      · simp only [Act.put, List.setIfInBounds_toArray, List.set_cons_zero, List.set_cons_succ, i64_w, i32_w]
        rfl
      refine take_ (i := 8) (N := some 13) (v := ?_) (a' := ?_) #[true, true, true, true, true, true, true, true, true, false, false, false, false, false, false] rfl rfl (take_ofW HT_.out HW_.out (by kernel_rfl)) (fun _ _ _ h => h) (Or.inl ⟨by rfl, ?_⟩) hHeld ?_ ?_
      rotate_left
      · rintro w' ⟨s0, s1, s2, s3, s4, s5⟩
        go_simp
        with_reducible rfl
      rotate_left
      · simp only [Act.put, List.setIfInBounds_toArray, List.set_cons_zero, List.set_cons_succ, i64_w, i32_w]
        rfl
      refine take_ (i := 10) (N := some 15) (v := ?_) (a' := ?_) #[true, true, true, true, true, true, true, true, true, false, true, false, false, false, false] rfl rfl (take_ofW HT_.out HW_.out (by kernel_rfl)) (fun _ _ _ h => h) (Or.inl ⟨by rfl, ?_⟩) hHeld ?_ ?_
      rotate_left
      · rintro w' ⟨s0, s1, s2, s3, s4, s5⟩
        go_simp
        with_reducible rfl
      rotate_left
      · simp only [Act.put, List.setIfInBounds_toArray, List.set_cons_zero, List.set_cons_succ, i64_w, i32_w]
        rfl
      refine one_ (i := 9) (N := some 14) #[true, true, true, true, true, true, true, true, true, true, true, false, false, false, false] rfl rfl (one_of HT_.out (by kernel_rfl)) (by decide) (fun K hK => ?_)
      refine goes_ Tryd.func19 (by kernel_rfl) rfl #[.agg #[.bool false, .int .i64 a0_1, .int .i64 a0_2], .agg #[.bool false, .int .i64 a1_1, .int .i64 a1_2]] (by rfl) rfl rfl (by (try simp only [List.map_toArray, List.map_cons, List.map_nil]); first | done | rfl | (simp only [List.length_drop, List.length_take]; rfl)) ?_
      with_reducible refine (congr_Join.calls k false a0_1 a0_2 false a1_1 a1_2 t225 t226 t227 _ A11.out).mono ?_
      rintro e w15 ⟨rfl, hb⟩
      refine ⟨_, rfl, ?_⟩
      have n0_ := Aside0.mk (blk_below (g := gb223) (o := .cells #[.bool false, .int .i64 a0_1, .int .i64 a0_2] 23 (0, 0)) (by (with_reducible repeat (first | refine blk_drewN ?_ _ | refine blk_drew ?_ | refine blk_alloc ?_ _)); exact BK223.out) hb)
      have n1_ := Aside0.mk (blk_below (g := gb224) (o := .cells #[.bool false, .int .i64 a1_1, .int .i64 a1_2] 23 (0, 0)) (by (with_reducible repeat (first | refine blk_drewN ?_ _ | refine blk_drew ?_ | refine blk_alloc ?_ _)); exact BK224.out) hb)
      have n2_ := Aside0.mk (below_step (by repeat (first | (with_reducible first | exact HB.out | apply below_alloc | apply pw_below_drewN | apply below_drew1 | refine below_set ?_ GE223.out | refine below_set ?_ GE224.out) | exact HB.out)) hb)
      clear BK223
      clear BK224
      clear HB
      have BK223 := n0_
      have BK224 := n1_
      have HB := n2_
      clear n0_ n1_ n2_
      (try clear hb)
      (try clear hb2)
      (try clear hk)
      (try clear hi)
      refine hK.out _ _ ⟨(blk_cell BK223.out 0).trans rfl, (blk_cell BK223.out 1).trans rfl, (blk_cell BK223.out 2).trans rfl, (blk_cell BK224.out 0).trans rfl, (blk_cell BK224.out 1).trans rfl, (blk_cell BK224.out 2).trans rfl⟩ (fun hHeld => ?_)
      clear hK K
      refine norm_ (a' := ?_) ?_ ?_
      rotate_left
      · show Act.put _ (some 14) _ = _
        simp only [Act.put, List.setIfInBounds_toArray, List.set_cons_zero, List.set_cons_succ, i64_w, i32_w]
        rfl
      refine pure_ (i := 11) (N := some 16) (v := ?_) (a' := ?_) #[true, true, true, true, true, true, true, true, true, true, true, true, false, false, false] rfl rfl (any_of HT_.out (by kernel_rfl)) (fun _ _ _ h => h) (Or.inl ⟨by rfl, ?_⟩) ?_ ?_
      rotate_left
      · intro w'
        go_simp
        with_reducible rfl
      rotate_left
      · simp only [Act.put, List.setIfInBounds_toArray, List.set_cons_zero, List.set_cons_succ, i64_w, i32_w]
        rfl
      refine pure_ (i := 12) (N := some 17) (v := ?_) (a' := ?_) #[true, true, true, true, true, true, true, true, true, true, true, true, true, false, false] rfl rfl (any_of HT_.out (by kernel_rfl)) (fun _ _ _ h => h) (Or.inl ⟨by rfl, ?_⟩) ?_ ?_
      rotate_left
      · intro w'
        go_simp
        with_reducible rfl
      rotate_left
      · simp only [Act.put, List.setIfInBounds_toArray, List.set_cons_zero, List.set_cons_succ, i64_w, i32_w]
        rfl
      refine pure_ (i := 13) (N := some 18) (v := ?_) (a' := ?_) #[true, true, true, true, true, true, true, true, true, true, true, true, true, true, false] rfl rfl (any_of HT_.out (by kernel_rfl)) (fun _ _ _ h => h) (Or.inl ⟨by rfl, ?_⟩) ?_ ?_
      rotate_left
      · intro w'
        go_simp
        with_reducible rfl
      rotate_left
      · simp only [Act.put, List.setIfInBounds_toArray, List.set_cons_zero, List.set_cons_succ, i64_w, i32_w]
        rfl
      refine pure_ (i := 14) (N := some 4) (v := ?_) (a' := ?_) #[true, true, true, true, true, true, true, true, true, true, true, true, true, true, true] rfl rfl (any_of HT_.out (by kernel_rfl)) (fun _ _ _ h => h) (Or.inl ⟨by rfl, ?_⟩) ?_ ?_
      rotate_left
      · intro w'
        go_simp
        with_reducible rfl
      rotate_left
      · simp only [Act.put, List.setIfInBounds_toArray, List.set_cons_zero, List.set_cons_succ, i64_w, i32_w]
        rfl
      refine done_ (done_of HT_.out (by kernel_rfl)) ?_
      try go_wp2
      go_ret
      exact ⟨by first | rfl | (simp [errW_none, errW_some] <;> rfl) | (simp [*, errW_none, errW_some] <;> rfl), by repeat (first | (with_reducible first | exact HB.out | apply below_alloc | apply pw_below_drewN | apply below_drew1 | refine below_set ?_ GE223.out | refine below_set ?_ GE224.out) | exact HB.out)⟩

end Go.Proofs.YtfmmjekhknaniaaDoor.Pr

namespace Go.Proofs.YtfmmjekhknaniaaDoor.Pr
open Go.RowKit Go.Proofs.YtfmmjekhknaniaaDoor.Given Go.Proofs.YtfmmjekhknaniaaDoorW.PrintWords Go.Proofs.YtfmmjekhknaniaaDoorW.PrintLast Go.Proofs.YtfmmjekhknaniaaDoorW.PrintMore
attribute [local go_sem] max2_int min2_int max_two min_two max_three min_three max_four min_four   -- for this text's walks alone
set_option linter.unusedVariables false
set_option linter.unusedSimpArgs false

def gimbalref31_Leq.j0 : Nat → Bool → Bool → Int → Int → Bool → Int → Int → Option (Bool)
  | 0, _, _, _, _, _, _, _ => none
  | k + 1, x10, x409000, x409001, x409002, x410000, x410001, x410002 => if x10 = true then (some x409000) else (if x409001 = 0 then ((gimbalref31_Has.f k x410000 x410001 x410002 x409002).bind fun t410 => (some t410)) else (if x410001 = 0 then (some false) else (if (Int.tmod x409001 x410001) = 0 then (some ((Int.tmod (wrap64 (x409002 - x410002)) x410001) == 0)) else (some false))))
def gimbalref31_Leq.f (k : Nat) (a0_0 : Bool) (a0_1 : Int) (a0_2 : Int) (a1_0 : Bool) (a1_1 : Int) (a1_2 : Int) : Option (Bool) := if a0_0 = true then (gimbalref31_Leq.j0 k true a0_0 a0_1 a0_2 a1_0 a1_1 a1_2) else (gimbalref31_Leq.j0 k a1_0 a0_0 a0_1 a0_2 a1_0 a1_1 a1_2)
theorem gimbalref31_Leq.mono_l : ∀ k, (∀ y0 y1 y2 y3 y4 y5 y6, LeO (gimbalref31_Leq.j0 k y0 y1 y2 y3 y4 y5 y6) (gimbalref31_Leq.j0 (k + 1) y0 y1 y2 y3 y4 y5 y6))
  | 0 => fun _ _ _ _ _ _ _ r h => by simp [gimbalref31_Leq.j0] at h
  | k + 1 => by
    have ih0 := gimbalref31_Leq.mono_l k
    · intro y0 y1 y2 y3 y4 y5 y6
      unfold gimbalref31_Leq.j0
      repeat' first
      | (with_reducible exact ih0 _ _ _ _ _ _ _)
      | (with_reducible exact gimbalref31_Has.mono _ _ _ _ _)
      | (with_reducible exact LeO.refl _)
      | (with_reducible exact LeO.none _)
      | (with_reducible refine LeO.ite ?_ ?_)
      | (with_reducible refine LeO.bind ?_ (fun _ => ?_))
      | exact ih0 _ _ _ _ _ _ _
      | exact gimbalref31_Has.mono _ _ _ _ _
      | exact LeO.none _
      | refine LeO.ite ?_ ?_
      | refine LeO.bind ?_ (fun _ => ?_)
theorem gimbalref31_Leq.mono : ∀ a0 a1 a2 a3 a4 a5 k, LeO (gimbalref31_Leq.f k a0 a1 a2 a3 a4 a5) (gimbalref31_Leq.f (k + 1) a0 a1 a2 a3 a4 a5) := by
  intro a0 a1 a2 a3 a4 a5 k
  have ih0 := gimbalref31_Leq.mono_l k
  unfold gimbalref31_Leq.f
  repeat' first
      | (with_reducible exact ih0 _ _ _ _ _ _ _)
      | (with_reducible exact gimbalref31_Has.mono _ _ _ _ _)
      | (with_reducible exact LeO.refl _)
      | (with_reducible exact LeO.none _)
      | (with_reducible refine LeO.ite ?_ ?_)
      | (with_reducible refine LeO.bind ?_ (fun _ => ?_))
      | exact ih0 _ _ _ _ _ _ _
      | exact gimbalref31_Has.mono _ _ _ _ _
      | exact LeO.none _
      | refine LeO.ite ?_ ?_
      | refine LeO.bind ?_ (fun _ => ?_)
end Go.Proofs.YtfmmjekhknaniaaDoor.Pr

namespace Go.Proofs.YtfmmjekhknaniaaDoor.Pr
open Go.RowKit Go.Proofs.YtfmmjekhknaniaaDoor.Given Go.Proofs.YtfmmjekhknaniaaDoorW.PrintWords Go.Proofs.YtfmmjekhknaniaaDoorW.PrintLast Go.Proofs.YtfmmjekhknaniaaDoorW.PrintMore
attribute [local go_sem] max2_int min2_int max_two min_two max_three min_three max_four min_four   -- for this text's walks alone
set_option linter.unusedVariables false
set_option linter.unusedSimpArgs false

def gimbalref31_of.f (k : Nat) (a0 : Int) (a1 : Int) : Option (Bool × Int × Int) := (gimbalref31_size.f a1).bind fun t412 => ((gimbalref31_class.f k a0 t412 (decide (a1 < 0))).bind fun bt413 => (some (bt413.1, bt413.2.1, bt413.2.2)))
theorem gimbalref31_of.mono : ∀ a0 a1 k, LeO (gimbalref31_of.f k a0 a1) (gimbalref31_of.f (k + 1) a0 a1) := by
  intro a0 a1 k
  unfold gimbalref31_of.f
  repeat' first
      | (with_reducible exact gimbalref31_class.mono _ _ _ _)
      | (with_reducible exact LeO.refl _)
      | (with_reducible exact LeO.none _)
      | (with_reducible refine LeO.ite ?_ ?_)
      | (with_reducible refine LeO.bind ?_ (fun _ => ?_))
      | exact gimbalref31_class.mono _ _ _ _
      | exact LeO.none _
      | refine LeO.ite ?_ ?_
      | refine LeO.bind ?_ (fun _ => ?_)
end Go.Proofs.YtfmmjekhknaniaaDoor.Pr

namespace Go.Proofs.YtfmmjekhknaniaaDoor.Pr
open Go.RowKit Go.Proofs.YtfmmjekhknaniaaDoor.Given Go.Proofs.YtfmmjekhknaniaaDoorW.PrintWords Go.Proofs.YtfmmjekhknaniaaDoorW.PrintLast Go.Proofs.YtfmmjekhknaniaaDoorW.PrintMore
attribute [local go_sem] max2_int min2_int max_two min_two max_three min_three max_four min_four   -- for this text's walks alone
set_option linter.unusedVariables false
set_option linter.unusedSimpArgs false

def gimbalref31_Join.f (k : Nat) (a0_0 : Bool) (a0_1 : Int) (a0_2 : Int) (a1_0 : Bool) (a1_1 : Int) (a1_2 : Int) : Option (Bool × Int × Int) := if a0_0 = true then (some (a1_0, a1_1, a1_2)) else (if a1_0 = true then (some (a0_0, a0_1, a0_2)) else ((gimbalref31_size.f a0_1).bind fun t419 => ((gimbalref31_size.f a1_1).bind fun t420 => ((gimbalref31_gcd.f k t419 t420).bind fun t421 => ((gimbalref31_size.f (wrap64 (a0_2 - a1_2))).bind fun t422 => ((gimbalref31_gcd.f k t421 t422).bind fun t423 => ((gimbalref31_of.f k t423 a0_2).bind fun bt424 => (some (bt424.1, bt424.2.1, bt424.2.2)))))))))
theorem gimbalref31_Join.mono : ∀ a0 a1 a2 a3 a4 a5 k, LeO (gimbalref31_Join.f k a0 a1 a2 a3 a4 a5) (gimbalref31_Join.f (k + 1) a0 a1 a2 a3 a4 a5) := by
  intro a0 a1 a2 a3 a4 a5 k
  unfold gimbalref31_Join.f
  repeat' first
      | (with_reducible exact gimbalref31_gcd.mono _ _ _)
      | (with_reducible exact gimbalref31_of.mono _ _ _)
      | (with_reducible exact LeO.refl _)
      | (with_reducible exact LeO.none _)
      | (with_reducible refine LeO.ite ?_ ?_)
      | (with_reducible refine LeO.bind ?_ (fun _ => ?_))
      | exact gimbalref31_gcd.mono _ _ _
      | exact gimbalref31_of.mono _ _ _
      | exact LeO.none _
      | refine LeO.ite ?_ ?_
      | refine LeO.bind ?_ (fun _ => ?_)
end Go.Proofs.YtfmmjekhknaniaaDoor.Pr

namespace Go.Proofs.YtfmmjekhknaniaaDoor.Pr
open Go.RowKit Go.Proofs.YtfmmjekhknaniaaDoor.Given Go.Proofs.YtfmmjekhknaniaaDoorW.PrintWords Go.Proofs.YtfmmjekhknaniaaDoorW.PrintLast Go.Proofs.YtfmmjekhknaniaaDoorW.PrintMore
attribute [local go_sem] max2_int min2_int max_two min_two max_three min_three max_four min_four   -- for this text's walks alone
set_option linter.unusedVariables false
set_option linter.unusedSimpArgs false

def congr_Neg.f (k : Nat) (a0_0 : Bool) (a0_1 : Int) (a0_2 : Int) : Option (Bool × Int × Int) := if a0_0 = true then (some (a0_0, a0_1, a0_2)) else ((congr_by.f k (IntKind.u64.wrap (a0_1)) (wrap64 (-a0_2))).bind fun bt429 => (some (bt429.1, bt429.2.1, bt429.2.2)))
theorem congr_Neg.mono : ∀ a0 a1 a2 k, LeO (congr_Neg.f k a0 a1 a2) (congr_Neg.f (k + 1) a0 a1 a2) := by
  intro a0 a1 a2 k
  unfold congr_Neg.f
  repeat' first
      | (with_reducible exact congr_by.mono _ _ _)
      | (with_reducible exact LeO.refl _)
      | (with_reducible exact LeO.none _)
      | (with_reducible refine LeO.ite ?_ ?_)
      | (with_reducible refine LeO.bind ?_ (fun _ => ?_))
      | exact congr_by.mono _ _ _
      | exact LeO.none _
      | refine LeO.ite ?_ ?_
      | refine LeO.bind ?_ (fun _ => ?_)
end Go.Proofs.YtfmmjekhknaniaaDoor.Pr

namespace Go.Proofs.YtfmmjekhknaniaaDoor.Pr
open Go.RowKit Go.Proofs.YtfmmjekhknaniaaDoor.Given Go.Proofs.YtfmmjekhknaniaaDoorW.PrintWords Go.Proofs.YtfmmjekhknaniaaDoorW.PrintLast Go.Proofs.YtfmmjekhknaniaaDoorW.PrintMore
attribute [local go_sem] max2_int min2_int max_two min_two max_three min_three max_four min_four   -- for this text's walks alone
set_option linter.unusedVariables false
set_option linter.unusedSimpArgs false

def gimbalref31_Neg.f (k : Nat) (a0_0 : Bool) (a0_1 : Int) (a0_2 : Int) : Option (Bool × Int × Int) := if a0_0 = true then ((gimbalref31_None.f).bind fun bt434 => (some (bt434.1, bt434.2.1, bt434.2.2))) else ((gimbalref31_size.f a0_1).bind fun t437 => ((gimbalref31_of.f k t437 (wrap64 (-a0_2))).bind fun bt438 => (some (bt438.1, bt438.2.1, bt438.2.2))))
theorem gimbalref31_Neg.mono : ∀ a0 a1 a2 k, LeO (gimbalref31_Neg.f k a0 a1 a2) (gimbalref31_Neg.f (k + 1) a0 a1 a2) := by
  intro a0 a1 a2 k
  unfold gimbalref31_Neg.f
  repeat' first
      | (with_reducible exact gimbalref31_of.mono _ _ _)
      | (with_reducible exact LeO.refl _)
      | (with_reducible exact LeO.none _)
      | (with_reducible refine LeO.ite ?_ ?_)
      | (with_reducible refine LeO.bind ?_ (fun _ => ?_))
      | exact gimbalref31_of.mono _ _ _
      | exact LeO.none _
      | refine LeO.ite ?_ ?_
      | refine LeO.bind ?_ (fun _ => ?_)
def gimbalref31_Neg.T3 : Bool × List (List Nat × List Nat) := (true, [([], []), ([0], [0]), ([1], [1]), ([], []), ([3], [3]), ([4], [4]), ([2, 5, 2], [2, 5]), ([6, 6, 0, 1, 2, 3, 4, 5, 6], [6])])
end Go.Proofs.YtfmmjekhknaniaaDoor.Pr

namespace Go.Proofs.YtfmmjekhknaniaaDoor.Pr
open Go.RowKit Go.Proofs.YtfmmjekhknaniaaDoor.Given Go.Proofs.YtfmmjekhknaniaaDoorW.PrintWords Go.Proofs.YtfmmjekhknaniaaDoorW.PrintLast Go.Proofs.YtfmmjekhknaniaaDoorW.PrintMore
attribute [local go_sem] max2_int min2_int max_two min_two max_three min_three max_four min_four   -- for this text's walks alone
set_option linter.unusedVariables false
set_option linter.unusedSimpArgs false

def congr_Abs.j0 : Nat → Bool → Bool → Int → Int → Option (Bool × Int × Int)
  | 0, _, _, _, _ => none
  | k + 1, x9, x442000, x442001, x442002 => if x9 = true then (if x442002 < 0 then ((congr_constant.f (wrap64 (-x442002))).bind fun bt443 => (some (bt443.1, bt443.2.1, bt443.2.2))) else (some (x442000, x442001, x442002))) else ((congr_Neg.f k x442000 x442001 x442002).bind fun bt446 => ((congr_Join.f k x442000 x442001 x442002 bt446.1 bt446.2.1 bt446.2.2).bind fun bt449 => (some (bt449.1, bt449.2.1, bt449.2.2))))
def congr_Abs.f (k : Nat) (a0_0 : Bool) (a0_1 : Int) (a0_2 : Int) : Option (Bool × Int × Int) := if a0_0 = true then (congr_Abs.j0 k true a0_0 a0_1 a0_2) else (congr_Abs.j0 k (a0_1 == 0) a0_0 a0_1 a0_2)
theorem congr_Abs.mono_l : ∀ k, (∀ y0 y1 y2 y3, LeO (congr_Abs.j0 k y0 y1 y2 y3) (congr_Abs.j0 (k + 1) y0 y1 y2 y3))
  | 0 => fun _ _ _ _ r h => by simp [congr_Abs.j0] at h
  | k + 1 => by
    have ih0 := congr_Abs.mono_l k
    · intro y0 y1 y2 y3
      unfold congr_Abs.j0
      repeat' first
      | (with_reducible exact ih0 _ _ _ _)
      | (with_reducible exact congr_Join.mono _ _ _ _ _ _ _)
      | (with_reducible exact congr_Neg.mono _ _ _ _)
      | (with_reducible exact LeO.refl _)
      | (with_reducible exact LeO.none _)
      | (with_reducible refine LeO.ite ?_ ?_)
      | (with_reducible refine LeO.bind ?_ (fun _ => ?_))
      | exact ih0 _ _ _ _
      | exact congr_Join.mono _ _ _ _ _ _ _
      | exact congr_Neg.mono _ _ _ _
      | exact LeO.none _
      | refine LeO.ite ?_ ?_
      | refine LeO.bind ?_ (fun _ => ?_)
theorem congr_Abs.mono : ∀ a0 a1 a2 k, LeO (congr_Abs.f k a0 a1 a2) (congr_Abs.f (k + 1) a0 a1 a2) := by
  intro a0 a1 a2 k
  have ih0 := congr_Abs.mono_l k
  unfold congr_Abs.f
  repeat' first
      | (with_reducible exact ih0 _ _ _ _)
      | (with_reducible exact congr_Join.mono _ _ _ _ _ _ _)
      | (with_reducible exact congr_Neg.mono _ _ _ _)
      | (with_reducible exact LeO.refl _)
      | (with_reducible exact LeO.none _)
      | (with_reducible refine LeO.ite ?_ ?_)
      | (with_reducible refine LeO.bind ?_ (fun _ => ?_))
      | exact ih0 _ _ _ _
      | exact congr_Join.mono _ _ _ _ _ _ _
      | exact congr_Neg.mono _ _ _ _
      | exact LeO.none _
      | refine LeO.ite ?_ ?_
      | refine LeO.bind ?_ (fun _ => ?_)
end Go.Proofs.YtfmmjekhknaniaaDoor.Pr

namespace Go.Proofs.YtfmmjekhknaniaaDoor.Pr
open Go.RowKit Go.Proofs.YtfmmjekhknaniaaDoor.Given Go.Proofs.YtfmmjekhknaniaaDoorW.PrintWords Go.Proofs.YtfmmjekhknaniaaDoorW.PrintLast Go.Proofs.YtfmmjekhknaniaaDoorW.PrintMore
attribute [local go_sem] max2_int min2_int max_two min_two max_three min_three max_four min_four   -- for this text's walks alone
set_option linter.unusedVariables false
set_option linter.unusedSimpArgs false

def gimbalref31_Abs.f (k : Nat) (a0_0 : Bool) (a0_1 : Int) (a0_2 : Int) : Option (Bool × Int × Int) := if a0_0 = true then ((gimbalref31_None.f).bind fun bt454 => (some (bt454.1, bt454.2.1, bt454.2.2))) else (if a0_1 = 0 then ((gimbalref31_Of.f k 0 (mx a0_2 (wrap64 (-a0_2)))).bind fun bt457 => (some (bt457.1, bt457.2.1, bt457.2.2))) else ((gimbalref31_Neg.f k a0_0 a0_1 a0_2).bind fun bt460 => ((gimbalref31_Join.f k a0_0 a0_1 a0_2 bt460.1 bt460.2.1 bt460.2.2).bind fun bt463 => (some (bt463.1, bt463.2.1, bt463.2.2)))))
theorem gimbalref31_Abs.mono : ∀ a0 a1 a2 k, LeO (gimbalref31_Abs.f k a0 a1 a2) (gimbalref31_Abs.f (k + 1) a0 a1 a2) := by
  intro a0 a1 a2 k
  unfold gimbalref31_Abs.f
  repeat' first
      | (with_reducible exact gimbalref31_Join.mono _ _ _ _ _ _ _)
      | (with_reducible exact gimbalref31_Neg.mono _ _ _ _)
      | (with_reducible exact gimbalref31_Of.mono _ _ _)
      | (with_reducible exact LeO.refl _)
      | (with_reducible exact LeO.none _)
      | (with_reducible refine LeO.ite ?_ ?_)
      | (with_reducible refine LeO.bind ?_ (fun _ => ?_))
      | exact gimbalref31_Join.mono _ _ _ _ _ _ _
      | exact gimbalref31_Neg.mono _ _ _ _
      | exact gimbalref31_Of.mono _ _ _
      | exact LeO.none _
      | refine LeO.ite ?_ ?_
      | refine LeO.bind ?_ (fun _ => ?_)
end Go.Proofs.YtfmmjekhknaniaaDoor.Pr

namespace Go.Proofs.YtfmmjekhknaniaaDoor.Pr
open Go.RowKit Go.Proofs.YtfmmjekhknaniaaDoor.Given Go.Proofs.YtfmmjekhknaniaaDoorW.PrintWords Go.Proofs.YtfmmjekhknaniaaDoorW.PrintLast Go.Proofs.YtfmmjekhknaniaaDoorW.PrintMore
attribute [local go_sem] max2_int min2_int max_two min_two max_three min_three max_four min_four   -- for this text's walks alone
set_option linter.unusedVariables false
set_option linter.unusedSimpArgs false

def congr_Add.j0 : Nat → Bool → Bool → Int → Int → Bool → Int → Int → Option (Bool × Int × Int)
  | 0, _, _, _, _, _, _, _ => none
  | k + 1, x10, x467000, x467001, x467002, x468000, x468001, x468002 => if x10 = true then ((congr_none.f).bind fun bt469 => (some (bt469.1, bt469.2.1, bt469.2.2))) else ((congr_gcd_uint64.f k (IntKind.u64.wrap (x467001)) (IntKind.u64.wrap (x468001))).bind fun t472 => ((congr_by.f k t472 (wrap64 (x467002 + x468002))).bind fun bt473 => (some (bt473.1, bt473.2.1, bt473.2.2))))
def congr_Add.f (k : Nat) (a0_0 : Bool) (a0_1 : Int) (a0_2 : Int) (a1_0 : Bool) (a1_1 : Int) (a1_2 : Int) : Option (Bool × Int × Int) := if a0_0 = true then (congr_Add.j0 k true a0_0 a0_1 a0_2 a1_0 a1_1 a1_2) else (congr_Add.j0 k a1_0 a0_0 a0_1 a0_2 a1_0 a1_1 a1_2)
theorem congr_Add.mono_l : ∀ k, (∀ y0 y1 y2 y3 y4 y5 y6, LeO (congr_Add.j0 k y0 y1 y2 y3 y4 y5 y6) (congr_Add.j0 (k + 1) y0 y1 y2 y3 y4 y5 y6))
  | 0 => fun _ _ _ _ _ _ _ r h => by simp [congr_Add.j0] at h
  | k + 1 => by
    have ih0 := congr_Add.mono_l k
    · intro y0 y1 y2 y3 y4 y5 y6
      unfold congr_Add.j0
      repeat' first
      | (with_reducible exact ih0 _ _ _ _ _ _ _)
      | (with_reducible exact congr_by.mono _ _ _)
      | (with_reducible exact congr_gcd_uint64.mono _ _ _)
      | (with_reducible exact LeO.refl _)
      | (with_reducible exact LeO.none _)
      | (with_reducible refine LeO.ite ?_ ?_)
      | (with_reducible refine LeO.bind ?_ (fun _ => ?_))
      | exact ih0 _ _ _ _ _ _ _
      | exact congr_by.mono _ _ _
      | exact congr_gcd_uint64.mono _ _ _
      | exact LeO.none _
      | refine LeO.ite ?_ ?_
      | refine LeO.bind ?_ (fun _ => ?_)
theorem congr_Add.mono : ∀ a0 a1 a2 a3 a4 a5 k, LeO (congr_Add.f k a0 a1 a2 a3 a4 a5) (congr_Add.f (k + 1) a0 a1 a2 a3 a4 a5) := by
  intro a0 a1 a2 a3 a4 a5 k
  have ih0 := congr_Add.mono_l k
  unfold congr_Add.f
  repeat' first
      | (with_reducible exact ih0 _ _ _ _ _ _ _)
      | (with_reducible exact congr_by.mono _ _ _)
      | (with_reducible exact congr_gcd_uint64.mono _ _ _)
      | (with_reducible exact LeO.refl _)
      | (with_reducible exact LeO.none _)
      | (with_reducible refine LeO.ite ?_ ?_)
      | (with_reducible refine LeO.bind ?_ (fun _ => ?_))
      | exact ih0 _ _ _ _ _ _ _
      | exact congr_by.mono _ _ _
      | exact congr_gcd_uint64.mono _ _ _
      | exact LeO.none _
      | refine LeO.ite ?_ ?_
      | refine LeO.bind ?_ (fun _ => ?_)
def congr_Add.T3 : Bool × List (List Nat × List Nat) := (true, [([], []), ([0], [0]), ([1], [1]), ([], []), ([3], [3]), ([4], [4]), ([2, 5], [2, 5]), ([], []), ([7], [7]), ([], []), ([9], [9]), ([8, 10], [8, 10]), ([6, 11, 6], [6, 11]), ([12, 12, 0, 1, 2, 3, 4, 5, 6, 7, 8, 9, 10, 11, 12], [12])])
end Go.Proofs.YtfmmjekhknaniaaDoor.Pr

namespace Go.Proofs.YtfmmjekhknaniaaDoor.Pr
open Go.RowKit Go.Proofs.YtfmmjekhknaniaaDoor.Given Go.Proofs.YtfmmjekhknaniaaDoorW.PrintWords Go.Proofs.YtfmmjekhknaniaaDoorW.PrintLast Go.Proofs.YtfmmjekhknaniaaDoorW.PrintMore
attribute [local go_sem] max2_int min2_int max_two min_two max_three min_three max_four min_four   -- for this text's walks alone
set_option linter.unusedVariables false
set_option linter.unusedSimpArgs false

def gimbalref31_Add.j0 : Nat → Bool → Bool → Int → Int → Bool → Int → Int → Option (Bool × Int × Int)
  | 0, _, _, _, _, _, _, _ => none
  | k + 1, x10, x477000, x477001, x477002, x478000, x478001, x478002 => if x10 = true then ((gimbalref31_None.f).bind fun bt479 => (some (bt479.1, bt479.2.1, bt479.2.2))) else ((gimbalref31_size.f x477001).bind fun t482 => ((gimbalref31_size.f x478001).bind fun t483 => ((gimbalref31_gcd.f k t482 t483).bind fun t484 => ((gimbalref31_of.f k t484 (wrap64 (x477002 + x478002))).bind fun bt485 => (some (bt485.1, bt485.2.1, bt485.2.2))))))
def gimbalref31_Add.f (k : Nat) (a0_0 : Bool) (a0_1 : Int) (a0_2 : Int) (a1_0 : Bool) (a1_1 : Int) (a1_2 : Int) : Option (Bool × Int × Int) := if a0_0 = true then (gimbalref31_Add.j0 k true a0_0 a0_1 a0_2 a1_0 a1_1 a1_2) else (gimbalref31_Add.j0 k a1_0 a0_0 a0_1 a0_2 a1_0 a1_1 a1_2)
theorem gimbalref31_Add.mono_l : ∀ k, (∀ y0 y1 y2 y3 y4 y5 y6, LeO (gimbalref31_Add.j0 k y0 y1 y2 y3 y4 y5 y6) (gimbalref31_Add.j0 (k + 1) y0 y1 y2 y3 y4 y5 y6))
  | 0 => fun _ _ _ _ _ _ _ r h => by simp [gimbalref31_Add.j0] at h
  | k + 1 => by
    have ih0 := gimbalref31_Add.mono_l k
    · intro y0 y1 y2 y3 y4 y5 y6
      unfold gimbalref31_Add.j0
      repeat' first
      | (with_reducible exact ih0 _ _ _ _ _ _ _)
      | (with_reducible exact gimbalref31_gcd.mono _ _ _)
      | (with_reducible exact gimbalref31_of.mono _ _ _)
      | (with_reducible exact LeO.refl _)
      | (with_reducible exact LeO.none _)
      | (with_reducible refine LeO.ite ?_ ?_)
      | (with_reducible refine LeO.bind ?_ (fun _ => ?_))
      | exact ih0 _ _ _ _ _ _ _
      | exact gimbalref31_gcd.mono _ _ _
      | exact gimbalref31_of.mono _ _ _
      | exact LeO.none _
      | refine LeO.ite ?_ ?_
      | refine LeO.bind ?_ (fun _ => ?_)
theorem gimbalref31_Add.mono : ∀ a0 a1 a2 a3 a4 a5 k, LeO (gimbalref31_Add.f k a0 a1 a2 a3 a4 a5) (gimbalref31_Add.f (k + 1) a0 a1 a2 a3 a4 a5) := by
  intro a0 a1 a2 a3 a4 a5 k
  have ih0 := gimbalref31_Add.mono_l k
  unfold gimbalref31_Add.f
  repeat' first
      | (with_reducible exact ih0 _ _ _ _ _ _ _)
      | (with_reducible exact gimbalref31_gcd.mono _ _ _)
      | (with_reducible exact gimbalref31_of.mono _ _ _)
      | (with_reducible exact LeO.refl _)
      | (with_reducible exact LeO.none _)
      | (with_reducible refine LeO.ite ?_ ?_)
      | (with_reducible refine LeO.bind ?_ (fun _ => ?_))
      | exact ih0 _ _ _ _ _ _ _
      | exact gimbalref31_gcd.mono _ _ _
      | exact gimbalref31_of.mono _ _ _
      | exact LeO.none _
      | refine LeO.ite ?_ ?_
      | refine LeO.bind ?_ (fun _ => ?_)
def gimbalref31_Add.T3 : Bool × List (List Nat × List Nat) := (true, [([], []), ([0], [0]), ([1], [1]), ([], []), ([3], [3]), ([4, 2], [4]), ([2, 5, 5], [2, 5]), ([], []), ([7], [7]), ([], []), ([9], [9]), ([8, 10], [8, 10]), ([6, 11, 6], [6, 11]), ([12, 12, 0, 1, 2, 3, 4, 5, 6, 7, 8, 9, 10, 11, 12], [12])])
end Go.Proofs.YtfmmjekhknaniaaDoor.Pr

namespace Go.Proofs.YtfmmjekhknaniaaDoor.Pr
open Go.RowKit Go.Proofs.YtfmmjekhknaniaaDoor.Given Go.Proofs.YtfmmjekhknaniaaDoorW.PrintWords Go.Proofs.YtfmmjekhknaniaaDoorW.PrintLast Go.Proofs.YtfmmjekhknaniaaDoorW.PrintMore
attribute [local go_sem] max2_int min2_int max_two min_two max_three min_three max_four min_four   -- for this text's walks alone
set_option linter.unusedVariables false
set_option linter.unusedSimpArgs false

def congr_Sub.j0 : Nat → Bool → Bool → Int → Int → Bool → Int → Int → Option (Bool × Int × Int)
  | 0, _, _, _, _, _, _, _ => none
  | k + 1, x10, x489000, x489001, x489002, x490000, x490001, x490002 => if x10 = true then ((congr_none.f).bind fun bt491 => (some (bt491.1, bt491.2.1, bt491.2.2))) else ((congr_gcd_uint64.f k (IntKind.u64.wrap (x489001)) (IntKind.u64.wrap (x490001))).bind fun t494 => ((congr_by.f k t494 (wrap64 (x489002 - x490002))).bind fun bt495 => (some (bt495.1, bt495.2.1, bt495.2.2))))
def congr_Sub.f (k : Nat) (a0_0 : Bool) (a0_1 : Int) (a0_2 : Int) (a1_0 : Bool) (a1_1 : Int) (a1_2 : Int) : Option (Bool × Int × Int) := if a0_0 = true then (congr_Sub.j0 k true a0_0 a0_1 a0_2 a1_0 a1_1 a1_2) else (congr_Sub.j0 k a1_0 a0_0 a0_1 a0_2 a1_0 a1_1 a1_2)
theorem congr_Sub.mono_l : ∀ k, (∀ y0 y1 y2 y3 y4 y5 y6, LeO (congr_Sub.j0 k y0 y1 y2 y3 y4 y5 y6) (congr_Sub.j0 (k + 1) y0 y1 y2 y3 y4 y5 y6))
  | 0 => fun _ _ _ _ _ _ _ r h => by simp [congr_Sub.j0] at h
  | k + 1 => by
    have ih0 := congr_Sub.mono_l k
    · intro y0 y1 y2 y3 y4 y5 y6
      unfold congr_Sub.j0
      repeat' first
      | (with_reducible exact ih0 _ _ _ _ _ _ _)
      | (with_reducible exact congr_by.mono _ _ _)
      | (with_reducible exact congr_gcd_uint64.mono _ _ _)
      | (with_reducible exact LeO.refl _)
      | (with_reducible exact LeO.none _)
      | (with_reducible refine LeO.ite ?_ ?_)
      | (with_reducible refine LeO.bind ?_ (fun _ => ?_))
      | exact ih0 _ _ _ _ _ _ _
      | exact congr_by.mono _ _ _
      | exact congr_gcd_uint64.mono _ _ _
      | exact LeO.none _
      | refine LeO.ite ?_ ?_
      | refine LeO.bind ?_ (fun _ => ?_)
theorem congr_Sub.mono : ∀ a0 a1 a2 a3 a4 a5 k, LeO (congr_Sub.f k a0 a1 a2 a3 a4 a5) (congr_Sub.f (k + 1) a0 a1 a2 a3 a4 a5) := by
  intro a0 a1 a2 a3 a4 a5 k
  have ih0 := congr_Sub.mono_l k
  unfold congr_Sub.f
  repeat' first
      | (with_reducible exact ih0 _ _ _ _ _ _ _)
      | (with_reducible exact congr_by.mono _ _ _)
      | (with_reducible exact congr_gcd_uint64.mono _ _ _)
      | (with_reducible exact LeO.refl _)
      | (with_reducible exact LeO.none _)
      | (with_reducible refine LeO.ite ?_ ?_)
      | (with_reducible refine LeO.bind ?_ (fun _ => ?_))
      | exact ih0 _ _ _ _ _ _ _
      | exact congr_by.mono _ _ _
      | exact congr_gcd_uint64.mono _ _ _
      | exact LeO.none _
      | refine LeO.ite ?_ ?_
      | refine LeO.bind ?_ (fun _ => ?_)
def congr_Sub.T3 : Bool × List (List Nat × List Nat) := (true, [([], []), ([0], [0]), ([1], [1]), ([], []), ([3], [3]), ([4], [4]), ([2, 5], [2, 5]), ([], []), ([7], [7]), ([], []), ([9], [9]), ([8, 10], [8, 10]), ([6, 11, 6], [6, 11]), ([12, 12, 0, 1, 2, 3, 4, 5, 6, 7, 8, 9, 10, 11, 12], [12])])
end Go.Proofs.YtfmmjekhknaniaaDoor.Pr

namespace Go.Proofs.YtfmmjekhknaniaaDoor.Pr
open Go.RowKit Go.Proofs.YtfmmjekhknaniaaDoor.Given Go.Proofs.YtfmmjekhknaniaaDoorW.PrintWords Go.Proofs.YtfmmjekhknaniaaDoorW.PrintLast Go.Proofs.YtfmmjekhknaniaaDoorW.PrintMore
attribute [local go_sem] max2_int min2_int max_two min_two max_three min_three max_four min_four   -- for this text's walks alone
set_option linter.unusedVariables false
set_option linter.unusedSimpArgs false

def gimbalref31_Sub.j0 : Nat → Bool → Bool → Int → Int → Bool → Int → Int → Option (Bool × Int × Int)
  | 0, _, _, _, _, _, _, _ => none
  | k + 1, x10, x499000, x499001, x499002, x500000, x500001, x500002 => if x10 = true then ((gimbalref31_None.f).bind fun bt501 => (some (bt501.1, bt501.2.1, bt501.2.2))) else ((gimbalref31_size.f x499001).bind fun t504 => ((gimbalref31_size.f x500001).bind fun t505 => ((gimbalref31_gcd.f k t504 t505).bind fun t506 => ((gimbalref31_of.f k t506 (wrap64 (x499002 - x500002))).bind fun bt507 => (some (bt507.1, bt507.2.1, bt507.2.2))))))
def gimbalref31_Sub.f (k : Nat) (a0_0 : Bool) (a0_1 : Int) (a0_2 : Int) (a1_0 : Bool) (a1_1 : Int) (a1_2 : Int) : Option (Bool × Int × Int) := if a0_0 = true then (gimbalref31_Sub.j0 k true a0_0 a0_1 a0_2 a1_0 a1_1 a1_2) else (gimbalref31_Sub.j0 k a1_0 a0_0 a0_1 a0_2 a1_0 a1_1 a1_2)
theorem gimbalref31_Sub.mono_l : ∀ k, (∀ y0 y1 y2 y3 y4 y5 y6, LeO (gimbalref31_Sub.j0 k y0 y1 y2 y3 y4 y5 y6) (gimbalref31_Sub.j0 (k + 1) y0 y1 y2 y3 y4 y5 y6))
  | 0 => fun _ _ _ _ _ _ _ r h => by simp [gimbalref31_Sub.j0] at h
  | k + 1 => by
    have ih0 := gimbalref31_Sub.mono_l k
    · intro y0 y1 y2 y3 y4 y5 y6
      unfold gimbalref31_Sub.j0
      repeat' first
      | (with_reducible exact ih0 _ _ _ _ _ _ _)
      | (with_reducible exact gimbalref31_gcd.mono _ _ _)
      | (with_reducible exact gimbalref31_of.mono _ _ _)
      | (with_reducible exact LeO.refl _)
      | (with_reducible exact LeO.none _)
      | (with_reducible refine LeO.ite ?_ ?_)
      | (with_reducible refine LeO.bind ?_ (fun _ => ?_))
      | exact ih0 _ _ _ _ _ _ _
      | exact gimbalref31_gcd.mono _ _ _
      | exact gimbalref31_of.mono _ _ _
      | exact LeO.none _
      | refine LeO.ite ?_ ?_
      | refine LeO.bind ?_ (fun _ => ?_)
theorem gimbalref31_Sub.mono : ∀ a0 a1 a2 a3 a4 a5 k, LeO (gimbalref31_Sub.f k a0 a1 a2 a3 a4 a5) (gimbalref31_Sub.f (k + 1) a0 a1 a2 a3 a4 a5) := by
  intro a0 a1 a2 a3 a4 a5 k
  have ih0 := gimbalref31_Sub.mono_l k
  unfold gimbalref31_Sub.f
  repeat' first
      | (with_reducible exact ih0 _ _ _ _ _ _ _)
      | (with_reducible exact gimbalref31_gcd.mono _ _ _)
      | (with_reducible exact gimbalref31_of.mono _ _ _)
      | (with_reducible exact LeO.refl _)
      | (with_reducible exact LeO.none _)
      | (with_reducible refine LeO.ite ?_ ?_)
      | (with_reducible refine LeO.bind ?_ (fun _ => ?_))
      | exact ih0 _ _ _ _ _ _ _
      | exact gimbalref31_gcd.mono _ _ _
      | exact gimbalref31_of.mono _ _ _
      | exact LeO.none _
      | refine LeO.ite ?_ ?_
      | refine LeO.bind ?_ (fun _ => ?_)
def gimbalref31_Sub.T3 : Bool × List (List Nat × List Nat) := (true, [([], []), ([0], [0]), ([1], [1]), ([], []), ([3], [3]), ([4, 2], [4]), ([2, 5, 5], [2, 5]), ([], []), ([7], [7]), ([], []), ([9], [9]), ([8, 10], [8, 10]), ([6, 11, 6], [6, 11]), ([12, 12, 0, 1, 2, 3, 4, 5, 6, 7, 8, 9, 10, 11, 12], [12])])
end Go.Proofs.YtfmmjekhknaniaaDoor.Pr

namespace Go.Proofs.YtfmmjekhknaniaaDoor.Pr
open Go.RowKit Go.Proofs.YtfmmjekhknaniaaDoor.Given Go.Proofs.YtfmmjekhknaniaaDoorW.PrintWords Go.Proofs.YtfmmjekhknaniaaDoorW.PrintLast Go.Proofs.YtfmmjekhknaniaaDoorW.PrintMore
attribute [local go_sem] max2_int min2_int max_two min_two max_three min_three max_four min_four   -- for this text's walks alone
set_option linter.unusedVariables false
set_option linter.unusedSimpArgs false

def congr_all.f  : Option (Bool × Int × Int) := some (false, 1, 0)
end Go.Proofs.YtfmmjekhknaniaaDoor.Pr

namespace Go.Proofs.YtfmmjekhknaniaaDoor.Pr
open Go.RowKit Go.Proofs.YtfmmjekhknaniaaDoor.Given Go.Proofs.YtfmmjekhknaniaaDoorW.PrintWords Go.Proofs.YtfmmjekhknaniaaDoorW.PrintLast Go.Proofs.YtfmmjekhknaniaaDoorW.PrintMore
attribute [local go_sem] max2_int min2_int max_two min_two max_three min_three max_four min_four   -- for this text's walks alone
set_option linter.unusedVariables false
set_option linter.unusedSimpArgs false

attribute [local go_sem high] eqA23
mutual
def congr_Div.j0 : Nat → Int → Bool → Bool → Int → Int → Bool → Int → Int → Option (Bool × Int × Int)
  | 0, _, _, _, _, _, _, _, _ => none
  | k + 1, x5, x8, x550000, x550001, x550002, x551000, x551001, x551002 => if x8 = true then ((congr_none.f).bind fun bt552 => (some (bt552.1, bt552.2.1, bt552.2.2))) else (if x551001 = 0 then (if x550001 = 0 then (if x5 = 0 then (none) else ((congr_constant.f (wrap64 (Int.tdiv x550002 x5))).bind fun bt555 => (some (bt555.1, bt555.2.1, bt555.2.2)))) else (if x5 = 0 then (none) else (if (Int.tmod x550001 x5) = 0 then (congr_Div.j1 k x5 ((Int.tmod x550002 x5) == 0) x550000 x550001 x550002) else (congr_Div.j1 k x5 false x550000 x550001 x550002)))) else ((congr_all.f).bind fun bt564 => (some (bt564.1, bt564.2.1, bt564.2.2))))
def congr_Div.j1 : Nat → Int → Bool → Bool → Int → Int → Option (Bool × Int × Int)
  | 0, _, _, _, _, _ => none
  | k + 1, x5, x35, x550000, x550001, x550002 => if x35 = true then (if x5 = 0 then (none) else ((congr_Of.f k (wrap64 (Int.tdiv x550001 x5)) (wrap64 (Int.tdiv x550002 x5))).bind fun bt558 => (some (bt558.1, bt558.2.1, bt558.2.2)))) else ((congr_all.f).bind fun bt561 => (some (bt561.1, bt561.2.1, bt561.2.2)))
end
def congr_Div.f (k : Nat) (a0_0 : Bool) (a0_1 : Int) (a0_2 : Int) (a1_0 : Bool) (a1_1 : Int) (a1_2 : Int) : Option (Bool × Int × Int) := if a0_0 = true then (congr_Div.j0 k a1_2 true a0_0 a0_1 a0_2 a1_0 a1_1 a1_2) else (if a1_0 = true then (congr_Div.j0 k a1_2 true a0_0 a0_1 a0_2 a1_0 a1_1 a1_2) else (congr_Div.j0 k a1_2 (!a1_0 && (a1_1 == 0 && (a1_2 == 0))) a0_0 a0_1 a0_2 a1_0 a1_1 a1_2))
theorem congr_Div.mono_l : ∀ k, (∀ y0 y1 y2 y3 y4 y5 y6 y7, LeO (congr_Div.j0 k y0 y1 y2 y3 y4 y5 y6 y7) (congr_Div.j0 (k + 1) y0 y1 y2 y3 y4 y5 y6 y7)) ∧ (∀ y0 y1 y2 y3 y4, LeO (congr_Div.j1 k y0 y1 y2 y3 y4) (congr_Div.j1 (k + 1) y0 y1 y2 y3 y4))
  | 0 => ⟨fun _ _ _ _ _ _ _ _ r h => by simp [congr_Div.j0] at h, fun _ _ _ _ _ r h => by simp [congr_Div.j1] at h⟩
  | k + 1 => by
    obtain ⟨ih0, ih1⟩ := congr_Div.mono_l k
    refine ⟨?_, ?_⟩
    · intro y0 y1 y2 y3 y4 y5 y6 y7
      unfold congr_Div.j0
      repeat' first
      | (with_reducible exact ih0 _ _ _ _ _ _ _ _)
      | (with_reducible exact ih1 _ _ _ _ _)
      | (with_reducible exact congr_Of.mono _ _ _)
      | (with_reducible exact LeO.refl _)
      | (with_reducible exact LeO.none _)
      | (with_reducible refine LeO.ite ?_ ?_)
      | (with_reducible refine LeO.bind ?_ (fun _ => ?_))
      | exact ih0 _ _ _ _ _ _ _ _
      | exact ih1 _ _ _ _ _
      | exact congr_Of.mono _ _ _
      | exact LeO.none _
      | refine LeO.ite ?_ ?_
      | refine LeO.bind ?_ (fun _ => ?_)
    · intro y0 y1 y2 y3 y4
      unfold congr_Div.j1
      repeat' first
      | (with_reducible exact ih0 _ _ _ _ _ _ _ _)
      | (with_reducible exact ih1 _ _ _ _ _)
      | (with_reducible exact congr_Of.mono _ _ _)
      | (with_reducible exact LeO.refl _)
      | (with_reducible exact LeO.none _)
      | (with_reducible refine LeO.ite ?_ ?_)
      | (with_reducible refine LeO.bind ?_ (fun _ => ?_))
      | exact ih0 _ _ _ _ _ _ _ _
      | exact ih1 _ _ _ _ _
      | exact congr_Of.mono _ _ _
      | exact LeO.none _
      | refine LeO.ite ?_ ?_
      | refine LeO.bind ?_ (fun _ => ?_)
theorem congr_Div.mono : ∀ a0 a1 a2 a3 a4 a5 k, LeO (congr_Div.f k a0 a1 a2 a3 a4 a5) (congr_Div.f (k + 1) a0 a1 a2 a3 a4 a5) := by
  intro a0 a1 a2 a3 a4 a5 k
  obtain ⟨ih0, ih1⟩ := congr_Div.mono_l k
  unfold congr_Div.f
  repeat' first
      | (with_reducible exact ih0 _ _ _ _ _ _ _ _)
      | (with_reducible exact ih1 _ _ _ _ _)
      | (with_reducible exact congr_Of.mono _ _ _)
      | (with_reducible exact LeO.refl _)
      | (with_reducible exact LeO.none _)
      | (with_reducible refine LeO.ite ?_ ?_)
      | (with_reducible refine LeO.bind ?_ (fun _ => ?_))
      | exact ih0 _ _ _ _ _ _ _ _
      | exact ih1 _ _ _ _ _
      | exact congr_Of.mono _ _ _
      | exact LeO.none _
      | refine LeO.ite ?_ ?_
      | refine LeO.bind ?_ (fun _ => ?_)
end Go.Proofs.YtfmmjekhknaniaaDoor.Pr

namespace Go.Proofs.YtfmmjekhknaniaaDoor.Pr
open Go.RowKit Go.Proofs.YtfmmjekhknaniaaDoor.Given Go.Proofs.YtfmmjekhknaniaaDoorW.PrintWords Go.Proofs.YtfmmjekhknaniaaDoorW.PrintLast Go.Proofs.YtfmmjekhknaniaaDoorW.PrintMore
attribute [local go_sem] max2_int min2_int max_two min_two max_three min_three max_four min_four   -- for this text's walks alone
set_option linter.unusedVariables false
set_option linter.unusedSimpArgs false

def gimbalref31_All.f  : Option (Bool × Int × Int) := some (false, 1, 0)
end Go.Proofs.YtfmmjekhknaniaaDoor.Pr

namespace Go.Proofs.YtfmmjekhknaniaaDoor.Pr
open Go.RowKit Go.Proofs.YtfmmjekhknaniaaDoor.Given Go.Proofs.YtfmmjekhknaniaaDoorW.PrintWords Go.Proofs.YtfmmjekhknaniaaDoorW.PrintLast Go.Proofs.YtfmmjekhknaniaaDoorW.PrintMore
attribute [local go_sem] max2_int min2_int max_two min_two max_three min_three max_four min_four   -- for this text's walks alone
set_option linter.unusedVariables false
set_option linter.unusedSimpArgs false

attribute [local go_sem high] eqA23
mutual
def gimbalref31_Div.j0 : Nat → Bool → Bool → Int → Int → Bool → Int → Int → Option (Bool × Int × Int)
  | 0, _, _, _, _, _, _, _ => none
  | k + 1, x17, x569000, x569001, x569002, x570000, x570001, x570002 => if x17 = true then ((gimbalref31_None.f).bind fun bt572 => (some (bt572.1, bt572.2.1, bt572.2.2))) else (if x570001 = 0 then (if x569001 = 0 then (gimbalref31_Div.j1 k true x569000 x569001 x569002 x570000 x570001 x570002) else (if x570002 = 0 then (none) else (if (Int.tmod x569001 x570002) = 0 then (gimbalref31_Div.j1 k ((Int.tmod x569002 x570002) == 0) x569000 x569001 x569002 x570000 x570001 x570002) else (gimbalref31_Div.j1 k false x569000 x569001 x569002 x570000 x570001 x570002)))) else ((gimbalref31_All.f).bind fun bt575 => (some (bt575.1, bt575.2.1, bt575.2.2))))
def gimbalref31_Div.j1 : Nat → Bool → Bool → Int → Int → Bool → Int → Int → Option (Bool × Int × Int)
  | 0, _, _, _, _, _, _, _ => none
  | k + 1, x41, x569000, x569001, x569002, x570000, x570001, x570002 => if x41 = true then (if x570002 = 0 then (none) else ((gimbalref31_Of.f k (wrap64 (Int.tdiv x569001 x570002)) (wrap64 (Int.tdiv x569002 x570002))).bind fun bt578 => (some (bt578.1, bt578.2.1, bt578.2.2)))) else ((gimbalref31_All.f).bind fun bt581 => (some (bt581.1, bt581.2.1, bt581.2.2)))
end
def gimbalref31_Div.f (k : Nat) (a0_0 : Bool) (a0_1 : Int) (a0_2 : Int) (a1_0 : Bool) (a1_1 : Int) (a1_2 : Int) : Option (Bool × Int × Int) := if a0_0 = true then (gimbalref31_Div.j0 k true a0_0 a0_1 a0_2 a1_0 a1_1 a1_2) else (if a1_0 = true then (gimbalref31_Div.j0 k true a0_0 a0_1 a0_2 a1_0 a1_1 a1_2) else (gimbalref31_Div.j0 k (!a1_0 && (a1_1 == 0 && (a1_2 == 0))) a0_0 a0_1 a0_2 a1_0 a1_1 a1_2))
theorem gimbalref31_Div.mono_l : ∀ k, (∀ y0 y1 y2 y3 y4 y5 y6, LeO (gimbalref31_Div.j0 k y0 y1 y2 y3 y4 y5 y6) (gimbalref31_Div.j0 (k + 1) y0 y1 y2 y3 y4 y5 y6)) ∧ (∀ y0 y1 y2 y3 y4 y5 y6, LeO (gimbalref31_Div.j1 k y0 y1 y2 y3 y4 y5 y6) (gimbalref31_Div.j1 (k + 1) y0 y1 y2 y3 y4 y5 y6))
  | 0 => ⟨fun _ _ _ _ _ _ _ r h => by simp [gimbalref31_Div.j0] at h, fun _ _ _ _ _ _ _ r h => by simp [gimbalref31_Div.j1] at h⟩
  | k + 1 => by
    obtain ⟨ih0, ih1⟩ := gimbalref31_Div.mono_l k
    refine ⟨?_, ?_⟩
    · intro y0 y1 y2 y3 y4 y5 y6
      unfold gimbalref31_Div.j0
      repeat' first
      | (with_reducible exact ih0 _ _ _ _ _ _ _)
      | (with_reducible exact ih1 _ _ _ _ _ _ _)
      | (with_reducible exact gimbalref31_Of.mono _ _ _)
      | (with_reducible exact LeO.refl _)
      | (with_reducible exact LeO.none _)
      | (with_reducible refine LeO.ite ?_ ?_)
      | (with_reducible refine LeO.bind ?_ (fun _ => ?_))
      | exact ih0 _ _ _ _ _ _ _
      | exact ih1 _ _ _ _ _ _ _
      | exact gimbalref31_Of.mono _ _ _
      | exact LeO.none _
      | refine LeO.ite ?_ ?_
      | refine LeO.bind ?_ (fun _ => ?_)
    · intro y0 y1 y2 y3 y4 y5 y6
      unfold gimbalref31_Div.j1
      repeat' first
      | (with_reducible exact ih0 _ _ _ _ _ _ _)
      | (with_reducible exact ih1 _ _ _ _ _ _ _)
      | (with_reducible exact gimbalref31_Of.mono _ _ _)
      | (with_reducible exact LeO.refl _)
      | (with_reducible exact LeO.none _)
      | (with_reducible refine LeO.ite ?_ ?_)
      | (with_reducible refine LeO.bind ?_ (fun _ => ?_))
      | exact ih0 _ _ _ _ _ _ _
      | exact ih1 _ _ _ _ _ _ _
      | exact gimbalref31_Of.mono _ _ _
      | exact LeO.none _
      | refine LeO.ite ?_ ?_
      | refine LeO.bind ?_ (fun _ => ?_)
theorem gimbalref31_Div.mono : ∀ a0 a1 a2 a3 a4 a5 k, LeO (gimbalref31_Div.f k a0 a1 a2 a3 a4 a5) (gimbalref31_Div.f (k + 1) a0 a1 a2 a3 a4 a5) := by
  intro a0 a1 a2 a3 a4 a5 k
  obtain ⟨ih0, ih1⟩ := gimbalref31_Div.mono_l k
  unfold gimbalref31_Div.f
  repeat' first
      | (with_reducible exact ih0 _ _ _ _ _ _ _)
      | (with_reducible exact ih1 _ _ _ _ _ _ _)
      | (with_reducible exact gimbalref31_Of.mono _ _ _)
      | (with_reducible exact LeO.refl _)
      | (with_reducible exact LeO.none _)
      | (with_reducible refine LeO.ite ?_ ?_)
      | (with_reducible refine LeO.bind ?_ (fun _ => ?_))
      | exact ih0 _ _ _ _ _ _ _
      | exact ih1 _ _ _ _ _ _ _
      | exact gimbalref31_Of.mono _ _ _
      | exact LeO.none _
      | refine LeO.ite ?_ ?_
      | refine LeO.bind ?_ (fun _ => ?_)
end Go.Proofs.YtfmmjekhknaniaaDoor.Pr

namespace Go.Proofs.YtfmmjekhknaniaaDoor.Pr
open Go.RowKit Go.Proofs.YtfmmjekhknaniaaDoor.Given Go.Proofs.YtfmmjekhknaniaaDoorW.PrintWords Go.Proofs.YtfmmjekhknaniaaDoorW.PrintLast Go.Proofs.YtfmmjekhknaniaaDoorW.PrintMore
attribute [local go_sem] max2_int min2_int max_two min_two max_three min_three max_four min_four   -- for this text's walks alone
set_option linter.unusedVariables false
set_option linter.unusedSimpArgs false

attribute [local go_sem high] eqA23
mutual
def congr_Mod.j1 : Nat → Bool → Int → Int → Bool → Int → Int → Option (Bool × Int × Int)
  | 0, _, _, _, _, _, _ => none
  | k + 1, x585000, x585001, x585002, x586000, x586001, x586002 => (congr_gcd_uint64.f k (IntKind.u64.wrap (x585001)) (IntKind.u64.wrap (x586001))).bind fun t593 => ((congr_size.f x586002).bind fun t594 => ((congr_gcd_uint64.f k t593 t594).bind fun t595 => ((congr_by.f k t595 x585002).bind fun bt596 => (some (bt596.1, bt596.2.1, bt596.2.2)))))
def congr_Mod.j0 : Nat → Bool → Bool → Int → Int → Bool → Int → Int → Option (Bool × Int × Int)
  | 0, _, _, _, _, _, _, _ => none
  | k + 1, x5, x585000, x585001, x585002, x586000, x586001, x586002 => if x5 = true then ((congr_none.f).bind fun bt587 => (some (bt587.1, bt587.2.1, bt587.2.2))) else (if x585001 = 0 then (if x586001 = 0 then (if x586002 = 0 then (none) else ((congr_constant.f (Int.tmod x585002 x586002)).bind fun bt590 => (some (bt590.1, bt590.2.1, bt590.2.2)))) else (congr_Mod.j1 k x585000 x585001 x585002 x586000 x586001 x586002)) else (congr_Mod.j1 k x585000 x585001 x585002 x586000 x586001 x586002))
end
def congr_Mod.f (k : Nat) (a0_0 : Bool) (a0_1 : Int) (a0_2 : Int) (a1_0 : Bool) (a1_1 : Int) (a1_2 : Int) : Option (Bool × Int × Int) := if a0_0 = true then (congr_Mod.j0 k true a0_0 a0_1 a0_2 a1_0 a1_1 a1_2) else (if a1_0 = true then (congr_Mod.j0 k true a0_0 a0_1 a0_2 a1_0 a1_1 a1_2) else (congr_Mod.j0 k (!a1_0 && (a1_1 == 0 && (a1_2 == 0))) a0_0 a0_1 a0_2 a1_0 a1_1 a1_2))
theorem congr_Mod.mono_l : ∀ k, (∀ y0 y1 y2 y3 y4 y5, LeO (congr_Mod.j1 k y0 y1 y2 y3 y4 y5) (congr_Mod.j1 (k + 1) y0 y1 y2 y3 y4 y5)) ∧ (∀ y0 y1 y2 y3 y4 y5 y6, LeO (congr_Mod.j0 k y0 y1 y2 y3 y4 y5 y6) (congr_Mod.j0 (k + 1) y0 y1 y2 y3 y4 y5 y6))
  | 0 => ⟨fun _ _ _ _ _ _ r h => by simp [congr_Mod.j1] at h, fun _ _ _ _ _ _ _ r h => by simp [congr_Mod.j0] at h⟩
  | k + 1 => by
    obtain ⟨ih0, ih1⟩ := congr_Mod.mono_l k
    refine ⟨?_, ?_⟩
    · intro y0 y1 y2 y3 y4 y5
      unfold congr_Mod.j1
      repeat' first
      | (with_reducible exact ih0 _ _ _ _ _ _)
      | (with_reducible exact ih1 _ _ _ _ _ _ _)
      | (with_reducible exact congr_by.mono _ _ _)
      | (with_reducible exact congr_gcd_uint64.mono _ _ _)
      | (with_reducible exact LeO.refl _)
      | (with_reducible exact LeO.none _)
      | (with_reducible refine LeO.ite ?_ ?_)
      | (with_reducible refine LeO.bind ?_ (fun _ => ?_))
      | exact ih0 _ _ _ _ _ _
      | exact ih1 _ _ _ _ _ _ _
      | exact congr_by.mono _ _ _
      | exact congr_gcd_uint64.mono _ _ _
      | exact LeO.none _
      | refine LeO.ite ?_ ?_
      | refine LeO.bind ?_ (fun _ => ?_)
    · intro y0 y1 y2 y3 y4 y5 y6
      unfold congr_Mod.j0
      repeat' first
      | (with_reducible exact ih0 _ _ _ _ _ _)
      | (with_reducible exact ih1 _ _ _ _ _ _ _)
      | (with_reducible exact congr_by.mono _ _ _)
      | (with_reducible exact congr_gcd_uint64.mono _ _ _)
      | (with_reducible exact LeO.refl _)
      | (with_reducible exact LeO.none _)
      | (with_reducible refine LeO.ite ?_ ?_)
      | (with_reducible refine LeO.bind ?_ (fun _ => ?_))
      | exact ih0 _ _ _ _ _ _
      | exact ih1 _ _ _ _ _ _ _
      | exact congr_by.mono _ _ _
      | exact congr_gcd_uint64.mono _ _ _
      | exact LeO.none _
      | refine LeO.ite ?_ ?_
      | refine LeO.bind ?_ (fun _ => ?_)
theorem congr_Mod.mono : ∀ a0 a1 a2 a3 a4 a5 k, LeO (congr_Mod.f k a0 a1 a2 a3 a4 a5) (congr_Mod.f (k + 1) a0 a1 a2 a3 a4 a5) := by
  intro a0 a1 a2 a3 a4 a5 k
  obtain ⟨ih0, ih1⟩ := congr_Mod.mono_l k
  unfold congr_Mod.f
  repeat' first
      | (with_reducible exact ih0 _ _ _ _ _ _)
      | (with_reducible exact ih1 _ _ _ _ _ _ _)
      | (with_reducible exact congr_by.mono _ _ _)
      | (with_reducible exact congr_gcd_uint64.mono _ _ _)
      | (with_reducible exact LeO.refl _)
      | (with_reducible exact LeO.none _)
      | (with_reducible refine LeO.ite ?_ ?_)
      | (with_reducible refine LeO.bind ?_ (fun _ => ?_))
      | exact ih0 _ _ _ _ _ _
      | exact ih1 _ _ _ _ _ _ _
      | exact congr_by.mono _ _ _
      | exact congr_gcd_uint64.mono _ _ _
      | exact LeO.none _
      | refine LeO.ite ?_ ?_
      | refine LeO.bind ?_ (fun _ => ?_)
end Go.Proofs.YtfmmjekhknaniaaDoor.Pr

namespace Go.Proofs.YtfmmjekhknaniaaDoor.Pr
open Go.RowKit Go.Proofs.YtfmmjekhknaniaaDoor.Given Go.Proofs.YtfmmjekhknaniaaDoorW.PrintWords Go.Proofs.YtfmmjekhknaniaaDoorW.PrintLast Go.Proofs.YtfmmjekhknaniaaDoorW.PrintMore
attribute [local go_sem] max2_int min2_int max_two min_two max_three min_three max_four min_four   -- for this text's walks alone
set_option linter.unusedVariables false
set_option linter.unusedSimpArgs false

attribute [local go_sem high] eqA23
mutual
def gimbalref31_Mod.j0 : Nat → Bool → Bool → Int → Int → Bool → Int → Int → Option (Bool × Int × Int)
  | 0, _, _, _, _, _, _, _ => none
  | k + 1, x17, x600000, x600001, x600002, x601000, x601001, x601002 => if x17 = true then ((gimbalref31_None.f).bind fun bt603 => (some (bt603.1, bt603.2.1, bt603.2.2))) else (if x600001 = 0 then (gimbalref31_Mod.j1 k (x601001 == 0) x600000 x600001 x600002 x601000 x601001 x601002) else (gimbalref31_Mod.j1 k false x600000 x600001 x600002 x601000 x601001 x601002))
def gimbalref31_Mod.j1 : Nat → Bool → Bool → Int → Int → Bool → Int → Int → Option (Bool × Int × Int)
  | 0, _, _, _, _, _, _, _ => none
  | k + 1, x26, x600000, x600001, x600002, x601000, x601001, x601002 => if x26 = true then (if x601002 = 0 then (none) else ((gimbalref31_Of.f k 0 (Int.tmod x600002 x601002)).bind fun bt606 => (some (bt606.1, bt606.2.1, bt606.2.2)))) else ((gimbalref31_size.f x600001).bind fun t609 => ((gimbalref31_size.f x601001).bind fun t610 => ((gimbalref31_size.f x601002).bind fun t611 => ((gimbalref31_gcd.f k t610 t611).bind fun t612 => ((gimbalref31_gcd.f k t609 t612).bind fun t613 => ((gimbalref31_of.f k t613 x600002).bind fun bt614 => (some (bt614.1, bt614.2.1, bt614.2.2))))))))
end
def gimbalref31_Mod.f (k : Nat) (a0_0 : Bool) (a0_1 : Int) (a0_2 : Int) (a1_0 : Bool) (a1_1 : Int) (a1_2 : Int) : Option (Bool × Int × Int) := if a0_0 = true then (gimbalref31_Mod.j0 k true a0_0 a0_1 a0_2 a1_0 a1_1 a1_2) else (if a1_0 = true then (gimbalref31_Mod.j0 k true a0_0 a0_1 a0_2 a1_0 a1_1 a1_2) else (gimbalref31_Mod.j0 k (!a1_0 && (a1_1 == 0 && (a1_2 == 0))) a0_0 a0_1 a0_2 a1_0 a1_1 a1_2))
theorem gimbalref31_Mod.mono_l : ∀ k, (∀ y0 y1 y2 y3 y4 y5 y6, LeO (gimbalref31_Mod.j0 k y0 y1 y2 y3 y4 y5 y6) (gimbalref31_Mod.j0 (k + 1) y0 y1 y2 y3 y4 y5 y6)) ∧ (∀ y0 y1 y2 y3 y4 y5 y6, LeO (gimbalref31_Mod.j1 k y0 y1 y2 y3 y4 y5 y6) (gimbalref31_Mod.j1 (k + 1) y0 y1 y2 y3 y4 y5 y6))
  | 0 => ⟨fun _ _ _ _ _ _ _ r h => by simp [gimbalref31_Mod.j0] at h, fun _ _ _ _ _ _ _ r h => by simp [gimbalref31_Mod.j1] at h⟩
  | k + 1 => by
    obtain ⟨ih0, ih1⟩ := gimbalref31_Mod.mono_l k
    refine ⟨?_, ?_⟩
    · intro y0 y1 y2 y3 y4 y5 y6
      unfold gimbalref31_Mod.j0
      repeat' first
      | (with_reducible exact ih0 _ _ _ _ _ _ _)
      | (with_reducible exact ih1 _ _ _ _ _ _ _)
      | (with_reducible exact gimbalref31_Of.mono _ _ _)
      | (with_reducible exact gimbalref31_gcd.mono _ _ _)
      | (with_reducible exact gimbalref31_of.mono _ _ _)
      | (with_reducible exact LeO.refl _)
      | (with_reducible exact LeO.none _)
      | (with_reducible refine LeO.ite ?_ ?_)
      | (with_reducible refine LeO.bind ?_ (fun _ => ?_))
      | exact ih0 _ _ _ _ _ _ _
      | exact ih1 _ _ _ _ _ _ _
      | exact gimbalref31_Of.mono _ _ _
      | exact gimbalref31_gcd.mono _ _ _
      | exact gimbalref31_of.mono _ _ _
      | exact LeO.none _
      | refine LeO.ite ?_ ?_
      | refine LeO.bind ?_ (fun _ => ?_)
    · intro y0 y1 y2 y3 y4 y5 y6
      unfold gimbalref31_Mod.j1
      repeat' first
      | (with_reducible exact ih0 _ _ _ _ _ _ _)
      | (with_reducible exact ih1 _ _ _ _ _ _ _)
      | (with_reducible exact gimbalref31_Of.mono _ _ _)
      | (with_reducible exact gimbalref31_gcd.mono _ _ _)
      | (with_reducible exact gimbalref31_of.mono _ _ _)
      | (with_reducible exact LeO.refl _)
      | (with_reducible exact LeO.none _)
      | (with_reducible refine LeO.ite ?_ ?_)
      | (with_reducible refine LeO.bind ?_ (fun _ => ?_))
      | exact ih0 _ _ _ _ _ _ _
      | exact ih1 _ _ _ _ _ _ _
      | exact gimbalref31_Of.mono _ _ _
      | exact gimbalref31_gcd.mono _ _ _
      | exact gimbalref31_of.mono _ _ _
      | exact LeO.none _
      | refine LeO.ite ?_ ?_
      | refine LeO.bind ?_ (fun _ => ?_)
theorem gimbalref31_Mod.mono : ∀ a0 a1 a2 a3 a4 a5 k, LeO (gimbalref31_Mod.f k a0 a1 a2 a3 a4 a5) (gimbalref31_Mod.f (k + 1) a0 a1 a2 a3 a4 a5) := by
  intro a0 a1 a2 a3 a4 a5 k
  obtain ⟨ih0, ih1⟩ := gimbalref31_Mod.mono_l k
  unfold gimbalref31_Mod.f
  repeat' first
      | (with_reducible exact ih0 _ _ _ _ _ _ _)
      | (with_reducible exact ih1 _ _ _ _ _ _ _)
      | (with_reducible exact gimbalref31_Of.mono _ _ _)
      | (with_reducible exact gimbalref31_gcd.mono _ _ _)
      | (with_reducible exact gimbalref31_of.mono _ _ _)
      | (with_reducible exact LeO.refl _)
      | (with_reducible exact LeO.none _)
      | (with_reducible refine LeO.ite ?_ ?_)
      | (with_reducible refine LeO.bind ?_ (fun _ => ?_))
      | exact ih0 _ _ _ _ _ _ _
      | exact ih1 _ _ _ _ _ _ _
      | exact gimbalref31_Of.mono _ _ _
      | exact gimbalref31_gcd.mono _ _ _
      | exact gimbalref31_of.mono _ _ _
      | exact LeO.none _
      | refine LeO.ite ?_ ?_
      | refine LeO.bind ?_ (fun _ => ?_)
end Go.Proofs.YtfmmjekhknaniaaDoor.Pr

namespace Go.Proofs.YtfmmjekhknaniaaDoor.Core
open Go.RowKit Go.Proofs.YtfmmjekhknaniaaDoor.Pr Go.Proofs.YtfmmjekhknaniaaDoorW.PrintWords

theorem Leq_f {a b : Cg} (ha : Fit a) (hb : Fit b) : Ev (fun k => congr_Leq.f k a.1 a.2.1 a.2.2 b.1 b.2.1 b.2.2) (leqB a b) := by
  unfold congr_Leq.f
  by_cases h1 : a.1 = true
  · simp only [if_pos h1]
    rw [show leqB a b = true from leqB_iff.mpr (Sub.none _ h1)]; exact Ev.now _
  · simp only [if_neg h1]
    by_cases h2 : b.1 = true
    · simp only [if_pos h2]
      have : leqB a b = false := by
        cases hb' : leqB a b
        · rfl
        · have := none_of_sub ha (leqB_iff.mp hb') h2
          rw [this] at h1; exact absurd rfl h1
      rw [this]; exact Ev.now _
    · simp only [if_neg h2]
      refine Ev.bind (Join_f ha hb) ?_
      have : ((joinS a b).1 == b.1 && ((joinS a b).2.1 == b.2.1 && ((joinS a b).2.2 == b.2.2))) = leqB a b :=
        beq_bool (by rw [eq3, leqB_iff]; exact join_eq_iff ha hb)
      rw [this]; exact Ev.now _

theorem tdiv_range {x d m : Int} (h : -m ≤ x) (h' : x ≤ m) : -m ≤ Int.tdiv x d ∧ Int.tdiv x d ≤ m := by
  have e : (Int.tdiv x d).natAbs ≤ x.natAbs := by rw [Int.natAbs_tdiv]; exact Nat.div_le_self _ _
  omega

end Go.Proofs.YtfmmjekhknaniaaDoor.Core

namespace Go.Proofs.YtfmmjekhknaniaaDoor.Pr
open Go.RowKit Go.Proofs.YtfmmjekhknaniaaDoor.Given Go.Proofs.YtfmmjekhknaniaaDoorW.PrintWords Go.Proofs.YtfmmjekhknaniaaDoorW.PrintLast Go.Proofs.YtfmmjekhknaniaaDoorW.PrintMore
attribute [local go_sem] max2_int min2_int max_two min_two max_three min_three max_four min_four   -- for this text's walks alone
set_option linter.unusedVariables false
set_option linter.unusedSimpArgs false

def bits_Mul64.f (a0 : Int) (a1 : Int) : Option (Int × Int) := some (IntKind.u64.wrap ((IntKind.u64.wrap ((IntKind.u64.wrap ((a0 / 4294967296) * (a1 / 4294967296))) + ((IntKind.u64.wrap ((IntKind.u64.wrap ((a0 / 4294967296) * (Go.bits .and .u64 a1 4294967295))) + ((IntKind.u64.wrap ((Go.bits .and .u64 a0 4294967295) * (Go.bits .and .u64 a1 4294967295))) / 4294967296))) / 4294967296))) + ((IntKind.u64.wrap ((Go.bits .and .u64 (IntKind.u64.wrap ((IntKind.u64.wrap ((a0 / 4294967296) * (Go.bits .and .u64 a1 4294967295))) + ((IntKind.u64.wrap ((Go.bits .and .u64 a0 4294967295) * (Go.bits .and .u64 a1 4294967295))) / 4294967296))) 4294967295) + (IntKind.u64.wrap ((Go.bits .and .u64 a0 4294967295) * (a1 / 4294967296))))) / 4294967296)), IntKind.u64.wrap (a0 * a1))
set_option maxHeartbeats 8000000 in
set_option maxRecDepth 100000 in
theorem bits_Mul64.calls (a0 : Int) (a1 : Int) (r1 : Int) (r2 : Int) (w : World) (h : bits_Mul64.f a0 a1 = some (r1, r2)) :
    Calls Tryd.prog 63 #[.int .u64 a0, .int .u64 a1] w fun e w' => e = .returned (.tuple #[.int .u64 r1, .int .u64 r2]) ∧ Drawn0 w w' := by
  have H : (some (IntKind.u64.wrap ((IntKind.u64.wrap ((IntKind.u64.wrap ((a0 / 4294967296) * (a1 / 4294967296))) + ((IntKind.u64.wrap ((IntKind.u64.wrap ((a0 / 4294967296) * (Go.bits .and .u64 a1 4294967295))) + ((IntKind.u64.wrap ((Go.bits .and .u64 a0 4294967295) * (Go.bits .and .u64 a1 4294967295))) / 4294967296))) / 4294967296))) + ((IntKind.u64.wrap ((Go.bits .and .u64 (IntKind.u64.wrap ((IntKind.u64.wrap ((a0 / 4294967296) * (Go.bits .and .u64 a1 4294967295))) + ((IntKind.u64.wrap ((Go.bits .and .u64 a0 4294967295) * (Go.bits .and .u64 a1 4294967295))) / 4294967296))) 4294967295) + (IntKind.u64.wrap ((Go.bits .and .u64 a0 4294967295) * (a1 / 4294967296))))) / 4294967296)), IntKind.u64.wrap (a0 * a1))) = some (r1, r2) := h
  clear h
  simp only [Option.some.injEq, Prod.mk.injEq] at H
  obtain ⟨rfl, rfl⟩ := H
  go_enter Tryd.func63, Tryd.ntmps63
  go_wp2
  go_ret2
  exact ⟨by first | rfl | (simp; done) | (simp [*]; done), by repeat (first | exact Drawn0.refl _ | apply Drawn0.step)⟩

end Go.Proofs.YtfmmjekhknaniaaDoor.Pr

namespace Go.Proofs.YtfmmjekhknaniaaDoor.Pr
open Go.RowKit Go.Proofs.YtfmmjekhknaniaaDoor.Given Go.Proofs.YtfmmjekhknaniaaDoorW.PrintWords Go.Proofs.YtfmmjekhknaniaaDoorW.PrintLast Go.Proofs.YtfmmjekhknaniaaDoorW.PrintMore
attribute [local go_sem] max2_int min2_int max_two min_two max_three min_three max_four min_four   -- for this text's walks alone
set_option linter.unusedVariables false
set_option linter.unusedSimpArgs false

def congr_inverse.l0 : Nat → Int → Int → Int → Int → Int → Option (Int)
  | 0, _, _, _, _, _ => none
  | k + 1, x1, x5, x6, x7, x8 => if x8 = 0 then ((congr_rest.f x5 x1).bind fun t196 => (some t196)) else (congr_inverse.l0 k x1 x6 (wrap64 (x5 - (wrap64 ((wrap64 (Int.tdiv x7 x8)) * x6)))) x8 (wrap64 (x7 - (wrap64 ((wrap64 (Int.tdiv x7 x8)) * x8)))))
def congr_inverse.f (k : Nat) (a0 : Int) (a1 : Int) : Option (Int) := congr_inverse.l0 k a1 1 0 (wrap64 (a0)) (wrap64 (a1))
theorem congr_inverse.mono_l : ∀ k, (∀ y0 y1 y2 y3 y4, LeO (congr_inverse.l0 k y0 y1 y2 y3 y4) (congr_inverse.l0 (k + 1) y0 y1 y2 y3 y4))
  | 0 => fun _ _ _ _ _ r h => by simp [congr_inverse.l0] at h
  | k + 1 => by
    have ih0 := congr_inverse.mono_l k
    · intro y0 y1 y2 y3 y4
      unfold congr_inverse.l0
      repeat' first
      | (with_reducible exact ih0 _ _ _ _ _)
      | (with_reducible exact LeO.refl _)
      | (with_reducible exact LeO.none _)
      | (with_reducible refine LeO.ite ?_ ?_)
      | (with_reducible refine LeO.bind ?_ (fun _ => ?_))
      | exact ih0 _ _ _ _ _
      | exact LeO.none _
      | refine LeO.ite ?_ ?_
      | refine LeO.bind ?_ (fun _ => ?_)
theorem congr_inverse.mono : ∀ a0 a1 k, LeO (congr_inverse.f k a0 a1) (congr_inverse.f (k + 1) a0 a1) := by
  intro a0 a1 k
  have ih0 := congr_inverse.mono_l k
  unfold congr_inverse.f
  repeat' first
      | (with_reducible exact ih0 _ _ _ _ _)
      | (with_reducible exact LeO.refl _)
      | (with_reducible exact LeO.none _)
      | (with_reducible refine LeO.ite ?_ ?_)
      | (with_reducible refine LeO.bind ?_ (fun _ => ?_))
      | exact ih0 _ _ _ _ _
      | exact LeO.none _
      | refine LeO.ite ?_ ?_
      | refine LeO.bind ?_ (fun _ => ?_)
set_option maxHeartbeats 8000000 in
set_option maxRecDepth 100000 in
theorem congr_inverse.calls (k : Nat) (a0 : Int) (a1 : Int) (r : Int) (w : World) (h : congr_inverse.f k a0 a1 = some r) :
    Calls Tryd.prog 64 #[.int .u64 a0, .int .u64 a1] w fun e w' => e = .returned (.int .u64 r) ∧ Drawn0 w w' := by
  have H : (congr_inverse.l0 k a1 1 0 (wrap64 (a0)) (wrap64 (a1))) = some r := h
  clear h
  have H' := Aside0.mk H
  clear H
  go_enter Tryd.func64, Tryd.ntmps64
  go_wp2
  go_loopg [5, 6, 7, 8] k (fun kq v5 v6 v7 v8 w' => ∃ (x5_1 : Int) (x6_1 : Int) (x7_1 : Int) (x8_1 : Int), v5 = .int .i64 x5_1 ∧ v6 = .int .i64 x6_1 ∧ v7 = .int .i64 x7_1 ∧ v8 = .int .i64 x8_1 ∧ Aside0 (congr_inverse.l0 kq a1 x5_1 x6_1 x7_1 x8_1 = some r) ∧ Aside0 (kq ≤ k) ∧ Drawn0 w w')
  case atStart => exact ⟨(1), (0), (wrap64 (a0)), (wrap64 (a1)), (by first | rfl | (simp; done) | (simp [*]; done)), (by first | rfl | (simp; done) | (simp [*]; done)), (by first | rfl | (simp; done) | (simp [*]; done)), (by first | rfl | (simp; done) | (simp [*]; done)), H', ⟨Nat.le_refl _⟩, by repeat (first | exact Drawn0.refl _ | apply Drawn0.step)⟩
  case round =>
    clear H'
    try clear p2
    obtain ⟨x5_1, x6_1, x7_1, x8_1, rfl, rfl, rfl, rfl, HA, HK1, ⟨m1, rfl⟩⟩ := hrel
    cases gk with
    | zero => exact absurd HA.out (by simp [congr_inverse.l0])
    | succ k1 =>
      have H := HA.out
      clear HA
      simp only [congr_inverse.l0] at H
      by_cases c3 : x8_1 = 0
      · rw [if_pos c3] at H
        have c3b0 : (x8_1 == 0) = true := beq_iff_eq.mpr c3
        have c3b1 : (x8_1 != 0) = false := bne_eq_false_iff_eq.mpr c3
        clear c3
        replace H := Option.bind_eq_some_iff.mp H
        obtain ⟨t196, A40, H⟩ := H
        replace H : (some t196) = some r := H
        have A4 := Aside0.mk A40
        clear A40
        obtain rfl := Option.some.inj H
        go_wp2_with (first | ((with_reducible refine gate_callee (f := 53) rfl ?_); refine goesL_ (some 33) rfl rfl Tryd.func53 (by kernel_rfl) rfl #[.int .i64 x5_1, .int .u64 a1] rfl (by (try simp only [List.map_toArray, List.map_cons, List.map_nil]); first | done | rfl | (simp only [List.length_drop, List.length_take]; rfl)) ?_; (with_reducible refine (congr_rest.calls x5_1 a1 t196 _ A4.out).mono ?_); rintro e w' ⟨rfl, ⟨nd, rfl⟩⟩; refine ⟨_, rfl, ?_⟩))
        go_ret
        exact ⟨by first | rfl | (simp; done) | (simp [*]; done), by repeat (first | exact Drawn0.refl _ | apply Drawn0.step)⟩
      · rw [if_neg c3] at H
        have c3b0 : (x8_1 == 0) = false := beq_eq_false_iff_ne.mpr c3
        have c3b1 : (x8_1 != 0) = true := bne_iff_ne.mpr c3
        have H' := Aside0.mk H
        clear H
        go_wp2
        go_roundg k1
        case measure => have := HK1.out; omega
        case rel => exact ⟨(x6_1), (wrap64 (x5_1 - (wrap64 ((wrap64 (Int.tdiv x7_1 x8_1)) * x6_1)))), (x8_1), (wrap64 (x7_1 - (wrap64 ((wrap64 (Int.tdiv x7_1 x8_1)) * x8_1)))), (by first | rfl | (simp; done) | (simp [*]; done)), (by first | rfl | (simp; done) | (simp [*]; done)), (by first | rfl | (simp; done) | (simp [*]; done)), (by first | rfl | (simp; done) | (simp [*]; done)), H', ⟨by have := HK1.out; omega⟩, by repeat (first | exact Drawn0.refl _ | apply Drawn0.step)⟩

end Go.Proofs.YtfmmjekhknaniaaDoor.Pr

