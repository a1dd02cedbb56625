/- This claim's own texts, joined, with only what the claim uses: LawK. -/
import Derived.Test.YtfmmjekhknaniaaDoorMonoP4
import Derived.Test.YtfmmjekhknaniaaDoorProg
import Derived.Deep.DeepCutAuto
import Derived.Below
import Derived.WalkKit
import Derived.Tactics
import Derived.Lib.Hide
import Derived.LoopTactic
import Derived.Deep.RegionHeld3
import Derived.Outline
namespace Go.Proofs.YtfmmjekhknaniaaDoor.Lk
open Go.RowKit Go.Proofs.YtfmmjekhknaniaaDoorW.PrintWords
set_option linter.unusedSimpArgs false

theorem eqA23 (d : Nat) (w : World) (x0 y0 : Bool) (x1 y1 : Int) (x2 y2 : Int) :
    (Op.equalIn (d + 2) 23 (.agg #[.bool x0, .int .i64 x1, .int .i64 x2]) (.agg #[.bool y0, .int .i64 y1, .int .i64 y2])).run Tryd.prog w = .ok (x0 == y0 && (x1 == y1 && (x2 == y2))) w := by
  refine eqA_of Tryd.underlying23 (by kernel_rfl) ?_
  refine eqf_cons (by rfl) (by go_simp; rfl) (by go_simp; rfl) (by go_simp) ?_
  refine eqf_cons (by rfl) (by go_simp; rfl) (by go_simp; rfl) (by go_simp) ?_
  exact eqf_last (by rfl) (by go_simp; rfl) (by go_simp; rfl) (by go_simp)
theorem eqS23 (d : Nat) (w : World) (x0 : Bool) (x1 x2 : Int) :
    (Op.equalIn (d + 2) 23 (.agg #[.bool x0, .int .i64 x1, .int .i64 x2]) (.agg #[.bool x0, .int .i64 x1, .int .i64 x2])).run Tryd.prog w = .ok true w := by
  rw [eqA23]; simp
theorem eqA38 (d : Nat) (w : World) (x0 y0 : Int) (x1 y1 : Int) :
    (Op.equalIn (d + 2) 38 (.agg #[.int .i64 x0, .int .i64 x1]) (.agg #[.int .i64 y0, .int .i64 y1])).run Tryd.prog w = .ok (x0 == y0 && (x1 == y1)) w := by
  refine eqA_of Tryd.underlying38 (by kernel_rfl) ?_
  refine eqf_cons (by rfl) (by go_simp; rfl) (by go_simp; rfl) (by go_simp) ?_
  exact eqf_last (by rfl) (by go_simp; rfl) (by go_simp; rfl) (by go_simp)
theorem eqS38 (d : Nat) (w : World) (x0 x1 : Int) :
    (Op.equalIn (d + 2) 38 (.agg #[.int .i64 x0, .int .i64 x1]) (.agg #[.int .i64 x0, .int .i64 x1])).run Tryd.prog w = .ok true w := by
  rw [eqA38]; simp

/-- The world W is w with more in it, and these cells of W hold these values. -/
def Held (w : World) (L : List (Nat × Nat × Value)) (W : World) : Prop :=
  Below w.heap.size w W ∧ ∀ x ∈ L, x.1 < W.heap.size ∧ W.cell? ⟨x.1, x.2.1, none⟩ = some x.2.2
theorem Held.keep {w W W' : World} {L : List (Nat × Nat × Value)} (hb : Below W.heap.size W W') (h : Held w L W) : Held w L W' :=
  ⟨h.1.trans (hb.mono h.1.size), fun x hx => ⟨Nat.lt_of_lt_of_le (h.2 x hx).1 hb.size, by rw [hb.cell (p := ⟨x.1, x.2.1, none⟩) (h.2 x hx).1]; exact (h.2 x hx).2⟩⟩
theorem Held.drew {w W : World} {L : List (Nat × Nat × Value)} (h : Held w L W) : Held w L W.drew := ⟨h.1.drew, h.2⟩
theorem Held.alloc {w W : World} {L : List (Nat × Nat × Value)} (o : Obj) (h : Held w L W) : Held w L (W.alloc o) :=
  h.keep ((Below.refl _ _).alloc (Nat.le_refl _) o)
theorem Held.cons {w W : World} {L : List (Nat × Nat × Value)} {b o : Nat} {v : Value} (hb : b < W.heap.size) (hc : W.cell? ⟨b, o, none⟩ = some v) (h : Held w L W) : Held w ((b, o, v) :: L) W :=
  ⟨h.1, fun x hx => by
    rcases List.mem_cons.mp hx with rfl | hx
    · exact ⟨hb, hc⟩
    · exact h.2 x hx⟩
theorem Held.open {w W : World} {L : List (Nat × Nat × Value)} (h : Held w L W) : Below w.heap.size w W ∧ ∀ x ∈ L, x.1 < W.heap.size ∧ W.cell? ⟨x.1, x.2.1, none⟩ = some x.2.2 := h
theorem Held.rest {w W : World} {b o : Nat} {v : Value} {L : List (Nat × Nat × Value)} (h : Held w ((b, o, v) :: L) W) : Held w L W := ⟨h.1, fun x hx => h.2 x (List.mem_cons_of_mem _ hx)⟩
theorem lA {α : Type _} {l : List α} {i : Nat} {a : α} : l.toArray.setIfInBounds i a = (l.set i a).toArray := List.setIfInBounds_toArray _ _ _
theorem lB {α : Type _} {x : α} {xs : List α} {a : α} : (x :: xs).set 0 a = a :: xs := List.set_cons_zero
theorem lC {α : Type _} {x : α} {xs : List α} {n : Nat} {a : α} : (x :: xs).set (n + 1) a = x :: xs.set n a := List.set_cons_succ
end Go.Proofs.YtfmmjekhknaniaaDoor.Lk

