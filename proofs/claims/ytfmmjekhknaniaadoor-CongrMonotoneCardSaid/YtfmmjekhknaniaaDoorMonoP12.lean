/- This claim's own texts, joined, with only what the claim uses: MonoK. -/
import Derived.Test.YtfmmjekhknaniaaDoorMonoP10
namespace Go.Proofs.YtfmmjekhknaniaaDoor.Mn
open Go.RowKit Lk
set_option linter.unusedSimpArgs false

/-- A fresh box of a congruence, behind the blocks below N. -/
def G (N n : Nat) (W : World) : Prop := (W.cell? ⟨n, 0, none⟩ = some (.bool false) ∧ W.cell? ⟨n, 1, none⟩ = some (.int .i64 0) ∧ W.cell? ⟨n, 2, none⟩ = some (.int .i64 0) ∧ W.frozen? ⟨n, 0, none⟩ = false ∧ W.frozen? ⟨n, 1, none⟩ = false ∧ W.frozen? ⟨n, 2, none⟩ = false) ∧ n < W.heap.size ∧ N ≤ n
/-- A fresh box of an interval. -/
def G2 (N n : Nat) (W : World) : Prop := (W.cell? ⟨n, 0, none⟩ = some (.int .i64 0) ∧ W.cell? ⟨n, 1, none⟩ = some (.int .i64 0) ∧ W.frozen? ⟨n, 0, none⟩ = false ∧ W.frozen? ⟨n, 1, none⟩ = false) ∧ n < W.heap.size ∧ N ≤ n
theorem fc {W w1 : World} (hb : Below W.heap.size W w1) : (∀ b o, b < W.heap.size → w1.cell? ⟨b, o, none⟩ = W.cell? ⟨b, o, none⟩) ∧ (∀ b o, b < W.heap.size → w1.frozen? ⟨b, o, none⟩ = W.frozen? ⟨b, o, none⟩) :=
  ⟨fun b o h => hb.cell (p := ⟨b, o, none⟩) h, fun b o h => hb.frozen (p := ⟨b, o, none⟩) h⟩
theorem G.below {N n : Nat} {W W' : World} (g : G N n W) (hb : Below W.heap.size W W') : G N n W' := by
  obtain ⟨⟨h1, h2, h3, h4, h5, h6⟩, h7, h8⟩ := g
  obtain ⟨hc, hf⟩ := fc hb
  exact ⟨⟨by rw [hc _ _ h7, h1], by rw [hc _ _ h7, h2], by rw [hc _ _ h7, h3], by rw [hf _ _ h7, h4], by rw [hf _ _ h7, h5], by rw [hf _ _ h7, h6]⟩, by have := hb.size; omega, h8⟩
theorem G2.below {N n : Nat} {W W' : World} (g : G2 N n W) (hb : Below W.heap.size W W') : G2 N n W' := by
  obtain ⟨⟨h1, h2, h4, h5⟩, h7, h8⟩ := g
  obtain ⟨hc, hf⟩ := fc hb
  exact ⟨⟨by rw [hc _ _ h7, h1], by rw [hc _ _ h7, h2], by rw [hf _ _ h7, h4], by rw [hf _ _ h7, h5]⟩, by have := hb.size; omega, h8⟩
theorem G.alloc {N n : Nat} {W : World} (g : G N n W) (o : Obj) : G N n (W.alloc o) := g.below ((Below.refl _ _).alloc (Nat.le_refl _) o)
theorem G2.alloc {N n : Nat} {W : World} (g : G2 N n W) (o : Obj) : G2 N n (W.alloc o) := g.below ((Below.refl _ _).alloc (Nat.le_refl _) o)
theorem G.new {N : Nat} (X : World) (h : N ≤ X.heap.size) : G N X.heap.size (X.alloc (.cells #[.bool false, .int .i64 0, .int .i64 0] 23)) := by
  refine ⟨?_, by simp, h⟩
  go_simp
theorem G2.new {N : Nat} (X : World) (h : N ≤ X.heap.size) : G2 N X.heap.size (X.alloc (.cells #[.int .i64 0, .int .i64 0] 38)) := by
  refine ⟨?_, by simp, h⟩
  go_simp
theorem size_alloc {N : Nat} {X : World} (o : Obj) (h : N ≤ X.heap.size) : N ≤ (X.alloc o).heap.size := by simp; omega
theorem set1 {w W : World} {L : List (Nat × Nat × Value)} {n : Nat} (k : Nat) (v : Value) (hw : w.heap.size ≤ n) (hn : ∀ x ∈ L, x.1 ≠ n) (h : Held w L W) : Held w L (W.setCell ⟨n, k, none⟩ v) := by
  refine ⟨h.1.setCell hw _, fun x hx => ?_⟩
  have := h.2 x hx
  refine ⟨by simpa [World.setCell] using this.1, ?_⟩
  rw [World.cell?_of_block (Below.heap_setCell _ _ _ _ (by dsimp only; exact hn x hx))]
  exact this.2
theorem set3 {w W : World} {L : List (Nat × Nat × Value)} {n : Nat} (a b c : Value) (hw : w.heap.size ≤ n) (hn : ∀ x ∈ L, x.1 ≠ n) (h : Held w L W) : Held w L (((W.setCell ⟨n, 0, none⟩ a).setCell ⟨n, 1, none⟩ b).setCell ⟨n, 2, none⟩ c) :=
  set1 2 c hw hn (set1 1 b hw hn (set1 0 a hw hn h))
theorem set2 {w W : World} {L : List (Nat × Nat × Value)} {n : Nat} (a b : Value) (hw : w.heap.size ≤ n) (hn : ∀ x ∈ L, x.1 ≠ n) (h : Held w L W) : Held w L ((W.setCell ⟨n, 0, none⟩ a).setCell ⟨n, 1, none⟩ b) :=
  set1 1 b hw hn (set1 0 a hw hn h)
theorem fill3 {w W : World} {L : List (Nat × Nat × Value)} {N n : Nat} (a : Bool) (b c : Int) (g : G N n W) (hw : w.heap.size ≤ n) (hn : ∀ x ∈ L, x.1 ≠ n) (h : Held w L W) :
    Held w ((n, 0, .bool a) :: (n, 1, .int .i64 b) :: (n, 2, .int .i64 c) :: L) (((W.setCell ⟨n, 0, none⟩ (.bool a)).setCell ⟨n, 1, none⟩ (.int .i64 b)).setCell ⟨n, 2, none⟩ (.int .i64 c)) := by
  obtain ⟨⟨g0, g1, g2, g3, g4, g5⟩, sz, md⟩ := g
  refine Held.cons ?_ ?_ (Held.cons ?_ ?_ (Held.cons ?_ ?_ (set3 _ _ _ hw hn h)))
  all_goals (first | (go_simp; done) | (go_simp; omega))
theorem fill2 {w W : World} {L : List (Nat × Nat × Value)} {N n : Nat} (b c : Int) (g : G2 N n W) (hw : w.heap.size ≤ n) (hn : ∀ x ∈ L, x.1 ≠ n) (h : Held w L W) :
    Held w ((n, 0, .int .i64 b) :: (n, 1, .int .i64 c) :: L) ((W.setCell ⟨n, 0, none⟩ (.int .i64 b)).setCell ⟨n, 1, none⟩ (.int .i64 c)) := by
  obtain ⟨⟨g0, g1, g3, g4⟩, sz, md⟩ := g
  refine Held.cons ?_ ?_ (Held.cons ?_ ?_ (set2 _ _ hw hn h))
  all_goals (first | (go_simp; done) | (go_simp; omega))
theorem G.store3 {W : World} {N n m : Nat} (a : Bool) (b c : Int) (g : G N m W) (f : G N n W) (_h1 : m ≠ n) (_h2 : n ≠ m) : G N m (((W.setCell ⟨n, 0, none⟩ (.bool a)).setCell ⟨n, 1, none⟩ (.int .i64 b)).setCell ⟨n, 2, none⟩ (.int .i64 c)) := by
  obtain ⟨⟨g0, g1, g2, g3, g4, g5⟩, sz, md⟩ := g
  obtain ⟨⟨f0, f1, f2, f3, f4, f5⟩, sf, mf⟩ := f
  refine ⟨⟨?_, ?_, ?_, ?_, ?_, ?_⟩, ?_, md⟩
  all_goals (first | (go_simp; done) | (go_simp; omega))
theorem G2.store3 {W : World} {N n m : Nat} (a : Bool) (b c : Int) (g : G2 N m W) (f : G N n W) (_h1 : m ≠ n) (_h2 : n ≠ m) : G2 N m (((W.setCell ⟨n, 0, none⟩ (.bool a)).setCell ⟨n, 1, none⟩ (.int .i64 b)).setCell ⟨n, 2, none⟩ (.int .i64 c)) := by
  obtain ⟨⟨g0, g1, g3, g4⟩, sz, md⟩ := g
  obtain ⟨⟨f0, f1, f2, f3, f4, f5⟩, sf, mf⟩ := f
  refine ⟨⟨?_, ?_, ?_, ?_⟩, ?_, md⟩
  all_goals (first | (go_simp; done) | (go_simp; omega))
end Go.Proofs.YtfmmjekhknaniaaDoor.Mn

