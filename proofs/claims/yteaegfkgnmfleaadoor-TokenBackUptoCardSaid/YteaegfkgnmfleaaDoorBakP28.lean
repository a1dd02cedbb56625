/- This claim's own texts, joined, with only what the claim uses: LawA. -/
import Derived.Test.YteaegfkgnmfleaaDoorBakP16
import Derived.Test.YteaegfkgnmfleaaDoorBakP27
namespace Go.Proofs.YteaegfkgnmfleaaDoor.Sc
open Go.RowKit Tk Pr Go.Proofs.YteaegfkgnmfleaaDoorW.PrintWords

/-- What a text's Scan answers: the tokens, the place, the error. -/
def ans (xs : List Int) : List S37 × Int × Int := if 65536 < xs.length then ([], 0, 30) else resOf (scan KB xs 0 [])
theorem reps_cells (R : S37 → List Value → Prop) (hR : ∀ x, R x [.int .i64 x.f0, .int .i64 x.f1, .int .i64 x.f2, .int .i64 x.f3]) (l : List Tok) : Reps R 4 (l.map mkS) (cellsOf l) := by
  have key : ∀ r : List Tok, Reps R 4 (r.reverse.map mkS) (cellsOf r.reverse) := fun r => by
    induction r with
    | nil => exact Reps.none _ _
    | cons t r ih =>
      rw [List.reverse_cons, List.map_append, cellsOf_append]
      exact ih.snoc (hR (mkS t)) rfl
  have := key l.reverse
  rwa [List.reverse_reverse] at this
theorem own_R {W : World} {base : Nat} {v : Value} {l : List Tok} (h : W.ownsRow base 37 4 v l.length (cellsOf l)) : Kd.R k37 37 W base (fun _ => True) v (l.map mkS) :=
  ⟨fun _ _ => trivial, cellsOf l, by rw [List.length_map]; exact h, reps_cells _ (fun x => k37_mkM _ _ _ x) l⟩
theorem scan_walk (A : Option Addr) (n cap : Nat) (xs : List Int) (w : World) (hcap : n ≤ cap) (hx : xs.length = n) (hB : ∀ c ∈ xs, Byte c) (hT : HasTab w) (hL : Lies w A n xs) (hA : ∀ a, A = some a → a.block < w.heap.size) (hm : ∃ m, w.cell? ⟨1, 0, none⟩ = some (.int .i64 m)) :
    Calls Tryd.prog 11 #[.slice A n cap] w fun e w' => Below w.heap.size w w' ∧ ∃ v, e = .returned (.tuple #[v, fault (ans xs).2.1 (ans xs).2.2]) ∧ Kd.R k37 37 w' w.heap.size (fun _ => True) v (ans xs).1 := by
  unfold ans
  by_cases hn : 65536 < n
  · rw [if_pos (by omega)]
    refine (scan_long A n cap w hn).mono ?_
    rintro e w' ⟨hb, rfl⟩
    exact ⟨hb, _, rfl, Kd.R_nil _ _ _ _ _⟩
  · rw [if_neg (by omega)]
    refine scan_short A n cap xs w (by omega) hcap hx hB hT hL hA hm _ ?_ ?_
    · intro p er W hs hb
      rw [hs]
      exact ⟨hb, _, rfl, Kd.R_nil _ _ _ _ _⟩
    · intro l v W hs hb ho
      rw [hs]
      exact ⟨hb, _, rfl, Kd.R_lower (own_R ho) (by omega)⟩
theorem ref_walk (A : Option Addr) (cap : Nat) (xs : List Int) (w : World) (hcap : xs.length ≤ cap) (hC : Kd.C (Kd.int .u8) w A xs.length xs) :
    Calls Tryd.prog 12 #[.slice A xs.length cap] w fun e w' => Below w.heap.size w w' ∧ ∃ v, e = .returned (.tuple #[v, .int .i64 (ans xs).2.1, .int .i64 (ans xs).2.2]) ∧ Kd.R k37 37 w' w.heap.size (fun _ => True) v (ans xs).1 := by
  refine (gimbalref03_Scan.calls (3 * xs.length + 80) A cap xs (ans xs).1 (ans xs).2.1 (ans xs).2.2 w hC hcap (refScan_f xs _ (Nat.le_refl _))).mono ?_
  rintro e w' ⟨v, rfl, hR, hb⟩
  exact ⟨hb, v, rfl, hR⟩
end Go.Proofs.YteaegfkgnmfleaaDoor.Sc

