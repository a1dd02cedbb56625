/- This claim's own texts, joined, with only what the claim uses: GivenB. -/
import Derived.Test.YtfmmjekhknaniaaDoorProg
import Derived.Below
import Derived.OwnWalk
import Derived.WalkKit
import Derived.KernelRfl
import Derived.WalkLawsBesides
namespace Go.Proofs.YtfmmjekhknaniaaDoor.Given
open Go.RowKit

/-- the sound interval of two numbers. -/
def ofI (lo hi : Int) : Int × Int :=
  if hi < lo then (1, 0)
  else (if lo ≤ -4611686018427387904 then -4611686018427387904 else if 4611686018427387904 ≤ lo then 4611686018427387903 else lo,
        if 4611686018427387904 ≤ hi then 4611686018427387904 else if hi ≤ -4611686018427387904 then -4611686018427387903 else hi)

def gimbalref02_Of.f (a0 a1 : Int) : Option (Int × Int) := some (ofI a0 a1)
def itv_Of.f (a0 a1 : Int) : Option (Int × Int) := some (ofI a0 a1)

theorem empty66 (w : World) : Calls Tryd.prog 66 #[] w fun e w' => e = .returned (.agg #[.int .i64 1, .int .i64 0]) ∧ w' = w.alloc (Obj.cells #[.int .i64 1, .int .i64 0] 38) := by
  go_enter Tryd.func66, Tryd.ntmps66
  go_wp2
  exact bodyPost_ret (v := .agg #[.int .i64 1, .int .i64 0]) (by simp [results, Tryd.results66, go_sem]) rfl ⟨rfl, rfl⟩
theorem empty73 (w : World) : Calls Tryd.prog 73 #[] w fun e w' => e = .returned (.agg #[.int .i64 1, .int .i64 0]) ∧ w' = w.alloc (Obj.cells #[.int .i64 1, .int .i64 0] 38) := by
  go_enter Tryd.func73, Tryd.ntmps73
  go_wp2
  exact bodyPost_ret (v := .agg #[.int .i64 1, .int .i64 0]) (by simp [results, Tryd.results73, go_sem]) rfl ⟨rfl, rfl⟩
set_option maxHeartbeats 400000 in
theorem of23 (a0 a1 r1 r2 : Int) (w : World) (h : ofI a0 a1 = (r1, r2)) :
    Calls Tryd.prog 23 #[.int .i64 a0, .int .i64 a1] w fun e w' => e = .returned (.agg #[.int .i64 r1, .int .i64 r2]) ∧ Below w.heap.size w w' := by
  unfold ofI at h
  by_cases c0 : a1 < a0
  · rw [if_pos c0] at h
    obtain ⟨rfl, rfl⟩ := Prod.mk.inj h
    clear h
    go_enter Tryd.func23, Tryd.ntmps23
    go_wp2_with (go_at_call 66; refine (empty66 _).mono ?_; rintro e w' ⟨rfl, rfl⟩)
    exact bodyPost_ret (v := .agg #[.int .i64 1, .int .i64 0]) (by simp [results, Tryd.results23, go_sem]) rfl ⟨rfl, ((Below.refl _ _).alloc (Nat.le_refl _) _).alloc (by simp) _⟩
  · rw [if_neg c0] at h
    obtain ⟨h1, h2⟩ := Prod.mk.inj h
    clear h
    rcases (show a0 < -4611686018427387904 ∨ a0 = -4611686018427387904 ∨ (-4611686018427387904 < a0 ∧ a0 < 4611686018427387904) ∨ 4611686018427387904 ≤ a0 by omega) with c | c | ⟨c, d⟩ | c
    all_goals rcases (show a1 ≤ -4611686018427387904 ∨ (-4611686018427387904 < a1 ∧ a1 < 4611686018427387904) ∨ a1 = 4611686018427387904 ∨ 4611686018427387904 < a1 by omega) with c' | ⟨c', d'⟩ | c' | c'
    all_goals first | (exfalso; omega) | skip
    all_goals
      first | rw [if_pos (by omega)] at h1 | (rw [if_neg (by omega), if_pos (by omega)] at h1) | (rw [if_neg (by omega), if_neg (by omega)] at h1)
      first | rw [if_pos (by omega)] at h2 | (rw [if_neg (by omega), if_pos (by omega)] at h2) | (rw [if_neg (by omega), if_neg (by omega)] at h2)
      subst h1 h2
      (try subst c); (try subst c')
      go_enter Tryd.func23, Tryd.ntmps23
      go_wp2
      exact bodyPost_ret (v := .agg #[.int .i64 _, .int .i64 _]) (by simp [results, Tryd.results23, go_sem]) rfl ⟨rfl, (Below.refl _ _).alloc (Nat.le_refl _) _⟩
set_option maxHeartbeats 400000 in
theorem of75 (a0 a1 r1 r2 : Int) (w : World) (h : ofI a0 a1 = (r1, r2)) :
    Calls Tryd.prog 75 #[.int .i64 a0, .int .i64 a1] w fun e w' => e = .returned (.agg #[.int .i64 r1, .int .i64 r2]) ∧ Below w.heap.size w w' := by
  unfold ofI at h
  by_cases c0 : a1 < a0
  · rw [if_pos c0] at h
    obtain ⟨rfl, rfl⟩ := Prod.mk.inj h
    clear h
    go_enter Tryd.func75, Tryd.ntmps75
    go_wp2_with (go_at_call 73; refine (empty73 _).mono ?_; rintro e w' ⟨rfl, rfl⟩)
    exact bodyPost_ret (v := .agg #[.int .i64 1, .int .i64 0]) (by simp [results, Tryd.results75, go_sem]) rfl ⟨rfl, ((Below.refl _ _).alloc (Nat.le_refl _) _).alloc (by simp) _⟩
  · rw [if_neg c0] at h
    obtain ⟨h1, h2⟩ := Prod.mk.inj h
    clear h
    rcases (show a0 < -4611686018427387904 ∨ a0 = -4611686018427387904 ∨ (-4611686018427387904 < a0 ∧ a0 < 4611686018427387904) ∨ 4611686018427387904 ≤ a0 by omega) with c | c | ⟨c, d⟩ | c
    all_goals rcases (show a1 ≤ -4611686018427387904 ∨ (-4611686018427387904 < a1 ∧ a1 < 4611686018427387904) ∨ a1 = 4611686018427387904 ∨ 4611686018427387904 < a1 by omega) with c' | ⟨c', d'⟩ | c' | c'
    all_goals first | (exfalso; omega) | skip
    all_goals
      first | rw [if_pos (by omega)] at h1 | (rw [if_neg (by omega), if_pos (by omega)] at h1) | (rw [if_neg (by omega), if_neg (by omega)] at h1)
      first | rw [if_pos (by omega)] at h2 | (rw [if_neg (by omega), if_pos (by omega)] at h2) | (rw [if_neg (by omega), if_neg (by omega)] at h2)
      subst h1 h2
      (try subst c); (try subst c')
      go_enter Tryd.func75, Tryd.ntmps75
      go_wp2
      exact bodyPost_ret (v := .agg #[.int .i64 _, .int .i64 _]) (by simp [results, Tryd.results75, go_sem]) rfl ⟨rfl, (Below.refl _ _).alloc (Nat.le_refl _) _⟩
theorem gimbalref02_Of.calls (a0 a1 r1 r2 : Int) (w : World) (h : gimbalref02_Of.f a0 a1 = some (r1, r2)) :
    Calls Tryd.prog 23 #[.int .i64 a0, .int .i64 a1] w fun e w' => e = .returned (.agg #[.int .i64 r1, .int .i64 r2]) ∧ Below w.heap.size w w' :=
  of23 a0 a1 r1 r2 w (Option.some.inj h)
theorem itv_Of.calls (a0 a1 r1 r2 : Int) (w : World) (h : itv_Of.f a0 a1 = some (r1, r2)) :
    Calls Tryd.prog 75 #[.int .i64 a0, .int .i64 a1] w fun e w' => e = .returned (.agg #[.int .i64 r1, .int .i64 r2]) ∧ Below w.heap.size w w' :=
  of75 a0 a1 r1 r2 w (Option.some.inj h)

end Go.Proofs.YtfmmjekhknaniaaDoor.Given

