/- This claim's own texts, joined, with only what the claim uses: ScnA. -/
import Derived.Test.YteaegfkgnmfleaaDoorBakP29
import Derived.Test.YteaegfkgnmfleaaDoorBakP18
import Derived.Test.YteaegfkgnmfleaaDoorBakP30
import Derived.Laws.AppendOwnNone
import Derived.Laws.OwnMore
import Derived.Deep.CutRange
namespace Go.Proofs.YteaegfkgnmfleaaDoor.Sc
open Go.RowKit Tk Pr Go.Proofs.YteaegfkgnmfleaaDoorW.PrintWords

theorem lies_C {w : World} {A : Option Addr} {n : Nat} {xs : List Int} (hx : xs.length = n) (hn : n ≤ 9223372036854775807) (h : Lies w A n xs) : Kd.C (Kd.int .u8) w A n xs := by
  refine ⟨hx, hn, fun h0 => ?_⟩
  obtain ⟨a, e, _⟩ := h 0 h0
  refine ⟨a, e, fun j p hj => ?_⟩
  have hjn : j < n := by
    rw [← hx]
    exact (List.getElem?_eq_some_iff.1 hj).1
  obtain ⟨a', e', hc⟩ := h j hjn
  rw [e] at e'
  cases e'
  refine ⟨[.int .u8 p], rfl, rfl, fun i u hu => ?_⟩
  cases i with
  | zero =>
    simp at hu
    subst hu
    show w.cell? (a.add (j * 1 + 0)) = _
    rw [Nat.mul_one, Nat.add_zero, hc]
    simp [List.getD, hj]
  | succ i => simp at hu
theorem ref_R {A : Option Addr} {n cap : Nat} {xs : List Int} {W : World} (hcap : n ≤ cap) (hx : xs.length = n) (hC : Kd.C (Kd.int .u8) W A n xs) {r : List S37} {q er : Int} (hr : ans xs = (r, q, er)) :
    Calls Tryd.prog 12 #[.slice A n cap] W fun e w' => Below W.heap.size W w' ∧ ∃ B c, e = .returned (.tuple #[.slice B r.length c, .int .i64 q, .int .i64 er]) ∧ r.length ≤ c ∧ Kd.R k37 37 w' W.heap.size (fun k => W.heap.size ≤ k) (.slice B r.length c) r := by
  subst hx
  refine (ref_walk A cap xs W hcap hC).mono ?_
  rintro e w' ⟨hb, v, rfl, hR⟩
  rw [hr] at hR
  obtain ⟨B, c, rfl, hc, _⟩ := Kd.R_reads hR
  rw [hr]
  exact ⟨hb, B, c, rfl, hc, Kd.R_mono (Kd.R_bound hR) (fun _ hk => hk.2.1)⟩
theorem R_below {w w1 : World} {base : Nat} {ok : Nat → Prop} {v : Value} {r : List S37} (h : Kd.R k37 37 w base ok v r) (hb : Below w.heap.size w w1) : Kd.R k37 37 w1 base ok v r :=
  Kd.R_step h (fun k _ hk => hb.block k hk)
def u8s (xs : List Int) : List Value := xs.map (.int .u8)
end Go.Proofs.YteaegfkgnmfleaaDoor.Sc

