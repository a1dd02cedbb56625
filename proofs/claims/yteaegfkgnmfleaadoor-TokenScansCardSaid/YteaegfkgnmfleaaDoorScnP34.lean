/- This claim's own texts, joined, with only what the claim uses: BetR. -/
import Derived.Test.YteaegfkgnmfleaaDoorScnP29
import Derived.Test.YteaegfkgnmfleaaDoorScnP33
import Derived.ProofKit
import Derived.Carry
import Derived.HandedShaped
import Derived.Lay
namespace Go.Proofs.YteaegfkgnmfleaaDoor.Sc
open Go.ChangeShapes Go.WideShapes Go.ChangeAt Go.RowKit Go.ChangeMaps Tk
set_option maxRecDepth 100000

theorem laidOut : laidOutB Tryd.prog = true := by kernel_rfl
theorem read25 : Tryd.prog.readableRec 25 = true := by kernel_rfl
theorem size25 : 25 < Tryd.prog.types.size := of_decide_eq_true (by kernel_rfl)
theorem cells5 : Tryd.prog.cellsOf 5 = 1 := by kernel_rfl
theorem u8_of {n : Int} (wi : (Lit.int .u8 n).wf = true) : Byte n := by
  simp only [Lit.wf, Bool.and_eq_true, decide_eq_true_eq] at wi
  have hmin : IntKind.u8.min = 0 := by decide +kernel
  have hmax : IntKind.u8.max = 255 := by decide +kernel
  unfold Byte
  omega
theorem has_lt {P : Program} {w : World} {r : Reach} {base : Nat} {a : Addr} {e : TypeId} {n : Nat} (h : w.has P r base a e n) : a.block < w.heap.size := by
  obtain ⟨_, _, row, cells, h, _⟩ := h
  rcases Nat.lt_or_ge a.block w.heap.size with h' | h'
  · exact h'
  · unfold World.shape? at h
    rw [Array.getElem?_eq_none h'] at h
    cases h
/-- The library's own variable holds some number. -/
theorem env_of {W : World} {rest : List (String × DataW Unit)} (hL : laidMet Tryd.prog (("gimbal/token.words", Rows.laid_gimbal_token_words) :: rest) W) (hsh : W.ShapedOpen Tryd.prog) : Env W :=
  ⟨hasTab hL, Go.Proofs.cell_of_shapedOpen_int (P := Tryd.prog) (g := 1) (zero := #[.int .i64 0]) (t := 3) hsh (of_decide_eq_true (by kernel_rfl)) (by kernel_rfl) rfl (by kernel_rfl) (by kernel_rfl) Tryd.underlying3⟩
/-- A row of bytes that is handed in. -/
theorem open_bytes {H : Type} {enc : TypeId × Value → H} {W : World} {base : Nat} {v : Value} {d : DataW H} {p : List MemPlace} {b0 : Nat} {held : Bool} (hval : Value.okWide Tryd.prog W .any base 25 v) (h : DataW.Trod enc Tryd.prog W b0 (fun _ => true) held 25 v d p) :
    ∃ A n cap xs, v = .slice A n cap ∧ n ≤ cap ∧ xs.length = n ∧ n ≤ 9223372036854775807 ∧ (∀ c ∈ xs, Byte c) ∧ Lies W A n xs ∧ ∀ a, A = some a → a.block < W.heap.size := by
  obtain ⟨A, len, cap, rfl⟩ := okWide_slice Tryd.underlying25 hval
  obtain ⟨fuel, hf⟩ := h
  rcases open_ints Tryd.underlying25 Tryd.underlying5 cells5 (by simpa [Value.cells] using hf) with ⟨hc, _⟩ | ⟨a, len', cap', zs, hc, _, hl, hm, hzl, _, hcell, hwf⟩
  · simp only [List.cons.injEq, Value.slice.injEq, and_true] at hc
    obtain ⟨rfl, rfl, rfl⟩ := hc
    exact ⟨none, 0, 0, [], rfl, by omega, rfl, by omega, by simp, fun i hi => by omega, fun a e => by cases e⟩
  · simp only [List.cons.injEq, Value.slice.injEq, and_true] at hc
    obtain ⟨rfl, rfl, rfl⟩ := hc
    have hz : zs.length = cap := by simpa using hzl
    have hb : a.block < W.heap.size := by
      have h := hval
      simp only [Value.okWide, Cell.okWide, Cell.ok, Tryd.underlying25] at h
      exact has_lt h.2.2
    refine ⟨some a, len, cap, zs.take len, rfl, hl, by rw [List.length_take]; omega, by unfold maxLen at hm; omega, fun c hc => u8_of (hwf c (List.mem_of_mem_take hc)), fun i hi => ⟨a, rfl, ?_⟩, fun a' e => by cases e; exact hb⟩
    rw [hcell i (by omega)]
    simp [List.getD, hi]

end Go.Proofs.YteaegfkgnmfleaaDoor.Sc
namespace Go.Proofs.YteaegfkgnmfleaaDoor
end Go.Proofs.YteaegfkgnmfleaaDoor

