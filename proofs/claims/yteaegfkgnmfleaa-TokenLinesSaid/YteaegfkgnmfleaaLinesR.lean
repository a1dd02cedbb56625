/-
  gimballaw03.TokenLines returns true, whatever the bytes and the place: the row. No condition.
-/
import Derived.Test.YteaegfkgnmfleaaLinesB
import Derived.Test.YteaegfkgnmfleaaRows
import Derived.ProofKit
import Derived.Carry
namespace Go.Proofs.Yteaegfkgnmfleaa.Ln
open Go.ChangeShapes Go.WideShapes Go.ChangeAt Go.RowKit
set_option maxRecDepth 100000

theorem own : ownKnob Try.prog.godebug = none := by kernel_rfl
theorem laidOut : laidOutB Try.prog = true := by kernel_rfl
theorem read22 : Try.prog.readableRec 22 = true := by kernel_rfl
theorem size22 : 22 < Try.prog.types.size := of_decide_eq_true (by kernel_rfl)
theorem cells5 : Try.prog.cellsOf 5 = 1 := by kernel_rfl
theorem u8_of {n : Int} (wi : (Lit.int .u8 n).wf = true) : 0 ≤ n ∧ n < 256 := by
  simp only [Lit.wf, Bool.and_eq_true, decide_eq_true_eq] at wi
  have hmin : IntKind.u8.min = 0 := by decide +kernel
  have hmax : IntKind.u8.max = 255 := by decide +kernel
  omega

theorem lifted (os : Os) (started : os.Started) (H : Type) (enc : TypeId × Value → H) :
    ReturnsInHanded {} Try.checked os 3 .any (Rows.tokenLinesSpec.pre6 enc Try.prog Try.f3 Rows.tokenLinesRow.domain false) (Rows.tokenLinesSpec.post enc Try.prog Try.f3 false true false false) := by
  refine returnsInHanded_of_change (C := Try.checked) own started (by kernel_rfl) Try.func3
    (ChangeSpec.witness6 (enc := enc) (C := Try.checked) false ⟨#[], #[.slice none 0 0, .int .i64 0], []⟩ 8 (by kernel_rfl) (by kernel_rfl) (by kernel_rfl) (by kernel_rfl)) ?_
  intro W base args ds gs before hval0 hW hcnd _
  have hval : ∀ (j : Nat) t v, Try.f3.params[j]? = some t → args[j]? = some v → Value.okWide Try.prog W .any base t v := hval0
  have hW' := hW
  have hlt := hW.lt
  obtain ⟨p, q, hA0, hV, rfl, hfz, hnd⟩ := hW
  have hA : DataW.TrodAll enc Try.prog W 0 (fun _ => true) true Try.f3.params.toList args.toList ds p := hA0
  rw [Try.params3] at hA hval
  obtain ⟨v0, v1, d0, d1, p0, p1, rfl, rfl, rfl, h0, h1⟩ := trodAll_two hA
  obtain ⟨rfl, rfl⟩ := trodVars_none hV
  obtain ⟨i, rfl, rfl, rfl, wi⟩ := open_int Try.underlying3 (hval 1 3 v1 rfl rfl) h1
  clear hA0
  have walk : Calls Try.prog 3 #[v0, .int .i64 i] W fun e w' => e = .returned (.bool true) ∧ Below W.heap.size W w' := by
    obtain ⟨A, len, cap, rfl⟩ := okWide_slice Try.underlying22 (hval 0 22 v0 rfl rfl)
    obtain ⟨fuel, hf⟩ := h0
    rcases open_ints Try.underlying22 Try.underlying5 cells5 (by simpa [Value.cells] using hf) with ⟨hc, _⟩ | ⟨a, len', cap', zs, hc, _, hl, hm, hzl, _, hcell, hwf⟩
    · simp only [List.cons.injEq, Value.slice.injEq, and_true] at hc
      obtain ⟨rfl, rfl, rfl⟩ := hc
      exact law_nil i W
    · simp only [List.cons.injEq, Value.slice.injEq, and_true] at hc
      obtain ⟨rfl, rfl, rfl⟩ := hc
      have hz : zs.length = cap := by simpa using hzl
      exact law_some a len cap i zs W (by unfold maxLen at hm; omega) hl (by omega) (fun x hx => u8_of (hwf x hx)) (fun j hj => hcell j (by omega))
  refine walk.mono fun e W' ⟨he, hb⟩ => ?_
  subst he
  have h0' := hb.trod laidOut read22 size22 h0 (fun y hy => hlt y (by simp [hy]))
  exact ⟨_, rfl, _, _, _, [], _, [], hW', trodAll_mk1 (shut_bool Try.underlying4 _), trodAll_mk2 h0' (shut_int Try.underlying3 wi), rfl, hb.frame _, fun h => by cases h⟩

theorem said : Rows.TokenLinesSaid :=
  OpenClaim.holds_of_wide 3 Try.f3 rfl rfl rfl rfl rfl rfl rfl ⟨rfl, rfl, rfl, rfl, rfl⟩ rfl rfl rfl rfl rfl (by kernel_rfl) Try.func3 (by kernel_rfl)
    (of_decide_eq_true (by kernel_rfl)) (by unfold Func.isWrapper; first | (rw [if_pos (by decide +kernel)]; kernel_rfl) | (rw [if_neg (by decide +kernel)]; exact ⟨rfl, rfl⟩))
    (fun os started H enc _ => lifted os started H enc)
#print axioms said
end Go.Proofs.Yteaegfkgnmfleaa.Ln
namespace Go.Proofs.Yteaegfkgnmfleaa
theorem TokenLines_holds : Rows.TokenLinesSaid := Ln.said
end Go.Proofs.Yteaegfkgnmfleaa
