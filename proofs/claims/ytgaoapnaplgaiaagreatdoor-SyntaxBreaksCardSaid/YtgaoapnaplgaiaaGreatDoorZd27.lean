/- This claim's own texts, joined, with only what the claim uses: ScanQ. -/
import Derived.Test.YtgaoapnaplgaiaaGreatDoorZd11
import Derived.Deep.RegionHeld3
namespace Go.Proofs.YtgaoapnaplgaiaaGreatDoor.Sc
set_option maxRecDepth 100000
open Go.RowKit

section
variable {P : Program} {o : Oper} {t : Array Value} {ds : List Deferred} {w w' : World} {K : Act → World → Prop} {Q : Exit → Act → World → Prop} {ops : Array Oper}
theorem run_call {a : Act} {f : FuncId} {vs : Array Value} {os : Array Operand} {ts : Array TypeId} (hop : o.op = .call { callee := .value (.func f), args := os, argTypes := ts })
    (hcf : ∀ args w, (callFunc f args).run P w = .ok (.enter f args) w) (hv : os.map a.eval = vs) : (execOp a.eval o).run P w = .ok (.enter f vs) w := by
  subst hv
  simp [execOp, hop, resolve, Act.eval, Deferred.ofValue, invoke, hcf]
theorem ready_call {f : FuncId} {vs : Array Value} {R : Ending → World → Prop} (k : Nat)
    (hw : Region.wanted o (yielded ops t) = true) (hr : (execOp (Act.eval ⟨t, ds⟩) o).run P w = .ok (.enter f vs) w) (h : Calls P f vs w R) (hd : o.dst = some k)
    (hk : ∀ e w', R e w' → ∃ v, e = .returned v ∧ K ⟨t.setIfInBounds k v, ds⟩ w') :
    if Region.wanted o (yielded ops (Act.tmps ⟨t, ds⟩)) = true then Oper.wp P o ⟨t, ds⟩ w K Q else K (Act.put ⟨t, ds⟩ o.dst undef) w := by
  rw [if_pos hw]
  unfold Oper.wp
  rw [hr, Oper.upon_enter]
  refine h.mono fun e w' hR => ?_
  obtain ⟨v, rfl, hK⟩ := hk e w' hR
  rw [hd]
  exact hK
theorem take1 {md : Region.Mode} {S : World → Prop} {fuel : Nat} {listed : Array Bool} (i k : Nat) (v : Value) (hi : ops[i]? = some o) (hd : o.dst = some k)
    (hs : Region.noSelect ops = true) (hf : Region.free md ops listed i = true) (hr : (Region.ready md ops listed).contains i = true)
    (hQ : ∀ c a w, Q (.panic c) (a.put o.dst v) w → Q (.panic c) a w) (hy : YieldsIf P ops S o v ⟨t, ds⟩) (hS : S w)
    (h : wpAnyH P md ops Q S fuel (listed.setIfInBounds i true) ⟨t.setIfInBounds k v, ds⟩ w) : wpAnyH P md ops Q S (fuel + 1) listed ⟨t, ds⟩ w :=
  wpAnyH_take hi hs hf hr hQ hy hS (by rw [hd]; exact h)
end
end Go.Proofs.YtgaoapnaplgaiaaGreatDoor.Sc

