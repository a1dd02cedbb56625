/- This claim's own texts, joined, with only what the claim uses: ScanI. -/
import Derived.Test.YteaegfkgnmfleaaDoorBakP14
namespace Go.Proofs.YteaegfkgnmfleaaDoor.Sc
open Go.RowKit Tk

def fault (p e : Int) : Value := .agg #[.int .i64 p, .int .i64 e]
set_option maxRecDepth 100000 in
set_option maxHeartbeats 4000000 in
theorem scan_long (A : Option Addr) (n cap : Nat) (w : World) (hn : 65536 < n) :
    Calls Tryd.prog 11 #[.slice A n cap] w fun e w' => Below w.heap.size w w' ∧ e = .returned (.tuple #[.slice none 0 0, fault 0 30]) := by
  have hd : decide ((65536 : Int) < (n : Int)) = true := decide_eq_true (by omega)
  have hb := (Below.refl w.heap.size w).alloc (Nat.le_refl _) (.cells #[.int .i64 0, .int .i64 30] 29)
  go_enter Tryd.func11, Tryd.ntmps11
  go_wp2
  exact bodyPost_ret (v := .tuple #[.slice none 0 0, fault 0 30]) (by simp [results, Tryd.results11, go_sem, fault]) rfl ⟨hb, rfl⟩
end Go.Proofs.YteaegfkgnmfleaaDoor.Sc

