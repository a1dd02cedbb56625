/- This claim's own texts, joined, with only what the claim uses: KindsB. -/
import Derived.Test.YteaegfkgnmfleaaDoorBakP1
namespace Go.Proofs.YteaegfkgnmfleaaDoor.Tk
open Go.ChangeShapes Go.WideShapes Go.ChangeAt Go.RowKit

/-- The place of a text in a list, from a number on; 0: it stands nowhere. -/
def kindIn : List ByteArray → ByteArray → Int → Int
  | [], _, _ => 0
  | x :: l, s, i => if x.toList = s.toList then i else kindIn l s (i + 1)
def kindOf (s : ByteArray) : Int := kindIn Wds s 3

theorem Wds_len : Wds.length = 50 := rfl
theorem kindIn_drop (s : ByteArray) (k : Nat) (i : Int) : kindIn (Wds.drop k) s i = if h : k < 50 then (if (Wds[k]'(by simpa [Wds_len] using h)).toList = s.toList then i else kindIn (Wds.drop (k + 1)) s (i + 1)) else 0 := by
  by_cases h : k < 50
  · rw [dif_pos h, List.drop_eq_getElem_cons (by simpa [Wds_len] using h)]
    rfl
  · rw [dif_neg h, List.drop_eq_nil_of_le (by rw [Wds_len]; omega)]
    rfl

theorem index43 (w : World) (k : Nat) (h : k < 50) : (Instr.index 43 (.agg WA) (.int .i64 (k : Int))).run Tryd.prog w = .ok (.string (Wds[k]'(by simpa [Wds_len] using h))) w := by
  have h' : k < Wds.length := by rw [Wds_len]; exact h
  simp [Instr.index, run_underlying Tryd.underlying43, asIntOf, go_sem, WA, h, List.getElem?_eq_getElem h']

set_option maxRecDepth 100000 in
theorem kind_walk (s : ByteArray) (w : World) (h : HasTab w) : Calls Tryd.prog 8 #[.string s] w fun e w' => e = .returned (.int .i64 (kindOf s)) ∧ w' = w := by
  obtain ⟨ht, hfr, hh⟩ := h
  have hsz : (Tryd.prog.info? 43).map (·.size) = some WA.size := by rw [WA_size]; exact info43
  go_enter Tryd.func8, Tryd.ntmps8
  go_wp2_with (refine wpList_load_row rfl 43 _ rfl 0 rfl ht WA hfr _ hh Tryd.underlying43 rfl hsz ?_)
  go_loop [6] (fun i => ∃ k : Nat, k ≤ 50 ∧ i = .int .i64 k ∧ kindOf s = kindIn (Wds.drop k) s (3 + k)) (fun i => match i with | .int _ n => 50 - n.toNat | _ => 0)
  case atStart => exact ⟨0, by omega, rfl, rfl⟩
  case round =>
    obtain ⟨k, hk, rfl, hs⟩ := hrel
    by_cases h50 : k < 50
    · have hix := index43 w k h50
      rw [kindIn_drop, dif_pos h50] at hs
      have hlt : (k : Int) < 50 := by omega
      by_cases he : (Wds[k]'(by simpa [Wds_len] using h50)).toList = s.toList
      · rw [if_pos he] at hs
        have heb : ((Wds[k]'(by simpa [Wds_len] using h50)).toList == s.toList) = true := beq_iff_eq.mpr he
        go_wp2
        go_ret
        exact ⟨rfl, rfl⟩
      · rw [if_neg he] at hs
        have heb : ((Wds[k]'(by simpa [Wds_len] using h50)).toList == s.toList) = false := beq_eq_false_iff_ne.mpr he
        go_wp2
        refine ⟨⟨k + 1, by omega, by push_cast; rfl, ?_⟩, ?_⟩
        · rw [hs, show (3 : Int) + (k : Int) + 1 = 3 + ((k + 1 : Nat) : Int) by push_cast; omega]
        · show 50 - ((k : Int) + 1).toNat < 50 - (k : Int).toNat
          omega
    · have hge : ¬ (k : Int) < 50 := by omega
      rw [kindIn_drop, dif_neg h50] at hs
      go_wp2
      go_ret
      exact ⟨rfl, rfl⟩

end Go.Proofs.YteaegfkgnmfleaaDoor.Tk

