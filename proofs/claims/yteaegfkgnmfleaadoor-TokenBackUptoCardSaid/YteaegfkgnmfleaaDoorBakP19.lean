/- This claim's own texts, joined, with only what the claim uses: KindsC. -/
import Derived.Test.YteaegfkgnmfleaaDoorBakP2
import Derived.Test.YteaegfkgnmfleaaDoorBakP18
namespace Go.Proofs.YteaegfkgnmfleaaDoor.Tk
open Go.ChangeShapes Go.WideShapes Go.ChangeAt Go.RowKit Go.Proofs.YteaegfkgnmfleaaDoorW.PrintWords Pr

def textOf (i : Int) : ByteArray := if i < 3 then ⟨#[]⟩ else if 53 ≤ i then ⟨#[]⟩ else Wds.getD (i - 3).toNat ⟨#[]⟩

theorem words_marks : ∃ a b, gimbalref03_words.f = some a ∧ gimbalref03_marks.f = some b ∧ a ++ b = Wds := ⟨_, _, rfl, rfl, rfl⟩

theorem wrap64_small (n : Int) (h : -9223372036854775808 ≤ n ∧ n ≤ 9223372036854775807) : wrap64 n = n := by
  rw [← IntWalk.i64_left]; exact IntWalk.i64_in n h

theorem refKind_l0 (s : ByteArray) : ∀ (n j : Nat), 50 < n + j → j ≤ 50 → gimbalref03_Kind.l0 n s Wds (j : Int) = some (kindIn (Wds.drop j) s (3 + j))
  | 0, j, h, h2 => by omega
  | n + 1, j, h, h2 => by
    rw [gimbalref03_Kind.l0, kindIn_drop]
    by_cases hj : j < 50
    · have hjl : j < Wds.length := by rw [Wds_len]; exact hj
      rw [dif_pos hj, if_pos (by rw [Wds_len]; omega), if_pos (by omega)]
      have hr : rdOf ByteArray.empty Wds (j : Int) = Wds[j]'hjl := by simp [rdOf, List.getD, hjl]
      rw [hr]
      by_cases he : (Wds[j]'hjl).toList = s.toList
      · rw [if_pos he, if_pos he, wrap64_small _ (by omega)]
      · rw [if_neg he, if_neg he, wrap64_small _ (by omega)]
        have := refKind_l0 s n (j + 1) (by omega) (by omega)
        rw [show ((j : Int) + 1) = ((j + 1 : Nat) : Int) by push_cast; rfl, this]
        congr 2
    · rw [dif_neg hj, if_neg (by rw [Wds_len]; omega)]
theorem refText_f (i : Int) (h : -9223372036854775808 ≤ i ∧ i ≤ 9223372036854775807) : gimbalref03_Text.f i = some (textOf i) := by
  obtain ⟨a, b, ha, hb, hab⟩ := words_marks
  have hl : a.length + b.length = 50 := by rw [← List.length_append, hab]; rfl
  unfold gimbalref03_Text.f
  rw [ha, hb, Option.bind_some, Option.bind_some, if_pos (by omega), hab, Option.bind_some, Wds_len]
  unfold textOf
  by_cases h1 : i < 3
  · rw [if_pos h1, if_pos h1]
  rw [if_neg h1, if_neg h1]
  rw [wrap64_small (3 + ((50 : Nat) : Int)) (by omega)]
  by_cases h2 : 53 ≤ i
  · rw [if_pos (by omega), if_pos h2]
  rw [if_neg (by omega), if_neg h2, wrap64_small _ (by omega), if_pos (by omega), if_pos (by omega)]
  rfl

end Go.Proofs.YteaegfkgnmfleaaDoor.Tk

