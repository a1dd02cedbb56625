/- This claim's own texts, joined, with only what the claim uses: ScanK. -/
import Derived.Test.YteaegfkgnmfleaaDoorScnP0
import Derived.Test.YteaegfkgnmfleaaDoorScnP2
import Derived.Laws.BytesArg
import Derived.Laws.Strings
namespace Go.Proofs.YteaegfkgnmfleaaDoor.Sc
open Go

/-- The kind of a row of bytes. -/
def KB (l : List Int) : Int := Tk.kindOf (strOfNums l)
theorem kindIn_mem (s : ByteArray) : ∀ (l : List ByteArray) (i : Int), 0 < i → Tk.kindIn l s i ≠ 0 → ∃ x ∈ l, x.toList = s.toList
  | [], i, _, h => absurd rfl h
  | x :: l, i, hi, h => by
    unfold Tk.kindIn at h
    split at h
    · rename_i hx; exact ⟨x, List.mem_cons_self .., hx⟩
    · obtain ⟨y, hy, e⟩ := kindIn_mem s l (i + 1) (by omega) h
      exact ⟨y, List.mem_cons_of_mem _ hy, e⟩
theorem kindIn_range (s : ByteArray) : ∀ (l : List ByteArray) (i : Int), 0 < i → Tk.kindIn l s i = 0 ∨ (i ≤ Tk.kindIn l s i ∧ Tk.kindIn l s i < i + l.length)
  | [], i, _ => Or.inl rfl
  | x :: l, i, hi => by
    unfold Tk.kindIn
    split
    · right; simp only [List.length_cons]; omega
    · have := kindIn_range s l (i + 1) (by omega)
      simp only [List.length_cons]; omega
theorem KB_range (l : List Int) : 0 ≤ KB l ∧ KB l < 53 := by
  have := kindIn_range (strOfNums l) Tk.Wds 3 (by omega)
  rw [Tk.Wds_len] at this
  unfold KB Tk.kindOf
  omega
end Go.Proofs.YteaegfkgnmfleaaDoor.Sc

