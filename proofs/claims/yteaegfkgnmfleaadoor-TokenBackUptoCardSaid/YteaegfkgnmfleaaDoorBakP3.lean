/- This claim's own texts, joined, with only what the claim uses: ScanK. -/
import Derived.Test.YteaegfkgnmfleaaDoorBakP0
import Derived.Test.YteaegfkgnmfleaaDoorBakP2
import Derived.Laws.BytesArg
import Derived.Laws.Strings
namespace Go.Proofs.YteaegfkgnmfleaaDoor.Sc
open Go

/-- The kind of a row of bytes. -/
def KB (l : List Int) : Int := Tk.kindOf (strOfNums l)
def nums (s : ByteArray) : List Int := s.data.toList.map fun b => (b.toNat : Int)
theorem kindIn_mem (s : ByteArray) : ∀ (l : List ByteArray) (i : Int), 0 < i → Tk.kindIn l s i ≠ 0 → ∃ x ∈ l, x.toList = s.toList
  | [], i, _, h => absurd rfl h
  | x :: l, i, hi, h => by
    unfold Tk.kindIn at h
    split at h
    · rename_i hx; exact ⟨x, List.mem_cons_self .., hx⟩
    · obtain ⟨y, hy, e⟩ := kindIn_mem s l (i + 1) (by omega) h
      exact ⟨y, List.mem_cons_of_mem _ hy, e⟩
theorem kindIn_range (s : ByteArray) : ∀ (l : List ByteArray) (i : Int), 0 < i → Tk.kindIn l s i = 0 ∨ (i ≤ Tk.kindIn l s i ∧ Tk.kindIn l s i < i + l.length)
  | [], i, _ => Or.inl rfl
  | x :: l, i, hi => by
    unfold Tk.kindIn
    split
    · right; simp only [List.length_cons]; omega
    · have := kindIn_range s l (i + 1) (by omega)
      simp only [List.length_cons]; omega
theorem KB_range (l : List Int) : 0 ≤ KB l ∧ KB l < 53 := by
  have := kindIn_range (strOfNums l) Tk.Wds 3 (by omega)
  rw [Tk.Wds_len] at this
  unfold KB Tk.kindOf
  omega
theorem wds_blank : ∀ x ∈ Tk.Wds, ∀ b ∈ x.data.toList, b ≠ 32 ∧ b ≠ 9 ∧ b ≠ 13 ∧ b ≠ 10 := by decide +kernel
theorem KB_blank (c d : Int) (h : isBlank d = true) : KB [c, d] = 0 := by
  rcases Classical.em (KB [c, d] = 0) with h0 | h0
  · exact h0
  · obtain ⟨x, hx, e⟩ := kindIn_mem _ _ _ (by omega) h0
    rw [ByteArray.toList_eq, ByteArray.toList_eq] at e
    have hd : UInt8.ofNat d.toNat ∈ x.data.toList := by rw [e]; simp [strOfNums]
    have := wds_blank x hx _ hd
    unfold isBlank at h
    simp only [Bool.or_eq_true, beq_iff_eq] at h
    rcases h with ((rfl | rfl) | rfl) | rfl
    · exact absurd rfl this.1
    · exact absurd rfl this.2.1
    · exact absurd rfl this.2.2.1
    · exact absurd rfl this.2.2.2
def okWord (k : Nat) : Bool :=
  match nums (Tk.Wds.getD k ⟨#[]⟩) with
  | [] => false
  | c :: t => !isBlank c && (match cmAt (c :: t) with | .no => true | _ => false) && (match one KB (c :: t) with | .ok (a, n, v) => a == 3 + (k : Int) && n == (c :: t).length && v == 0 | .error _ => false)
theorem okWord_all : ∀ k : Fin 50, okWord k.val = true := by decide +kernel
theorem word_single (k : Nat) (hk : k < 50) : Single KB (nums (Tk.Wds.getD k ⟨#[]⟩)) (3 + (k : Int)) 0 := by
  have h := okWord_all ⟨k, hk⟩
  unfold okWord at h
  simp only at h
  split at h
  · cases h
  · rename_i c t e
    rw [e]
    simp only [Bool.and_eq_true, Bool.not_eq_true'] at h
    obtain ⟨⟨h1, h2⟩, h3⟩ := h
    refine ⟨c, t, rfl, h1, ?_, ?_⟩
    · split at h2
      · assumption
      · cases h2
    · split at h3
      · rename_i a n v ho
        simp only [Bool.and_eq_true, beq_iff_eq] at h3
        obtain ⟨⟨rfl, rfl⟩, rfl⟩ := h3
        exact ho
      · cases h3
theorem gap0 : IsGap [32] := ⟨fun l => Gap.blank 32 l 0 rfl (Gap.nil _), 32, [], rfl, rfl⟩
theorem gap1 : IsGap [10] := ⟨fun l => Gap.blank 10 l 0 rfl (Gap.nil _), 10, [], rfl, rfl⟩
theorem gap2 : IsGap [32, 47, 47, 32, 97, 32, 34, 32, 49, 32, 47, 42, 10] :=
  ⟨fun l => Gap.blank 32 _ 12 rfl (Gap.comment _ 11 1 rfl (Gap.blank 10 l 0 rfl (Gap.nil _))), 32, _, rfl, rfl⟩
theorem gap3 : IsGap [32, 47, 42, 32, 47, 47, 32, 42, 42, 32, 42, 47, 32] :=
  ⟨fun l => Gap.blank 32 _ 12 rfl (Gap.comment _ 11 1 rfl (Gap.blank 32 l 0 rfl (Gap.nil _))), 32, _, rfl, rfl⟩
end Go.Proofs.YteaegfkgnmfleaaDoor.Sc

