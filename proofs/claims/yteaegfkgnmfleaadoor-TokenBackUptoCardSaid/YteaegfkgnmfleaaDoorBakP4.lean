/- This claim's own texts, joined, with only what the claim uses: ScanL. -/
import Derived.Test.YteaegfkgnmfleaaDoorBakP0
import Derived.Lib.Index
import Derived.Lib.Bytes
import Derived.Lib.Strings
namespace Go.Proofs.YteaegfkgnmfleaaDoor.Sc
open Go
def Byte (c : Int) : Prop := 0 ≤ c ∧ c < 256
theorem byte_eq {c : Int} (h : Byte c) (d : Nat) (hd : d < 256) : (UInt8.ofNat c.toNat == UInt8.ofNat d) = decide (c = (d : Int)) := by
  unfold Byte at h
  rw [Bool.eq_iff_iff, beq_iff_eq, decide_eq_true_iff]
  constructor
  · intro e
    have := congrArg UInt8.toNat e
    rw [UInt8.toNat_ofNat_of_lt' (by simp [UInt8.size]; omega), UInt8.toNat_ofNat_of_lt' (by simp [UInt8.size]; omega)] at this
    omega
  · rintro rfl
    rw [Int.toNat_natCast]
theorem index_close : ∀ (l : List Int), (∀ c ∈ l, Byte c) → (closeAt l = none ∧ Lib.index (Lib.bytesOf l) (Lib.bytesOf [42, 47]) = -1) ∨ ∃ m, closeAt l = some m ∧ Lib.index (Lib.bytesOf l) (Lib.bytesOf [42, 47]) = (m : Int)
  | [], _ => Or.inl ⟨rfl, rfl⟩
  | [c], h => by
    left
    refine ⟨rfl, ?_⟩
    have hc := byte_eq (h c (by simp)) 42 (by omega)
    simp only [Lib.bytesOf, List.map_cons, List.map_nil, Lib.index]
    have : (List.isPrefixOf [UInt8.ofNat (42 : Int).toNat, UInt8.ofNat (47 : Int).toNat] [UInt8.ofNat c.toNat]) = false := by simp [List.isPrefixOf]
    rw [this]
    rfl
  | c :: d :: l, h => by
    have hc := byte_eq (h c (by simp)) 42 (by omega)
    have hd := byte_eq (h d (by simp)) 47 (by omega)
    have hp : List.isPrefixOf (Lib.bytesOf [42, 47]) (Lib.bytesOf (c :: d :: l)) = decide (c = 42 ∧ d = 47) := by
      show ((UInt8.ofNat 42 == UInt8.ofNat c.toNat) && ((UInt8.ofNat 47 == UInt8.ofNat d.toNat) && true)) = _
      rw [show (UInt8.ofNat 42 == UInt8.ofNat c.toNat) = (UInt8.ofNat c.toNat == UInt8.ofNat 42) from Bool.beq_comm .., show (UInt8.ofNat 47 == UInt8.ofNat d.toNat) = (UInt8.ofNat d.toNat == UInt8.ofNat 47) from Bool.beq_comm .., hc, hd, Bool.and_true]
      simp
    have ih := index_close (d :: l) (fun x hx => h x (List.mem_cons_of_mem _ hx))
    have hi : Lib.index (Lib.bytesOf (c :: d :: l)) (Lib.bytesOf [42, 47]) = if c = 42 ∧ d = 47 then 0 else if Lib.index (Lib.bytesOf (d :: l)) (Lib.bytesOf [42, 47]) == -1 then -1 else Lib.index (Lib.bytesOf (d :: l)) (Lib.bytesOf [42, 47]) + 1 := by
      show (if List.isPrefixOf (Lib.bytesOf [42, 47]) (Lib.bytesOf (c :: d :: l)) = true then (0 : Int) else _) = _
      rw [hp]
      simp only [decide_eq_true_iff]
      rfl
    rw [hi]
    unfold closeAt
    by_cases hcd : c = 42 ∧ d = 47
    · rw [if_pos hcd, if_pos hcd]; exact Or.inr ⟨0, rfl, rfl⟩
    · rw [if_neg hcd, if_neg hcd]
      rcases ih with ⟨e1, e2⟩ | ⟨m, e1, e2⟩
      · left; rw [e1, e2]; exact ⟨rfl, rfl⟩
      · right; rw [e1, e2]
        refine ⟨m + 1, rfl, ?_⟩
        have : ((m : Int) == -1) = false := beq_eq_false_iff_ne.mpr (by omega)
        rw [this]; simp
theorem index_line : ∀ (l : List Int), (∀ c ∈ l, Byte c) → Lib.indexByte (Lib.bytesOf l) 10 = if runLen (fun c => c != 10) l = l.length then -1 else (runLen (fun c => c != 10) l : Int)
  | [], _ => rfl
  | c :: l, h => by
    have hc := byte_eq (h c (by simp)) 10 (by omega)
    have ih := index_line l (fun x hx => h x (List.mem_cons_of_mem _ hx))
    have hle := runLen_le (fun c => c != 10) l
    have hi : Lib.indexByte (Lib.bytesOf (c :: l)) 10 = if c = 10 then 0 else if Lib.indexByte (Lib.bytesOf l) 10 == -1 then -1 else Lib.indexByte (Lib.bytesOf l) 10 + 1 := by
      show (if (UInt8.ofNat c.toNat == 10) = true then (0 : Int) else _) = _
      rw [show (UInt8.ofNat c.toNat == 10) = decide (c = 10) from hc]
      simp only [decide_eq_true_iff]
      rfl
    by_cases h10 : c = 10
    · have e : runLen (fun c => c != 10) (c :: l) = 0 := by rw [runLen_cons, h10]; rfl
      rw [hi, if_pos h10, e, if_neg (by simp)]; rfl
    · have hb : (c != 10) = true := by rw [bne_iff_ne]; exact h10
      have e : runLen (fun c => c != 10) (c :: l) = runLen (fun c => c != 10) l + 1 := by rw [runLen_cons, if_pos hb]
      rw [hi, if_neg h10, e, ih, List.length_cons]
      generalize runLen (fun c => c != 10) l = m at hle
      by_cases hl : m = l.length
      · rw [if_pos hl, if_pos (show m + 1 = l.length + 1 by omega)]; rfl
      · rw [if_neg hl, if_neg (show ¬ m + 1 = l.length + 1 by omega)]
        have : (((m : Nat) : Int) == -1) = false := beq_eq_false_iff_ne.mpr (by omega)
        rw [this]; simp
theorem two_prefix (a b : Nat) (ha : a < 256) (hb : b < 256) : ∀ (l : List Int), (∀ c ∈ l, Byte c) → Lib.hasPrefix (Lib.bytesOf l) (Lib.bytesOf [(a : Int), (b : Int)]) = (match l with | c :: d :: _ => decide (c = (a : Int) ∧ d = (b : Int)) | _ => false)
  | [], _ => rfl
  | [c], h => by simp [Lib.hasPrefix, Lib.bytesOf, List.isPrefixOf]
  | c :: d :: l, h => by
    have hc := byte_eq (h c (by simp)) a ha
    have hd := byte_eq (h d (by simp)) b hb
    show ((UInt8.ofNat a == UInt8.ofNat c.toNat) && ((UInt8.ofNat b == UInt8.ofNat d.toNat) && true)) = _
    rw [show (UInt8.ofNat a == UInt8.ofNat c.toNat) = (UInt8.ofNat c.toNat == UInt8.ofNat a) from Bool.beq_comm .., show (UInt8.ofNat b == UInt8.ofNat d.toNat) = (UInt8.ofNat d.toNat == UInt8.ofNat b) from Bool.beq_comm .., hc, hd, Bool.and_true]
    simp
def numR (l : List Int) : Int := l.foldl (fun v c => if v ≤ 2147483648 then 10 * v + (c - 48) else v) 0
theorem num_step : ∀ (l : List Int) (v r : Int), (∀ c ∈ l, isDigit c = true) → ((v = r ∧ v ≤ 2147483648 ∧ 0 ≤ v) ∨ (v = 2147483649 ∧ 2147483648 < r)) →
    let V := l.foldl (fun v c => min (10 * v + (c - 48)) 2147483649) v
    let R := l.foldl (fun v c => if v ≤ 2147483648 then 10 * v + (c - 48) else v) r
    (V = R ∧ V ≤ 2147483648 ∧ 0 ≤ V) ∨ (V = 2147483649 ∧ 2147483648 < R)
  | [], v, r, _, h => h
  | c :: l, v, r, hl, h => by
    have hc := hl c (List.mem_cons_self ..)
    simp only [isDigit, Bool.and_eq_true, decide_eq_true_iff] at hc
    simp only [List.foldl_cons]
    refine num_step l _ _ (fun x hx => hl x (List.mem_cons_of_mem _ hx)) ?_
    split <;> omega
theorem num_eq {l : List Int} (hl : ∀ c ∈ l, isDigit c = true) : (numOf l = numR l ∧ numOf l ≤ 2147483648 ∧ 0 ≤ numOf l) ∨ (numOf l = 2147483649 ∧ 2147483648 < numR l) :=
  num_step l 0 0 hl (Or.inl ⟨rfl, by omega, by omega⟩)
theorem runLen_all (f : Int → Bool) : ∀ (l : List Int), ∀ c ∈ l.take (runLen f l), f c = true
  | [], c, h => by simp at h
  | d :: l, c, h => by
    rw [runLen_cons] at h
    split at h
    · rename_i hd
      rw [List.take_succ_cons] at h
      rcases List.mem_cons.mp h with rfl | h
      · exact hd
      · exact runLen_all f l c h
    · simp at h
theorem drop_at {xs : List Int} {i : Nat} (h : i < xs.length) : xs.drop i = xs.getD i 0 :: xs.drop (i + 1) := by
  rw [List.drop_eq_getElem_cons h]; simp [List.getD, h]
end Go.Proofs.YteaegfkgnmfleaaDoor.Sc

