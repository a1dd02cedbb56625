/- This claim's own texts, joined, with only what the claim uses: more of Scan, ScanK. -/
import Derived.Test.YtgaoapnaplgaiaaGreatDoorZd2
namespace Go.Proofs.YtgaoapnaplgaiaaGreatDoor.Sc
open Go
theorem runLen_take (f : Int → Bool) : ∀ (l : List Int) (j : Nat), runLen f l ≤ j → runLen f (l.take j) = runLen f l
  | [], j, _ => by simp
  | c :: l, 0, h => by
    unfold runLen at h ⊢
    split at h
    · omega
    · rename_i hc; simp [hc]
  | c :: l, j + 1, h => by
    rw [List.take_succ_cons]
    unfold runLen at h ⊢
    split at h
    · rename_i hc
      rw [if_pos hc, if_pos hc, runLen_take f l j (by omega)]
    · rename_i hc
      rw [if_neg hc, if_neg hc]
theorem closeAt_take : ∀ (l : List Int) (m j : Nat), closeAt l = some m → m + 2 ≤ j → closeAt (l.take j) = some m
  | [], m, j, h, _ => by simp [closeAt] at h
  | [_], m, j, h, _ => by simp [closeAt] at h
  | c :: d :: l, m, j, h, hj => by
    obtain ⟨i, rfl⟩ : ∃ i, j = i + 2 := ⟨j - 2, by omega⟩
    rw [List.take_succ_cons, List.take_succ_cons]
    unfold closeAt at h ⊢
    split at h
    · rename_i hc
      cases h
      rw [if_pos hc]
    · rename_i hc
      rw [if_neg hc]
      obtain ⟨k, hk, rfl⟩ := Option.map_eq_some_iff.mp h
      have := closeAt_take (d :: l) k (i + 1) hk (by omega)
      rw [List.take_succ_cons] at this
      rw [this]; rfl
theorem cmAt_take {l : List Int} {m j : Nat} (h : cmAt l = .long m) (hj : m ≤ j) : cmAt (l.take j) = .long m := by
  have h2 := cmAt_long h
  unfold cmAt at h
  split at h
  · rename_i c d l
    obtain ⟨i, rfl⟩ : ∃ i, j = i + 2 := ⟨j - 2, by omega⟩
    rw [List.take_succ_cons, List.take_succ_cons, cmAt_two]
    split at h
    · rename_i hc
      cases h
      rw [if_pos hc, runLen_take _ _ _ (by omega)]
    · rename_i hc
      rw [if_neg hc]
      split at h
      · rename_i hd
        rw [if_pos hd]
        split at h
        · rename_i k hk
          cases h
          rw [closeAt_take _ _ _ hk (by omega)]
        · cases h
      · cases h
  · cases h
theorem scan_chain {K : List Int → Int} {l : List Int} {ts : List Tok} (h : scan K l 0 [] = .toks ts) : Chain l 0 ts := by
  obtain ⟨new, e, hc⟩ := scanF_chain K l.length l 0 [] ts (Nat.le_refl _) h
  rw [List.nil_append] at e
  rw [e]; exact hc

/-- A text that is one token, and nothing else. -/
def Single (K : List Int → Int) (w : List Int) (k v : Int) : Prop := ∃ c t, w = c :: t ∧ isBlank c = false ∧ cmAt w = Cm.no ∧ one K w = .ok (k, w.length, v)
theorem runLen_append (f : Int → Bool) : ∀ (l r : List Int), runLen f l = l.length → (∀ b t, r = b :: t → f b = false) → runLen f (l ++ r) = l.length
  | [], r, _, hr => by
    cases r with
    | nil => rfl
    | cons b t => rw [List.nil_append, runLen_cons, if_neg (by rw [hr b t rfl]; simp)]; rfl
  | c :: l, r, h, hr => by
    rw [runLen_cons] at h
    split at h
    · rename_i hc
      rw [List.cons_append, runLen_cons, if_pos hc, runLen_append f l r (by simpa using h) hr, List.length_cons]
    · simp at h
theorem blank_word {b : Int} (h : isBlank b = true) : isWord b = false ∧ isDigit b = false := by
  unfold isBlank at h
  simp only [Bool.or_eq_true, beq_iff_eq] at h
  rcases h with ((rfl | rfl) | rfl) | rfl <;> decide
theorem Single.scan {K : List Int → Int} (hK : ∀ c d, isBlank d = true → K [c, d] = 0) {w : List Int} {k v : Int} (h : Single K w k v) {r : List Int} (hr : ∀ b t, r = b :: t → isBlank b = true) (p : Nat) (acc : List Tok) :
    Sc.scan K (w ++ r) p acc = if acc.length = 16384 then .bad p 35 else Sc.scan K r (p + w.length) (acc ++ [(k, (p : Int), ((p + w.length : Nat) : Int), v)]) := by
  obtain ⟨c, t, rfl, hb, hc, ho⟩ := h
  have hcm : cmAt (c :: t ++ r) = .no := by
    cases t with
    | nil =>
      cases r with
      | nil => rfl
      | cons b r =>
        have hbl := hr b r rfl
        have h1 : b ≠ 47 := by rintro rfl; cases hbl
        have h2 : b ≠ 42 := by rintro rfl; cases hbl
        show cmAt (c :: b :: r) = .no
        rw [cmAt_two, if_neg (fun h => h1 h.2), if_neg (fun h => h2 h.2)]
    | cons d t =>
      show cmAt (c :: d :: (t ++ r)) = .no
      rw [cmAt_two] at hc ⊢
      split at hc
      · cases hc
      · rename_i h1
        rw [if_neg h1]
        split at hc
        · split at hc <;> cases hc
        · rename_i h2
          rw [if_neg h2]
  have hrW : ∀ b t, r = b :: t → isWord b = false := fun b t e => (blank_word (hr b t e)).1
  have hrD : ∀ b t, r = b :: t → isDigit b = false := fun b t e => (blank_word (hr b t e)).2
  have ho' : one K (c :: t ++ r) = .ok (k, (c :: t).length, v) := by
    rw [List.cons_append]
    unfold one at ho ⊢
    simp only at ho ⊢
    split at ho
    · rename_i hl
      rw [if_pos hl]
      have hlen : runLen isWord (c :: t) = (c :: t).length := by
        split at ho
        · split at ho
          · cases ho
          · simp only [Except.ok.injEq, Prod.mk.injEq] at ho; exact ho.2.1
        · simp only [Except.ok.injEq, Prod.mk.injEq] at ho; exact ho.2.1
      have h2 := runLen_append isWord (c :: t) r hlen hrW
      rw [List.cons_append] at h2
      rw [h2, ← List.cons_append, List.take_left]
      rw [hlen, List.take_length] at ho
      exact ho
    · rename_i hl
      rw [if_neg hl]
      split at ho
      · rename_i hd
        rw [if_pos hd]
        have hlen : runLen isDigit (c :: t) = (c :: t).length := by
          split at ho
          · cases ho
          · simp only [Except.ok.injEq, Prod.mk.injEq] at ho; exact ho.2.1
        have h2 := runLen_append isDigit (c :: t) r hlen hrD
        rw [List.cons_append] at h2
        rw [h2, ← List.cons_append, List.take_left]
        rw [hlen, List.take_length] at ho
        exact ho
      · rename_i hd
        rw [if_neg hd]
        split at ho
        · rename_i h2
          simp only [Except.ok.injEq, Prod.mk.injEq] at ho
          obtain ⟨e1, e2, e3⟩ := ho
          have e4 : (c :: (t ++ r)).take 2 = (c :: t).take 2 := by
            rw [← List.cons_append, e2, List.take_left, List.take_length]
          rw [e4, if_pos ⟨by rw [← List.cons_append, List.length_append]; omega, h2.2⟩, e1, e2, e3]
        · rename_i h2
          split at ho
          · rename_i h3
            simp only [Except.ok.injEq, Prod.mk.injEq] at ho
            obtain ⟨e1, e2, e3⟩ := ho
            have ht : t = [] := by
              have : t.length = 0 := by simp only [List.length_cons] at e2; omega
              exact List.eq_nil_of_length_eq_zero this
            subst ht
            have e5 : (c :: ([] ++ r)).take 1 = [c] := rfl
            rw [if_neg, e5, if_pos (show K [c] ≠ 0 from h3), show K [c] = k from e1, ← e2, e3]
            · rintro ⟨hlen, hk⟩
              cases r with
              | nil => simp at hlen
              | cons b r => exact hk (hK c b (hr b r rfl))
          · cases ho
  rw [List.cons_append] at hcm ho' ⊢
  rw [scan_cons, if_neg (by rw [hb]; simp), hcm]
  simp only
  rw [ho']
  simp only
  rw [← List.cons_append, List.drop_left]

theorem wds_blank : ∀ x ∈ Tk.Wds, ∀ b ∈ x.data.toList, b ≠ 32 ∧ b ≠ 9 ∧ b ≠ 13 ∧ b ≠ 10 := by decide +kernel
theorem KB_blank (c d : Int) (h : isBlank d = true) : KB [c, d] = 0 := by
  rcases Classical.em (KB [c, d] = 0) with h0 | h0
  · exact h0
  · obtain ⟨x, hx, e⟩ := kindIn_mem _ _ _ (by omega) h0
    rw [ByteArray.toList_eq, ByteArray.toList_eq] at e
    have hd : UInt8.ofNat d.toNat ∈ x.data.toList := by rw [e]; simp [strOfNums]
    have := wds_blank x hx _ hd
    unfold isBlank at h
    simp only [Bool.or_eq_true, beq_iff_eq] at h
    rcases h with ((rfl | rfl) | rfl) | rfl
    · exact absurd rfl this.1
    · exact absurd rfl this.2.1
    · exact absurd rfl this.2.2.1
    · exact absurd rfl this.2.2.2
end Go.Proofs.YtgaoapnaplgaiaaGreatDoor.Sc
