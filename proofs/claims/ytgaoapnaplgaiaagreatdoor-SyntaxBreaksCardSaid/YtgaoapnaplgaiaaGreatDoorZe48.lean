/- This claim's own texts, joined, with only what the claim uses: BrkA. -/
import Derived.Test.YtgaoapnaplgaiaaGreatDoorZe47
import Derived.Test.YtgaoapnaplgaiaaGreatDoorZd39
namespace Go.Proofs.YtgaoapnaplgaiaaGreatDoor.Sc
theorem chain_rise {l : List Int} {p : Nat} {ts : List Tok} (h : Chain l p ts) : ∀ i j, i < j → j < ts.length → (ts.getD i zTok).2.2.1 ≤ (ts.getD j zTok).2.1 := by
  induction h with
  | done l p g => intro i j _ h; simp at h
  | tok l p k n a v ts g h1 h2 hc ih =>
    intro i j hij hj
    obtain ⟨j, rfl⟩ : ∃ q, j = q + 1 := ⟨j - 1, by omega⟩
    rw [List.getD_cons_succ]
    rw [List.length_cons] at hj
    cases i with
    | zero =>
      have hm : ts.getD j zTok ∈ ts := by
        rw [List.getD_eq_getElem?_getD, List.getElem?_eq_getElem (by omega)]
        exact List.getElem_mem _
      have := chain_pos hc _ hm
      rw [List.getD_cons_zero]
      dsimp only
      omega
    | succ i =>
      rw [List.getD_cons_succ]
      exact ih i j (by omega) (by omega)
/-- A token of the text lies within it. -/
theorem tok_in {xs : List Int} {L : List Tok} (h : scan KB xs 0 [] = .toks L) {i : Nat} (hi : i < L.length) : 0 ≤ (L.getD i zTok).2.1 ∧ (L.getD i zTok).2.1 < (L.getD i zTok).2.2.1 ∧ (L.getD i zTok).2.2.1 ≤ (xs.length : Int) := by
  have := scan_later h (Nat.zero_le i) hi
  rw [Nat.zero_add] at this
  exact this
theorem getD_take {L new : List Tok} {i j : Nat} (hj : j ≤ i) (hi : i < L.length) : (L.take (i + 1) ++ new).getD j zTok = L.getD j zTok := by
  rw [List.getD_eq_getElem?_getD, List.getD_eq_getElem?_getD, List.getElem?_append_left (by rw [List.length_take]; omega), List.getElem?_take_of_lt (by omega)]
theorem brk_at {n : Nat} {xs : List Int} {p er : Int} {o : Option Tre} (hlen : xs.length = n) (hP : Parsed n xs o p er) (her : er = 40 ∨ er = 41) :
    n ≤ 65536 ∧ ∃ L, scan KB xs 0 [] = .toks L ∧ ((∀ i, i < L.length → (L.getD i zTok).2.1 ≠ p) → p = (n : Int)) ∧
      ∀ i, i < L.length → (L.getD i zTok).2.1 = p → ∀ m : Nat, (L.getD i zTok).2.2.1 = (m : Int) → ∀ (more : List Int) (n2 : Nat) (L2 : List Tok), n2 ≤ 65536 → scan KB (xs.take m ++ 32 :: more) 0 [] = .toks L2 →
        ∀ o2 p2 e2, Parsed n2 (xs.take m ++ 32 :: more) o2 p2 e2 → p2 = p ∧ e2 = er := by
  cases hP with
  | long h => omega
  | scan h h2 => have := scan_err h2; omega
  | ok => omega
  | @bad c _ _ hn hcn hcx hs hp =>
    refine ⟨hn, c.L, hs, ?_, ?_⟩
    · intro hno
      obtain ⟨i0, hi0, rfl, hc0⟩ := program_bad hp
      unfold ps at hno ⊢
      split
      · rename_i hlt
        exact absurd (by rw [if_pos hlt]) (hno i0 hlt)
      · rw [hcn]
    · intro i hi hpi m hm more n2 L2 hn2 hs2 o2 p2 e2 hP2
      have hin := tok_in hs hi
      have hcut := scan_cut KB_blank c.L i hi more xs.length xs 0 [] m (Nat.le_refl _) hs (Nat.zero_le _) (by rw [Nat.zero_add]; exact hm)
      rw [hcut] at hs2
      obtain ⟨new, hL2, hch⟩ := scan_new hs2
      have hs3 := hcut.trans hs2
      have key : ∀ c2 : Ctx, c2.xs = xs.take m ++ 32 :: more → c2.L = L2 → programS c2 0 0 = .bad p er := by
        intro c2 hx2 hl2
        have hg : ∀ j, j ≤ i → c2.L.getD j zTok = c.L.getD j zTok := fun j hj => by rw [hl2, hL2]; exact getD_take hj hi
        have hl : i < c2.L.length := by rw [hl2, hL2, List.length_append, List.length_take]; omega
        have hPr : Pair (fun t => if t then c2 else c) i := by
          refine ⟨fun j hj => ?_, fun j hj => ?_, fun j hj => ?_, ?_⟩
          · simp only [↓reduceIte, Bool.false_eq_true]
            unfold kd
            rw [hg j hj]
          · simp only [↓reduceIte, Bool.false_eq_true]
            rw [hg j hj]
          · simp only [↓reduceIte, Bool.false_eq_true]
            rw [hg j hj]
            unfold textS
            have hj2 := tok_in hs (i := j) (by omega)
            have hje : (c.L.getD j zTok).2.2.1 ≤ (m : Int) := by
              rcases Nat.eq_or_lt_of_le hj with rfl | hlt
              · omega
              · have := chain_rise (scan_chain hs) j i hlt hi
                omega
            have hml : m ≤ xs.length := by omega
            generalize c.L.getD j zTok = t at hj2 hje
            rw [hx2, hcx]
            congr 1
            rw [List.drop_append_of_le_length (by rw [List.length_take]; omega), List.take_append_of_le_length (by rw [List.length_drop, List.length_take]; omega), List.drop_take, List.take_take]
            congr 1
            omega
          · simp only [↓reduceIte]
            omega
        obtain ⟨i0, hi0, rfl, hc0, hgo⟩ := alike_bad hPr hp
        have hi1 : i0 ≤ i := by
          rcases Nat.lt_or_ge i i0 with hlt | hge
          · exfalso
            unfold ps at hpi
            split at hpi
            · rename_i h0
              have := chain_rise (scan_chain hs) i i0 hlt h0
              omega
            · rw [hcn] at hpi
              omega
          · exact hge
        rw [hgo hi1]
        unfold ps
        rw [if_pos (by omega), if_pos (by omega), hg i0 hi1]
      cases hP2 with
      | long h => omega
      | scan h h2 => rw [hs3] at h2; cases h2
      | @ok c2 _ _ _ _ _ hx2 hs4 hp2 =>
        rw [hs3] at hs4
        rw [key c2 hx2 (by injection hs4 with h; exact h.symm)] at hp2
        cases hp2
      | @bad c2 _ _ _ _ hx2 hs4 hp2 =>
        rw [hs3] at hs4
        rw [key c2 hx2 (by injection hs4 with h; exact h.symm)] at hp2
        cases hp2
        exact ⟨rfl, rfl⟩
end Go.Proofs.YtgaoapnaplgaiaaGreatDoor.Sc

