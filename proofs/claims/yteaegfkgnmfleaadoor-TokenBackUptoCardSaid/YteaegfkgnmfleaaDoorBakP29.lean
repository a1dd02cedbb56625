/- This claim's own texts, joined, with only what the claim uses: BetA. -/
import Derived.Test.YteaegfkgnmfleaaDoorBakP28
import Derived.Lib.SlBytesConst
namespace Go.Proofs.YteaegfkgnmfleaaDoor.Sc
open Go.RowKit Tk Pr Go.Proofs.YteaegfkgnmfleaaDoorW.PrintWords

/-- The table and MaxLen stand where they stand. -/
def Env (W : World) : Prop := HasTab W ∧ ∃ m, W.cell? ⟨1, 0, none⟩ = some (.int .i64 m)
theorem Env.below {W W' : World} (h : Env W) (hb : Below W.heap.size W W') : Env W' := by
  obtain ⟨hT, m, hm⟩ := h
  exact ⟨hT.below hb hT.pos, m, (hb.cell (World.block_lt_of_cell? W _ hm)).trans hm⟩
theorem scan_env {A : Option Addr} {n cap : Nat} {xs : List Int} {W : World} (hcap : n ≤ cap) (hx : xs.length = n) (hB : ∀ c ∈ xs, Byte c) (hE : Env W) (hL : Lies W A n xs) (hA : ∀ a, A = some a → a.block < W.heap.size)
    {r : List S37} {q er : Int} (hr : ans xs = (r, q, er)) :
    Calls Tryd.prog 11 #[.slice A n cap] W fun e w' => Below W.heap.size W w' ∧ ∃ B c, e = .returned (.tuple #[.slice B r.length c, .agg #[.int .i64 q, .int .i64 er]]) ∧ r.length ≤ c ∧ Kd.C k37 w' B r.length r := by
  refine (scan_walk A n cap xs W hcap hx hB hE.1 hL hA hE.2).mono ?_
  rintro e w' ⟨hb, v, rfl, hR⟩
  rw [hr] at hR
  obtain ⟨B, c, rfl, hc, hC⟩ := Kd.R_reads hR
  rw [hr]
  exact ⟨hb, B, c, rfl, hc, hC⟩
theorem bad_err {K : List Int → Int} : ∀ (f : Nat) (l : List Int) (p : Nat) (acc : List Tok) (q er : Int), l.length ≤ f → scan K l p acc = .bad q er → er ≠ 0
  | f, [], p, acc, q, er, _, h => by rw [scan_nil] at h; cases h
  | 0, c :: t, p, acc, q, er, hf, h => by simp at hf
  | f + 1, c :: t, p, acc, q, er, hf, h => by
    simp only [List.length_cons] at hf
    rw [scan_cons] at h
    split at h
    · exact bad_err f t _ _ _ _ (by omega) h
    · split at h
      · cases h; omega
      · rename_i k hk
        have := cmAt_long hk
        exact bad_err f _ _ _ _ _ (by simp only [List.length_drop, List.length_cons]; omega) h
      · split at h
        · rename_i e ho
          have := ref_err ho
          split at h
          · cases h; omega
          · split at h <;> cases h <;> omega
        · rename_i k n v ho
          have := one_len ho
          split at h
          · cases h; omega
          · exact bad_err f _ _ _ _ _ (by simp only [List.length_drop, List.length_cons]; omega) h
/-- Taken: the tokens rise; or a fault and no token. -/
theorem ans_form (xs : List Int) : (∃ ts : List Tok, ans xs = (ts.map mkS, 0, 0) ∧ xs.length ≤ 65536 ∧ scan KB xs 0 [] = .toks ts ∧ Chain xs 0 ts) ∨ ∃ q er, er ≠ 0 ∧ ans xs = ([], q, er) := by
  unfold ans
  by_cases hn : 65536 < xs.length
  · rw [if_pos hn]; exact Or.inr ⟨0, 30, by omega, rfl⟩
  · rw [if_neg hn]
    cases h : scan KB xs 0 [] with
    | toks ts =>
      obtain ⟨new, e, hc⟩ := scanF_chain KB xs.length xs 0 [] ts (Nat.le_refl _) h
      simp only [List.nil_append] at e
      subst e
      exact Or.inl ⟨ts, rfl, by omega, rfl, hc⟩
    | bad q er => exact Or.inr ⟨q, er, bad_err xs.length xs 0 [] q er (Nat.le_refl _) h, rfl⟩
end Go.Proofs.YteaegfkgnmfleaaDoor.Sc

