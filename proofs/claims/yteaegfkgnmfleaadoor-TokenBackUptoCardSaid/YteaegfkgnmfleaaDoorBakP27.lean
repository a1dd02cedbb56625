/- This claim's own texts, joined, with only what the claim uses: RefS. -/
import Derived.Test.YteaegfkgnmfleaaDoorBakP25
import Derived.Test.YteaegfkgnmfleaaDoorBakP26
namespace Go.Proofs.YteaegfkgnmfleaaDoor.Sc
open Go Go.RowKit Go.Proofs.YteaegfkgnmfleaaDoorW.PrintWords Pr Tk

def mkS (t : Tok) : S37 := ⟨t.1, t.2.1, t.2.2.1, t.2.2.2⟩
def resOf : Res → List S37 × Int × Int
  | .toks l => (l.map mkS, 0, 0)
  | .bad p e => ([], p, e)
theorem ref_err {K : List Int → Int} {l : List Int} {e : Int} (h : one K l = .error e) : e = 31 ∨ e = 33 ∨ e = 34 := by
  unfold one at h
  split at h
  · cases h; simp
  · split at h
    · split at h
      · split at h <;> cases h; simp
      · cases h
    · split at h
      · split at h <;> cases h; simp
      · split at h
        · cases h
        · split at h <;> cases h; simp
theorem refScan_l0 (l : List Int) (hn : l.length ≤ 65536) : ∀ (k p : Nat) (acc : List Tok), p ≤ l.length → 3 * l.length + 80 - p ≤ k → acc.length ≤ 16384 →
    gimbalref03_Scan.l0 k l (acc.map mkS) (p : Int) = some (resOf (scan KB (l.drop p) p acc))
  | 0, p, acc, hp, hk, ha => by omega
  | k + 1, p, acc, hpl, hk, ha => by
    rw [gimbalref03_Scan.l0]
    by_cases hp : p < l.length
    · rw [if_pos (by omega), if_pos (by omega), rd_nat, blank_f, Option.bind_some, comment_f l hn k p hp (by omega), Option.bind_some]
      have hd := drop_at hp
      have hs := scan_cons KB (l.getD p 0) (l.drop (p + 1)) p acc
      rw [← hd] at hs
      rw [hs]
      by_cases hb : isBlank (l.getD p 0) = true
      · rw [if_pos hb, if_pos hb, wrap64_small _ (by omega), show ((p : Int) + 1) = ((p + 1 : Nat) : Int) by push_cast; rfl, refScan_l0 l hn k (p + 1) acc (by omega) (by omega) ha]
      · rw [if_neg hb, if_neg hb]
        cases hc : cmAt (l.drop p) with
        | opens => simp only; rw [if_pos (by omega)]; rfl
        | long m =>
          have hm := cmAt_long hc
          rw [List.length_drop] at hm
          simp only
          rw [if_neg (by omega), if_pos (by omega), refScan_l0 l hn k (p + m) acc (by omega) (by omega) ha, List.drop_drop]
        | no =>
          simp only
          rw [if_neg (by omega), if_neg (by omega)]
          have h1 := one_f l hn k p hp (by omega)
          cases ho : one KB (l.drop p) with
          | error er =>
            rw [ho] at h1
            obtain ⟨a, b, c, d, h1⟩ := h1
            have her := ref_err ho
            rw [h1, Option.bind_some]
            simp only [List.length_map]
            by_cases h31 : er = 31
            · rw [if_pos h31, if_pos h31]; rfl
            · rw [if_neg h31, if_neg h31]
              by_cases hm : acc.length = 16384
              · rw [if_pos (by omega), if_pos hm]; rfl
              · rw [if_neg (by omega), if_neg hm, if_neg (by omega)]; rfl
          | ok r =>
            obtain ⟨a, m, v⟩ := r
            rw [ho] at h1
            simp only at h1
            have hm1 := one_len ho
            rw [List.length_drop] at hm1
            rw [h1, Option.bind_some]
            simp only [List.length_map]
            rw [if_neg (by omega)]
            by_cases hm : acc.length = 16384
            · rw [if_pos (by omega), if_pos hm]; rfl
            · rw [if_neg (by omega), if_neg hm, if_pos trivial, if_pos (by omega)]
              have ih := refScan_l0 l hn k (p + m) (acc ++ [(a, (p : Int), ((p + m : Nat) : Int), v)]) (by omega) (by omega) (by simp; omega)
              rw [List.map_append] at ih
              rw [List.drop_drop]
              exact ih
    · rw [if_neg (by omega), List.drop_eq_nil_of_le (by omega), scan_nil]; rfl
theorem refScan_f (l : List Int) (k : Nat) (hk : 3 * l.length + 80 ≤ k) :
    gimbalref03_Scan.f k l = some (if 65536 < l.length then ([], 0, 30) else resOf (scan KB l 0 [])) := by
  unfold gimbalref03_Scan.f
  by_cases hn : 65536 < l.length
  · rw [if_pos (by omega), if_pos hn]
  · rw [if_neg (by omega), if_neg hn]
    exact refScan_l0 l (by omega) k 0 [] (by omega) (by omega) (by simp)
end Go.Proofs.YteaegfkgnmfleaaDoor.Sc

