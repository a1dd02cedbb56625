/- This claim's own texts, joined, with only what the claim uses: RefP. -/
import Derived.Test.YteaegfkgnmfleaaDoorBakP3
import Derived.Test.YteaegfkgnmfleaaDoorBakP4
import Derived.Test.YteaegfkgnmfleaaDoorBakP19
import Derived.Test.YteaegfkgnmfleaaDoorBakP20
import Derived.Test.YteaegfkgnmfleaaDoorBakP21
import Derived.Test.YteaegfkgnmfleaaDoorBakP24
namespace Go.Proofs.YteaegfkgnmfleaaDoor.Sc
open Go Go.RowKit Go.Proofs.YteaegfkgnmfleaaDoorW.PrintWords Pr Tk

theorem blank_f (c : Int) : gimbalref03_blank.f c = some (isBlank c) := by
  unfold gimbalref03_blank.f isBlank
  split
  · simp_all
  · split
    · simp_all
    · split <;> simp_all
theorem digit_f (c : Int) : gimbalref03_digit.f c = some (isDigit c) := by
  unfold gimbalref03_digit.f isDigit
  split
  · simp_all
  · congr 1; rw [Bool.eq_iff_iff]; simp only [Bool.and_eq_true, decide_eq_true_iff]; simp; omega
theorem letter_f (c : Int) : gimbalref03_letter.f c = some (isLetter c) := by
  unfold gimbalref03_letter.f isLetter
  have h95 : (c == 95) = decide (c = 95) := rfl
  repeat' split
  all_goals (congr 1; rw [Bool.eq_iff_iff]; simp only [h95, Bool.or_eq_true, Bool.and_eq_true, decide_eq_true_iff, true_iff]; omega)
theorem Kind_f (s : ByteArray) (k : Nat) (hk : 51 ≤ k) : gimbalref03_Kind.f k s = some (kindOf s) := by
  obtain ⟨a, b, ha, hb, hab⟩ := words_marks
  have hl : a.length + b.length = 50 := by rw [← List.length_append, hab]; rfl
  unfold gimbalref03_Kind.f
  rw [ha, hb, Option.bind_some, Option.bind_some, if_pos (by omega), hab]
  exact refKind_l0 s k 0 (by omega) (by omega)
theorem rd_nat (l : List Int) (p : Nat) : rd l (p : Int) = l.getD p 0 := rfl
theorem cm_l0 (l : List Int) (hn : l.length ≤ 65536) : ∀ (k p : Nat), p ≤ l.length → l.length - p < k → gimbalref03_comment.l0 k l (p : Int) = some ((p + runLen (fun c => c != 10) (l.drop p) : Nat) : Int)
  | 0, p, h, hk => by omega
  | k + 1, p, h, hk => by
    rw [gimbalref03_comment.l0, rd_nat]
    by_cases hp : p < l.length
    · rw [if_pos (by omega), if_pos (by omega), drop_at hp, runLen_cons]
      by_cases h10 : l.getD p 0 = 10
      · rw [if_pos h10, if_neg (by rw [h10]; decide)]; simp
      · rw [if_neg h10, if_pos (by simpa using h10), wrap64_small _ (by omega)]
        have := cm_l0 l hn k (p + 1) (by omega) (by omega)
        rw [show ((p : Int) + 1) = ((p + 1 : Nat) : Int) by push_cast; rfl, this]
        congr 2; omega
    · rw [if_neg (by omega), List.drop_eq_nil_of_le (by omega)]; simp [runLen]
theorem cm_l1 (l : List Int) (hn : l.length ≤ 65536) : ∀ (k p : Nat), p ≤ l.length → l.length - p < k → gimbalref03_comment.l1 k l (p : Int) = some (match closeAt (l.drop p) with | some m => ((p + m + 2 : Nat) : Int) | none => -1)
  | 0, p, h, hk => by omega
  | k + 1, p, h, hk => by
    rw [gimbalref03_comment.l1, wrap64_small ((p : Int) + 1) (by omega), wrap64_small ((p : Int) + 2) (by omega)]
    by_cases hp : p + 1 < l.length
    · rw [if_pos (by omega), if_pos (by omega), if_pos (by omega), rd_nat, show ((p : Int) + 1) = ((p + 1 : Nat) : Int) by push_cast; rfl, rd_nat]
      have ih := cm_l1 l hn k (p + 1) (by omega) (by omega)
      rw [ih]
      have e : closeAt (l.drop p) = if l.getD p 0 = 42 ∧ l.getD (p + 1) 0 = 47 then some 0 else (closeAt (l.drop (p + 1))).map (· + 1) := by
        rw [drop_at (show p < l.length by omega), drop_at hp]
        conv => lhs; unfold closeAt
      rw [e]
      by_cases h42 : l.getD p 0 = 42
      · rw [if_pos h42]
        rw [if_pos (by omega)]
        by_cases h47 : l.getD (p + 1) 0 = 47
        · rw [if_pos h47, if_pos ⟨h42, h47⟩]; simp
        · rw [if_neg h47, if_neg (by omega)]
          cases closeAt (l.drop (p + 1)) with
          | none => rfl
          | some m => simp; omega
      · rw [if_neg h42, if_neg (by omega)]
        cases closeAt (l.drop (p + 1)) with
        | none => rfl
        | some m => simp; omega
    · rw [if_neg (by omega)]
      have : closeAt (l.drop p) = none := by
        have hl : (l.drop p).length ≤ 1 := by simp; omega
        match h : l.drop p with
        | [] => rfl
        | [_] => rfl
        | _ :: _ :: _ => rw [h] at hl; simp at hl
      rw [this]
theorem comment_f (l : List Int) (hn : l.length ≤ 65536) (k p : Nat) (hp : p < l.length) (hk : l.length + 5 ≤ k) :
    gimbalref03_comment.f k l (p : Int) = some (match cmAt (l.drop p) with | .no => (p : Int) | .long m => ((p + m : Nat) : Int) | .opens => -1) := by
  unfold gimbalref03_comment.f
  obtain ⟨k, rfl⟩ : ∃ j, k = j + 1 := ⟨k - 1, by omega⟩
  have J1 : gimbalref03_comment.j0 (k + 1) l (p : Int) true = some (p : Int) := by rw [gimbalref03_comment.j0, if_pos rfl]
  rw [J1]
  by_cases h1 : p + 1 < l.length
  · have e1 : ((p : Int) + 1) = ((p + 1 : Nat) : Int) := by push_cast; rfl
    have e2 : ((p : Int) + 2) = ((p + 2 : Nat) : Int) := by push_cast; rfl
    have J0 : gimbalref03_comment.j0 (k + 1) l (p : Int) false = if l.getD (p + 1) 0 = 47 then gimbalref03_comment.l0 k l (p : Int) else gimbalref03_comment.l1 k l ((p + 2 : Nat) : Int) := by
      rw [gimbalref03_comment.j0, if_neg (by simp), wrap64_small ((p : Int) + 1) (by omega), wrap64_small ((p : Int) + 2) (by omega), if_pos (by omega), if_pos (by omega), e1, e2, rd_nat]
    rw [wrap64_small ((p : Int) + 1) (by omega), if_neg (by omega), if_pos (by omega), if_pos (by omega), e1, rd_nat, rd_nat, if_pos (show (0 : Int) ≤ ((p + 1 : Nat) : Int) by omega), if_pos (show ((p + 1 : Nat) : Int) < (l.length : Int) by omega)]
    rw [drop_at (show p < l.length by omega), drop_at h1, cmAt_two]
    by_cases h47 : l.getD p 0 = 47
    · rw [if_pos h47, h47]
      by_cases h47' : l.getD (p + 1) 0 = 47
      · rw [if_pos h47', J0, if_pos h47', h47', if_pos ⟨rfl, rfl⟩, cm_l0 l hn k p (by omega) (by omega), drop_at (show p < l.length by omega), drop_at h1, h47, h47', runLen_cons, runLen_cons, if_pos (by decide), if_pos (by decide)]
      · rw [if_neg h47', if_neg (fun h => h47' h.2)]
        by_cases h42 : l.getD (p + 1) 0 = 42
        · have hne : (l.getD (p + 1) 0 != 42) = false := by rw [h42]; rfl
          rw [hne, J0, if_neg h47', if_pos ⟨rfl, h42⟩, cm_l1 l hn k (p + 2) (by omega) (by omega)]
          cases closeAt (l.drop (p + 2)) with
          | none => rfl
          | some m => simp; omega
        · have hne : (l.getD (p + 1) 0 != 42) = true := by simpa using h42
          rw [hne, J1, if_neg (fun h => h42 h.2)]
    · rw [if_neg h47, if_neg (fun h => h47 h.1), if_neg (fun h => h47 h.1)]
  · rw [wrap64_small ((p : Int) + 1) (by omega), if_pos (by omega)]
    have : cmAt (l.drop p) = .no := by
      have hl : (l.drop p).length ≤ 1 := by simp; omega
      match h : l.drop p with
      | [] => rfl
      | [_] => rfl
      | _ :: _ :: _ => rw [h] at hl; simp at hl
    rw [this]

theorem take_drop_eq (l : List Int) (p m : Nat) : (l.take (p + m)).drop p = (l.drop p).take m := by
  rw [List.drop_take, show p + m - p = m by omega]
theorem runLen_pos {f : Int → Bool} {l : List Int} {p : Nat} (hp : p < l.length) (h : f (l.getD p 0) = true) : runLen f (l.drop p) = runLen f (l.drop (p + 1)) + 1 := by
  rw [drop_at hp, runLen_cons, if_pos h]
theorem runLen_neg {f : Int → Bool} {l : List Int} {p : Nat} (hp : p < l.length) (h : f (l.getD p 0) = false) : runLen f (l.drop p) = 0 := by
  rw [drop_at hp, runLen_cons, if_neg (by rw [h]; simp)]
theorem runLen_end {f : Int → Bool} {l : List Int} {p : Nat} (hp : l.length ≤ p) : runLen f (l.drop p) = 0 := by
  rw [List.drop_eq_nil_of_le hp]; rfl

theorem one_j1 (l : List Int) (hn : l.length ≤ 65536) (k p e : Nat) (hpe : p ≤ e) (he : e ≤ l.length) (hk : 52 ≤ k) (t0 t1 v : Int) :
    gimbalref03_one.j1 k l (p : Int) t0 t1 (e : Int) v = some (if KB ((l.take e).drop p) = 0 then (1, t1, (e : Int), v, if 32 < e - p then 33 else 0) else (KB ((l.take e).drop p), t1, (e : Int), v, 0)) := by
  obtain ⟨k, rfl⟩ : ∃ j, k = j + 1 := ⟨k - 1, by omega⟩
  rw [gimbalref03_one.j1, if_pos (by omega), if_pos (by omega), if_pos (by omega), Kind_f _ _ (by omega), Option.bind_some, wrap64_small _ (by omega)]
  simp only [Int.toNat_natCast]
  show (if KB ((l.take e).drop p) = 0 then _ else some (KB ((l.take e).drop p), _, _, _, _)) = _
  by_cases h0 : KB ((l.take e).drop p) = 0
  · rw [if_pos h0, if_pos h0]
    by_cases h32 : 32 < e - p
    · rw [if_pos (by omega), if_pos h32]
    · rw [if_neg (by omega), if_neg h32]
  · rw [if_neg h0, if_neg h0]
theorem one_l0 (l : List Int) (hn : l.length ≤ 65536) (p : Nat) (t0 t1 v : Int) : ∀ (k e : Nat), p ≤ e → e ≤ l.length → l.length - e + 60 ≤ k →
    gimbalref03_one.l0 k l (p : Int) t0 t1 (e : Int) v = some (let e' := e + runLen isWord (l.drop e); if KB ((l.take e').drop p) = 0 then (1, t1, (e' : Int), v, if 32 < e' - p then 33 else 0) else (KB ((l.take e').drop p), t1, (e' : Int), v, 0))
  | 0, e, _, _, hk => by omega
  | k + 1, e, hpe, he, hk => by
    rw [gimbalref03_one.l0]
    by_cases hp : e < l.length
    · rw [if_pos (by omega), if_pos (by omega), rd_nat, letter_f, Option.bind_some, digit_f, Option.bind_some, wrap64_small _ (by omega)]
      have e1 : ((e : Int) + 1) = ((e + 1 : Nat) : Int) := by push_cast; rfl
      rw [e1]
      have st : isWord (l.getD e 0) = true → gimbalref03_one.l0 k l (p : Int) t0 t1 ((e + 1 : Nat) : Int) v = some (let e' := e + runLen isWord (l.drop e); if KB ((l.take e').drop p) = 0 then (1, t1, (e' : Int), v, if 32 < e' - p then 33 else 0) else (KB ((l.take e').drop p), t1, (e' : Int), v, 0)) := fun hw => by
        rw [one_l0 l hn p t0 t1 v k (e + 1) (by omega) (by omega) (by omega), runLen_pos hp hw, show e + 1 + runLen isWord (l.drop (e + 1)) = e + (runLen isWord (l.drop (e + 1)) + 1) by omega]
      by_cases h1 : isLetter (l.getD e 0) = true
      · rw [if_pos h1, st (by unfold isWord; rw [h1]; rfl)]
      · rw [if_neg h1]
        by_cases h2 : isDigit (l.getD e 0) = true
        · rw [if_pos h2, st (by unfold isWord; rw [h2, Bool.or_true])]
        · rw [if_neg h2, one_j1 l hn k p e hpe he (by omega), runLen_neg hp (by unfold isWord; rw [Bool.eq_false_iff.mpr h1, Bool.eq_false_iff.mpr h2]; rfl), Nat.add_zero]
    · rw [if_neg (by omega), one_j1 l hn k p e hpe he (by omega), runLen_end (by omega), Nat.add_zero]

theorem one_l1 (l : List Int) (hn : l.length ≤ 65536) (p : Nat) (hpl : p < l.length) (t0 t1 : Int) : ∀ (k e : Nat) (v : Int), p ≤ e → e ≤ l.length → 2 * (l.length - e) + 2 ≤ k → 0 ≤ v → v ≤ 21474836489 →
    gimbalref03_one.l1 k l (p : Int) t0 t1 (e : Int) v = some (let e' := e + runLen isDigit (l.drop e); let V := numF v ((l.drop e).take (runLen isDigit (l.drop e))); (2, t1, (e' : Int), V, if 2147483648 < V ∨ (l.getD p 0 = 48 ∧ 1 < e' - p) then 34 else 0))
  | 0, e, _, _, _, hk, _, _ => by omega
  | 1, e, _, _, _, hk, _, _ => by omega
  | k + 2, e, v, hpe, he, hk, h0, h1 => by
    have fin : gimbalref03_one.j3 (k + 1) l (p : Int) false t0 t1 (e : Int) v = some (2, t1, (e : Int), v, if 2147483648 < v ∨ (l.getD p 0 = 48 ∧ 1 < e - p) then 34 else 0) := by
      rw [gimbalref03_one.j3, if_neg (by simp), if_pos (show (0 : Int) ≤ (p : Int) by omega), if_pos (show (p : Int) < (l.length : Int) by omega), rd_nat, wrap64_small _ (by omega)]
      by_cases a : v > 2147483648
      · rw [if_pos a, if_pos (Or.inl a)]
      · rw [if_neg a]
        by_cases b : l.getD p 0 = 48
        · rw [if_pos b]
          by_cases c : 1 < e - p
          · rw [if_pos (by omega), if_pos (Or.inr ⟨b, c⟩)]
          · rw [if_neg (by omega), if_neg (by omega)]
        · rw [if_neg b, if_neg (by omega)]
    rw [gimbalref03_one.l1]
    by_cases hp : e < l.length
    · rw [if_pos (by omega), if_pos (by omega), rd_nat, digit_f, Option.bind_some]
      cases hd : isDigit (l.getD e 0) with
      | false => rw [fin, runLen_neg hp hd, Nat.add_zero]; rfl
      | true =>
        have hd' := hd
        simp only [isDigit, Bool.and_eq_true, decide_eq_true_iff] at hd'
        rw [gimbalref03_one.j3, if_pos rfl, if_pos (show (0 : Int) ≤ (e : Int) by omega), if_pos (show (e : Int) < (l.length : Int) by omega), rd_nat, wrap64_small ((e : Int) + 1) (by omega)]
        have e1 : ((e : Int) + 1) = ((e + 1 : Nat) : Int) := by push_cast; rfl
        rw [e1, runLen_pos hp hd, drop_at hp, List.take_succ_cons]
        have hF : ∀ m : List Int, numF v (l.getD e 0 :: m) = numF (if v ≤ 2147483648 then 10 * v + (l.getD e 0 - 48) else v) m := fun m => rfl
        rw [hF]
        by_cases hv : v ≤ 2147483648
        · rw [if_pos hv, if_pos hv, Int.emod_eq_of_lt (by omega) (by omega), wrap64_small (10 * v) (by omega), wrap64_small _ (by omega)]
          rw [one_l1 l hn p hpl t0 t1 k (e + 1) _ (by omega) (by omega) (by omega) (by omega) (by omega)]
          simp only [show e + 1 + runLen isDigit (l.drop (e + 1)) = e + (runLen isDigit (l.drop (e + 1)) + 1) by omega]
        · rw [if_neg hv, if_neg hv]
          rw [one_l1 l hn p hpl t0 t1 k (e + 1) _ (by omega) (by omega) (by omega) (by omega) (by omega)]
          simp only [show e + 1 + runLen isDigit (l.drop (e + 1)) = e + (runLen isDigit (l.drop (e + 1)) + 1) by omega]
    · rw [if_neg (by omega), fin, runLen_end (by omega), Nat.add_zero]; rfl

theorem one_step (l : List Int) (k p : Nat) (hp : p < l.length) : gimbalref03_one.f k l (p : Int) = if isLetter (l.getD p 0) = true then gimbalref03_one.l0 k l (p : Int) 0 (p : Int) (p : Int) 0 else if isDigit (l.getD p 0) = true then gimbalref03_one.l1 k l (p : Int) 0 (p : Int) (p : Int) 0 else gimbalref03_one.l2 k l (p : Int) 2 0 (p : Int) (p : Int) 0 := by
  unfold gimbalref03_one.f
  rw [if_pos (by omega), if_pos (by omega), rd_nat, letter_f, Option.bind_some, digit_f, Option.bind_some]
theorem one_l2 (l : List Int) (hn : l.length ≤ 65536) (k p : Nat) (hp : p < l.length) (hk : 60 ≤ k) : gimbalref03_one.l2 k l (p : Int) 2 0 (p : Int) (p : Int) 0 =
    if 2 ≤ l.length - p ∧ KB ((l.drop p).take 2) ≠ 0 then some (KB ((l.drop p).take 2), (p : Int), ((p + 2 : Nat) : Int), 0, 0) else if KB ((l.drop p).take 1) ≠ 0 then some (KB ((l.drop p).take 1), (p : Int), ((p + 1 : Nat) : Int), 0, 0) else some (0, (p : Int), (p : Int), 0, 31) := by
  have p2 := KB_range ((l.drop p).take 2)
  have p1 := KB_range ((l.drop p).take 1)
  have q2 : p + 2 ≤ l.length → gimbalref03_Kind.f (k - 1) (strOfNums ((l.take (((p + 2 : Nat) : Int)).toNat).drop ((p : Nat) : Int).toNat)) = some (KB ((l.drop p).take 2)) := fun _ => by
    rw [Int.toNat_natCast, Int.toNat_natCast, take_drop_eq, Kind_f _ _ (by omega)]; rfl
  have q1 : gimbalref03_Kind.f (k - 2) (strOfNums ((l.take (((p + 1 : Nat) : Int)).toNat).drop ((p : Nat) : Int).toNat)) = some (KB ((l.drop p).take 1)) := by
    rw [Int.toNat_natCast, Int.toNat_natCast, take_drop_eq, Kind_f _ _ (by omega)]; rfl
  obtain ⟨k, rfl⟩ : ∃ j, k = j + 3 := ⟨k - 3, by omega⟩
  have e2 : ((p : Int) + 2) = ((p + 2 : Nat) : Int) := by push_cast; rfl
  have e1 : ((p : Int) + 1) = ((p + 1 : Nat) : Int) := by push_cast; rfl
  have z0 : gimbalref03_one.l2 (k + 1) l (p : Int) 0 0 (p : Int) (p : Int) 0 = some (0, (p : Int), (p : Int), 0, 31) := by
    rw [gimbalref03_one.l2, if_neg (by omega)]
  have z1 : gimbalref03_one.l2 (k + 2) l (p : Int) 1 0 (p : Int) (p : Int) 0 = if KB ((l.drop p).take 1) ≠ 0 then some (KB ((l.drop p).take 1), (p : Int), ((p + 1 : Nat) : Int), 0, 0) else some (0, (p : Int), (p : Int), 0, 31) := by
    rw [gimbalref03_one.l2, wrap64_small ((p : Int) + 1) (by omega), show wrap64 ((1 : Int) - 1) = 0 by rw [wrap64_small _ (by omega)]; rfl, if_pos (by omega), if_pos (by omega), if_pos (by omega), if_pos (by omega), e1]
    rw [show k + 1 = k + 3 - 2 by omega, q1, Option.bind_some]
    by_cases h : KB ((l.drop p).take 1) = 0
    · rw [if_neg (by omega), if_neg (by simpa using h)]; exact z0
    · rw [if_pos (by omega), if_pos h]
  have z2 : gimbalref03_one.l2 (k + 3) l (p : Int) 2 0 (p : Int) (p : Int) 0 = if 2 ≤ l.length - p ∧ KB ((l.drop p).take 2) ≠ 0 then some (KB ((l.drop p).take 2), (p : Int), ((p + 2 : Nat) : Int), 0, 0) else gimbalref03_one.l2 (k + 2) l (p : Int) 1 0 (p : Int) (p : Int) 0 := by
    rw [gimbalref03_one.l2, wrap64_small ((p : Int) + 2) (by omega), show wrap64 ((2 : Int) - 1) = 1 by rw [wrap64_small _ (by omega)]; rfl, if_pos (by omega)]
    by_cases h2' : p + 2 ≤ l.length
    · rw [if_pos (by omega), if_pos (by omega), if_pos (by omega), e2, show k + 2 = k + 3 - 1 by omega, q2 h2', Option.bind_some]
      by_cases h : KB ((l.drop p).take 2) = 0
      · rw [if_neg (by omega), if_neg (by omega)]
      · rw [if_pos (by omega), if_pos (by omega)]
    · rw [if_neg (by omega), if_neg (by omega)]
  rw [z2, z1]
theorem one_f (l : List Int) (hn : l.length ≤ 65536) (k p : Nat) (hp : p < l.length) (hk : 2 * l.length + 70 ≤ k) :
    match one KB (l.drop p) with
      | .ok (a, m, v) => gimbalref03_one.f k l (p : Int) = some (a, (p : Int), ((p + m : Nat) : Int), v, 0)
      | .error er => ∃ a b c d, gimbalref03_one.f k l (p : Int) = some (a, b, c, d, er) := by
  rw [one_step l k p hp]
  have hd := drop_at hp
  by_cases h1 : isLetter (l.getD p 0) = true
  · rw [if_pos h1, one_l0 l hn p 0 p 0 k p (by omega) (by omega) (by omega)]
    have ho : one KB (l.drop p) = if KB ((l.drop p).take (runLen isWord (l.drop p))) = 0 then (if 32 < runLen isWord (l.drop p) then .error 33 else .ok (1, runLen isWord (l.drop p), 0)) else .ok (KB ((l.drop p).take (runLen isWord (l.drop p))), runLen isWord (l.drop p), 0) := by
      conv => lhs; rw [hd]
      unfold one
      simp only
      rw [if_pos h1, ← hd]
    rw [ho]
    generalize runLen isWord (l.drop p) = m
    simp only [take_drop_eq, show p + m - p = m by omega]
    by_cases h0 : KB ((l.drop p).take m) = 0
    · simp only [if_pos h0]
      by_cases h32 : 32 < m
      · simp only [if_pos h32]; exact ⟨_, _, _, _, rfl⟩
      · simp only [if_neg h32]
    · simp only [if_neg h0]
  · rw [if_neg h1]
    by_cases h2 : isDigit (l.getD p 0) = true
    · rw [if_pos h2, one_l1 l hn p hp 0 p k p 0 (by omega) (by omega) (by omega) (by omega) (by omega)]
      have ho : one KB (l.drop p) = if 2147483648 < numOf ((l.drop p).take (runLen isDigit (l.drop p))) ∨ (l.getD p 0 = 48 ∧ 1 < runLen isDigit (l.drop p)) then .error 34 else .ok (2, runLen isDigit (l.drop p), numOf ((l.drop p).take (runLen isDigit (l.drop p)))) := by
        conv => lhs; rw [hd]
        unfold one
        simp only
        rw [if_neg h1, if_pos h2, ← hd]
      rw [ho]
      have hnum := num_eq (l := (l.drop p).take (runLen isDigit (l.drop p))) (runLen_all isDigit (l.drop p))
      have hR : numF 0 ((l.drop p).take (runLen isDigit (l.drop p))) = numR ((l.drop p).take (runLen isDigit (l.drop p))) := rfl
      simp only [hR]
      generalize numR ((l.drop p).take (runLen isDigit (l.drop p))) = R at hnum
      generalize numOf ((l.drop p).take (runLen isDigit (l.drop p))) = V at hnum
      generalize runLen isDigit (l.drop p) = m
      simp only [show p + m - p = m by omega]
      by_cases hc : 2147483648 < V ∨ (l.getD p 0 = 48 ∧ 1 < m)
      · simp only [if_pos hc, if_pos (show 2147483648 < R ∨ (l.getD p 0 = 48 ∧ 1 < m) by omega)]
        exact ⟨_, _, _, _, rfl⟩
      · simp only [if_neg hc, if_neg (show ¬ (2147483648 < R ∨ (l.getD p 0 = 48 ∧ 1 < m)) by omega)]
        rw [show R = V by omega]
    · rw [if_neg h2]
      have ho : one KB (l.drop p) = if 2 ≤ (l.drop p).length ∧ KB ((l.drop p).take 2) ≠ 0 then .ok (KB ((l.drop p).take 2), 2, 0) else if KB ((l.drop p).take 1) ≠ 0 then .ok (KB ((l.drop p).take 1), 1, 0) else .error 31 := by
        conv => lhs; rw [hd]
        unfold one
        simp only
        rw [if_neg h1, if_neg h2, ← hd]
      rw [ho, List.length_drop]
      rw [one_l2 l hn k p hp (by omega)]
      by_cases a : 2 ≤ l.length - p ∧ KB ((l.drop p).take 2) ≠ 0
      · simp only [if_pos a]
      · simp only [if_neg a]
        by_cases b : KB ((l.drop p).take 1) ≠ 0
        · simp only [if_pos b]
        · simp only [if_neg b]; exact ⟨_, _, _, _, rfl⟩

/-- 'one' as the printed texts want it. -/
theorem one_calls (k : Nat) (A0 : Option Addr) (c0 : Nat) (l0 : List Int) (hn : l0.length ≤ 65536) (a1 : Int) (r1 : Int) (r2 : Int) (r3 : Int) (r4 : Int) (r5 : Int) (w : World) (hr0 : Kd.C (Kd.int .u8) w A0 l0.length l0) (hc0 : l0.length ≤ c0) (h : gimbalref03_one.f k l0 a1 = some (r1, r2, r3, r4, r5)) :
    Calls Tryd.prog 20 #[.slice A0 l0.length c0, .int .i64 a1] w fun e w' => e = .returned (.tuple #[.agg #[.int .i64 r1, .int .i64 r2, .int .i64 r3, .int .i64 r4], .int .i64 r5]) ∧ Below w.heap.size w w' := by
  have hup : ∀ j, gimbalref03_one.f (k + j) l0 a1 = some (r1, r2, r3, r4, r5) := fun j => by
    induction j with
    | zero => exact h
    | succ j ih => exact gimbalref03_one.mono l0 a1 (k + j) _ ih
  have h := hup (2 * l0.length + 70)
  have hin : 0 ≤ a1 ∧ a1 < (l0.length : Int) := by
    unfold gimbalref03_one.f at h
    by_cases h0 : 0 ≤ a1
    · rw [if_pos h0] at h
      by_cases h1 : a1 < (l0.length : Int)
      · exact ⟨h0, h1⟩
      · rw [if_neg h1] at h; cases h
    · rw [if_neg h0] at h; cases h
  obtain ⟨p, rfl⟩ := Int.eq_ofNat_of_zero_le hin.1
  have hp : p < l0.length := by omega
  generalize hkk : k + (2 * l0.length + 70) = kk at h
  have hkk : 2 * l0.length + 70 ≤ kk := by omega
  have hL : Lies w A0 l0.length l0 := fun i hi => by
    obtain ⟨ad, e, hc⟩ := Kd.at_int hr0 (i : Int) (by omega) (by omega)
    rw [rd_nat] at hc
    exact ⟨ad, e, by simpa using hc⟩
  rw [one_step l0 kk p hp] at h
  have hK60 : ∀ s, gimbalref03_Kind.f 60 s = some (kindOf s) := fun s => Kind_f s 60 (by omega)
  by_cases h1 : isLetter (l0.getD p 0) = true
  · rw [if_pos h1, one_l0 l0 hn p 0 p 0 kk p (by omega) (by omega) (by omega)] at h
    have hle := runLen_le isWord (l0.drop p)
    rw [List.length_drop] at hle
    refine (ref_letter w hn hc0 rfl letter_f digit_f hK60 p hp hL h1 (runLen isWord (l0.drop p)) rfl (by omega) _ rfl _ ⟨rfl⟩).mono ?_
    rintro e w' ⟨hb, rfl⟩
    refine ⟨?_, hb⟩
    generalize runLen isWord (l0.drop p) = m at h hle
    simp only [take_drop_eq, show p + m - p = m by omega] at h
    by_cases h0 : KB ((l0.drop p).take m) = 0
    · rw [if_pos h0] at h ⊢
      simp only [Option.some.injEq, Prod.mk.injEq] at h
      obtain ⟨rfl, rfl, rfl, rfl, rfl⟩ := h
      rfl
    · rw [if_neg h0] at h ⊢
      simp only [Option.some.injEq, Prod.mk.injEq] at h
      obtain ⟨rfl, rfl, rfl, rfl, rfl⟩ := h
      rfl
  · rw [if_neg h1] at h
    by_cases h2 : isDigit (l0.getD p 0) = true
    · rw [if_pos h2, one_l1 l0 hn p hp 0 p kk p 0 (by omega) (by omega) (by omega) (by omega) (by omega)] at h
      have hle := runLen_le isDigit (l0.drop p)
      rw [List.length_drop] at hle
      have h1' : 1 ≤ runLen isDigit (l0.drop p) := by rw [runLen_pos hp h2]; omega
      refine (ref_digit w hn hc0 rfl letter_f digit_f p hp hL (Bool.eq_false_iff.mpr h1) h2 (runLen isDigit (l0.drop p)) rfl (by omega) h1' _ rfl _ ⟨rfl⟩).mono ?_
      rintro e w' ⟨hb, rfl⟩
      refine ⟨?_, hb⟩
      generalize runLen isDigit (l0.drop p) = m at h hle
      simp only [show p + m - p = m by omega, Option.some.injEq, Prod.mk.injEq] at h
      obtain ⟨rfl, rfl, rfl, rfl, rfl⟩ := h
      rfl
    · rw [if_neg h2] at h
      have p2 := KB_range ((l0.drop p).take 2)
      have p1 := KB_range ((l0.drop p).take 1)
      refine (ref_other w hn hc0 rfl letter_f digit_f hK60 p hp hL (Bool.eq_false_iff.mpr h1) (Bool.eq_false_iff.mpr h2) _ _ rfl rfl p2.1 p1.1 _ ⟨rfl⟩).mono ?_
      rintro e w' ⟨hb, rfl⟩
      refine ⟨?_, hb⟩
      rw [one_l2 l0 hn kk p hp (by omega)] at h
      by_cases a : p + 2 ≤ l0.length ∧ KB ((l0.drop p).take 2) ≠ 0
      · rw [if_pos ⟨by omega, a.2⟩] at h
        rw [if_pos a]
        simp only [Option.some.injEq, Prod.mk.injEq] at h
        obtain ⟨rfl, rfl, rfl, rfl, rfl⟩ := h
        rfl
      · rw [if_neg (by omega)] at h
        rw [if_neg a]
        by_cases b : KB ((l0.drop p).take 1) ≠ 0
        · rw [if_pos b] at h ⊢
          simp only [Option.some.injEq, Prod.mk.injEq] at h
          obtain ⟨rfl, rfl, rfl, rfl, rfl⟩ := h
          rfl
        · rw [if_neg b] at h ⊢
          simp only [Option.some.injEq, Prod.mk.injEq] at h
          obtain ⟨rfl, rfl, rfl, rfl, rfl⟩ := h
          rfl
end Go.Proofs.YteaegfkgnmfleaaDoor.Sc

