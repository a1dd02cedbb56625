/- This claim's own texts, joined, with only what the claim uses: Scan. -/
namespace Go.Proofs.YteaegfkgnmfleaaDoor.Sc

def isBlank (c : Int) : Bool := c == 32 || c == 9 || c == 13 || c == 10
def isDigit (c : Int) : Bool := decide (48 ≤ c) && decide (c ≤ 57)
def isLetter (c : Int) : Bool := c == 95 || (decide (97 ≤ c) && decide (c ≤ 122)) || (decide (65 ≤ c) && decide (c ≤ 90))
def isWord (c : Int) : Bool := isLetter c || isDigit c

/-- How many bytes from the front on are such. -/
def runLen (f : Int → Bool) : List Int → Nat
  | [] => 0
  | c :: l => if f c then runLen f l + 1 else 0
theorem runLen_cons (f : Int → Bool) (c : Int) (l : List Int) : runLen f (c :: l) = if f c then runLen f l + 1 else 0 := rfl
theorem runLen_le (f : Int → Bool) : ∀ l, runLen f l ≤ l.length
  | [] => Nat.le_refl _
  | c :: l => by
    have := runLen_le f l
    unfold runLen
    split
    · simp only [List.length_cons]; omega
    · exact Nat.zero_le _
/-- Where the first "*/" begins. -/
def closeAt : List Int → Option Nat
  | [] => none
  | [_] => none
  | c :: d :: l => if c = 42 ∧ d = 47 then some 0 else (closeAt (d :: l)).map (· + 1)
theorem closeAt_le : ∀ (l : List Int) (m : Nat), closeAt l = some m → m + 2 ≤ l.length
  | [], m, h => by simp [closeAt] at h
  | [_], m, h => by simp [closeAt] at h
  | c :: d :: l, m, h => by
    unfold closeAt at h
    split at h
    · cases h; simp
    · obtain ⟨k, hk, rfl⟩ := Option.map_eq_some_iff.mp h
      have := closeAt_le (d :: l) k hk
      simp only [List.length_cons] at this ⊢
      omega
/-- A comment at the front: none; one that does not end; one of so many bytes. -/
inductive Cm where
  | no
  | opens
  | long (k : Nat)
def cmAt : List Int → Cm
  | c :: d :: l => if c = 47 ∧ d = 47 then .long (runLen (fun c => c != 10) l + 2)
    else if c = 47 ∧ d = 42 then (match closeAt l with | some m => .long (m + 4) | none => .opens)
    else .no
  | _ => .no
theorem cmAt_two (c d : Int) (l : List Int) : cmAt (c :: d :: l) = if c = 47 ∧ d = 47 then .long (runLen (fun c => c != 10) l + 2)
    else if c = 47 ∧ d = 42 then (match closeAt l with | some m => .long (m + 4) | none => .opens) else .no := rfl
theorem cmAt_long {l : List Int} {k : Nat} (h : cmAt l = .long k) : 2 ≤ k ∧ k ≤ l.length := by
  unfold cmAt at h
  split at h
  · rename_i c d l
    have h1 := runLen_le (fun c => c != 10) l
    split at h
    · cases h
      simp only [List.length_cons]
      omega
    · split at h
      · split at h
        · rename_i m hm
          cases h
          have := closeAt_le _ _ hm
          simp only [List.length_cons]
          omega
        · cases h
      · cases h
  · cases h

/-- A token: its kind, its place, its end, its number. -/
abbrev Tok := Int × Int × Int × Int
/-- What the front of a text is: kind, length, number; or the error. -/
def numOf (l : List Int) : Int := l.foldl (fun v c => min (10 * v + (c - 48)) 2147483649) 0
def one (K : List Int → Int) (l : List Int) : Except Int (Int × Nat × Int) :=
  match l with
  | [] => .error 31
  | c :: _ =>
    if isLetter c then
      (if K (l.take (runLen isWord l)) = 0 then (if 32 < runLen isWord l then .error 33 else .ok (1, runLen isWord l, 0)) else .ok (K (l.take (runLen isWord l)), runLen isWord l, 0))
    else if isDigit c then
      (if 2147483648 < numOf (l.take (runLen isDigit l)) ∨ (c = 48 ∧ 1 < runLen isDigit l) then .error 34 else .ok (2, runLen isDigit l, numOf (l.take (runLen isDigit l))))
    else if 2 ≤ l.length ∧ K (l.take 2) ≠ 0 then .ok (K (l.take 2), 2, 0)
    else if K (l.take 1) ≠ 0 then .ok (K (l.take 1), 1, 0)
    else .error 31
theorem one_len {K : List Int → Int} {l : List Int} {k : Int} {n : Nat} {v : Int} (h : one K l = .ok (k, n, v)) : 1 ≤ n ∧ n ≤ l.length := by
  unfold one at h
  split at h
  · cases h
  · rename_i c t
    have h1 := runLen_le isWord (c :: t)
    have h2 := runLen_le isDigit (c :: t)
    have h3 : 1 ≤ (c :: t).length := by simp
    split at h
    · rename_i hc
      have : runLen isWord (c :: t) = runLen isWord t + 1 := by rw [runLen_cons, if_pos (by simp [isWord, hc])]
      split at h
      · split at h
        · cases h
        · cases h; omega
      · cases h; omega
    · split at h
      · rename_i hc
        have : runLen isDigit (c :: t) = runLen isDigit t + 1 := by rw [runLen_cons, if_pos hc]
        split at h
        · cases h
        · cases h; omega
      · split at h
        · cases h; omega
        · split at h
          · cases h; omega
          · cases h

/-- The answer: the tokens; or where it breaks, and the error. -/
inductive Res where
  | toks (l : List Tok)
  | bad (pos err : Int)
/-- A text from a place on, behind some tokens. -/
def scanF (K : List Int → Int) : Nat → List Int → Nat → List Tok → Res
  | 0, _, _, acc => .toks acc
  | _ + 1, [], _, acc => .toks acc
  | f + 1, c :: t, p, acc =>
    if isBlank c then scanF K f t (p + 1) acc
    else match cmAt (c :: t) with
      | .opens => .bad p 32
      | .long k => scanF K f ((c :: t).drop k) (p + k) acc
      | .no => match one K (c :: t) with
        | .error e => if e = 31 then .bad p 31 else if acc.length = 16384 then .bad p 35 else .bad p e
        | .ok (k, n, v) => if acc.length = 16384 then .bad p 35 else scanF K f ((c :: t).drop n) (p + n) (acc ++ [(k, (p : Int), ((p + n : Nat) : Int), v)])
/-- With enough fuel the fuel plays no part. -/
theorem scanF_fuel (K : List Int → Int) : ∀ (f : Nat) (l : List Int) (p : Nat) (acc : List Tok), l.length ≤ f → scanF K f l p acc = scanF K l.length l p acc
  | f, [], p, acc, _ => by cases f <;> rfl
  | 0, c :: t, p, acc, h => by simp at h
  | f + 1, c :: t, p, acc, h => by
    simp only [List.length_cons] at h ⊢
    have hf : t.length ≤ f := by omega
    simp only [scanF]
    split
    · exact scanF_fuel K f t _ _ hf
    · split
      · rfl
      · rename_i k hk
        have := cmAt_long hk
        have hd : ((c :: t).drop k).length ≤ t.length := by simp only [List.length_drop, List.length_cons]; omega
        rw [scanF_fuel K f _ _ _ (by omega), scanF_fuel K t.length _ _ _ hd]
      · split
        · rfl
        · rename_i k n v hk
          have := one_len hk
          split
          · rfl
          · have hd : ((c :: t).drop n).length ≤ t.length := by simp only [List.length_drop, List.length_cons]; omega
            rw [scanF_fuel K f _ _ _ (by omega), scanF_fuel K t.length _ _ _ hd]
def scan (K : List Int → Int) (l : List Int) (p : Nat) (acc : List Tok) : Res := scanF K l.length l p acc
theorem scan_nil (K : List Int → Int) (p : Nat) (acc : List Tok) : scan K [] p acc = .toks acc := rfl
theorem scan_cons (K : List Int → Int) (c : Int) (t : List Int) (p : Nat) (acc : List Tok) : scan K (c :: t) p acc =
    if isBlank c then scan K t (p + 1) acc
    else match cmAt (c :: t) with
      | .opens => .bad p 32
      | .long k => scan K ((c :: t).drop k) (p + k) acc
      | .no => match one K (c :: t) with
        | .error e => if e = 31 then .bad p 31 else if acc.length = 16384 then .bad p 35 else .bad p e
        | .ok (k, n, v) => if acc.length = 16384 then .bad p 35 else scan K ((c :: t).drop n) (p + n) (acc ++ [(k, (p : Int), ((p + n : Nat) : Int), v)]) := by
  unfold scan
  simp only [List.length_cons, scanF]
  split
  · rfl
  · split
    · rfl
    · rename_i k hk
      have := cmAt_long hk
      rw [scanF_fuel K t.length _ _ _ (by simp only [List.length_drop, List.length_cons]; omega)]
    · split
      · rfl
      · rename_i k n v hk
        have := one_len hk
        split
        · rfl
        · rw [scanF_fuel K t.length _ _ _ (by simp only [List.length_drop, List.length_cons]; omega)]

/-- The first k bytes are blanks and comments. -/
inductive Gap : List Int → Nat → Prop
  | nil (l : List Int) : Gap l 0
  | blank (c : Int) (l : List Int) (k : Nat) : isBlank c = true → Gap l k → Gap (c :: l) (k + 1)
  | comment (l : List Int) (m k : Nat) : cmAt l = .long m → Gap (l.drop m) k → Gap l (m + k)
theorem slash_not_blank {l : List Int} {k : Nat} (h : cmAt l = .long k) : ∃ t, l = 47 :: t := by
  unfold cmAt at h
  split at h
  · rename_i c d l
    split at h
    · rename_i hc; exact ⟨d :: l, by rw [hc.1]⟩
    · split at h
      · rename_i hc; exact ⟨d :: l, by rw [hc.1]⟩
      · cases h
  · cases h
theorem slash_open {l : List Int} (h : cmAt l = .opens) : ∃ t, l = 47 :: t := by
  unfold cmAt at h
  split at h
  · rename_i c d l
    split at h
    · cases h
    · split at h
      · rename_i hc; exact ⟨d :: l, by rw [hc.1]⟩
      · cases h
  · cases h
theorem Gap.scan (K : List Int → Int) {l : List Int} {k : Nat} (h : Gap l k) : ∀ (p : Nat) (acc : List Tok), scan K l p acc = scan K (l.drop k) (p + k) acc := by
  induction h with
  | nil l => intro p acc; rfl
  | blank c l k hb _ ih =>
    intro p acc
    rw [scan_cons, if_pos hb, ih, List.drop_succ_cons, show p + 1 + k = p + (k + 1) by omega]
  | comment l m k hm _ ih =>
    intro p acc
    obtain ⟨t, rfl⟩ := slash_not_blank hm
    rw [scan_cons, if_neg (by decide), hm]
    simp only
    rw [ih, List.drop_drop, show p + m + k = p + (m + k) by omega]
theorem Gap.trans {l : List Int} {k : Nat} (h : Gap l k) : ∀ {j : Nat}, Gap (l.drop k) j → Gap l (k + j) := by
  induction h with
  | nil l => intro j hj; simpa using hj
  | blank c l k hb _ ih =>
    intro j hj
    rw [show k + 1 + j = (k + j) + 1 by omega]
    exact Gap.blank c l (k + j) hb (ih (by simpa using hj))
  | comment l m k hm _ ih =>
    intro j hj
    rw [Nat.add_assoc]
    exact Gap.comment l m (k + j) hm (ih (by rw [List.drop_drop]; exact hj))
end Go.Proofs.YteaegfkgnmfleaaDoor.Sc

