/- This claim's own texts, joined, with only what the claim uses: Scan. -/
namespace Go.Proofs.YteaegfkgnmfleaaDoor.Sc

def isBlank (c : Int) : Bool := c == 32 || c == 9 || c == 13 || c == 10
def isDigit (c : Int) : Bool := decide (48 ≤ c) && decide (c ≤ 57)
def isLetter (c : Int) : Bool := c == 95 || (decide (97 ≤ c) && decide (c ≤ 122)) || (decide (65 ≤ c) && decide (c ≤ 90))
def isWord (c : Int) : Bool := isLetter c || isDigit c

/-- How many bytes from the front on are such. -/
def runLen (f : Int → Bool) : List Int → Nat
  | [] => 0
  | c :: l => if f c then runLen f l + 1 else 0
theorem runLen_cons (f : Int → Bool) (c : Int) (l : List Int) : runLen f (c :: l) = if f c then runLen f l + 1 else 0 := rfl
theorem runLen_le (f : Int → Bool) : ∀ l, runLen f l ≤ l.length
  | [] => Nat.le_refl _
  | c :: l => by
    have := runLen_le f l
    unfold runLen
    split
    · simp only [List.length_cons]; omega
    · exact Nat.zero_le _
/-- Where the first "*/" begins. -/
def closeAt : List Int → Option Nat
  | [] => none
  | [_] => none
  | c :: d :: l => if c = 42 ∧ d = 47 then some 0 else (closeAt (d :: l)).map (· + 1)
theorem closeAt_le : ∀ (l : List Int) (m : Nat), closeAt l = some m → m + 2 ≤ l.length
  | [], m, h => by simp [closeAt] at h
  | [_], m, h => by simp [closeAt] at h
  | c :: d :: l, m, h => by
    unfold closeAt at h
    split at h
    · cases h; simp
    · obtain ⟨k, hk, rfl⟩ := Option.map_eq_some_iff.mp h
      have := closeAt_le (d :: l) k hk
      simp only [List.length_cons] at this ⊢
      omega
/-- A comment at the front: none; one that does not end; one of so many bytes. -/
inductive Cm where
  | no
  | opens
  | long (k : Nat)
def cmAt : List Int → Cm
  | c :: d :: l => if c = 47 ∧ d = 47 then .long (runLen (fun c => c != 10) l + 2)
    else if c = 47 ∧ d = 42 then (match closeAt l with | some m => .long (m + 4) | none => .opens)
    else .no
  | _ => .no
theorem cmAt_two (c d : Int) (l : List Int) : cmAt (c :: d :: l) = if c = 47 ∧ d = 47 then .long (runLen (fun c => c != 10) l + 2)
    else if c = 47 ∧ d = 42 then (match closeAt l with | some m => .long (m + 4) | none => .opens) else .no := rfl
theorem cmAt_long {l : List Int} {k : Nat} (h : cmAt l = .long k) : 2 ≤ k ∧ k ≤ l.length := by
  unfold cmAt at h
  split at h
  · rename_i c d l
    have h1 := runLen_le (fun c => c != 10) l
    split at h
    · cases h
      simp only [List.length_cons]
      omega
    · split at h
      · split at h
        · rename_i m hm
          cases h
          have := closeAt_le _ _ hm
          simp only [List.length_cons]
          omega
        · cases h
      · cases h
  · cases h

/-- A token: its kind, its place, its end, its number. -/
abbrev Tok := Int × Int × Int × Int
/-- What the front of a text is: kind, length, number; or the error. -/
def numOf (l : List Int) : Int := l.foldl (fun v c => min (10 * v + (c - 48)) 2147483649) 0
def one (K : List Int → Int) (l : List Int) : Except Int (Int × Nat × Int) :=
  match l with
  | [] => .error 31
  | c :: _ =>
    if isLetter c then
      (if K (l.take (runLen isWord l)) = 0 then (if 32 < runLen isWord l then .error 33 else .ok (1, runLen isWord l, 0)) else .ok (K (l.take (runLen isWord l)), runLen isWord l, 0))
    else if isDigit c then
      (if 2147483648 < numOf (l.take (runLen isDigit l)) ∨ (c = 48 ∧ 1 < runLen isDigit l) then .error 34 else .ok (2, runLen isDigit l, numOf (l.take (runLen isDigit l))))
    else if 2 ≤ l.length ∧ K (l.take 2) ≠ 0 then .ok (K (l.take 2), 2, 0)
    else if K (l.take 1) ≠ 0 then .ok (K (l.take 1), 1, 0)
    else .error 31
theorem one_len {K : List Int → Int} {l : List Int} {k : Int} {n : Nat} {v : Int} (h : one K l = .ok (k, n, v)) : 1 ≤ n ∧ n ≤ l.length := by
  unfold one at h
  split at h
  · cases h
  · rename_i c t
    have h1 := runLen_le isWord (c :: t)
    have h2 := runLen_le isDigit (c :: t)
    have h3 : 1 ≤ (c :: t).length := by simp
    split at h
    · rename_i hc
      have : runLen isWord (c :: t) = runLen isWord t + 1 := by rw [runLen_cons, if_pos (by simp [isWord, hc])]
      split at h
      · split at h
        · cases h
        · cases h; omega
      · cases h; omega
    · split at h
      · rename_i hc
        have : runLen isDigit (c :: t) = runLen isDigit t + 1 := by rw [runLen_cons, if_pos hc]
        split at h
        · cases h
        · cases h; omega
      · split at h
        · cases h; omega
        · split at h
          · cases h; omega
          · cases h

/-- The answer: the tokens; or where it breaks, and the error. -/
inductive Res where
  | toks (l : List Tok)
  | bad (pos err : Int)
/-- A text from a place on, behind some tokens. -/
def scanF (K : List Int → Int) : Nat → List Int → Nat → List Tok → Res
  | 0, _, _, acc => .toks acc
  | _ + 1, [], _, acc => .toks acc
  | f + 1, c :: t, p, acc =>
    if isBlank c then scanF K f t (p + 1) acc
    else match cmAt (c :: t) with
      | .opens => .bad p 32
      | .long k => scanF K f ((c :: t).drop k) (p + k) acc
      | .no => match one K (c :: t) with
        | .error e => if e = 31 then .bad p 31 else if acc.length = 16384 then .bad p 35 else .bad p e
        | .ok (k, n, v) => if acc.length = 16384 then .bad p 35 else scanF K f ((c :: t).drop n) (p + n) (acc ++ [(k, (p : Int), ((p + n : Nat) : Int), v)])
/-- With enough fuel the fuel plays no part. -/
theorem scanF_fuel (K : List Int → Int) : ∀ (f : Nat) (l : List Int) (p : Nat) (acc : List Tok), l.length ≤ f → scanF K f l p acc = scanF K l.length l p acc
  | f, [], p, acc, _ => by cases f <;> rfl
  | 0, c :: t, p, acc, h => by simp at h
  | f + 1, c :: t, p, acc, h => by
    simp only [List.length_cons] at h ⊢
    have hf : t.length ≤ f := by omega
    simp only [scanF]
    split
    · exact scanF_fuel K f t _ _ hf
    · split
      · rfl
      · rename_i k hk
        have := cmAt_long hk
        have hd : ((c :: t).drop k).length ≤ t.length := by simp only [List.length_drop, List.length_cons]; omega
        rw [scanF_fuel K f _ _ _ (by omega), scanF_fuel K t.length _ _ _ hd]
      · split
        · rfl
        · rename_i k n v hk
          have := one_len hk
          split
          · rfl
          · have hd : ((c :: t).drop n).length ≤ t.length := by simp only [List.length_drop, List.length_cons]; omega
            rw [scanF_fuel K f _ _ _ (by omega), scanF_fuel K t.length _ _ _ hd]
def scan (K : List Int → Int) (l : List Int) (p : Nat) (acc : List Tok) : Res := scanF K l.length l p acc
theorem scan_nil (K : List Int → Int) (p : Nat) (acc : List Tok) : scan K [] p acc = .toks acc := rfl
theorem scan_cons (K : List Int → Int) (c : Int) (t : List Int) (p : Nat) (acc : List Tok) : scan K (c :: t) p acc =
    if isBlank c then scan K t (p + 1) acc
    else match cmAt (c :: t) with
      | .opens => .bad p 32
      | .long k => scan K ((c :: t).drop k) (p + k) acc
      | .no => match one K (c :: t) with
        | .error e => if e = 31 then .bad p 31 else if acc.length = 16384 then .bad p 35 else .bad p e
        | .ok (k, n, v) => if acc.length = 16384 then .bad p 35 else scan K ((c :: t).drop n) (p + n) (acc ++ [(k, (p : Int), ((p + n : Nat) : Int), v)]) := by
  unfold scan
  simp only [List.length_cons, scanF]
  split
  · rfl
  · split
    · rfl
    · rename_i k hk
      have := cmAt_long hk
      rw [scanF_fuel K t.length _ _ _ (by simp only [List.length_drop, List.length_cons]; omega)]
    · split
      · rfl
      · rename_i k n v hk
        have := one_len hk
        split
        · rfl
        · rw [scanF_fuel K t.length _ _ _ (by simp only [List.length_drop, List.length_cons]; omega)]

/-- The first k bytes are blanks and comments. -/
inductive Gap : List Int → Nat → Prop
  | nil (l : List Int) : Gap l 0
  | blank (c : Int) (l : List Int) (k : Nat) : isBlank c = true → Gap l k → Gap (c :: l) (k + 1)
  | comment (l : List Int) (m k : Nat) : cmAt l = .long m → Gap (l.drop m) k → Gap l (m + k)
theorem Gap.le {l : List Int} {k : Nat} (h : Gap l k) : k ≤ l.length := by
  induction h with
  | nil => exact Nat.zero_le _
  | blank c l k _ _ ih => simp only [List.length_cons]; omega
  | comment l m k hm _ ih => have := cmAt_long hm; simp only [List.length_drop] at ih; omega
theorem slash_not_blank {l : List Int} {k : Nat} (h : cmAt l = .long k) : ∃ t, l = 47 :: t := by
  unfold cmAt at h
  split at h
  · rename_i c d l
    split at h
    · rename_i hc; exact ⟨d :: l, by rw [hc.1]⟩
    · split at h
      · rename_i hc; exact ⟨d :: l, by rw [hc.1]⟩
      · cases h
  · cases h
theorem slash_open {l : List Int} (h : cmAt l = .opens) : ∃ t, l = 47 :: t := by
  unfold cmAt at h
  split at h
  · rename_i c d l
    split at h
    · cases h
    · split at h
      · rename_i hc; exact ⟨d :: l, by rw [hc.1]⟩
      · cases h
  · cases h
theorem Gap.scan (K : List Int → Int) {l : List Int} {k : Nat} (h : Gap l k) : ∀ (p : Nat) (acc : List Tok), scan K l p acc = scan K (l.drop k) (p + k) acc := by
  induction h with
  | nil l => intro p acc; rfl
  | blank c l k hb _ ih =>
    intro p acc
    rw [scan_cons, if_pos hb, ih, List.drop_succ_cons, show p + 1 + k = p + (k + 1) by omega]
  | comment l m k hm _ ih =>
    intro p acc
    obtain ⟨t, rfl⟩ := slash_not_blank hm
    rw [scan_cons, if_neg (by decide), hm]
    simp only
    rw [ih, List.drop_drop, show p + m + k = p + (m + k) by omega]
theorem Gap.trans {l : List Int} {k : Nat} (h : Gap l k) : ∀ {j : Nat}, Gap (l.drop k) j → Gap l (k + j) := by
  induction h with
  | nil l => intro j hj; simpa using hj
  | blank c l k hb _ ih =>
    intro j hj
    rw [show k + 1 + j = (k + j) + 1 by omega]
    exact Gap.blank c l (k + j) hb (ih (by simpa using hj))
  | comment l m k hm _ ih =>
    intro j hj
    rw [Nat.add_assoc]
    exact Gap.comment l m (k + j) hm (ih (by rw [List.drop_drop]; exact hj))
/-- Tokens that rise, each behind a gap; behind the last one a gap up to the end. -/
inductive Chain : List Int → Nat → List Tok → Prop
  | done (l : List Int) (p : Nat) : Gap l l.length → Chain l p []
  | tok (l : List Int) (p k n : Nat) (a v : Int) (ts : List Tok) : Gap l k → 1 ≤ n → k + n ≤ l.length → Chain (l.drop (k + n)) (p + (k + n)) ts →
      Chain l p ((a, ((p + k : Nat) : Int), ((p + (k + n) : Nat) : Int), v) :: ts)
theorem Chain.gap {l : List Int} {p k : Nat} {ts : List Tok} (h : Gap l k) (hc : Chain (l.drop k) (p + k) ts) : Chain l p ts := by
  have hk := h.le
  generalize hl : l.drop k = l' at hc
  generalize hp : p + k = p' at hc
  cases hc with
  | done l' p' g =>
    subst hl hp
    refine Chain.done l p ?_
    have := h.trans g
    rwa [List.length_drop, show k + (l.length - k) = l.length by omega] at this
  | tok l' p' k' n a v ts g h1 h2 hc =>
    subst hl hp
    rw [List.length_drop] at h2
    have := Chain.tok l p (k + k') n a v ts (h.trans g) h1 (by omega)
    rw [show p + k + k' = p + (k + k') by omega, show p + k + (k' + n) = p + (k + k' + n) by omega]
    refine this ?_
    rw [List.drop_drop, show k + (k' + n) = k + k' + n by omega, show p + k + (k' + n) = p + (k + k' + n) by omega] at hc
    exact hc
theorem scanF_chain (K : List Int → Int) : ∀ (f : Nat) (l : List Int) (p : Nat) (acc ts : List Tok), l.length ≤ f → scan K l p acc = .toks ts → ∃ new, ts = acc ++ new ∧ Chain l p new
  | f, [], p, acc, ts, _, h => by
    rw [scan_nil] at h
    cases h
    exact ⟨[], by simp, Chain.done [] p (Gap.nil _)⟩
  | 0, c :: t, p, acc, ts, hf, h => by simp at hf
  | f + 1, c :: t, p, acc, ts, hf, h => by
    simp only [List.length_cons] at hf
    rw [scan_cons] at h
    split at h
    · rename_i hb
      obtain ⟨new, e, hc⟩ := scanF_chain K f t _ _ _ (by omega) h
      exact ⟨new, e, Chain.gap (Gap.blank c t 0 hb (Gap.nil _)) (by simpa using hc)⟩
    · split at h
      · cases h
      · rename_i k hk
        have := cmAt_long hk
        obtain ⟨new, e, hc⟩ := scanF_chain K f _ _ _ _ (by simp only [List.length_drop, List.length_cons]; omega) h
        exact ⟨new, e, Chain.gap (by simpa using Gap.comment _ k 0 hk (Gap.nil _)) hc⟩
      · split at h
        · split at h
          · cases h
          · split at h <;> cases h
        · rename_i k n v hk
          have hn := one_len hk
          split at h
          · cases h
          · obtain ⟨new, e, hc⟩ := scanF_chain K f _ _ _ _ (by simp only [List.length_drop, List.length_cons]; omega) h
            refine ⟨(k, (p : Int), ((p + n : Nat) : Int), v) :: new, by rw [e]; simp, ?_⟩
            have := Chain.tok (c :: t) p 0 n k v new (Gap.nil _) hn.1 (by omega) (by simpa using hc)
            simpa using this
theorem scan_pos {K : List Int → Int} {l : List Int} {p : Nat} {a q e v : Int} {ts : List Tok} (h : scan K l p [] = .toks ((a, q, e, v) :: ts)) : (p : Int) ≤ q := by
  obtain ⟨new, he, hc⟩ := scanF_chain K l.length l p [] _ (Nat.le_refl _) h
  rw [List.nil_append] at he
  subst he
  cases hc
  omega
/-- A text that is one token, and nothing else. -/
def Single (K : List Int → Int) (w : List Int) (k v : Int) : Prop := ∃ c t, w = c :: t ∧ isBlank c = false ∧ cmAt w = Cm.no ∧ one K w = .ok (k, w.length, v)
theorem single_of_scan {K : List Int → Int} {w : List Int} {k v : Int} (h : scan K w 0 [] = .toks [(k, 0, (w.length : Int), v)]) : Single K w k v := by
  cases w with
  | nil => rw [scan_nil] at h; cases h
  | cons c t =>
    have h0 := h
    rw [scan_cons] at h
    split at h
    · have := scan_pos h; omega
    · rename_i hb
      split at h
      · cases h
      · rename_i j hj
        have h1 := cmAt_long hj
        have := scan_pos h
        omega
      · rename_i hc
        split at h
        · split at h
          · cases h
          · split at h <;> cases h
        · rename_i k' n v' ho
          split at h
          · cases h
          · obtain ⟨new, he, _⟩ := scanF_chain K _ _ _ _ _ (Nat.le_refl _) h
            simp only [List.nil_append, List.cons_append, List.cons.injEq, Prod.mk.injEq] at he
            obtain ⟨⟨rfl, _, he2, rfl⟩, _⟩ := he
            have hn : (c :: t).length = n := by omega
            refine ⟨c, t, rfl, by simpa using hb, hc, by rw [ho, hn]⟩
theorem runLen_append (f : Int → Bool) : ∀ (l r : List Int), runLen f l = l.length → (∀ b t, r = b :: t → f b = false) → runLen f (l ++ r) = l.length
  | [], r, _, hr => by
    cases r with
    | nil => rfl
    | cons b t => rw [List.nil_append, runLen_cons, if_neg (by rw [hr b t rfl]; simp)]; rfl
  | c :: l, r, h, hr => by
    rw [runLen_cons] at h
    split at h
    · rename_i hc
      rw [List.cons_append, runLen_cons, if_pos hc, runLen_append f l r (by simpa using h) hr, List.length_cons]
    · simp at h
theorem blank_word {b : Int} (h : isBlank b = true) : isWord b = false ∧ isDigit b = false := by
  unfold isBlank at h
  simp only [Bool.or_eq_true, beq_iff_eq] at h
  rcases h with ((rfl | rfl) | rfl) | rfl <;> decide
theorem Single.scan {K : List Int → Int} (hK : ∀ c d, isBlank d = true → K [c, d] = 0) {w : List Int} {k v : Int} (h : Single K w k v) {r : List Int} (hr : ∀ b t, r = b :: t → isBlank b = true) (p : Nat) (acc : List Tok) :
    Sc.scan K (w ++ r) p acc = if acc.length = 16384 then .bad p 35 else Sc.scan K r (p + w.length) (acc ++ [(k, (p : Int), ((p + w.length : Nat) : Int), v)]) := by
  obtain ⟨c, t, rfl, hb, hc, ho⟩ := h
  have hcm : cmAt (c :: t ++ r) = .no := by
    cases t with
    | nil =>
      cases r with
      | nil => rfl
      | cons b r =>
        have hbl := hr b r rfl
        have h1 : b ≠ 47 := by rintro rfl; cases hbl
        have h2 : b ≠ 42 := by rintro rfl; cases hbl
        show cmAt (c :: b :: r) = .no
        rw [cmAt_two, if_neg (fun h => h1 h.2), if_neg (fun h => h2 h.2)]
    | cons d t =>
      show cmAt (c :: d :: (t ++ r)) = .no
      rw [cmAt_two] at hc ⊢
      split at hc
      · cases hc
      · rename_i h1
        rw [if_neg h1]
        split at hc
        · split at hc <;> cases hc
        · rename_i h2
          rw [if_neg h2]
  have hrW : ∀ b t, r = b :: t → isWord b = false := fun b t e => (blank_word (hr b t e)).1
  have hrD : ∀ b t, r = b :: t → isDigit b = false := fun b t e => (blank_word (hr b t e)).2
  have ho' : one K (c :: t ++ r) = .ok (k, (c :: t).length, v) := by
    rw [List.cons_append]
    unfold one at ho ⊢
    simp only at ho ⊢
    split at ho
    · rename_i hl
      rw [if_pos hl]
      have hlen : runLen isWord (c :: t) = (c :: t).length := by
        split at ho
        · split at ho
          · cases ho
          · simp only [Except.ok.injEq, Prod.mk.injEq] at ho; exact ho.2.1
        · simp only [Except.ok.injEq, Prod.mk.injEq] at ho; exact ho.2.1
      have h2 := runLen_append isWord (c :: t) r hlen hrW
      rw [List.cons_append] at h2
      rw [h2, ← List.cons_append, List.take_left]
      rw [hlen, List.take_length] at ho
      exact ho
    · rename_i hl
      rw [if_neg hl]
      split at ho
      · rename_i hd
        rw [if_pos hd]
        have hlen : runLen isDigit (c :: t) = (c :: t).length := by
          split at ho
          · cases ho
          · simp only [Except.ok.injEq, Prod.mk.injEq] at ho; exact ho.2.1
        have h2 := runLen_append isDigit (c :: t) r hlen hrD
        rw [List.cons_append] at h2
        rw [h2, ← List.cons_append, List.take_left]
        rw [hlen, List.take_length] at ho
        exact ho
      · rename_i hd
        rw [if_neg hd]
        split at ho
        · rename_i h2
          simp only [Except.ok.injEq, Prod.mk.injEq] at ho
          obtain ⟨e1, e2, e3⟩ := ho
          have e4 : (c :: (t ++ r)).take 2 = (c :: t).take 2 := by
            rw [← List.cons_append, e2, List.take_left, List.take_length]
          rw [e4, if_pos ⟨by rw [← List.cons_append, List.length_append]; omega, h2.2⟩, e1, e2, e3]
        · rename_i h2
          split at ho
          · rename_i h3
            simp only [Except.ok.injEq, Prod.mk.injEq] at ho
            obtain ⟨e1, e2, e3⟩ := ho
            have ht : t = [] := by
              have : t.length = 0 := by simp only [List.length_cons] at e2; omega
              exact List.eq_nil_of_length_eq_zero this
            subst ht
            have e5 : (c :: ([] ++ r)).take 1 = [c] := rfl
            rw [if_neg, e5, if_pos (show K [c] ≠ 0 from h3), show K [c] = k from e1, ← e2, e3]
            · rintro ⟨hlen, hk⟩
              cases r with
              | nil => simp at hlen
              | cons b r => exact hk (hK c b (hr b r rfl))
          · cases ho
  rw [List.cons_append] at hcm ho' ⊢
  rw [scan_cons, if_neg (by rw [hb]; simp), hcm]
  simp only
  rw [ho']
  simp only
  rw [← List.cons_append, List.drop_left]

/-- A gap as it may be written: blanks and comments whatever follows, with a blank at its front. -/
def IsGap (g : List Int) : Prop := (∀ l, Gap (g ++ l) g.length) ∧ ∃ b t, g = b :: t ∧ isBlank b = true
/-- Pieces: a gap, a text, its kind, its number. -/
abbrev Pc := List Int × List Int × Int × Int
def flat : List Pc → List Int
  | [] => []
  | x :: l => x.1 ++ (x.2.1 ++ flat l)
theorem flat_cons (x : Pc) (l : List Pc) : flat (x :: l) = x.1 ++ (x.2.1 ++ flat l) := rfl
def toksOf : Nat → List Pc → List Tok
  | _, [] => []
  | p, x :: l => (x.2.2.1, ((p + x.1.length : Nat) : Int), ((p + x.1.length + x.2.1.length : Nat) : Int), x.2.2.2) :: toksOf (p + x.1.length + x.2.1.length) l
theorem flat_head {K : List Int → Int} : ∀ {l : List Pc}, (∀ x ∈ l, IsGap x.1 ∧ Single K x.2.1 x.2.2.1 x.2.2.2) → ∀ b t, flat l = b :: t → isBlank b = true
  | [], _, b, t, h => by cases h
  | x :: l, hl, b, t, h => by
    obtain ⟨⟨_, b', t', e, hb⟩, _⟩ := hl x (List.mem_cons_self ..)
    rw [flat_cons, e, List.cons_append] at h
    cases h
    exact hb
theorem scan_flat {K : List Int → Int} (hK : ∀ c d, isBlank d = true → K [c, d] = 0) : ∀ (l : List Pc) (p : Nat) (acc : List Tok), (∀ x ∈ l, IsGap x.1 ∧ Single K x.2.1 x.2.2.1 x.2.2.2) → acc.length ≤ 16384 →
    (acc.length + l.length ≤ 16384 → Sc.scan K (flat l) p acc = .toks (acc ++ toksOf p l)) ∧ (16384 < acc.length + l.length → ∃ q, Sc.scan K (flat l) p acc = .bad q 35)
  | [], p, acc, hl, ha => ⟨fun _ => by simp [flat, toksOf, scan_nil], fun h => by simp at h; omega⟩
  | x :: l, p, acc, hl, ha => by
    obtain ⟨⟨hg, _⟩, hs⟩ := hl x (List.mem_cons_self ..)
    have hl' := fun y hy => hl y (List.mem_cons_of_mem _ hy)
    have e1 : Sc.scan K (flat (x :: l)) p acc = Sc.scan K (x.2.1 ++ flat l) (p + x.1.length) acc := by
      rw [flat_cons, (hg _).scan, List.drop_left]
    rw [e1, hs.scan hK (flat_head hl')]
    by_cases h : acc.length = 16384
    · rw [if_pos h]
      exact ⟨fun h' => by simp only [List.length_cons] at h'; omega, fun _ => ⟨_, rfl⟩⟩
    · rw [if_neg h]
      have ih := scan_flat hK l (p + x.1.length + x.2.1.length) (acc ++ [(x.2.2.1, ((p + x.1.length : Nat) : Int), ((p + x.1.length + x.2.1.length : Nat) : Int), x.2.2.2)]) hl' (by simp; omega)
      simp only [List.length_append, List.length_cons, List.length_nil, List.append_assoc, List.cons_append, List.nil_append] at ih ⊢
      exact ⟨fun h' => ih.1 (by omega), fun h' => ih.2 (by omega)⟩
end Go.Proofs.YteaegfkgnmfleaaDoor.Sc

