/- This claim's own texts, joined, with only what the claim uses: SizA, SizB, BlkA. -/
import Derived.Test.YtgaoapnaplgaiaaGreatDoorZf39
import Derived.Test.YtgaoapnaplgaiaaGreatDoorZf31
import Derived.Test.YtgaoapnaplgaiaaGreatDoorZf34
namespace Go.Proofs.YtgaoapnaplgaiaaGreatDoor.Sc
def Szd {α : Type} (S : Rd α) (sz : α → Nat) (e : Nat) : Prop := ∀ a d x a' d', S a d = .ok x a' d' → sz x + e + a ≤ a'
theorem want_sz {c : Ctx} {k : Int} (hk : 1 ≤ k) {a a' : Nat} {d d' : Int} {t : Tok} (h : wantS c k a d = .ok t a' d') : a' = a + 1 := (want_ok hk h).2.1
theorem take_sz {c : Ctx} {k : Int} (hk : 1 ≤ k) {a a' : Nat} {d d' : Int} {b : Bool} (h : takeS c k a d = .ok b a' d') : a' = a + b.toNat := by
  unfold takeS at h
  split at h
  · obtain ⟨x, a1, d1, h1, h2⟩ := bind_ok h
    cases h2
    exact want_sz hk h1
  · cases h; rfl
theorem name_sz {c : Ctx} {a a' : Nat} {d d' : Int} {s : ByteArray} (h : nameS c a d = .ok s a' d') : a' = a + 1 := by
  unfold nameS at h
  obtain ⟨x, a1, d1, h1, h2⟩ := bind_ok h
  cases h2
  exact want_sz (by omega) h1
theorem exSzs_app : ∀ (l r : List Ex), exSzs (l ++ r) = exSzs l + exSzs r
  | [], r => by simp [exSzs, exSz.exSzs]
  | x :: l, r => by
    have := exSzs_app l r
    simp only [exSzs, List.cons_append, exSz.exSzs] at this ⊢
    omega
theorem exSzs_one (x : Ex) : exSzs [x] = exSz x := by simp [exSzs, exSz.exSzs]
theorem exSzs_two (x y : Ex) : exSzs [x, y] = exSz x + exSz y := by simp [exSzs, exSz.exSzs]
theorem exSzs_nil : exSzs [] = 0 := by simp [exSzs, exSz.exSzs]
theorem leftLoop_sz {c : Ctx} {next : Rd Ex} {rank : Int} {once : Bool} (hn : Szd next exSz 0) : ∀ (f : Nat) (e : Ex) (a : Nat) (d : Int) (x : Ex) (a' : Nat) (d' : Int), leftLoop c next rank once f e a d = .ok x a' d' → exSz x + a ≤ a' + exSz e
  | 0, e, a, d, x, a', d', h => by rw [leftLoop] at h; cases h
  | f + 1, e, a, d, x, a', d', h => by
    rw [leftLoop] at h
    split at h
    · cases h; omega
    · obtain ⟨e2, a2, d2, h1, h2⟩ := bind_ok h
      have := hn _ _ _ _ _ h1
      split at h2
      · cases h2
        rw [exSz_mk, exSzs_two]
        omega
      · have h3 := leftLoop_sz hn f _ _ _ _ _ _ h2
        rw [exSz_mk, exSzs_two] at h3
        omega
theorem leftS_sz {c : Ctx} {next : Rd Ex} {rank : Int} {once : Bool} (hn : Szd next exSz 0) : Szd (leftS c next rank once) exSz 0 := by
  intro a d x a' d' h
  unfold leftS at h
  obtain ⟨e, a1, d1, h1, h2⟩ := bind_ok h
  have := hn _ _ _ _ _ h1
  have := leftLoop_sz hn _ _ _ _ _ _ _ h2
  omega
theorem exprOf_sz {c : Ctx} {un : Rd Ex} (hn : Szd un exSz 0) : Szd (exprOf c un) exSz 0 := leftS_sz (leftS_sz (leftS_sz (leftS_sz (leftS_sz hn))))
theorem parensS_sz {c : Ctx} {ex : Rd Ex} (hn : Szd ex exSz 0) : Szd (parensS c ex) exSz 2 := by
  intro a d x a' d' h
  unfold parensS at h
  obtain ⟨_, a1, d1, h1, h⟩ := bind_ok h
  obtain ⟨e, a2, d2, h2, h⟩ := bind_ok h
  obtain ⟨_, a3, d3, h3, h⟩ := bind_ok h
  cases h
  have := want_sz (by omega) h1
  have := hn _ _ _ _ _ h2
  have := want_sz (by omega) h3
  omega
theorem argsS_sz {c : Ctx} {ex : Rd Ex} (hn : Szd ex exSz 0) : ∀ (n i : Nat) (l : List Ex) (a : Nat) (d : Int) (x : List Ex) (a' : Nat) (d' : Int), argsS c ex n i l a d = .ok x a' d' → exSzs x + a ≤ a' + exSzs l
  | 0, i, l, a, d, x, a', d', h => by rw [argsS] at h; cases h; omega
  | n + 1, i, l, a, d, x, a', d', h => by
    rw [argsS] at h
    obtain ⟨_, a1, d1, h1, h⟩ := bind_ok h
    obtain ⟨e, a2, d2, h2, h⟩ := bind_ok h
    have h3 := argsS_sz hn n _ _ _ _ _ _ _ h
    have := hn _ _ _ _ _ h2
    rw [exSzs_app, exSzs_one] at h3
    have : a ≤ a1 := by
      split at h1
      · cases h1; omega
      · obtain ⟨_, a4, d4, h5, h6⟩ := bind_ok h1
        cases h6
        have := want_sz (by omega) h5
        omega
    omega
theorem callS_sz {c : Ctx} {ex : Rd Ex} {op : Int} {n : Nat} (hn : Szd ex exSz 0) : Szd (callS c ex op n) exSz 0 := by
  intro a d x a' d' h
  unfold callS at h
  obtain ⟨_, a1, d1, h1, h⟩ := bind_ok h
  obtain ⟨l, a2, d2, h2, h⟩ := bind_ok h
  obtain ⟨_, a3, d3, h3, h⟩ := bind_ok h
  cases h
  have := want_sz (by omega) h1
  have h5 := argsS_sz hn _ _ _ _ _ _ _ _ h2
  have := want_sz (by omega) h3
  rw [exSzs_nil] at h5
  rw [exSz_mk]
  omega
theorem nmS_sz {c : Ctx} {ex : Rd Ex} (hn : Szd ex exSz 0) : Szd (nmS c ex) exSz 0 := by
  intro a d x a' d' h
  unfold nmS at h
  obtain ⟨s, a1, d1, h1, h⟩ := bind_ok h
  obtain ⟨b, a2, d2, h2, h⟩ := bind_ok h
  have := name_sz h1
  have := take_sz (by omega) h2
  split at h
  · obtain ⟨e, a3, d3, h3, h⟩ := bind_ok h
    obtain ⟨_, a4, d4, h4, h⟩ := bind_ok h
    cases h
    have := hn _ _ _ _ _ h3
    have := want_sz (by omega) h4
    rw [exSz_mk, exSzs_one]
    omega
  · cases h
    rw [exSz_mk, exSzs_nil]
    omega
theorem primaryS_sz {c : Ctx} {ex : Rd Ex} (hn : Szd ex exSz 0) : Szd (primaryS c ex) exSz 0 := by
  intro a d x a' d' h
  unfold primaryS at h
  split at h
  · obtain ⟨t, a1, d1, h1, h⟩ := bind_ok h
    cases h
    have := want_sz (by omega) h1
    rw [exSz_mk, exSzs_nil]
    omega
  · repeat' split at h
    all_goals first
      | exact nmS_sz hn _ _ _ _ _ h
      | exact callS_sz hn _ _ _ _ _ h
      | (have := parensS_sz hn _ _ _ _ _ h; omega)
theorem negS_sz {c : Ctx} {un : Rd Ex} {op : Int} (hn : Szd un exSz 0) : Szd (negS c un op) exSz 0 := by
  intro a d x a' d' h
  rw [neg_eq] at h
  split at h
  · cases h
  · obtain ⟨e, a2, d2, h2, h⟩ := bind_ok h
    cases h
    have := hn _ _ _ _ _ h2
    rw [exSz_mk, exSzs_one]
    omega
theorem unaryS_sz {c : Ctx} : ∀ f, Szd (unaryS c f) exSz 0
  | 0 => fun a d x a' d' h => by rw [unaryS] at h; cases h
  | f + 1 => fun a d x a' d' h => by
    rw [unaryS] at h
    split at h
    · exact negS_sz (unaryS_sz f) _ _ _ _ _ h
    · split at h
      · exact negS_sz (unaryS_sz f) _ _ _ _ _ h
      · exact primaryS_sz (exprOf_sz (unaryS_sz f)) _ _ _ _ _ h
theorem exprS_sz {c : Ctx} : Szd (exprS c) exSz 0 := exprOf_sz (unaryS_sz _)
theorem constant_sz {c : Ctx} {a a' : Nat} {d d' : Int} {s : Con} (h : constantS c a d = .ok s a' d') : a + 1 ≤ a' := by
  unfold constantS at h
  split at h
  · obtain ⟨x, a1, d1, h1, h⟩ := bind_ok h
    cases h
    have := name_sz h1
    omega
  · obtain ⟨b, a1, d1, h1, h⟩ := bind_ok h
    obtain ⟨t, a2, d2, h2, h⟩ := bind_ok h
    cases h
    have := take_sz (by omega) h1
    have := want_sz (by omega) h2
    omega
theorem stSzs_app : ∀ (l r : List Stm), stSzs (l ++ r) = stSzs l + stSzs r
  | [], r => by rw [stSzs, List.nil_append]; omega
  | x :: l, r => by rw [List.cons_append, stSzs, stSzs, stSzs_app l r]; omega
theorem bkSz_app : ∀ (l r : List (List Stm)), bkSz (l ++ r) = bkSz l + bkSz r
  | [], r => by rw [bkSz, List.nil_append]; omega
  | x :: l, r => by rw [List.cons_append, bkSz, bkSz, bkSz_app l r]; omega
theorem stSzs_one (x : Stm) : stSzs [x] = stSz x := by rw [stSzs, stSzs]; omega
theorem bkSz_one (x : List Stm) : bkSz [x] = 1 + stSzs x := by rw [bkSz, bkSz]; omega
theorem bkSz_two (x y : List Stm) : bkSz [x, y] = 2 + stSzs x + stSzs y := by rw [bkSz, bkSz, bkSz]; omega
theorem bkSz_nil : bkSz [] = 0 := by rw [bkSz]
theorem stSzs_nil : stSzs [] = 0 := by rw [stSzs]
theorem assignS_sz {c : Ctx} {ex : Rd Ex} (hn : Szd ex exSz 0) : Szd (assignS c ex) (fun q => exSzs q.2.2.2) 1 := by
  intro a d x a' d' h
  unfold assignS at h
  obtain ⟨s, a1, d1, h1, h⟩ := bind_ok h
  obtain ⟨b, a2, d2, h2, h⟩ := bind_ok h
  have := name_sz h1
  have := take_sz (by omega) h2
  split at h
  · obtain ⟨i, a3, d3, h3, h⟩ := bind_ok h
    obtain ⟨_, a4, d4, h4, h⟩ := bind_ok h
    obtain ⟨_, a5, d5, h5, h⟩ := bind_ok h
    obtain ⟨y, a6, d6, h6, h⟩ := bind_ok h
    cases h
    have := hn _ _ _ _ _ h3
    have := want_sz (by omega) h4
    have := want_sz (by omega) h5
    have := hn _ _ _ _ _ h6
    simp only [exSzs_two]
    omega
  · obtain ⟨_, a3, d3, h3, h⟩ := bind_ok h
    obtain ⟨r, a4, d4, h4, h⟩ := bind_ok h
    have := want_sz (by omega) h3
    have := take_sz (by omega) h4
    split at h
    · obtain ⟨t, a5, d5, h5, h⟩ := bind_ok h
      cases h
      have := name_sz h5
      simp only [exSzs_nil]
      omega
    · obtain ⟨y, a5, d5, h5, h⟩ := bind_ok h
      cases h
      have := hn _ _ _ _ _ h5
      simp only [exSzs_one]
      omega
theorem blockLoop_sz {c : Ctx} {st : Rd Stm} (hn : Szd st stSz 0) : ∀ (f : Nat) (l : List Stm) (a : Nat) (d : Int) (x : List Stm) (a' : Nat) (d' : Int), blockLoop c st f l a d = .ok x a' d' → stSzs x + a ≤ a' + stSzs l
  | 0, l, a, d, x, a', d', h => by rw [blockLoop] at h; cases h
  | f + 1, l, a, d, x, a', d', h => by
    rw [blockLoop] at h
    split at h
    · cases h; omega
    · obtain ⟨s, a1, d1, h1, h⟩ := bind_ok h
      have := hn _ _ _ _ _ h1
      have h3 := blockLoop_sz hn f _ _ _ _ _ _ h
      rw [stSzs_app, stSzs_one] at h3
      omega
theorem blockS_sz {c : Ctx} {st : Rd Stm} (hn : Szd st stSz 0) : Szd (blockS c st) stSzs 2 := by
  intro a d x a' d' h
  unfold blockS at h
  obtain ⟨_, a1, d1, h1, h⟩ := bind_ok h
  obtain ⟨l, a2, d2, h2, h⟩ := bind_ok h
  obtain ⟨_, a3, d3, h3, h⟩ := bind_ok h
  cases h
  have := want_sz (by omega) h1
  have h5 := blockLoop_sz hn _ _ _ _ _ _ _ h2
  have := want_sz (by omega) h3
  rw [stSzs_nil] at h5
  omega
theorem branchS_sz {c : Ctx} {ex : Rd Ex} {blk : Rd (List Stm)} (hE : Szd ex exSz 0) (hB : Szd blk stSzs 2) : ∀ f, Szd (branchS c ex blk f) stSz 0
  | 0 => fun a d x a' d' h => by rw [branchS] at h; cases h
  | f + 1 => fun a d x a' d' h => by
    rw [branchS] at h
    obtain ⟨_, a1, d1, h1, h⟩ := bind_ok h
    obtain ⟨e, a2, d2, h2, h⟩ := bind_ok h
    obtain ⟨b, a3, d3, h3, h⟩ := bind_ok h
    obtain ⟨el, a4, d4, h4, h⟩ := bind_ok h
    have := want_sz (by omega) h1
    have := parensS_sz hE _ _ _ _ _ h2
    have := hB _ _ _ _ _ h3
    have := take_sz (by omega) h4
    split at h
    · split at h
      · obtain ⟨s, a5, d5, h5, h⟩ := bind_ok h
        cases h
        have := branchS_sz hE hB f _ _ _ _ _ h5
        rename_i hel _
        rw [hel] at *
        rw [stSz, exSzs_one, bkSz_two, stSzs_one]
        simp only [List.length_nil]
        omega
      · obtain ⟨s, a5, d5, h5, h⟩ := bind_ok h
        cases h
        have := hB _ _ _ _ _ h5
        rw [stSz, exSzs_one, bkSz_two]
        simp only [List.length_nil]
        omega
    · cases h
      rw [stSz, exSzs_one, bkSz_one]
      simp only [List.length_nil]
      omega
theorem caseLoop_sz {c : Ctx} {blk : Rd (List Stm)} (hB : Szd blk stSzs 2) : ∀ (f : Nat) (cs : List Con) (bs : List (List Stm)) (a : Nat) (d : Int) (x : Cas) (a' : Nat) (d' : Int), caseLoop c blk f cs bs a d = .ok x a' d' → x.1.length + bkSz x.2 + a ≤ a' + cs.length + bkSz bs
  | 0, cs, bs, a, d, x, a', d', h => by rw [caseLoop] at h; cases h
  | f + 1, cs, bs, a, d, x, a', d', h => by
    rw [caseLoop] at h
    obtain ⟨b, a1, d1, h1, h⟩ := bind_ok h
    have := take_sz (by omega) h1
    split at h
    · obtain ⟨k, a2, d2, h2, h⟩ := bind_ok h
      obtain ⟨_, a3, d3, h3, h⟩ := bind_ok h
      obtain ⟨l, a4, d4, h4, h⟩ := bind_ok h
      have := constant_sz h2
      have := want_sz (by omega) h3
      have := hB _ _ _ _ _ h4
      have h9 := caseLoop_sz hB f _ _ _ _ _ _ _ h
      rw [bkSz_app, bkSz_one, List.length_append] at h9
      simp only [List.length_cons, List.length_nil] at h9
      omega
    · cases h; dsimp only; omega
theorem dfltS_sz {c : Ctx} {blk : Rd (List Stm)} (hB : Szd blk stSzs 2) (bs : List (List Stm)) (a : Nat) (d : Int) (x : List (List Stm)) (a' : Nat) (d' : Int) (h : dfltS c blk bs a d = .ok x a' d') : bkSz x + a ≤ a' + bkSz bs := by
  unfold dfltS at h
  obtain ⟨b, a1, d1, h1, h⟩ := bind_ok h
  have := take_sz (by omega) h1
  split at h
  · obtain ⟨_, a2, d2, h2, h⟩ := bind_ok h
    obtain ⟨l, a3, d3, h3, h⟩ := bind_ok h
    cases h
    have := want_sz (by omega) h2
    have := hB _ _ _ _ _ h3
    rw [bkSz_app, bkSz_one]
    omega
  · cases h; omega
theorem choiceS_sz {c : Ctx} {ex : Rd Ex} {blk : Rd (List Stm)} (hE : Szd ex exSz 0) (hB : Szd blk stSzs 2) : Szd (choiceS c ex blk) stSz 0 := by
  intro a d x a' d' h
  unfold choiceS at h
  obtain ⟨e, a1, d1, h1, h⟩ := bind_ok h
  obtain ⟨_, a2, d2, h2, h⟩ := bind_ok h
  obtain ⟨cb, a3, d3, h3, h⟩ := bind_ok h
  obtain ⟨bs, a4, d4, h4, h⟩ := bind_ok h
  obtain ⟨_, a5, d5, h5, h⟩ := bind_ok h
  cases h
  have := parensS_sz hE _ _ _ _ _ h1
  have := want_sz (by omega) h2
  have h6 := caseLoop_sz hB _ _ _ _ _ _ _ _ h3
  have := dfltS_sz hB _ _ _ _ _ _ h4
  have := want_sz (by omega) h5
  rw [bkSz_nil, List.length_nil] at h6
  rw [stSz, exSzs_one]
  omega
theorem stmtOf_sz {c : Ctx} {ex : Rd Ex} {blk : Rd (List Stm)} (hE : Szd ex exSz 0) (hB : Szd blk stSzs 2) : Szd (stmtOf c ex blk) stSz 0 := by
  intro a d x a' d' h
  unfold stmtOf at h
  split at h
  · unfold asgS at h
    obtain ⟨q, a1, d1, h1, h⟩ := bind_ok h
    obtain ⟨_, a2, d2, h2, h⟩ := bind_ok h
    cases h
    have h8 := assignS_sz hE _ _ _ _ _ h1
    dsimp only at h8
    have := want_sz (by omega) h2
    rw [stSz, bkSz_nil, List.length_nil]
    omega
  split at h
  · exact branchS_sz hE hB _ _ _ _ _ _ h
  split at h
  · unfold whileS at h
    obtain ⟨e, a1, d1, h1, h⟩ := bind_ok h
    obtain ⟨b, a2, d2, h2, h⟩ := bind_ok h
    cases h
    have := parensS_sz hE _ _ _ _ _ h1
    have := hB _ _ _ _ _ h2
    rw [stSz, bkSz_one, exSzs_one, List.length_nil]
    omega
  split at h
  · exact choiceS_sz hE hB _ _ _ _ _ h
  split at h
  · unfold callStS at h
    obtain ⟨s, a1, d1, h1, h⟩ := bind_ok h
    obtain ⟨_, a2, d2, h2, h⟩ := bind_ok h
    cases h
    have := name_sz h1
    have := want_sz (by omega) h2
    rw [stSz, bkSz_nil, exSzs_nil, List.length_nil]
    omega
  split at h
  · unfold assertS at h
    obtain ⟨e, a1, d1, h1, h⟩ := bind_ok h
    obtain ⟨_, a2, d2, h2, h⟩ := bind_ok h
    cases h
    have := parensS_sz hE _ _ _ _ _ h1
    have := want_sz (by omega) h2
    rw [stSz, bkSz_nil, exSzs_one, List.length_nil]
    omega
  · unfold skipS at h
    obtain ⟨_, a1, d1, h1, h⟩ := bind_ok h
    obtain ⟨_, a2, d2, h2, h⟩ := bind_ok h
    cases h
    have := want_sz (by omega) h1
    have := want_sz (by omega) h2
    rw [stSz, bkSz_nil, exSzs_nil, List.length_nil]
    omega
theorem stmtS_sz {c : Ctx} : ∀ f, Szd (stmtS c f) stSz 0
  | 0 => fun a d x a' d' h => by rw [stmtS] at h; cases h
  | f + 1 => fun a d x a' d' h => by
    rw [stmtS] at h
    exact stmtOf_sz exprS_sz (blockS_sz (stmtS_sz f)) _ _ _ _ _ h
theorem blkS_sz {c : Ctx} : Szd (blkS c) stSzs 2 := blockS_sz (stmtS_sz _)
theorem declsLoop_sz {c : Ctx} : ∀ (f : Nat) (l : List Dec) (a : Nat) (d : Int) (x : List Dec) (a' : Nat) (d' : Int), a ≤ c.L.length → declsLoop c f l a d = .ok x a' d' → x.length + a ≤ a' + l.length ∧ a' ≤ c.L.length
  | 0, l, a, d, x, a', d', _, h => by rw [declsLoop] at h; cases h
  | f + 1, l, a, d, x, a', d', hl, h => by
    rw [declsLoop] at h
    obtain ⟨y, a1, d1, h1, h⟩ := bind_ok h
    obtain ⟨q1, q2, _, q4⟩ := declS_fine hl h1
    split at h
    · rename_i hy
      have h9 := declsLoop_sz f _ _ _ _ _ _ q2 h
      rw [List.length_append] at h9
      simp only [List.length_cons, List.length_nil] at h9
      have := q4 hy
      omega
    · cases h; omega
theorem procsLoop_sz {c : Ctx} : ∀ (f : Nat) (l : List Prc) (a : Nat) (d : Int) (x : List Prc) (a' : Nat) (d' : Int), procsLoop c f l a d = .ok x a' d' → a ≤ a' ∧ x.length + a ≤ a' + l.length ∧ ∀ p ∈ x, p ∈ l ∨ stSzs p.body ≤ a'
  | 0, l, a, d, x, a', d', h => by rw [procsLoop] at h; cases h
  | f + 1, l, a, d, x, a', d', h => by
    rw [procsLoop] at h
    split at h
    · obtain ⟨s, a1, d1, h1, h⟩ := bind_ok h
      obtain ⟨b, a2, d2, h2, h⟩ := bind_ok h
      have := name_sz h1
      have := blkS_sz _ _ _ _ _ h2
      obtain ⟨r0, r1, r2⟩ := procsLoop_sz f _ _ _ _ _ _ h
      rw [List.length_append] at r1
      simp only [List.length_cons, List.length_nil] at r1
      refine ⟨by omega, by omega, fun p hp => ?_⟩
      rcases r2 p hp with h | h
      · rcases List.mem_append.1 h with h | h
        · exact .inl h
        · obtain rfl : p = _ := by simpa using h
          right
          dsimp only
          omega
      · exact .inr h
    · cases h
      exact ⟨Nat.le_refl _, Nat.le_of_eq (Nat.add_comm _ _), fun p hp => .inl hp⟩
/-- What is read is small. -/
theorem few_of {c : Ctx} {t : Tre} {a' : Nat} {d d' : Int} (h : programS c 0 d = .ok t a' d') (hL : c.L.length ≤ 16384) : Few t := by
  have hP : Pair (fun _ => c) 0 := ⟨fun _ _ => rfl, fun _ _ => rfl, fun _ _ => rfl, Nat.zero_le _⟩
  have hs := simProgram hP false d
  unfold Sim at hs
  rw [h] at hs
  dsimp only at hs
  have hlen := hs.2.2.1
  unfold programS at h
  obtain ⟨ds, a1, d1, h1, h⟩ := bind_ok h
  obtain ⟨pr, a2, d2, h2, h⟩ := bind_ok h
  obtain ⟨_, a3, d3, h3, h⟩ := bind_ok h
  obtain ⟨i, a4, d4, h4, h⟩ := bind_ok h
  obtain ⟨_, a5, d5, h5, h⟩ := bind_ok h
  obtain ⟨l, a6, d6, h6, h⟩ := bind_ok h
  have q1 := declsLoop_sz _ _ _ _ _ _ _ (Nat.zero_le _) h1
  obtain ⟨r0, r1, r2⟩ := procsLoop_sz _ _ _ _ _ _ _ h2
  have := want_sz (by omega) h3
  have := blkS_sz _ _ _ _ _ h4
  have := want_sz (by omega) h5
  have := blkS_sz _ _ _ _ _ h6
  simp only [List.length_nil] at q1 r1
  split at h
  · cases h
    refine ⟨?_, ?_, fun x hx => ?_, ?_, ?_⟩
    · dsimp only; omega
    · dsimp only; omega
    · rcases r2 x hx with h | h
      · cases h
      · omega
    · dsimp only; omega
    · dsimp only; omega
  · cases h
/-- What may stand between two tokens. -/
def btw : Nat → List Int
  | 0 => [32]
  | 1 => [10]
  | 2 => [9, 13, 32]
  | 3 => [32, 47, 42, 32, 42, 32, 47, 32, 42, 47]
  | 4 => [32, 47, 47, 32, 120, 10]
  | _ => [32, 47, 42, 42, 47, 32, 47, 42, 32, 10, 32, 42, 47]
theorem btw_gap : ∀ j, IsGap (btw j)
  | 0 => gap0
  | 1 => gap1
  | 2 => ⟨fun l => Gap.blank 9 _ 2 rfl (Gap.blank 13 _ 1 rfl (Gap.blank 32 l 0 rfl (Gap.nil _))), 9, _, rfl, rfl⟩
  | 3 => ⟨fun _ => Gap.blank 32 _ 9 rfl (Gap.comment _ 9 0 rfl (Gap.nil _)), 32, _, rfl, rfl⟩
  | 4 => ⟨fun l => Gap.blank 32 _ 5 rfl (Gap.comment _ 4 1 rfl (Gap.blank 10 l 0 rfl (Gap.nil _))), 32, _, rfl, rfl⟩
  | _ + 5 => ⟨fun _ => Gap.blank 32 _ 12 rfl (Gap.comment _ 4 8 rfl (Gap.blank 32 _ 7 rfl (Gap.comment _ 7 0 rfl (Gap.nil _)))), 32, _, rfl, rfl⟩
theorem btw_len (j : Nat) : (btw j).length ≤ 13 := by
  match j with
  | 0 => decide
  | 1 => decide
  | 2 => decide
  | 3 => decide
  | 4 => decide
  | n + 5 => exact Nat.le_refl 13
theorem IsGap.app {a b : List Int} (ha : IsGap a) (hb : IsGap b) : IsGap (a ++ b) := by
  refine ⟨fun l => ?_, ?_⟩
  · rw [List.length_append, List.append_assoc]
    exact (ha.1 (b ++ l)).trans (by rw [List.drop_left]; exact hb.1 l)
  · obtain ⟨_, x, t, rfl, hx⟩ := ha
    exact ⟨x, t ++ b, rfl, hx⟩
abbrev OkP (pcs : List Pc) : Prop := ∀ x ∈ pcs, IsGap x.1 ∧ Single KB x.2.1 x.2.2.1 x.2.2.2
theorem flat_snoc (x : Pc) : ∀ l : List Pc, flat (l ++ [x]) = flat l ++ (x.1 ++ x.2.1)
  | [] => by simp [flat]
  | y :: l => by rw [List.cons_append, flat_cons, flat_snoc x l, flat_cons]; simp
theorem toksOf_snoc (x : Pc) : ∀ (l : List Pc) (p : Nat), toksOf p (l ++ [x]) = toksOf p l ++ [(x.2.2.1, ((p + (flat l).length + x.1.length : Nat) : Int), ((p + (flat l).length + x.1.length + x.2.1.length : Nat) : Int), x.2.2.2)]
  | [], p => by simp [flat, toksOf]
  | y :: l, p => by
    rw [List.cons_append]
    show _ :: toksOf _ (l ++ [x]) = _ :: (toksOf _ l ++ _)
    rw [toksOf_snoc x l, flat_cons]
    congr 3
    simp only [List.length_append, Prod.mk.injEq, and_true, true_and]
    constructor <;> omega
theorem toksOf_length : ∀ (l : List Pc) (p : Nat), (toksOf p l).length = l.length
  | [], p => rfl
  | y :: l, p => by show (_ :: toksOf _ l).length = _; rw [List.length_cons, toksOf_length l, List.length_cons]
/-- The pieces' tokens, with a gap behind the last one. -/
theorem scan_pieces : ∀ (l : List Pc) (p : Nat) (acc : List Tok) (r : List Int), OkP l → (∀ b t, r = b :: t → isBlank b = true) → acc.length + l.length ≤ 16384 →
    scan KB (flat l ++ r) p acc = scan KB r (p + (flat l).length) (acc ++ toksOf p l)
  | [], p, acc, r, hl, hr, ha => by simp [flat, toksOf]
  | x :: l, p, acc, r, hl, hr, ha => by
    obtain ⟨⟨hg, _⟩, hs⟩ := hl x (List.mem_cons_self ..)
    have hl' : OkP l := fun y hy => hl y (List.mem_cons_of_mem _ hy)
    have hh : ∀ b t, flat l ++ r = b :: t → isBlank b = true := by
      intro b t e
      cases hf : flat l with
      | nil => rw [hf] at e; exact hr b t e
      | cons b' t' =>
        rw [hf, List.cons_append] at e
        cases e
        exact flat_head hl' _ _ hf
    have e1 : scan KB (flat (x :: l) ++ r) p acc = scan KB (x.2.1 ++ (flat l ++ r)) (p + x.1.length) acc := by
      rw [flat_cons, List.append_assoc, List.append_assoc, (hg _).scan, List.drop_left]
    rw [List.length_cons] at ha
    rw [e1, hs.scan KB_blank hh, if_neg (by omega), scan_pieces l _ _ r hl' hr (by rw [List.length_append]; simp; omega)]
    congr 1
    · rw [flat_cons, List.length_append, List.length_append]; omega
    · rw [List.append_assoc]; rfl
/-- .. and all is read. -/
theorem scan_spaced {l : List Pc} {g : List Int} (hl : OkP l) (hg : g = [] ∨ IsGap g) (ha : l.length ≤ 16384) : scan KB (flat l ++ g) 0 [] = .toks (toksOf 0 l) := by
  rw [scan_pieces l 0 [] g hl (fun b t e => by
    rcases hg with rfl | ⟨_, b', t', rfl, hb⟩
    · cases e
    · cases e; exact hb) (by simpa using ha)]
  rw [List.nil_append]
  rcases hg with rfl | ⟨hg, _⟩
  · rw [scan_nil]
  · have := (hg []).scan KB (0 + (flat l).length) (toksOf 0 l)
    rw [List.append_nil] at this
    rw [this, List.drop_length, scan_nil]
/-- A token's text, by itself. -/
def txt (xs : List Int) (t : Tok) : List Int := (xs.drop t.2.1.toNat).take (t.2.2.1 - t.2.1).toNat
/-- The pieces say the tokens of L, with their texts. -/
def Same1 (xs : List Int) (L : List Tok) (l : List Pc) : Prop := ∀ i x, l[i]? = some x → x.2.1 = txt xs (L.getD i zTok) ∧ x.2.2.1 = (L.getD i zTok).1 ∧ x.2.2.2 = (L.getD i zTok).2.2.2
theorem toksOf_at : ∀ (l : List Pc) (p i : Nat) (x : Pc), l[i]? = some x → ∃ q r, (toksOf p l).getD i zTok = (x.2.2.1, ((p + q : Nat) : Int), ((p + q + x.2.1.length : Nat) : Int), x.2.2.2) ∧ (flat l).drop q = x.2.1 ++ r
  | [], p, i, x, h => by simp at h
  | y :: l, p, 0, x, h => by
    simp only [List.getElem?_cons_zero, Option.some.injEq] at h
    subst h
    exact ⟨y.1.length, flat l, rfl, by rw [flat_cons, List.drop_left]⟩
  | y :: l, p, i + 1, x, h => by
    obtain ⟨q, r, h1, h2⟩ := toksOf_at l (p + y.1.length + y.2.1.length) i x (by simpa using h)
    refine ⟨y.1.length + y.2.1.length + q, r, ?_, ?_⟩
    · show (toksOf _ l).getD i zTok = _
      rw [h1, show p + (y.1.length + y.2.1.length + q) = p + y.1.length + y.2.1.length + q by omega]
    · rw [flat_cons, ← List.append_assoc, List.drop_append, List.drop_eq_nil_of_le (by rw [List.length_append]; omega), List.nil_append, List.length_append, show y.1.length + y.2.1.length + q - (y.1.length + y.2.1.length) = q by omega, h2]
/-- Each token's text is one token by itself. -/
theorem scan_single {xs : List Int} {L : List Tok} : ∀ (f : Nat) (l : List Int) (p : Nat) (acc : List Tok), l.length ≤ f → l = xs.drop p → scan KB l p acc = .toks L → ∀ i, acc.length ≤ i → i < L.length →
    Single KB (txt xs (L.getD i zTok)) (L.getD i zTok).1 (L.getD i zTok).2.2.2
  | f, [], p, acc, hf, hx, h, i, ha, hi => by
    rw [scan_nil] at h
    cases h
    omega
  | 0, c :: t, p, acc, hf, hx, h, i, ha, hi => by simp at hf
  | f + 1, c :: t, p, acc, hf, hx, h, i, ha, hi => by
    simp only [List.length_cons] at hf
    rw [scan_cons] at h
    split at h
    · exact scan_single f t (p + 1) acc (by omega) (by rw [← List.drop_drop, ← hx]; rfl) h i ha hi
    · rename_i hb
      split at h
      · cases h
      · rename_i k hk
        have hk2 := cmAt_long hk
        exact scan_single f _ (p + k) acc (by simp only [List.length_drop, List.length_cons]; omega) (by rw [hx, List.drop_drop]) h i ha hi
      · rename_i hc
        split at h
        · split at h
          · cases h
          · split at h <;> cases h
        · rename_i k n v ho
          have hn := one_len ho
          split at h
          · cases h
          · rcases Nat.eq_or_lt_of_le ha with hai | hai
            · obtain ⟨new, rfl, hch⟩ := scan_new h
              have hg : (acc ++ [(k, (p : Int), ((p + n : Nat) : Int), v)] ++ new).getD i zTok = (k, (p : Int), ((p + n : Nat) : Int), v) := by
                rw [← hai, List.append_assoc, List.getD_eq_getElem?_getD, List.getElem?_append_right (Nat.le_refl _)]
                simp
              rw [hg]
              unfold txt
              dsimp only
              rw [Int.toNat_natCast, ← hx, show (((p + n : Nat) : Int) - (p : Int)).toNat = n by omega]
              exact one_single (by simpa using hb) hc ho
            · exact scan_single f _ (p + n) _ (by simp only [List.length_drop, List.length_cons]; omega) (by rw [hx, List.drop_drop]) h i (by rw [List.length_append]; simp; omega) hi
theorem toks_single {xs : List Int} {L : List Tok} (h : scan KB xs 0 [] = .toks L) {i : Nat} (hi : i < L.length) : Single KB (txt xs (L.getD i zTok)) (L.getD i zTok).1 (L.getD i zTok).2.2.2 :=
  scan_single xs.length xs 0 [] (Nat.le_refl _) rfl h i (Nat.zero_le _) hi
/-- The two contexts are alike as far as there are tokens. -/
theorem blk_pair {c c2 : Ctx} {l : List Pc} {g : List Int} (hS : Same1 c.xs c.L l) (hl : l.length = c.L.length) (hx : c2.xs = flat l ++ g) (hL : c2.L = toksOf 0 l) : Pair (fun t => if t then c2 else c) c.L.length := by
  have hlen : c2.L.length = c.L.length := by rw [hL, toksOf_length, hl]
  have hout : ∀ i, c.L.length ≤ i → c2.L.getD i zTok = zTok ∧ c.L.getD i zTok = zTok := fun i hi => by
    rw [List.getD_eq_getElem?_getD, List.getD_eq_getElem?_getD, List.getElem?_eq_none (by omega), List.getElem?_eq_none hi]
    exact ⟨rfl, rfl⟩
  have hin : ∀ i, i < c.L.length → ∃ q : Nat, (c2.L.getD i zTok).1 = (c.L.getD i zTok).1 ∧ (c2.L.getD i zTok).2.2.2 = (c.L.getD i zTok).2.2.2 ∧ textS c2 (c2.L.getD i zTok) = textS c (c.L.getD i zTok) := fun i hi => by
    obtain ⟨x, hxi⟩ : ∃ x, l[i]? = some x := ⟨l[i]'(by omega), List.getElem?_eq_getElem _⟩
    obtain ⟨s1, s2, s3⟩ := hS i x hxi
    obtain ⟨q, r, h1, h2⟩ := toksOf_at l 0 i x hxi
    refine ⟨q, ?_, ?_, ?_⟩
    · rw [hL, h1]; exact s2
    · rw [hL, h1]; exact s3
    · rw [hL, h1]
      unfold textS
      dsimp only
      rw [Nat.zero_add, Int.toNat_natCast, show (((q + x.2.1.length : Nat) : Int) - (q : Int)).toNat = x.2.1.length by omega, hx]
      congr 1
      have hq : q + x.2.1.length ≤ (flat l).length ∨ x.2.1.length = 0 := by
        have := congrArg List.length h2
        rw [List.length_drop, List.length_append] at this
        omega
      have e1 : (flat l ++ g).drop q = x.2.1 ++ r ++ (if q ≤ (flat l).length then g else (flat l ++ g).drop q) := by
        rw [List.drop_append, h2]
        split
        · rename_i hle
          rw [show q - (flat l).length = 0 by omega]; rfl
        · rename_i hle
          have : x.2.1 ++ r = [] := by rw [← h2]; exact List.drop_eq_nil_of_le (by omega)
          rw [this, List.nil_append, List.nil_append]
      rw [e1, List.append_assoc, List.take_left' rfl]
      exact s1
  refine ⟨fun i hi => ?_, fun i hi => ?_, fun i hi => ?_, ?_⟩
  · simp only [↓reduceIte, Bool.false_eq_true]
    unfold kd
    rcases Nat.lt_or_ge i c.L.length with h | h
    · obtain ⟨_, h1, _, _⟩ := hin i h; exact h1
    · obtain ⟨h1, h2⟩ := hout i h; rw [h1, h2]
  · simp only [↓reduceIte, Bool.false_eq_true]
    rcases Nat.lt_or_ge i c.L.length with h | h
    · obtain ⟨_, _, h1, _⟩ := hin i h; exact h1
    · obtain ⟨h1, h2⟩ := hout i h; rw [h1, h2]
  · simp only [↓reduceIte, Bool.false_eq_true]
    rcases Nat.lt_or_ge i c.L.length with h | h
    · obtain ⟨_, _, _, h1⟩ := hin i h; exact h1
    · obtain ⟨h1, h2⟩ := hout i h
      rw [h1, h2]
      unfold textS
      rfl
  · simp only [↓reduceIte]
    omega
/-- The two readings beside each other. -/
theorem blk_plain {n m : Nat} {xs : List Int} {L : List Tok} {l : List Pc} {g : List Int} (hlen : xs.length = n) (hs : scan KB xs 0 [] = .toks L) (hl : OkP l) (hg : g = [] ∨ IsGap g) (hS : Same1 xs L l) (hll : l.length = L.length) (hm : (flat l ++ g).length = m) (hmm : m ≤ 65536)
    {o : Option Tre} {p er : Int} (hP : Parsed n xs o p er) {o2 : Option Tre} {p2 e2 : Int} (hP2 : Parsed m (flat l ++ g) o2 p2 e2) (hn : n ≤ 65536) :
    e2 = er ∧ ((er = 0 ∧ ∃ t u, o = some t ∧ o2 = some u ∧ treN t = treN u ∧ Few t) ∨ (er ≠ 0 ∧ o = none ∧ o2 = none ∧
      ((∃ i, i < L.length ∧ (L.getD i zTok).2.1 = p ∧ ((toksOf 0 l).getD i zTok).2.1 = p2) ∨ p = (n : Int) ∧ p2 = (m : Int)))) := by
  have hL16 := (scan_fine hs).1
  have hs2 := scan_spaced hl hg (by omega)
  have pos2 : ∀ (c c2 : Ctx), c.n = n → c2.n = m → c.L = L → c2.L = toksOf 0 l → ∀ i, i ≤ L.length → (i < L.length ∧ (L.getD i zTok).2.1 = ps c i ∧ ((toksOf 0 l).getD i zTok).2.1 = ps c2 i) ∨ ps c i = (n : Int) ∧ ps c2 i = (m : Int) := by
    intro c c2 hn1 hn2 hl1 hl2 i hi
    unfold ps
    rw [hl1, hl2, toksOf_length, hll, hn1, hn2]
    rcases Nat.lt_or_ge i L.length with h | h
    · left; rw [if_pos h, if_pos h]; exact ⟨h, rfl, rfl⟩
    · right; rw [if_neg (by omega), if_neg (by omega)]; exact ⟨rfl, rfl⟩
  cases hP with
  | long h => omega
  | scan h h2 => rw [hs] at h2; cases h2
  | @ok c x a d _ h1 h3 h4 h5 =>
    rw [hs] at h4
    injection h4 with h4
    cases hP2 with
    | long h => omega
    | scan h h2 => rw [hs2] at h2; cases h2
    | @ok c2 x2 a2 d2 _ k1 k3 k4 k5 =>
      rw [hs2] at k4
      injection k4 with k4
      have hPr := blk_pair (c := c) (c2 := c2) (l := l) (g := g) (by rw [h3, ← h4]; exact hS) (by rw [← h4]; exact hll) k3 k4.symm
      obtain ⟨x', hx', hN⟩ := alike_ok hPr h5
      rw [k5] at hx'
      cases hx'
      exact ⟨rfl, .inl ⟨rfl, x, x2, rfl, rfl, hN.symm, few_of h5 (by rw [← h4]; exact hL16)⟩⟩
    | @bad c2 _ _ _ k1 k3 k4 k5 =>
      rw [hs2] at k4
      injection k4 with k4
      have hPr := blk_pair (c := c) (c2 := c2) (l := l) (g := g) (by rw [h3, ← h4]; exact hS) (by rw [← h4]; exact hll) k3 k4.symm
      obtain ⟨x', hx', hN⟩ := alike_ok hPr h5
      rw [k5] at hx'
      cases hx'
  | @bad c _ _ _ h1 h3 h4 h5 =>
    rw [hs] at h4
    injection h4 with h4
    cases hP2 with
    | long h => omega
    | scan h h2 => rw [hs2] at h2; cases h2
    | @ok c2 x2 a2 d2 _ k1 k3 k4 k5 =>
      rw [hs2] at k4
      injection k4 with k4
      have hPr := blk_pair (c := c) (c2 := c2) (l := l) (g := g) (by rw [h3, ← h4]; exact hS) (by rw [← h4]; exact hll) k3 k4.symm
      obtain ⟨i, hi, hp, hc, hgo⟩ := alike_bad hPr h5
      rw [hgo hi] at k5
      cases k5
    | @bad c2 _ _ _ k1 k3 k4 k5 =>
      rw [hs2] at k4
      injection k4 with k4
      have hPr := blk_pair (c := c) (c2 := c2) (l := l) (g := g) (by rw [h3, ← h4]; exact hS) (by rw [← h4]; exact hll) k3 k4.symm
      obtain ⟨i, hi, rfl, hc, hgo⟩ := alike_bad hPr h5
      rw [hgo hi] at k5
      cases k5
      have := pos2 c c2 h1 k1 h4.symm k4.symm i (by rw [h4]; exact hi)
      exact ⟨rfl, .inr ⟨by omega, rfl, rfl, this.imp (fun h => ⟨i, h⟩) id⟩⟩
end Go.Proofs.YtgaoapnaplgaiaaGreatDoor.Sc

