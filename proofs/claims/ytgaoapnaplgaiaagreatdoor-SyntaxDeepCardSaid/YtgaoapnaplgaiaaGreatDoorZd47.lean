/- This claim's own texts, joined, with only what the claim uses: SimA, SimB, DeepA, ScnP, DeepB. -/
import Derived.Test.YtgaoapnaplgaiaaGreatDoorZd32
import Derived.Test.YtgaoapnaplgaiaaGreatDoorZd39
namespace Go.Proofs.YtgaoapnaplgaiaaGreatDoor.Sc
set_option maxRecDepth 100000
open Go.RowKit Tk

mutual
/-- An expression without its places. -/
def exN : Ex → Ex
  | .mk op num name args _ => .mk op num name (exNs args) 0
def exNs : List Ex → List Ex
  | [] => []
  | x :: xs => exN x :: exNs xs
end
theorem exNs_app : ∀ l r : List Ex, exNs (l ++ r) = exNs l ++ exNs r
  | [], r => rfl
  | x :: l, r => by rw [List.cons_append, exNs, exNs, exNs_app l r, List.cons_append]
theorem exN_mk (op num : Int) (name : ByteArray) (args : List Ex) (pos : Int) : exN (.mk op num name args pos) = .mk op num name (exNs args) 0 := by rw [exN]
theorem exNs_one (x : Ex) : exNs [x] = [exN x] := by rw [exNs, exNs]
theorem exNs_two (x y : Ex) : exNs [x, y] = [exN x, exN y] := by rw [exNs, exNs, exNs]
def conN (x : Con) : Con := (x.1, x.2.1, 0)
mutual
/-- A statement without its places. -/
def stN : Stm → Stm
  | .mk op name read args blocks cases _ => .mk op name read (exNs args) (bkNs blocks) (cases.map conN) 0
def bkNs : List (List Stm) → List (List Stm)
  | [] => []
  | b :: bs => stNs b :: bkNs bs
def stNs : List Stm → List Stm
  | [] => []
  | x :: xs => stN x :: stNs xs
end
theorem stN_mk (op : Int) (name read : ByteArray) (args : List Ex) (blocks : List (List Stm)) (cases : List Con) (pos : Int) : stN (.mk op name read args blocks cases pos) = .mk op name read (exNs args) (bkNs blocks) (cases.map conN) 0 := by rw [stN]
theorem stNs_app : ∀ l r : List Stm, stNs (l ++ r) = stNs l ++ stNs r
  | [], r => by rw [stNs]; rfl
  | x :: l, r => by rw [List.cons_append, stNs, stNs, stNs_app l r, List.cons_append]
theorem bkNs_app : ∀ l r : List (List Stm), bkNs (l ++ r) = bkNs l ++ bkNs r
  | [], r => by rw [bkNs]; rfl
  | x :: l, r => by rw [List.cons_append, bkNs, bkNs, bkNs_app l r, List.cons_append]
theorem stNs_one (x : Stm) : stNs [x] = [stN x] := by rw [stNs, stNs]
theorem bkNs_one (x : List Stm) : bkNs [x] = [stNs x] := by rw [bkNs, bkNs]
theorem bkNs_two (x y : List Stm) : bkNs [x, y] = [stNs x, stNs y] := by rw [bkNs, bkNs, bkNs]
def decN (x : Dec) : Dec := ⟨x.op, x.ty, x.name, conN x.size, conN x.lo, conN x.hi, 0⟩
def prcN (x : Prc) : Prc := ⟨x.name, stNs x.body, 0⟩
def treN (x : Tre) : Tre := ⟨x.decls.map decN, x.procs.map prcN, stNs x.init, stNs x.loop⟩

/-- Is the second reading bound to the first one there? -/
def Sy (s : Bool) (j i : Nat) : Prop := s = false ∨ i ≤ j
/-- Two contexts (false and true) that are alike up to the token j. -/
structure Pair (cs : Bool → Ctx) (j : Nat) : Prop where
  kd : ∀ i, i ≤ j → kd (cs true) i = kd (cs false) i
  num : ∀ i, i ≤ j → ((cs true).L.getD i zTok).2.2.2 = ((cs false).L.getD i zTok).2.2.2
  text : ∀ i, i ≤ j → textS (cs true) ((cs true).L.getD i zTok) = textS (cs false) ((cs false).L.getD i zTok)
  len : j ≤ (cs true).L.length
section
variable {cs : Bool → Ctx} {j : Nat}
theorem Pair.kds (h : Pair cs j) {s : Bool} {i : Nat} (hs : Sy s j i) : Sc.kd (cs s) i = Sc.kd (cs false) i := by
  cases s with
  | false => rfl
  | true => exact h.kd i (hs.resolve_left (by simp))
theorem Pair.nums (h : Pair cs j) {s : Bool} {i : Nat} (hs : Sy s j i) : ((cs s).L.getD i zTok).2.2.2 = ((cs false).L.getD i zTok).2.2.2 := by
  cases s with
  | false => rfl
  | true => exact h.num i (hs.resolve_left (by simp))
theorem Pair.texts (h : Pair cs j) {s : Bool} {i : Nat} (hs : Sy s j i) : textS (cs s) ((cs s).L.getD i zTok) = textS (cs false) ((cs false).L.getD i zTok) := by
  cases s with
  | false => rfl
  | true => exact h.text i (hs.resolve_left (by simp))
/-- What the second reading comes to, beside the first one. -/
def Sim (cs : Bool → Ctx) (s : Bool) (j a b : Nat) {α γ : Type} (g : α → γ) (o' o : Out α) : Prop :=
  match o with
  | .ok x a1 d1 => a ≤ a1 ∧ b ≤ a1 ∧ a1 ≤ (cs false).L.length ∧ (s = true → a1 ≤ j → ∃ x', o' = .ok x' a1 d1 ∧ g x' = g x)
  | .bad p er => ∃ i, a ≤ i ∧ i ≤ (cs false).L.length ∧ p = ps (cs false) i ∧ (er = 40 ∨ er = 41 ∧ i < (cs false).L.length) ∧ (s = true → i ≤ j → o' = .bad (ps (cs true) i) er)
theorem Sim.mono {s : Bool} {a b a0 b0 : Nat} {α γ : Type} {g : α → γ} {o' o : Out α} (h : Sim cs s j a b g o' o) (ha : a0 ≤ a) (hb : b0 ≤ b) : Sim cs s j a0 b0 g o' o := by
  cases o with
  | ok x a1 d1 => exact ⟨Nat.le_trans ha h.1, Nat.le_trans hb h.2.1, h.2.2⟩
  | bad p er => obtain ⟨i, h1, h2⟩ := h; exact ⟨i, Nat.le_trans ha h1, h2⟩
theorem Sim.past {s : Bool} {a b : Nat} {α γ : Type} {g : α → γ} {o' o o2 : Out α} (h : Sim cs false j a b g o' o) (hs : ¬ Sy s j a) : Sim cs s j a b g o2 o := by
  have hj : ¬ a ≤ j := fun h => hs (.inr h)
  cases o with
  | ok x a1 d1 => exact ⟨h.1, h.2.1, h.2.2.1, fun _ hl => absurd (Nat.le_trans h.1 hl) hj⟩
  | bad p er => obtain ⟨i, h1, h2, h3, h4, _⟩ := h; exact ⟨i, h1, h2, h3, h4, fun _ hl => absurd (Nat.le_trans h1 hl) hj⟩
theorem Sim.pure {s : Bool} {a b a1 : Nat} {d : Int} {α γ : Type} {g : α → γ} {x' x : α} (h1 : a ≤ a1) (h2 : b ≤ a1) (h3 : a1 ≤ (cs false).L.length) (h : g x' = g x) : Sim cs s j a b g (.ok x' a1 d) (.ok x a1 d) :=
  ⟨h1, h2, h3, fun _ _ => ⟨x', rfl, h⟩⟩
theorem Sim.bad {s : Bool} {a b i : Nat} {er : Int} {α γ : Type} {g : α → γ} (h1 : a ≤ i) (h3 : i ≤ (cs false).L.length) (h : er = 40 ∨ er = 41 ∧ i < (cs false).L.length) : Sim cs s j a b g (.bad (ps (cs s) i) er) (.bad (ps (cs false) i) er : Out α) :=
  ⟨i, h1, h3, rfl, h, fun h _ => by rw [h]⟩
theorem Sim.bindE {s : Bool} {a b1 b : Nat} {α β γ δ : Type} {g : α → γ} {g2 : β → δ} {f : Bool → α → Nat → Int → Out β} {o' o : Out α} (h : Sim cs s j a b1 g o' o)
    (hf : ∀ (s1 : Bool) (X : Bool → α) (a1 : Nat) (d1 : Int), o = .ok (X false) a1 d1 → Sy s1 j a1 → a ≤ a1 → b1 ≤ a1 → a1 ≤ (cs false).L.length → (∀ t, g (X t) = g (X false)) → Sim cs s1 j a1 b g2 (f s1 (X s1) a1 d1) (f false (X false) a1 d1)) :
    Sim cs s j a b g2 (o'.bind (f s)) (o.bind (f false)) := by
  cases o with
  | ok x a1 d1 =>
    obtain ⟨h1, h2, h3, h4⟩ := h
    show Sim cs s j a b g2 _ (f false x a1 d1)
    by_cases hs : s = true ∧ a1 ≤ j
    · obtain ⟨rfl, hj⟩ := hs
      obtain ⟨x', rfl, hx⟩ := h4 rfl hj
      exact (hf true (fun t => if t then x' else x) a1 d1 rfl (.inr hj) h1 h2 h3 (by intro t; cases t; rfl; exact hx)).mono h1 (Nat.le_refl _)
    · have hk := hf false (fun _ => x) a1 d1 rfl (.inl rfl) h1 h2 h3 fun _ => rfl
      cases s with
      | false =>
        have h0 := hk.mono h1 (Nat.le_refl b)
        revert h0
        show Sim cs false j a b g2 (f false x a1 d1) (f false x a1 d1) → _
        cases f false x a1 d1 with
        | ok y a2 d2 => exact fun h0 => ⟨h0.1, h0.2.1, h0.2.2.1, fun e => by cases e⟩
        | bad p er => rintro ⟨i, q1, q2, q3, q4, _⟩; exact ⟨i, q1, q2, q3, q4, fun e => by cases e⟩
      | true => exact (hk.past (fun e => hs ⟨rfl, e.resolve_left (by simp)⟩)).mono h1 (Nat.le_refl _)
  | bad p er =>
    obtain ⟨i, h1, h2, h3, h4, h5⟩ := h
    exact ⟨i, h1, h2, h3, h4, fun hs hi => by rw [h5 hs hi]; rfl⟩
theorem Sim.bind {s : Bool} {a b1 b : Nat} {α β γ δ : Type} {g : α → γ} {g2 : β → δ} {f : Bool → α → Nat → Int → Out β} {o' o : Out α} (h : Sim cs s j a b1 g o' o)
    (hf : ∀ (s1 : Bool) (X : Bool → α) (a1 : Nat) (d1 : Int), Sy s1 j a1 → a ≤ a1 → b1 ≤ a1 → a1 ≤ (cs false).L.length → (∀ t, g (X t) = g (X false)) → Sim cs s1 j a1 b g2 (f s1 (X s1) a1 d1) (f false (X false) a1 d1)) :
    Sim cs s j a b g2 (o'.bind (f s)) (o.bind (f false)) := h.bindE fun s1 X a1 d1 _ => hf s1 X a1 d1
/-- On to a later token. -/
theorem Sim.step {s : Bool} {a b a1 : Nat} {β δ : Type} {g2 : β → δ} {f : Bool → Out β} (h1 : a ≤ a1) (hf : ∀ s1 : Bool, Sy s1 j a1 → Sim cs s1 j a1 b g2 (f s1) (f false)) : Sim cs s j a b g2 (f s) (f false) := by
  by_cases hs : Sy s j a1
  · exact (hf s hs).mono h1 (Nat.le_refl _)
  · exact ((hf false (.inl rfl)).past hs).mono h1 (Nat.le_refl _)
abbrev gI : Int → Int := fun x => x
abbrev gB : Bool → Bool := fun x => x
abbrev gS : ByteArray → ByteArray := fun x => x
abbrev gT : Tok → Int := fun t => t.2.2.2
theorem simWant (hP : Pair cs j) {s : Bool} {a : Nat} (hs : Sy s j a) (hl : a ≤ (cs false).L.length) (k : Int) (hk : 1 ≤ k) (d : Int) : Sim cs s j a (a + 1) gT (wantS (cs s) k a d) (wantS (cs false) k a d) := by
  unfold wantS
  rw [hP.kds hs]
  split
  · rename_i h0
    have hal := kd_lt h0 hk
    have hn := hP.nums hs
    split
    · split
      · exact Sim.bad (Nat.le_refl _) hl (.inr ⟨rfl, hal⟩)
      · exact Sim.pure (by omega) (Nat.le_refl _) hal hn
    · split
      · exact Sim.pure (by omega) (Nat.le_refl _) hal hn
      · exact Sim.pure (by omega) (Nat.le_refl _) hal hn
  · exact Sim.bad (Nat.le_refl _) hl (.inl rfl)
theorem simTake (hP : Pair cs j) {s : Bool} {a : Nat} (hs : Sy s j a) (hl : a ≤ (cs false).L.length) (k : Int) (hk : 1 ≤ k) (d : Int) : Sim cs s j a a gB (takeS (cs s) k a d) (takeS (cs false) k a d) := by
  unfold takeS
  rw [hP.kds hs]
  split
  · apply Sim.bind (simWant hP hs hl k hk d)
    intro s1 X a1 d1 hs1 h1 h2 h3 hX
    exact Sim.pure (Nat.le_refl _) h1 h3 rfl
  · exact Sim.pure (Nat.le_refl _) (Nat.le_refl _) hl rfl
theorem name_eq (c : Ctx) (a : Nat) (d : Int) : nameS c a d = if kd c a = 1 then .ok (textS c (c.L.getD a zTok)) (a + 1) d else .bad (ps c a) 40 := by
  unfold nameS wantS
  split
  · simp [Out.bind]
  · rfl
theorem simName (hP : Pair cs j) {s : Bool} {a : Nat} (hs : Sy s j a) (hl : a ≤ (cs false).L.length) (d : Int) : Sim cs s j a (a + 1) gS (nameS (cs s) a d) (nameS (cs false) a d) := by
  rw [name_eq, name_eq, hP.kds hs]
  split
  · rename_i h0
    exact Sim.pure (by omega) (Nat.le_refl _) (kd_lt h0 (by omega)) (hP.texts hs)
  · exact Sim.bad (Nat.le_refl _) hl (.inl rfl)
theorem simTyp (hP : Pair cs j) {s : Bool} {a : Nat} (hs : Sy s j a) (hl : a ≤ (cs false).L.length) (d : Int) : Sim cs s j a (a + 1) gI (typS (cs s) a d) (typS (cs false) a d) := by
  unfold typS
  rw [hP.kds hs]
  split
  · rename_i h0; exact Sim.pure (by omega) (Nat.le_refl _) (kd_lt h0 (by omega)) rfl
  · split
    · rename_i h0; exact Sim.pure (by omega) (Nat.le_refl _) (kd_lt h0 (by omega)) rfl
    · apply Sim.bind (simWant hP hs hl 16 (by omega) d)
      intro s1 X a1 d1 hs1 h1 h2 h3 hX
      exact Sim.pure (Nat.le_refl _) h2 h3 rfl
theorem simCon (hP : Pair cs j) {s : Bool} {a : Nat} (hs : Sy s j a) (hl : a ≤ (cs false).L.length) (d : Int) : Sim cs s j a (a + 1) conN (constantS (cs s) a d) (constantS (cs false) a d) := by
  unfold constantS
  rw [hP.kds hs]
  split
  · apply Sim.bind (simName hP hs hl d)
    intro s1 X a1 d1 hs1 h1 h2 h3 hX
    exact Sim.pure (Nat.le_refl _) h2 h3 (by unfold conN; rw [show X s1 = X false from hX s1])
  · apply Sim.bind (simTake hP hs hl 37 (by omega) d)
    intro s1 X a1 d1 hs1 h1 h2 h3 hX
    apply Sim.bind (simWant hP hs1 h3 2 (by omega) d1)
    intro s2 Y a2 d2 hs2 q1 q2 q3 hY
    exact Sim.pure (Nat.le_refl _) (by omega) q3 (by unfold conN; rw [show X s2 = X false from hX s2, show (Y s2).2.2.2 = (Y false).2.2.2 from hY s2])
abbrev gD : Dec × Bool → Dec × Bool := fun x => (decN x.1, x.2)
theorem simSemi (hP : Pair cs j) {s : Bool} {a : Nat} (hs : Sy s j a) (hl : a ≤ (cs false).L.length) (d : Int) (x : Bool → Dec) (hx : ∀ t, decN (x t) = decN (x false)) : Sim cs s j a (a + 1) gD (semiS (cs s) (x s) a d) (semiS (cs false) (x false) a d) := by
  unfold semiS
  apply Sim.bind (simWant hP hs hl 41 (by omega) d)
  intro s1 X a1 d1 hs1 h1 h2 h3 hX
  exact Sim.pure (Nat.le_refl _) h2 h3 (by show (decN (x s1), true) = (decN (x false), true); rw [hx s1])
theorem decN_eq {x y : Dec} (h1 : x.op = y.op) (h2 : x.ty = y.ty) (h3 : x.name = y.name) (h4 : conN x.size = conN y.size) (h5 : conN x.lo = conN y.lo) (h6 : conN x.hi = conN y.hi) : decN x = decN y := by
  unfold decN
  rw [h1, h2, h3, h4, h5, h6]
abbrev gO : Int × Con → Int × Con := fun x => (x.1, conN x.2)
theorem simDecl (hP : Pair cs j) {s : Bool} {a : Nat} (hs : Sy s j a) (hl : a ≤ (cs false).L.length) (d : Int) : Sim cs s j a a gD (declS (cs s) a d) (declS (cs false) a d) := by
  unfold declS
  rw [hP.kds hs]
  split
  · rename_i h0
    have hal := kd_lt h0 (by omega)
    apply Sim.step (a := a) (a1 := a + 1) (by omega)
    intro s0 hs0
    apply Sim.bind (simName hP hs0 hal d)
    intro s1 X a1 d1 hs1 h1 h2 h3 hX
    apply Sim.bind (simWant hP hs1 h3 44 (by omega) d1)
    intro s2 Y a2 d2 hs2 q1 q2 q3 hY
    apply Sim.bind (simCon hP hs2 q3 d2)
    intro s3 Z a3 d3 hs3 p1 p2 p3 hZ
    exact (simSemi hP hs3 p3 d3 (fun t => ⟨1, 0, X t, z67, Z t, z67, ps (cs t) a⟩) (fun t => decN_eq rfl rfl (hX t) rfl (hZ t) rfl)).mono (Nat.le_refl _) (by omega)
  split
  · rename_i h0
    have hal := kd_lt h0 (by omega)
    apply Sim.step (a := a) (a1 := a + 1) (by omega)
    intro s0 hs0
    apply Sim.bind (simCon hP hs0 hal d)
    intro s3 Z a3 d3 hs3 p1 p2 p3 hZ
    exact (simSemi hP hs3 p3 d3 (fun t => ⟨2, 0, ⟨#[]⟩, z67, Z t, z67, ps (cs t) a⟩) (fun t => decN_eq rfl rfl rfl rfl (hZ t) rfl)).mono (Nat.le_refl _) (by omega)
  split
  · rename_i h0
    have hal := kd_lt h0 (by omega)
    apply Sim.step (a := a) (a1 := a + 1) (by omega)
    intro s0 hs0
    apply Sim.bind (simTyp hP hs0 hal d)
    intro s1 T a1 d1 hs1 h1 h2 h3 hT
    apply Sim.bind (simName hP hs1 h3 d1)
    intro s2 X a2 d2 hs2 q1 q2 q3 hX
    apply Sim.bind (simWant hP hs2 q3 12 (by omega) d2)
    intro s3 Y a3 d3 hs3 p1 p2 p3 hY
    apply Sim.bind (simCon hP hs3 p3 d3)
    intro s4 Z a4 d4 hs4 r1 r2 r3 hZ
    apply Sim.bind (simWant hP hs4 r3 38 (by omega) d4)
    intro s5 Y a5 d5 hs5 t1 t2 t3 hY
    apply Sim.bind (simCon hP hs5 t3 d5)
    intro s6 V a6 d6 hs6 u1 u2 u3 hV
    exact (simSemi hP hs6 u3 d6 (fun t => ⟨3, T t, X t, z67, Z t, V t, ps (cs t) a⟩) (fun t => decN_eq rfl (hT t) (hX t) rfl (hZ t) (hV t))).mono (Nat.le_refl _) (by omega)
  split
  · rename_i h0
    have hal := kd_lt h0 (by omega)
    apply Sim.step (a := a) (a1 := a + 1) (by omega)
    intro s0 hs0
    apply Sim.bind (simTyp hP hs0 hal d)
    intro s1 T a1 d1 hs1 h1 h2 h3 hT
    apply Sim.bind (simName hP hs1 h3 d1)
    intro s2 X a2 d2 hs2 q1 q2 q3 hX
    apply Sim.bind (simTake hP hs2 q3 48 (by omega) d2)
    intro s3 B a3 d3 hs3 p1 p2 p3 hB
    apply Sim.bind (b1 := a3) (g := gO)
    · rw [show B s3 = B false from hB s3]
      split
      · apply Sim.bind (simCon hP hs3 p3 d3)
        intro s4 Z a4 d4 hs4 r1 r2 r3 hZ
        apply Sim.bind (simWant hP hs4 r3 49 (by omega) d4)
        intro s5 Y a5 d5 hs5 t1 t2 t3 hY
        exact Sim.pure (Nat.le_refl _) (by omega) t3 (by show ((5 : Int), conN (Z s5)) = (5, conN (Z false)); rw [hZ s5])
      · exact Sim.pure (Nat.le_refl _) (Nat.le_refl _) p3 rfl
    · intro s4 O a4 d4 hs4 r1 r2 r3 hO
      apply Sim.bind (simWant hP hs4 r3 44 (by omega) d4)
      intro s5 Y a5 d5 hs5 t1 t2 t3 hY
      apply Sim.bind (simCon hP hs5 t3 d5)
      intro s6 V a6 d6 hs6 u1 u2 u3 hV
      exact (simSemi hP hs6 u3 d6 (fun t => ⟨(O t).1, T t, X t, (O t).2, V t, z67, ps (cs t) a⟩) (fun t => decN_eq (Prod.mk.inj (hO t)).1 (hT t) (hX t) (Prod.mk.inj (hO t)).2 (hV t) rfl)).mono (Nat.le_refl _) (by omega)
  · exact Sim.pure (Nat.le_refl _) (Nat.le_refl _) hl rfl
/-- A reader beside another. -/
def SimR (cs : Bool → Ctx) (j : Nat) {α γ : Type} (g : α → γ) (S : Bool → Rd α) (a0 : Nat) : Prop := ∀ (s : Bool) (a : Nat) (d : Int), Sy s j a → a0 ≤ a → a ≤ (cs false).L.length → Sim cs s j a (a + 1) g (S s a d) (S false a d)
theorem SimR.mono {α γ : Type} {g : α → γ} {S : Bool → Rd α} {a0 a1 : Nat} (h : SimR cs j g S a0) (hl : a0 ≤ a1) : SimR cs j g S a1 := fun s a d hs ha => h s a d hs (Nat.le_trans hl ha)
/-- Enough fuel on both sides. -/
def Fu (cs : Bool → Ctx) (j : Nat) (fs : Bool → Nat) (a : Nat) : Prop := (cs false).L.length < fs false + a ∧ j < fs true + a
theorem Fu.down {fs : Bool → Nat} {a : Nat} (h : Fu cs j fs a) {s : Bool} (hs : Sy s j a) (hl : a ≤ (cs false).L.length) : ∃ gs : Bool → Nat, fs s = gs s + 1 ∧ fs false = gs false + 1 ∧ ∀ a1, a + 1 ≤ a1 → Fu cs j gs a1 := by
  obtain ⟨h1, h2⟩ := h
  refine ⟨fun t => fs t - 1, ?_, by dsimp only; omega, fun a1 ha => ⟨by dsimp only; omega, by dsimp only; omega⟩⟩
  cases s with
  | false => dsimp only; omega
  | true => have := hs.resolve_left (by simp); dsimp only; omega
theorem Fu.top (hP : Pair cs j) (a : Nat) : Fu cs j (fun t => (cs t).L.length + 1 - a) a := ⟨by dsimp only; omega, by have := hP.len; dsimp only; omega⟩
theorem simLeftLoop (hP : Pair cs j) {next : Bool → Rd Ex} {rank : Int} {once : Bool} {a0 : Nat} (hn : SimR cs j exN next a0) : ∀ (n : Nat) (fs : Bool → Nat) (E : Bool → Ex) (s : Bool) (a : Nat) (d : Int), fs false = n → Fu cs j fs a → (∀ t, exN (E t) = exN (E false)) → Sy s j a → a0 ≤ a → a ≤ (cs false).L.length →
    Sim cs s j a a exN (leftLoop (cs s) (next s) rank once (fs s) (E s) a d) (leftLoop (cs false) (next false) rank once (fs false) (E false) a d)
  | 0, fs, E, s, a, d, h0, hF, hE, hs, ha, hl => absurd hF.1 (by omega)
  | n + 1, fs, E, s, a, d, h0, hF, hE, hs, ha, hl => by
    obtain ⟨gs, e1, e2, hG⟩ := hF.down hs hl
    rw [e1, e2, leftLoop, leftLoop, hP.kds hs]
    split
    · exact Sim.pure (Nat.le_refl _) (Nat.le_refl _) hl (hE s)
    · rename_i hop
      have hal : a < (cs false).L.length := by
        rcases Nat.lt_or_ge a (cs false).L.length with h | h
        · exact h
        · exact absurd (by rw [kd_end h]; unfold opOf; exact (by revert rank; intro rank _; exact (show opAt rank 0 23 = 0 by simp only [opAt, binT]; simp))) hop
      apply Sim.step (a := a) (a1 := a + 1) (by omega)
      intro s0 hs0
      apply Sim.bind (hn s0 (a + 1) d hs0 (by omega) hal)
      intro s1 X a1 d1 hs1 h1 h2 h3 hX
      split
      · exact Sim.pure (Nat.le_refl _) (by omega) h3 (by rw [exN_mk, exN_mk, exNs_two, exNs_two, hE s1, hX s1])
      · exact (simLeftLoop hP hn n gs (fun t => .mk (opOf rank (kd (cs false) a)) 0 noName [E t, X t] (ps (cs t) a)) s1 a1 d1 (by omega) (hG a1 (by omega)) (fun t => by rw [exN_mk, exN_mk, exNs_two, exNs_two, hE t, hX t]) hs1 (by omega) h3).mono (Nat.le_refl _) (by omega)
theorem simLeft (hP : Pair cs j) {next : Bool → Rd Ex} {rank : Int} {once : Bool} {a0 : Nat} (hn : SimR cs j exN next a0) : SimR cs j exN (fun t => leftS (cs t) (next t) rank once) a0 := by
  intro s a d hs ha hl
  unfold leftS
  apply Sim.bind (hn s a d hs ha hl)
  intro s1 X a1 d1 hs1 h1 h2 h3 hX
  exact (simLeftLoop hP hn _ (fun t => (cs t).L.length + 1 - a1) X s1 a1 d1 rfl (Fu.top hP a1) hX hs1 (by omega) h3).mono (Nat.le_refl _) (by omega)
theorem simExprOf (hP : Pair cs j) {un : Bool → Rd Ex} {a0 : Nat} (hn : SimR cs j exN un a0) : SimR cs j exN (fun t => exprOf (cs t) (un t)) a0 :=
  simLeft hP (simLeft hP (simLeft hP (simLeft hP (simLeft hP hn))))
theorem simParens (hP : Pair cs j) {ex : Bool → Rd Ex} {a0 : Nat} (hn : SimR cs j exN ex (a0 + 1)) : SimR cs j exN (fun t => parensS (cs t) (ex t)) a0 := by
  intro s a d hs ha hl
  unfold parensS
  apply Sim.bind (simWant hP hs hl 32 (by omega) d)
  intro s1 X a1 d1 hs1 h1 h2 h3 hX
  apply Sim.bind (hn s1 a1 d1 hs1 (by omega) h3)
  intro s2 E a2 d2 hs2 q1 q2 q3 hE
  apply Sim.bind (simWant hP hs2 q3 33 (by omega) d2)
  intro s3 Y a3 d3 hs3 p1 p2 p3 hY
  exact Sim.pure (Nat.le_refl _) (by omega) p3 (hE s3)
theorem simArgs (hP : Pair cs j) {ex : Bool → Rd Ex} {a0 : Nat} (hn : SimR cs j exN ex a0) : ∀ (n i : Nat) (l : Bool → List Ex) (s : Bool) (a : Nat) (d : Int), (∀ t, exNs (l t) = exNs (l false)) → Sy s j a → a0 ≤ a → a ≤ (cs false).L.length →
    Sim cs s j a a exNs (argsS (cs s) (ex s) n i (l s) a d) (argsS (cs false) (ex false) n i (l false) a d)
  | 0, i, l, s, a, d, hL, hs, ha, hl => Sim.pure (Nat.le_refl _) (Nat.le_refl _) hl (hL s)
  | n + 1, i, l, s, a, d, hL, hs, ha, hl => by
    rw [argsS, argsS]
    apply Sim.bind (b1 := a) (g := fun x : Unit => x)
    · split
      · exact Sim.pure (Nat.le_refl _) (Nat.le_refl _) hl rfl
      · apply Sim.bind (simWant hP hs hl 36 (by omega) d)
        intro s1 X a1 d1 hs1 h1 h2 h3 hX
        exact Sim.pure (Nat.le_refl _) h1 h3 rfl
    · intro s1 O a1 d1 hs1 h1 h2 h3 hO
      apply Sim.bind (hn s1 a1 d1 hs1 (by omega) h3)
      intro s2 E a2 d2 hs2 q1 q2 q3 hE
      exact (simArgs hP hn n (i + 1) (fun t => l t ++ [E t]) s2 a2 d2 (fun t => by rw [exNs_app, exNs_app, exNs_one, exNs_one, hL t, hE t]) hs2 (by omega) q3).mono (Nat.le_refl _) (by omega)
theorem simCall (hP : Pair cs j) {ex : Bool → Rd Ex} {op : Int} {n a0 : Nat} (hn : SimR cs j exN ex (a0 + 1)) {s : Bool} {a : Nat} {d : Int} (ha : a0 ≤ a) (hal : a < (cs false).L.length) : Sim cs s j a (a + 1) exN (callS (cs s) (ex s) op n a d) (callS (cs false) (ex false) op n a d) := by
  unfold callS
  apply Sim.step (a := a) (a1 := a + 1) (by omega)
  intro s0 hs0
  apply Sim.bind (simWant hP hs0 hal 32 (by omega) d)
  intro s1 X a1 d1 hs1 h1 h2 h3 hX
  apply Sim.bind (simArgs hP hn n 0 (fun _ => []) s1 a1 d1 (fun _ => rfl) hs1 (by omega) h3)
  intro s2 E a2 d2 hs2 q1 q2 q3 hE
  apply Sim.bind (simWant hP hs2 q3 33 (by omega) d2)
  intro s3 Y a3 d3 hs3 p1 p2 p3 hY
  exact Sim.pure (Nat.le_refl _) (by omega) p3 (by rw [exN_mk, exN_mk, hE s3])
theorem simNm (hP : Pair cs j) {ex : Bool → Rd Ex} {a0 : Nat} (hn : SimR cs j exN ex (a0 + 1)) : SimR cs j exN (fun t => nmS (cs t) (ex t)) a0 := by
  intro s a d hs ha hl
  unfold nmS
  apply Sim.bind (simName hP hs hl d)
  intro s1 X a1 d1 hs1 h1 h2 h3 hX
  apply Sim.bind (simTake hP hs1 h3 48 (by omega) d1)
  intro s2 B a2 d2 hs2 q1 q2 q3 hB
  rw [show B s2 = B false from hB s2]
  split
  · apply Sim.bind (hn s2 a2 d2 hs2 (by omega) q3)
    intro s3 E a3 d3 hs3 p1 p2 p3 hE
    apply Sim.bind (simWant hP hs3 p3 49 (by omega) d3)
    intro s4 Y a4 d4 hs4 r1 r2 r3 hY
    exact Sim.pure (Nat.le_refl _) (by omega) r3 (by rw [exN_mk, exN_mk, exNs_one, exNs_one, hE s4, show X s4 = X false from hX s4])
  · exact Sim.pure (Nat.le_refl _) (by omega) q3 (by rw [exN_mk, exN_mk, show X s2 = X false from hX s2])
theorem simPrimary (hP : Pair cs j) {ex : Bool → Rd Ex} {a0 : Nat} (hn : SimR cs j exN ex (a0 + 1)) : SimR cs j exN (fun t => primaryS (cs t) (ex t)) a0 := by
  intro s a d hs ha hl
  dsimp only
  unfold primaryS
  rw [hP.kds hs]
  split
  · apply Sim.bind (simWant hP hs hl 2 (by omega) d)
    intro s1 X a1 d1 hs1 h1 h2 h3 hX
    exact Sim.pure (Nat.le_refl _) (by omega) h3 (by rw [exN_mk, exN_mk, show (X s1).2.2.2 = (X false).2.2.2 from hX s1])
  split
  · exact simNm hP hn s a d hs ha hl
  split
  · rename_i h0; exact simCall hP hn ha (kd_lt h0 (by omega))
  split
  · rename_i h0; exact simCall hP hn ha (kd_lt h0 (by omega))
  split
  · rename_i h0; exact simCall hP hn ha (kd_lt h0 (by omega))
  split
  · rename_i h0; exact simCall hP hn ha (kd_lt h0 (by omega))
  · exact simParens hP hn s a d hs ha hl
theorem neg_eq (c : Ctx) (un : Rd Ex) (op : Int) (a : Nat) (d : Int) : negS c un op a d = if d = 64 then .bad (ps c a) 41 else (un (a + 1) (d + 1)).bind fun e a2 d2 => .ok (.mk op 0 noName [e] (ps c a)) a2 (d2 - 1) := by
  unfold negS deeperS
  split <;> rfl
theorem simNeg {un : Bool → Rd Ex} {op : Int} {a0 : Nat} (hn : SimR cs j exN un (a0 + 1)) {s : Bool} {a : Nat} {d : Int} (ha : a0 ≤ a) (hal : a < (cs false).L.length) : Sim cs s j a (a + 1) exN (negS (cs s) (un s) op a d) (negS (cs false) (un false) op a d) := by
  rw [neg_eq, neg_eq]
  split
  · exact Sim.bad (Nat.le_refl _) (by omega) (.inr ⟨rfl, hal⟩)
  · apply Sim.step (a := a) (a1 := a + 1) (by omega)
    intro s0 hs0
    apply Sim.bind (hn s0 (a + 1) (d + 1) hs0 (by omega) hal)
    intro s1 E a2 d2 hs1 h1 h2 h3 hE
    exact Sim.pure (Nat.le_refl _) (by omega) h3 (by rw [exN_mk, exN_mk, exNs_one, exNs_one, hE s1])
theorem simUnary (hP : Pair cs j) : ∀ (n : Nat) (fs : Bool → Nat) (a0 : Nat), fs false = n → Fu cs j fs a0 → SimR cs j exN (fun t => unaryS (cs t) (fs t)) a0
  | 0, fs, a0, h0, hF => fun s a d hs ha hl => absurd hF.1 (by omega)
  | n + 1, fs, a0, h0, hF => fun s a d hs ha hl => by
    obtain ⟨gs, e1, e2, hG⟩ := Fu.down (fs := fs) (a := a) ⟨by have := hF.1; omega, by have := hF.2; omega⟩ hs hl
    have ih := simUnary hP n gs (a + 1) (by omega) (hG (a + 1) (Nat.le_refl _))
    show Sim cs s j a (a + 1) exN (unaryS (cs s) (fs s) a d) (unaryS (cs false) (fs false) a d)
    rw [e1, e2, unaryS, unaryS, hP.kds hs]
    split
    · rename_i h1; exact simNeg (un := fun t => unaryS (cs t) (gs t)) ih (Nat.le_refl _) (kd_lt h1 (by omega))
    split
    · rename_i h1; exact simNeg (un := fun t => unaryS (cs t) (gs t)) ih (Nat.le_refl _) (kd_lt h1 (by omega))
    · exact simPrimary hP (ex := fun t => exprOf (cs t) (unaryS (cs t) (gs t))) (simExprOf hP ih) s a d hs (Nat.le_refl _) hl
theorem simExpr (hP : Pair cs j) (a0 : Nat) : SimR cs j exN (fun t => exprS (cs t)) a0 :=
  simExprOf hP (simUnary hP _ (fun t => (cs t).L.length + 1) a0 rfl ⟨by dsimp only; omega, by have := hP.len; dsimp only; omega⟩)
end
section
variable {cs : Bool → Ctx} {j : Nat}
abbrev gA : Asg → Asg := fun q => (q.1, q.2.1, q.2.2.1, exNs q.2.2.2)
theorem simAssign (hP : Pair cs j) {ex : Bool → Rd Ex} {a0 : Nat} (hn : SimR cs j exN ex (a0 + 1)) : SimR cs j gA (fun t => assignS (cs t) (ex t)) a0 := by
  intro s a d hs ha hl
  unfold assignS
  apply Sim.bind (simName hP hs hl d)
  intro s1 X a1 d1 hs1 h1 h2 h3 hX
  apply Sim.bind (simTake hP hs1 h3 48 (by omega) d1)
  intro s2 B a2 d2 hs2 q1 q2 q3 hB
  rw [show B s2 = B false from hB s2]
  split
  · apply Sim.bind (hn s2 a2 d2 hs2 (by omega) q3)
    intro s3 E a3 d3 hs3 p1 p2 p3 hE
    apply Sim.bind (simWant hP hs3 p3 49 (by omega) d3)
    intro s4 Y a4 d4 hs4 r1 r2 r3 hY
    apply Sim.bind (simWant hP hs4 r3 44 (by omega) d4)
    intro s5 Y a5 d5 hs5 t1 t2 t3 hY
    apply Sim.bind (hn s5 a5 d5 hs5 (by omega) t3)
    intro s6 F a6 d6 hs6 u1 u2 u3 hF
    exact Sim.pure (Nat.le_refl _) (by omega) u3 (by show (_, X s6, _, _) = (_, X false, _, _); rw [exNs_two, exNs_two, hE s6, hF s6, show X s6 = X false from hX s6])
  · apply Sim.bind (simWant hP hs2 q3 44 (by omega) d2)
    intro s3 Y a3 d3 hs3 p1 p2 p3 hY
    apply Sim.bind (simTake hP hs3 p3 22 (by omega) d3)
    intro s4 R a4 d4 hs4 r1 r2 r3 hR
    rw [show R s4 = R false from hR s4]
    split
    · apply Sim.bind (simName hP hs4 r3 d4)
      intro s5 V a5 d5 hs5 t1 t2 t3 hV
      exact Sim.pure (Nat.le_refl _) (by omega) t3 (by show (_, X s5, V s5, _) = (_, X false, V false, _); rw [show X s5 = X false from hX s5, show V s5 = V false from hV s5])
    · apply Sim.bind (hn s4 a4 d4 hs4 (by omega) r3)
      intro s6 F a6 d6 hs6 u1 u2 u3 hF
      exact Sim.pure (Nat.le_refl _) (by omega) u3 (by show (_, X s6, _, _) = (_, X false, _, _); rw [exNs_one, exNs_one, hF s6, show X s6 = X false from hX s6])
theorem simBlockLoop (hP : Pair cs j) {st : Bool → Rd Stm} {a0 : Nat} (hn : SimR cs j stN st a0) : ∀ (n : Nat) (fs : Bool → Nat) (l : Bool → List Stm) (s : Bool) (a : Nat) (d : Int), fs false = n → Fu cs j fs a → (∀ t, stNs (l t) = stNs (l false)) → Sy s j a → a0 ≤ a → a ≤ (cs false).L.length →
    Sim cs s j a a stNs (blockLoop (cs s) (st s) (fs s) (l s) a d) (blockLoop (cs false) (st false) (fs false) (l false) a d)
  | 0, fs, l, s, a, d, h0, hF, hE, hs, ha, hl => absurd hF.1 (by omega)
  | n + 1, fs, l, s, a, d, h0, hF, hE, hs, ha, hl => by
    obtain ⟨gs, e1, e2, hG⟩ := hF.down hs hl
    rw [e1, e2, blockLoop, blockLoop, hP.kds hs]
    split
    · exact Sim.pure (Nat.le_refl _) (Nat.le_refl _) hl (hE s)
    · apply Sim.bind (hn s a d hs ha hl)
      intro s1 X a1 d1 hs1 h1 h2 h3 hX
      exact (simBlockLoop hP hn n gs (fun t => l t ++ [X t]) s1 a1 d1 (by omega) (hG a1 (by omega)) (fun t => by rw [stNs_app, stNs_app, stNs_one, stNs_one, hE t, hX t]) hs1 (by omega) h3).mono (Nat.le_refl _) (by omega)
theorem simBlock (hP : Pair cs j) {st : Bool → Rd Stm} {a0 : Nat} (hn : SimR cs j stN st (a0 + 1)) : SimR cs j stNs (fun t => blockS (cs t) (st t)) a0 := by
  intro s a d hs ha hl
  unfold blockS
  apply Sim.bind (simWant hP hs hl 50 (by omega) d)
  intro s1 X a1 d1 hs1 h1 h2 h3 hX
  apply Sim.bind (simBlockLoop hP hn _ (fun t => (cs t).L.length + 1 - a1) (fun _ => []) s1 a1 d1 rfl (Fu.top hP a1) (fun _ => rfl) hs1 (by omega) h3)
  intro s2 L a2 d2 hs2 q1 q2 q3 hL
  apply Sim.bind (simWant hP hs2 q3 52 (by omega) d2)
  intro s3 Y a3 d3 hs3 p1 p2 p3 hY
  exact Sim.pure (Nat.le_refl _) (by omega) p3 (hL s3)
theorem simBranch (hP : Pair cs j) {ex : Bool → Rd Ex} {blk : Bool → Rd (List Stm)} {a0 : Nat} (hE : SimR cs j exN ex (a0 + 1)) (hB : SimR cs j stNs blk (a0 + 1)) : ∀ (n : Nat) (fs : Bool → Nat) (s : Bool) (a : Nat) (d : Int), fs false = n → Fu cs j fs a → Sy s j a → a0 ≤ a → a ≤ (cs false).L.length →
    Sim cs s j a (a + 1) stN (branchS (cs s) (ex s) (blk s) (fs s) a d) (branchS (cs false) (ex false) (blk false) (fs false) a d)
  | 0, fs, s, a, d, h0, hF, hs, ha, hl => absurd hF.1 (by omega)
  | n + 1, fs, s, a, d, h0, hF, hs, ha, hl => by
    obtain ⟨gs, e1, e2, hG⟩ := hF.down hs hl
    rw [e1, e2, branchS, branchS]
    apply Sim.bind (simWant hP hs hl 11 (by omega) d)
    intro s1 X a1 d1 hs1 h1 h2 h3 hX
    apply Sim.bind (simParens hP (hE.mono (by omega)) s1 a1 d1 hs1 (Nat.le_refl _) h3)
    intro s2 E a2 d2 hs2 q1 q2 q3 hE2
    apply Sim.bind (hB s2 a2 d2 hs2 (by omega) q3)
    intro s3 B a3 d3 hs3 p1 p2 p3 hB2
    apply Sim.bind (simTake hP hs3 p3 10 (by omega) d3)
    intro s4 T a4 d4 hs4 r1 r2 r3 hT
    rw [show T s4 = T false from hT s4, hP.kds hs4]
    split
    · split
      · apply Sim.bind (simBranch hP hE hB n gs s4 a4 d4 (by omega) (hG a4 (by omega)) hs4 (by omega) r3)
        intro s5 V a5 d5 hs5 t1 t2 t3 hV
        exact Sim.pure (Nat.le_refl _) (by omega) t3 (by rw [stN_mk, stN_mk, exNs_one, exNs_one, hE2 s5, bkNs_two, bkNs_two, hB2 s5, stNs_one, stNs_one, hV s5])
      · apply Sim.bind (hB s4 a4 d4 hs4 (by omega) r3)
        intro s5 V a5 d5 hs5 t1 t2 t3 hV
        exact Sim.pure (Nat.le_refl _) (by omega) t3 (by rw [stN_mk, stN_mk, exNs_one, exNs_one, hE2 s5, bkNs_two, bkNs_two, hB2 s5, hV s5])
    · exact Sim.pure (Nat.le_refl _) (by omega) r3 (by rw [stN_mk, stN_mk, exNs_one, exNs_one, hE2 s4, bkNs_one, bkNs_one, hB2 s4])
abbrev gC : Cas → List Con × List (List Stm) := fun q => (q.1.map conN, bkNs q.2)
theorem simCaseLoop (hP : Pair cs j) {blk : Bool → Rd (List Stm)} {a0 : Nat} (hB : SimR cs j stNs blk a0) : ∀ (n : Nat) (fs : Bool → Nat) (K : Bool → List Con) (M : Bool → List (List Stm)) (s : Bool) (a : Nat) (d : Int), fs false = n → Fu cs j fs a → (∀ t, (K t).map conN = (K false).map conN) → (∀ t, bkNs (M t) = bkNs (M false)) → Sy s j a → a0 ≤ a → a ≤ (cs false).L.length →
    Sim cs s j a a gC (caseLoop (cs s) (blk s) (fs s) (K s) (M s) a d) (caseLoop (cs false) (blk false) (fs false) (K false) (M false) a d)
  | 0, fs, K, M, s, a, d, h0, hF, hK, hM, hs, ha, hl => absurd hF.1 (by omega)
  | n + 1, fs, K, M, s, a, d, h0, hF, hK, hM, hs, ha, hl => by
    obtain ⟨gs, e1, e2, hG⟩ := hF.down hs hl
    rw [e1, e2, caseLoop, caseLoop]
    unfold takeS
    rw [hP.kds hs]
    split
    · apply Sim.bind (b1 := a + 1) (g := gB)
      · apply Sim.bind (simWant hP hs hl 6 (by omega) d)
        intro s1 X a1 d1 hs1 h1 h2 h3 hX
        exact Sim.pure (Nat.le_refl _) h2 h3 rfl
      · intro s1 X a1 d1 hs1 h1 h2 h3 hX
        rw [show X s1 = X false from hX s1]
        split
        · apply Sim.bind (simCon hP hs1 h3 d1)
          intro s2 Z a2 d2 hs2 q1 q2 q3 hZ
          apply Sim.bind (simWant hP hs2 q3 40 (by omega) d2)
          intro s3 Y a3 d3 hs3 p1 p2 p3 hY
          apply Sim.bind (hB s3 a3 d3 hs3 (by omega) p3)
          intro s4 B a4 d4 hs4 r1 r2 r3 hB2
          exact (simCaseLoop hP hB n gs (fun t => K t ++ [Z t]) (fun t => M t ++ [B t]) s4 a4 d4 (by omega) (hG a4 (by omega)) (fun t => by rw [List.map_append, List.map_append, hK t]; show _ ++ [conN (Z t)] = _ ++ [conN (Z false)]; rw [hZ t]) (fun t => by rw [bkNs_app, bkNs_app, bkNs_one, bkNs_one, hM t, hB2 t]) hs4 (by omega) r3).mono (Nat.le_refl _) (by omega)
        · exact Sim.pure (Nat.le_refl _) (by omega) h3 (by show (_, _) = (_, _); rw [hK s1, hM s1])
    · exact Sim.pure (Nat.le_refl _) (Nat.le_refl _) hl (by show (_, _) = (_, _); rw [hK s, hM s])
theorem simDflt (hP : Pair cs j) {blk : Bool → Rd (List Stm)} {a0 : Nat} (hB : SimR cs j stNs blk a0) (M : Bool → List (List Stm)) (hM : ∀ t, bkNs (M t) = bkNs (M false)) {s : Bool} {a : Nat} (d : Int) (hs : Sy s j a) (ha : a0 ≤ a) (hl : a ≤ (cs false).L.length) :
    Sim cs s j a a bkNs (dfltS (cs s) (blk s) (M s) a d) (dfltS (cs false) (blk false) (M false) a d) := by
  unfold dfltS
  apply Sim.bind (simTake hP hs hl 9 (by omega) d)
  intro s1 X a1 d1 hs1 h1 h2 h3 hX
  rw [show X s1 = X false from hX s1]
  split
  · apply Sim.bind (simWant hP hs1 h3 40 (by omega) d1)
    intro s2 Y a2 d2 hs2 q1 q2 q3 hY
    apply Sim.bind (hB s2 a2 d2 hs2 (by omega) q3)
    intro s3 B a3 d3 hs3 p1 p2 p3 hB2
    exact Sim.pure (Nat.le_refl _) (by omega) p3 (by rw [bkNs_app, bkNs_app, bkNs_one, bkNs_one, hM s3, hB2 s3])
  · exact Sim.pure (Nat.le_refl _) (by omega) h3 (hM s1)
theorem simChoice (hP : Pair cs j) {ex : Bool → Rd Ex} {blk : Bool → Rd (List Stm)} {a0 : Nat} (hE : SimR cs j exN ex (a0 + 1)) (hB : SimR cs j stNs blk (a0 + 1)) {s : Bool} {a : Nat} {d : Int} (ha : a0 ≤ a) (hal : a < (cs false).L.length) : Sim cs s j a (a + 1) stN (choiceS (cs s) (ex s) (blk s) a d) (choiceS (cs false) (ex false) (blk false) a d) := by
  unfold choiceS
  apply Sim.step (a := a) (a1 := a + 1) (by omega)
  intro s0 hs0
  apply Sim.bind (simParens hP (hE.mono (by omega)) s0 (a + 1) d hs0 (Nat.le_refl _) hal)
  intro s1 E a1 d1 hs1 h1 h2 h3 hE2
  apply Sim.bind (simWant hP hs1 h3 50 (by omega) d1)
  intro s2 Y a2 d2 hs2 q1 q2 q3 hY
  apply Sim.bind (simCaseLoop hP hB _ (fun t => (cs t).L.length + 1 - a2) (fun _ => []) (fun _ => []) s2 a2 d2 rfl (Fu.top hP a2) (fun _ => rfl) (fun _ => rfl) hs2 (by omega) q3)
  intro s3 C a3 d3 hs3 p1 p2 p3 hC
  apply Sim.bind (simDflt hP hB (fun t => (C t).2) (fun t => (Prod.mk.inj (hC t)).2) d3 hs3 (by omega) p3)
  intro s4 M a4 d4 hs4 r1 r2 r3 hM
  apply Sim.bind (simWant hP hs4 r3 52 (by omega) d4)
  intro s5 Y a5 d5 hs5 t1 t2 t3 hY
  exact Sim.pure (Nat.le_refl _) (by omega) t3 (by rw [stN_mk, stN_mk, exNs_one, exNs_one, hE2 s5, hM s5, show (C s5).1.map conN = (C false).1.map conN from (Prod.mk.inj (hC s5)).1])
theorem simWhile (hP : Pair cs j) {ex : Bool → Rd Ex} {blk : Bool → Rd (List Stm)} {a0 : Nat} (hE : SimR cs j exN ex (a0 + 1)) (hB : SimR cs j stNs blk (a0 + 1)) {s : Bool} {a : Nat} {d : Int} (ha : a0 ≤ a) (hal : a < (cs false).L.length) : Sim cs s j a (a + 1) stN (whileS (cs s) (ex s) (blk s) a d) (whileS (cs false) (ex false) (blk false) a d) := by
  unfold whileS
  apply Sim.step (a := a) (a1 := a + 1) (by omega)
  intro s0 hs0
  apply Sim.bind (simParens hP (hE.mono (by omega)) s0 (a + 1) d hs0 (Nat.le_refl _) hal)
  intro s1 E a1 d1 hs1 h1 h2 h3 hE2
  apply Sim.bind (hB s1 a1 d1 hs1 (by omega) h3)
  intro s2 B a2 d2 hs2 q1 q2 q3 hB2
  exact Sim.pure (Nat.le_refl _) (by omega) q3 (by rw [stN_mk, stN_mk, exNs_one, exNs_one, hE2 s2, bkNs_one, bkNs_one, hB2 s2])
theorem simAsg (hP : Pair cs j) {ex : Bool → Rd Ex} {a0 : Nat} (hE : SimR cs j exN ex (a0 + 1)) {s : Bool} {a : Nat} {d : Int} (hs : Sy s j a) (ha : a0 ≤ a) (hl : a ≤ (cs false).L.length) : Sim cs s j a (a + 1) stN (asgS (cs s) (ex s) a d) (asgS (cs false) (ex false) a d) := by
  unfold asgS
  apply Sim.bind (simAssign hP hE s a d hs ha hl)
  intro s1 Q a1 d1 hs1 h1 h2 h3 hQ
  apply Sim.bind (simWant hP hs1 h3 41 (by omega) d1)
  intro s2 Y a2 d2 hs2 q1 q2 q3 hY
  have hq := hQ s2
  exact Sim.pure (Nat.le_refl _) (by omega) q3 (by
    rw [stN_mk, stN_mk, show (Q s2).1 = (Q false).1 from (Prod.mk.inj hq).1, show (Q s2).2.1 = (Q false).2.1 from (Prod.mk.inj (Prod.mk.inj hq).2).1, show (Q s2).2.2.1 = (Q false).2.2.1 from (Prod.mk.inj (Prod.mk.inj (Prod.mk.inj hq).2).2).1, show exNs (Q s2).2.2.2 = exNs (Q false).2.2.2 from (Prod.mk.inj (Prod.mk.inj (Prod.mk.inj hq).2).2).2])
theorem simCallSt (hP : Pair cs j) {s : Bool} {a : Nat} {d : Int} (hal : a < (cs false).L.length) : Sim cs s j a (a + 1) stN (callStS (cs s) a d) (callStS (cs false) a d) := by
  unfold callStS
  apply Sim.step (a := a) (a1 := a + 1) (by omega)
  intro s0 hs0
  apply Sim.bind (simName hP hs0 hal d)
  intro s1 X a1 d1 hs1 h1 h2 h3 hX
  apply Sim.bind (simWant hP hs1 h3 41 (by omega) d1)
  intro s2 Y a2 d2 hs2 q1 q2 q3 hY
  exact Sim.pure (Nat.le_refl _) (by omega) q3 (by rw [stN_mk, stN_mk, show X s2 = X false from hX s2])
theorem simAssert (hP : Pair cs j) {ex : Bool → Rd Ex} {a0 : Nat} (hE : SimR cs j exN ex (a0 + 1)) {s : Bool} {a : Nat} {d : Int} (ha : a0 ≤ a) (hal : a < (cs false).L.length) : Sim cs s j a (a + 1) stN (assertS (cs s) (ex s) a d) (assertS (cs false) (ex false) a d) := by
  unfold assertS
  apply Sim.step (a := a) (a1 := a + 1) (by omega)
  intro s0 hs0
  apply Sim.bind (simParens hP (hE.mono (by omega)) s0 (a + 1) d hs0 (Nat.le_refl _) hal)
  intro s1 E a1 d1 hs1 h1 h2 h3 hE2
  apply Sim.bind (simWant hP hs1 h3 41 (by omega) d1)
  intro s2 Y a2 d2 hs2 q1 q2 q3 hY
  exact Sim.pure (Nat.le_refl _) (by omega) q3 (by rw [stN_mk, stN_mk, exNs_one, exNs_one, hE2 s2])
theorem simSkip (hP : Pair cs j) {s : Bool} {a : Nat} {d : Int} (hs : Sy s j a) (hl : a ≤ (cs false).L.length) : Sim cs s j a (a + 1) stN (skipS (cs s) a d) (skipS (cs false) a d) := by
  unfold skipS
  apply Sim.bind (simWant hP hs hl 23 (by omega) d)
  intro s1 X a1 d1 hs1 h1 h2 h3 hX
  apply Sim.bind (simWant hP hs1 h3 41 (by omega) d1)
  intro s2 Y a2 d2 hs2 q1 q2 q3 hY
  exact Sim.pure (Nat.le_refl _) (by omega) q3 (by rw [stN_mk, stN_mk])
theorem simStmtOf (hP : Pair cs j) {ex : Bool → Rd Ex} {blk : Bool → Rd (List Stm)} {a0 : Nat} (hE : SimR cs j exN ex (a0 + 1)) (hB : SimR cs j stNs blk (a0 + 1)) {s : Bool} {a : Nat} {d : Int} (hs : Sy s j a) (ha : a0 ≤ a) (hl : a ≤ (cs false).L.length) : Sim cs s j a (a + 1) stN (stmtOf (cs s) (ex s) (blk s) a d) (stmtOf (cs false) (ex false) (blk false) a d) := by
  unfold stmtOf
  rw [hP.kds hs]
  split
  · exact simAsg hP hE hs ha hl
  split
  · exact simBranch hP hE hB _ (fun t => (cs t).L.length + 1 - a) s a d rfl (Fu.top hP a) hs ha hl
  split
  · rename_i h0; exact simWhile hP hE hB ha (kd_lt h0 (by omega))
  split
  · rename_i h0; exact simChoice hP hE hB ha (kd_lt h0 (by omega))
  split
  · rename_i h0; exact simCallSt hP (kd_lt h0 (by omega))
  split
  · rename_i h0; exact simAssert hP hE ha (kd_lt h0 (by omega))
  · exact simSkip hP hs hl
theorem simStmt (hP : Pair cs j) : ∀ (n : Nat) (fs : Bool → Nat) (a0 : Nat), fs false = n → Fu cs j fs a0 → SimR cs j stN (fun t => stmtS (cs t) (fs t)) a0
  | 0, fs, a0, h0, hF => fun s a d hs ha hl => absurd hF.1 (by omega)
  | n + 1, fs, a0, h0, hF => fun s a d hs ha hl => by
    obtain ⟨gs, e1, e2, hG⟩ := Fu.down (fs := fs) (a := a) ⟨by have := hF.1; omega, by have := hF.2; omega⟩ hs hl
    have ih := simStmt hP n gs (a + 1 + 1) (by omega) (hG (a + 1 + 1) (by omega))
    show Sim cs s j a (a + 1) stN (stmtS (cs s) (fs s) a d) (stmtS (cs false) (fs false) a d)
    rw [e1, e2, stmtS, stmtS]
    exact simStmtOf hP (ex := fun t => exprS (cs t)) (blk := fun t => blockS (cs t) (stmtS (cs t) (gs t))) (simExpr hP _) (simBlock hP ih) hs (Nat.le_refl _) hl
theorem simBlk (hP : Pair cs j) (a0 : Nat) : SimR cs j stNs (fun t => blkS (cs t)) a0 :=
  simBlock hP (simStmt hP _ (fun t => (cs t).L.length + 1) (a0 + 1) rfl ⟨by dsimp only; omega, by have := hP.len; dsimp only; omega⟩)
theorem simDeclsLoop (hP : Pair cs j) : ∀ (n : Nat) (fs : Bool → Nat) (l : Bool → List Dec) (s : Bool) (a : Nat) (d : Int), fs false = n → Fu cs j fs a → (∀ t, (l t).map decN = (l false).map decN) → Sy s j a → a ≤ (cs false).L.length →
    Sim cs s j a a (fun l : List Dec => l.map decN) (declsLoop (cs s) (fs s) (l s) a d) (declsLoop (cs false) (fs false) (l false) a d)
  | 0, fs, l, s, a, d, h0, hF, hE, hs, hl => absurd hF.1 (by omega)
  | n + 1, fs, l, s, a, d, h0, hF, hE, hs, hl => by
    obtain ⟨gs, e1, e2, hG⟩ := hF.down hs hl
    rw [e1, e2, declsLoop, declsLoop]
    apply Sim.bindE (simDecl hP hs hl d)
    intro s1 X a1 d1 ho hs1 h1 h2 h3 hX
    rw [show (X s1).2 = (X false).2 from (Prod.mk.inj (hX s1)).2]
    by_cases hb : (X false).2 = true
    · have hp := (declS_fine hl ho).2.2.2 hb
      rw [if_pos hb, if_pos hb]
      exact (simDeclsLoop hP n gs (fun t => l t ++ [(X t).1]) s1 a1 d1 (by omega) (hG a1 (by omega)) (fun t => by rw [List.map_append, List.map_append, hE t]; show _ ++ [decN (X t).1] = _ ++ [decN (X false).1]; rw [show decN (X t).1 = decN (X false).1 from (Prod.mk.inj (hX t)).1]) hs1 h3).mono (Nat.le_refl _) (by omega)
    · rw [if_neg hb, if_neg hb]
      exact Sim.pure (Nat.le_refl _) (by omega) h3 (hE s1)
theorem simProcsLoop (hP : Pair cs j) : ∀ (n : Nat) (fs : Bool → Nat) (l : Bool → List Prc) (s : Bool) (a : Nat) (d : Int), fs false = n → Fu cs j fs a → (∀ t, (l t).map prcN = (l false).map prcN) → Sy s j a → a ≤ (cs false).L.length →
    Sim cs s j a a (fun l : List Prc => l.map prcN) (procsLoop (cs s) (fs s) (l s) a d) (procsLoop (cs false) (fs false) (l false) a d)
  | 0, fs, l, s, a, d, h0, hF, hE, hs, hl => absurd hF.1 (by omega)
  | n + 1, fs, l, s, a, d, h0, hF, hE, hs, hl => by
    obtain ⟨gs, e1, e2, hG⟩ := hF.down hs hl
    rw [e1, e2, procsLoop, procsLoop, hP.kds hs]
    split
    · rename_i h0
      have hal := kd_lt h0 (by omega)
      apply Sim.step (a := a) (a1 := a + 1) (by omega)
      intro s0 hs0
      apply Sim.bind (simName hP hs0 hal d)
      intro s1 X a1 d1 hs1 h1 h2 h3 hX
      apply Sim.bind (simBlk hP 0 s1 a1 d1 hs1 (Nat.zero_le _) h3)
      intro s2 B a2 d2 hs2 q1 q2 q3 hB
      exact (simProcsLoop hP n gs (fun t => l t ++ [⟨X t, B t, ps (cs t) a⟩]) s2 a2 d2 (by omega) (hG a2 (by omega)) (fun t => by rw [List.map_append, List.map_append, hE t]; show _ ++ [(⟨X t, stNs (B t), 0⟩ : Prc)] = _ ++ [⟨X false, stNs (B false), 0⟩]; rw [show X t = X false from hX t, hB t]) hs2 q3).mono (b0 := a) (Nat.le_refl _) (by omega)
    · exact Sim.pure (Nat.le_refl _) (Nat.le_refl _) hl (hE s)
theorem simProgram (hP : Pair cs j) (s : Bool) (d : Int) : Sim cs s j 0 0 treN (programS (cs s) 0 d) (programS (cs false) 0 d) := by
  unfold programS
  apply Sim.bind (b1 := 0) (simDeclsLoop hP _ (fun t => (cs t).L.length + 1 - 0) (fun _ => []) s 0 d rfl (Fu.top hP 0) (fun _ => rfl) (.inr (Nat.zero_le _)) (Nat.zero_le _))
  intro s1 D a1 d1 hs1 h1 h2 h3 hD
  apply Sim.bind (b1 := 0) ((simProcsLoop hP _ (fun t => (cs t).L.length + 1 - a1) (fun _ => []) s1 a1 d1 rfl (Fu.top hP a1) (fun _ => rfl) hs1 h3).mono (Nat.le_refl _) (Nat.zero_le _))
  intro s2 R a2 d2 hs2 q1 q2 q3 hR
  apply Sim.bind (simWant hP hs2 q3 13 (by omega) d2)
  intro s3 Y a3 d3 hs3 p1 p2 p3 hY
  apply Sim.bind (simBlk hP 0 s3 a3 d3 hs3 (Nat.zero_le _) p3)
  intro s4 I a4 d4 hs4 r1 r2 r3 hI
  apply Sim.bind (simWant hP hs4 r3 18 (by omega) d4)
  intro s5 Y a5 d5 hs5 t1 t2 t3 hY
  apply Sim.bind (simBlk hP 0 s5 a5 d5 hs5 (Nat.zero_le _) t3)
  intro s6 L a6 d6 hs6 u1 u2 u3 hL
  rw [hP.kds hs6]
  split
  · exact Sim.pure (Nat.le_refl _) (Nat.zero_le _) u3 (by
      show (⟨(D s6).map decN, (R s6).map prcN, stNs (I s6), stNs (L s6)⟩ : Tre) = ⟨(D false).map decN, (R false).map prcN, stNs (I false), stNs (L false)⟩
      rw [hD s6, hR s6, hI s6, hL s6])
  · exact Sim.bad (Nat.le_refl _) u3 (.inl rfl)
end
/-- Where a reading breaks; another one breaks there, too, if it is alike so far. -/
theorem alike_bad {c c' : Ctx} {j : Nat} (hP : Pair (fun t => if t then c' else c) j) {p er : Int} (h : programS c 0 0 = .bad p er) : ∃ i, i ≤ c.L.length ∧ p = ps c i ∧ (er = 40 ∨ er = 41 ∧ i < c.L.length) ∧ (i ≤ j → programS c' 0 0 = .bad (ps c' i) er) := by
  have hS := simProgram hP true 0
  have h2 : programS ((fun t => if t then c' else c) false) 0 0 = .bad p er := h
  rw [h2] at hS
  obtain ⟨i, _, h3, h4, h5, h6⟩ := hS
  exact ⟨i, h3, h4, h5, fun hi => h6 rfl hi⟩
/-- A reading ends in an error of the parser, at one of its places. -/
theorem program_bad {c : Ctx} {p er : Int} (h : programS c 0 0 = .bad p er) : ∃ i, i ≤ c.L.length ∧ p = ps c i ∧ (er = 40 ∨ er = 41 ∧ i < c.L.length) := by
  obtain ⟨i, h1, h2, h3, _⟩ := alike_bad (c := c) (c' := c) (j := c.L.length) ⟨fun _ _ => rfl, fun _ _ => rfl, fun _ _ => rfl, Nat.le_refl _⟩ h
  exact ⟨i, h1, h2, h3⟩
/-- The kinds from a token on. -/
def Rest (c : Ctx) (a : Nat) (ks : List Int) : Prop := (c.L.map (·.1)).drop a = ks
theorem Rest.kd {c : Ctx} {a : Nat} {k : Int} {ks : List Int} (h : Rest c a (k :: ks)) : kd c a = k := by
  unfold Rest at h
  unfold Sc.kd
  have h1 : (c.L.map (·.1))[a]? = some k := by
    have : ((c.L.map (·.1)).drop a)[0]? = some k := by rw [h]; rfl
    simpa using this
  rw [List.getElem?_map] at h1
  obtain ⟨t, ht, rfl⟩ := Option.map_eq_some_iff.mp h1
  rw [List.getD_eq_getElem?_getD, ht]; rfl
theorem Rest.next {c : Ctx} {a : Nat} {k : Int} {ks : List Int} (h : Rest c a (k :: ks)) : Rest c (a + 1) ks := by
  unfold Rest at h ⊢
  rw [← List.drop_drop, h]; rfl
theorem Rest.len {c : Ctx} {a : Nat} {ks : List Int} (h : Rest c a ks) : c.L.length - a = ks.length := by
  unfold Rest at h
  rw [← h]; simp
theorem Rest.nil {c : Ctx} {a : Nat} (h : Rest c a []) : Sc.kd c a = 0 := kd_end (by have := h.len; simp at this; omega)
theorem Rest.lt {c : Ctx} {a : Nat} {k : Int} {ks : List Int} (h : Rest c a (k :: ks)) : a < c.L.length := by have := h.len; simp at this; omega
section
variable {c : Ctx} {a : Nat} {k : Int} {d : Int} {ks : List Int}
theorem wPlain (h : Rest c a (k :: ks)) (hk : k ≠ 32 ∧ k ≠ 48 ∧ k ≠ 50 ∧ k ≠ 33 ∧ k ≠ 49 ∧ k ≠ 52) : ∃ t, wantS c k a d = .ok t (a + 1) d :=
  ⟨_, by unfold wantS; rw [if_pos h.kd, if_neg (by omega), if_neg (by omega)]⟩
theorem wOpen (h : Rest c a (k :: ks)) (hk : k = 32 ∨ k = 48 ∨ k = 50) (hd : d ≠ 64) : ∃ t, wantS c k a d = .ok t (a + 1) (d + 1) :=
  ⟨_, by unfold wantS; rw [if_pos h.kd, if_pos hk, if_neg hd]⟩
theorem wFull (h : Rest c a (k :: ks)) (hk : k = 32 ∨ k = 48 ∨ k = 50) : wantS c k a 64 = .bad (ps c a) 41 := by
  unfold wantS; rw [if_pos h.kd, if_pos hk, if_pos rfl]
theorem wShut (h : Rest c a (k :: ks)) (hk : k = 33 ∨ k = 49 ∨ k = 52) : ∃ t, wantS c k a d = .ok t (a + 1) (d - 1) :=
  ⟨_, by unfold wantS; rw [if_pos h.kd, if_neg (by omega), if_pos hk]⟩
theorem tNo {k' : Int} (h : kd c a = k') (hk : k' ≠ k) : takeS c k a d = .ok false a d := by
  unfold takeS; rw [if_neg (by rw [h]; exact hk)]
theorem nmOk (h : Rest c a (1 :: ks)) : ∃ s, nameS c a d = .ok s (a + 1) d := by
  obtain ⟨t, ht⟩ := wPlain (d := d) h (by omega)
  exact ⟨_, by unfold nameS; rw [ht]; rfl⟩
/-- No operator stands there. -/
def NoOp (c : Ctx) (a : Nat) : Prop := kd c a = 33 ∨ kd c a = 49 ∨ kd c a = 41
theorem NoOp.op (h : NoOp c a) (rank : Int) : opOf rank (kd c a) = 0 := by
  rcases h with h | h | h <;> (rw [h]; unfold opOf; simp [opAt, binT])
theorem leftLoop_pass {next : Rd Ex} {rank : Int} {once : Bool} {f : Nat} {e : Ex} (h : NoOp c a) : leftLoop c next rank once (f + 1) e a d = .ok e a d := by
  rw [leftLoop, if_pos (h.op rank)]
theorem left_pass {next : Rd Ex} {rank : Int} {once : Bool} {a1 : Nat} {d1 : Int} {e : Ex} (h : next a d = .ok e a1 d1) (hn : NoOp c a1) (hl : a1 ≤ c.L.length) : leftS c next rank once a d = .ok e a1 d1 := by
  unfold leftS
  rw [h]
  show leftLoop c next rank once (c.L.length + 1 - a1) e a1 d1 = _
  rw [show c.L.length + 1 - a1 = c.L.length - a1 + 1 by omega, leftLoop_pass hn]
theorem left_bad {next : Rd Ex} {rank : Int} {once : Bool} {p er : Int} (h : next a d = .bad p er) : leftS c next rank once a d = .bad p er := by
  unfold leftS; rw [h]; rfl
theorem expr_pass {un : Rd Ex} {a1 : Nat} {d1 : Int} {e : Ex} (h : un a d = .ok e a1 d1) (hn : NoOp c a1) (hl : a1 ≤ c.L.length) : exprOf c un a d = .ok e a1 d1 :=
  left_pass (left_pass (left_pass (left_pass (left_pass h hn hl) hn hl) hn hl) hn hl) hn hl
theorem expr_bad {un : Rd Ex} {p er : Int} (h : un a d = .bad p er) : exprOf c un a d = .bad p er := left_bad (left_bad (left_bad (left_bad (left_bad h))))
/-- A number. -/
theorem un_num {f : Nat} (h : Rest c a (2 :: ks)) : ∃ e, unaryS c (f + 1) a d = .ok e (a + 1) d := by
  obtain ⟨t, ht⟩ := wPlain (d := d) h (by omega)
  apply Exists.intro
  rw [unaryS, if_neg (by rw [h.kd]; omega), if_neg (by rw [h.kd]; omega)]
  unfold primaryS
  rw [if_pos h.kd, ht]
  rfl
end
/-- What n things that open one in another come to: taken up to the depth of 64. -/
def Nest (o : Out Ex) (n : Nat) (a1 : Nat) (d : Int) : Prop := ((n : Int) + d ≤ 64 → ∃ e, o = .ok e a1 d) ∧ (64 < (n : Int) + d → ∃ p, o = .bad p 41)
theorem noOp_of {c : Ctx} {a : Nat} {k : Int} {ks : List Int} (h : Rest c a (k :: ks)) (hk : k = 33 ∨ k = 49 ∨ k = 41) : NoOp c a := by
  unfold NoOp; rw [h.kd]; exact hk
def kParens (n : Nat) (r : List Int) : List Int := match n with
  | 0 => 2 :: r
  | n + 1 => 32 :: kParens n (33 :: r)
def kSigns (n : Nat) (r : List Int) : List Int := match n with
  | 0 => 2 :: r
  | n + 1 => 37 :: kSigns n r
def kIndex (n : Nat) (r : List Int) : List Int := match n with
  | 0 => 2 :: r
  | n + 1 => 1 :: 48 :: kIndex n (49 :: r)
theorem rest_tail {c : Ctx} {a m : Nat} {l ks : List Int} (h : Rest c a (l ++ ks)) (hm : l.length = m) : Rest c (a + m) ks := by
  unfold Rest at h ⊢
  rw [← List.drop_drop, h, ← hm, List.drop_left]
theorem kParens_app : ∀ (n : Nat) (r : List Int), ∃ l, kParens n r = l ++ r ∧ l.length = 2 * n + 1
  | 0, r => ⟨[2], rfl, rfl⟩
  | n + 1, r => by
    obtain ⟨l, e, hl⟩ := kParens_app n (33 :: r)
    exact ⟨32 :: l ++ [33], by rw [kParens, e]; simp, by simp [hl]; omega⟩
theorem kSigns_app : ∀ (n : Nat) (r : List Int), ∃ l, kSigns n r = l ++ r ∧ l.length = n + 1
  | 0, r => ⟨[2], rfl, rfl⟩
  | n + 1, r => by
    obtain ⟨l, e, hl⟩ := kSigns_app n r
    exact ⟨37 :: l, by rw [kSigns, e]; simp, by simp [hl]⟩
theorem kIndex_app : ∀ (n : Nat) (r : List Int), ∃ l, kIndex n r = l ++ r ∧ l.length = 3 * n + 1
  | 0, r => ⟨[2], rfl, rfl⟩
  | n + 1, r => by
    obtain ⟨l, e, hl⟩ := kIndex_app n (49 :: r)
    exact ⟨1 :: 48 :: l ++ [49], by rw [kIndex, e]; simp, by simp [hl]; omega⟩
theorem nest_parens {c : Ctx} : ∀ (n f a : Nat) (d : Int) (k : Int) (r : List Int), (k = 33 ∨ k = 49 ∨ k = 41) → d ≤ 64 → Rest c a (kParens n (k :: r)) → n < f → Nest (unaryS c f a d) n (a + (2 * n + 1)) d
  | n, 0, a, d, k, r, hk, hd, h, hf => by omega
  | 0, f + 1, a, d, k, r, hk, hd, h, hf => ⟨fun _ => un_num h, fun hg => by omega⟩
  | n + 1, f + 1, a, d, k, r, hk, hd, h, hf => by
    have h0 : Rest c a (32 :: kParens n (33 :: k :: r)) := h
    have hu : unaryS c (f + 1) a d = parensS c (exprOf c (unaryS c f)) a d := by
      rw [unaryS, if_neg (by rw [h0.kd]; omega), if_neg (by rw [h0.kd]; omega)]
      unfold primaryS
      rw [h0.kd]
      simp
    rw [hu]
    unfold parensS
    by_cases h64 : d = 64
    · subst h64
      rw [wFull h0 (.inl rfl)]
      exact ⟨fun hg => by omega, fun _ => ⟨_, rfl⟩⟩
    · obtain ⟨t, ht⟩ := wOpen (d := d) h0 (.inl rfl) h64
      rw [ht]
      have ih := nest_parens n f (a + 1) (d + 1) 33 (k :: r) (.inl rfl) (by omega) h0.next (by omega)
      obtain ⟨l, e, hl⟩ := kParens_app n (33 :: k :: r)
      have h1 : Rest c (a + 1 + (2 * n + 1)) (33 :: k :: r) := rest_tail (by rw [← e]; exact h0.next) hl
      refine ⟨fun hg => ?_, fun hg => ?_⟩
      · obtain ⟨x, hx⟩ := ih.1 (by omega)
        obtain ⟨t2, ht2⟩ := wShut (d := d + 1) h1 (.inl rfl)
        refine ⟨x, ?_⟩
        show ((exprOf c (unaryS c f)) (a + 1) (d + 1)).bind _ = _
        rw [expr_pass hx (noOp_of h1 (.inl rfl)) (by have := h1.lt; omega)]
        show (wantS c 33 _ _).bind _ = _
        rw [ht2]
        show Out.ok x _ _ = _
        rw [show a + 1 + (2 * n + 1) + 1 = a + (2 * (n + 1) + 1) by omega, show d + 1 - 1 = d by omega]
      · obtain ⟨p, hp⟩ := ih.2 (by omega)
        refine ⟨p, ?_⟩
        show ((exprOf c (unaryS c f)) (a + 1) (d + 1)).bind _ = _
        rw [expr_bad hp]; rfl
theorem nest_signs {c : Ctx} : ∀ (n f a : Nat) (d : Int) (r : List Int), d ≤ 64 → Rest c a (kSigns n r) → n < f → Nest (unaryS c f a d) n (a + (n + 1)) d
  | n, 0, a, d, r, hd, h, hf => by omega
  | 0, f + 1, a, d, r, hd, h, hf => ⟨fun _ => un_num h, fun hg => by omega⟩
  | n + 1, f + 1, a, d, r, hd, h, hf => by
    have h0 : Rest c a (37 :: kSigns n r) := h
    rw [unaryS, if_pos h0.kd, neg_eq]
    by_cases h64 : d = 64
    · subst h64
      rw [if_pos rfl]
      exact ⟨fun hg => by omega, fun _ => ⟨_, rfl⟩⟩
    · rw [if_neg h64]
      have ih := nest_signs n f (a + 1) (d + 1) r (by omega) h0.next (by omega)
      refine ⟨fun hg => ?_, fun hg => ?_⟩
      · obtain ⟨x, hx⟩ := ih.1 (by omega)
        apply Exists.intro
        rw [hx]
        show Out.ok _ _ _ = _
        rw [show a + 1 + (n + 1) = a + (n + 1 + 1) by omega, show d + 1 - 1 = d by omega]
      · obtain ⟨p, hp⟩ := ih.2 (by omega)
        exact ⟨p, by rw [hp]; rfl⟩
theorem nest_index {c : Ctx} : ∀ (n f a : Nat) (d : Int) (k : Int) (r : List Int), (k = 33 ∨ k = 49 ∨ k = 41) → d ≤ 64 → Rest c a (kIndex n (k :: r)) → n < f → Nest (unaryS c f a d) n (a + (3 * n + 1)) d
  | n, 0, a, d, k, r, hk, hd, h, hf => by omega
  | 0, f + 1, a, d, k, r, hk, hd, h, hf => ⟨fun _ => un_num h, fun hg => by omega⟩
  | n + 1, f + 1, a, d, k, r, hk, hd, h, hf => by
    have h0 : Rest c a (1 :: 48 :: kIndex n (49 :: k :: r)) := h
    have hu : unaryS c (f + 1) a d = nmS c (exprOf c (unaryS c f)) a d := by
      rw [unaryS, if_neg (by rw [h0.kd]; omega), if_neg (by rw [h0.kd]; omega)]
      unfold primaryS
      rw [h0.kd]
      simp
    rw [hu]
    unfold nmS
    obtain ⟨s, hs⟩ := nmOk (d := d) h0
    rw [hs]
    show Nest ((takeS c 48 (a + 1) d).bind _) _ _ _
    unfold takeS
    rw [if_pos h0.next.kd]
    by_cases h64 : d = 64
    · subst h64
      rw [wFull h0.next (.inr (.inl rfl))]
      exact ⟨fun hg => by omega, fun _ => ⟨_, rfl⟩⟩
    · obtain ⟨t, ht⟩ := wOpen (d := d) h0.next (.inr (.inl rfl)) h64
      rw [ht]
      have ih := nest_index n f (a + 1 + 1) (d + 1) 49 (k :: r) (.inr (.inl rfl)) (by omega) h0.next.next (by omega)
      obtain ⟨l, e, hl⟩ := kIndex_app n (49 :: k :: r)
      have h1 : Rest c (a + 1 + 1 + (3 * n + 1)) (49 :: k :: r) := rest_tail (by rw [← e]; exact h0.next.next) hl
      refine ⟨fun hg => ?_, fun hg => ?_⟩
      · obtain ⟨x, hx⟩ := ih.1 (by omega)
        obtain ⟨t2, ht2⟩ := wShut (d := d + 1) h1 (.inr (.inl rfl))
        apply Exists.intro
        show ((exprOf c (unaryS c f)) (a + 1 + 1) (d + 1)).bind _ = _
        rw [expr_pass hx (noOp_of h1 (.inr (.inl rfl))) (by have := h1.lt; omega)]
        show (wantS c 49 _ _).bind _ = _
        rw [ht2]
        show Out.ok _ _ _ = _
        rw [show a + 1 + 1 + (3 * n + 1) + 1 = a + (3 * (n + 1) + 1) by omega, show d + 1 - 1 = d by omega]
      · obtain ⟨p, hp⟩ := ih.2 (by omega)
        refine ⟨p, ?_⟩
        show ((exprOf c (unaryS c f)) (a + 1 + 1) (d + 1)).bind _ = _
        rw [expr_bad hp]; rfl
/-- An assignment of such an expression, at a statement's place. -/
theorem asg_ok {c : Ctx} {a a1 : Nat} {d : Int} {k : Int} {r ks : List Int} {f : Nat} {e : Ex} (h : Rest c a (1 :: 44 :: k :: r)) (hk : k ≠ 22) (hx : exprS c (a + 1 + 1) d = .ok e a1 d) (h1 : Rest c a1 (41 :: ks)) : ∃ s, stmtS c (f + 1) a d = .ok s (a1 + 1) d := by
  obtain ⟨s, hs⟩ := nmOk (d := d) h
  obtain ⟨t, ht⟩ := wPlain (d := d) h.next (by omega)
  obtain ⟨t2, ht2⟩ := wPlain (d := d) h1 (by omega)
  apply Exists.intro
  rw [stmtS, stmtOf, if_pos h.kd]
  unfold asgS assignS
  rw [hs]
  show (Out.bind ((takeS c 48 (a + 1) d).bind _) _) = _
  rw [tNo h.next.kd (by omega)]
  show (Out.bind ((wantS c 44 (a + 1) d).bind _) _) = _
  rw [ht]
  show (Out.bind ((takeS c 22 (a + 1 + 1) d).bind _) _) = _
  rw [tNo h.next.next.kd hk]
  show (Out.bind ((exprS c (a + 1 + 1) d).bind _) _) = _
  rw [hx]
  show (wantS c 41 a1 d).bind _ = _
  rw [ht2]
  rfl
theorem asg_bad {c : Ctx} {a : Nat} {d : Int} {k : Int} {r : List Int} {f : Nat} {p er : Int} (h : Rest c a (1 :: 44 :: k :: r)) (hk : k ≠ 22) (hx : exprS c (a + 1 + 1) d = .bad p er) : stmtS c (f + 1) a d = .bad p er := by
  obtain ⟨s, hs⟩ := nmOk (d := d) h
  obtain ⟨t, ht⟩ := wPlain (d := d) h.next (by omega)
  rw [stmtS, stmtOf, if_pos h.kd]
  unfold asgS assignS
  rw [hs]
  show (Out.bind ((takeS c 48 (a + 1) d).bind _) _) = _
  rw [tNo h.next.kd (by omega)]
  show (Out.bind ((wantS c 44 (a + 1) d).bind _) _) = _
  rw [ht]
  show (Out.bind ((takeS c 22 (a + 1 + 1) d).bind _) _) = _
  rw [tNo h.next.next.kd hk]
  show (Out.bind ((exprS c (a + 1 + 1) d).bind _) _) = _
  rw [hx]
  rfl
/-- A block of one statement. -/
theorem block_ok {c : Ctx} {st : Rd Stm} {a a1 : Nat} {d : Int} {k : Int} {r ks : List Int} {s : Stm} (h : Rest c a (50 :: k :: r)) (hk : k ≠ 52) (hd : d ≠ 64) (hs : st (a + 1) (d + 1) = .ok s a1 (d + 1)) (h1 : Rest c a1 (52 :: ks)) (hlt : a + 1 < a1) : blockS c st a d = .ok [s] (a1 + 1) d := by
  obtain ⟨t, ht⟩ := wOpen (d := d) h (.inr (.inr rfl)) hd
  obtain ⟨t2, ht2⟩ := wShut (d := d + 1) h1 (.inr (.inr rfl))
  unfold blockS
  rw [ht]
  show (Out.bind (blockLoop c st (c.L.length + 1 - (a + 1)) [] (a + 1) (d + 1)) _) = _
  have hl := h1.lt
  obtain ⟨f, hf⟩ : ∃ f, c.L.length + 1 - (a + 1) = f + 1 + 1 := ⟨c.L.length + 1 - (a + 1) - 2, by omega⟩
  rw [hf, blockLoop, if_neg (by rw [h.next.kd]; exact hk), hs]
  show (Out.bind (blockLoop c st (f + 1) [s] a1 (d + 1)) _) = _
  rw [blockLoop, if_pos h1.kd]
  show (wantS c 52 a1 (d + 1)).bind _ = _
  rw [ht2]
  show Out.ok [s] (a1 + 1) (d + 1 - 1) = _
  rw [show d + 1 - 1 = d by omega]
theorem block_bad {c : Ctx} {st : Rd Stm} {a : Nat} {d : Int} {k : Int} {r : List Int} {p er : Int} (h : Rest c a (50 :: k :: r)) (hk : k ≠ 52) (hd : d ≠ 64) (hs : st (a + 1) (d + 1) = .bad p er) : blockS c st a d = .bad p er := by
  obtain ⟨t, ht⟩ := wOpen (d := d) h (.inr (.inr rfl)) hd
  unfold blockS
  rw [ht]
  show (Out.bind (blockLoop c st (c.L.length + 1 - (a + 1)) [] (a + 1) (d + 1)) _) = _
  have hl := h.next.lt
  obtain ⟨f, hf⟩ : ∃ f, c.L.length + 1 - (a + 1) = f + 1 := ⟨c.L.length + 1 - (a + 1) - 1, by omega⟩
  rw [hf, blockLoop, if_neg (by rw [h.next.kd]; exact hk), hs]
  rfl
theorem block_none {c : Ctx} {st : Rd Stm} {a : Nat} {d : Int} {ks : List Int} (h : Rest c a (50 :: 52 :: ks)) (hd : d ≠ 64) : blockS c st a d = .ok [] (a + 1 + 1) d := by
  obtain ⟨t, ht⟩ := wOpen (d := d) h (.inr (.inr rfl)) hd
  obtain ⟨t2, ht2⟩ := wShut (d := d + 1) h.next (.inr (.inr rfl))
  unfold blockS
  rw [ht]
  show (Out.bind (blockLoop c st (c.L.length + 1 - (a + 1)) [] (a + 1) (d + 1)) _) = _
  have hl := h.next.lt
  obtain ⟨f, hf⟩ : ∃ f, c.L.length + 1 - (a + 1) = f + 1 := ⟨c.L.length + 1 - (a + 1) - 1, by omega⟩
  rw [hf, blockLoop, if_pos h.next.kd]
  show (wantS c 52 (a + 1) (d + 1)).bind _ = _
  rw [ht2]
  show Out.ok [] (a + 1 + 1) (d + 1 - 1) = _
  rw [show d + 1 - 1 = d by omega]
def kBlocks (n : Nat) (r : List Int) : List Int := match n with
  | 0 => 1 :: 44 :: 37 :: 2 :: 41 :: r
  | n + 1 => 11 :: 32 :: 2 :: 33 :: 50 :: kBlocks n (52 :: r)
theorem kBlocks_app : ∀ (n : Nat) (r : List Int), ∃ l, kBlocks n r = l ++ r ∧ l.length = 6 * n + 5
  | 0, r => ⟨[1, 44, 37, 2, 41], rfl, rfl⟩
  | n + 1, r => by
    obtain ⟨l, e, hl⟩ := kBlocks_app n (52 :: r)
    exact ⟨11 :: 32 :: 2 :: 33 :: 50 :: l ++ [52], by rw [kBlocks, e]; simp, by simp [hl]; omega⟩
theorem kBlocks_head (n : Nat) (r : List Int) : ∃ k t, kBlocks n r = k :: t ∧ k ≠ 52 := by
  cases n with
  | zero => exact ⟨1, _, rfl, by omega⟩
  | succ n => exact ⟨11, _, rfl, by omega⟩
theorem parens_num {c : Ctx} {a : Nat} {d : Int} {ks : List Int} (h : Rest c a (32 :: 2 :: 33 :: ks)) (hd : d ≠ 64) : ∃ e, parensS c (exprS c) a d = .ok e (a + 3) d := by
  obtain ⟨t, ht⟩ := wOpen (d := d) h (.inl rfl) hd
  obtain ⟨e, he⟩ := un_num (f := c.L.length) (d := d + 1) h.next
  obtain ⟨t2, ht2⟩ := wShut (d := d + 1) h.next.next (.inl rfl)
  refine ⟨e, ?_⟩
  unfold parensS
  rw [ht]
  show (exprS c (a + 1) (d + 1)).bind _ = _
  unfold exprS
  rw [expr_pass he (noOp_of h.next.next (.inl rfl)) (by have := h.next.next.lt; omega)]
  show (wantS c 33 (a + 1 + 1) (d + 1)).bind _ = _
  rw [ht2]
  show Out.ok e (a + 1 + 1 + 1) (d + 1 - 1) = _
  rw [show d + 1 - 1 = d by omega]
def NestS (o : Out Stm) (n : Nat) (a1 : Nat) (d : Int) : Prop := ((n : Int) + d ≤ 63 → ∃ e, o = .ok e a1 d) ∧ (63 < (n : Int) + d → ∃ p, o = .bad p 41)
theorem nest_blocks {c : Ctx} : ∀ (n f a : Nat) (d : Int) (r : List Int), d ≤ 64 → Rest c a (kBlocks n (52 :: r)) → n < f → NestS (stmtS c f a d) n (a + (6 * n + 5)) d
  | n, 0, a, d, r, hd, h, hf => by omega
  | 0, f + 1, a, d, r, hd, h, hf => by
    have h0 : Rest c a (1 :: 44 :: 37 :: 2 :: 41 :: 52 :: r) := h
    have hn := nest_signs 1 (c.L.length + 1) (a + 1 + 1) d (41 :: 52 :: r) hd h0.next.next (by have := h0.lt; omega)
    have h1 : Rest c (a + 1 + 1 + (1 + 1)) (41 :: 52 :: r) := h0.next.next.next.next
    refine ⟨fun hg => ?_, fun hg => ?_⟩
    · obtain ⟨x, hx⟩ := hn.1 (by omega)
      obtain ⟨s, hs⟩ := asg_ok (f := f) h0 (by omega) (expr_pass hx (noOp_of h1 (.inr (.inr rfl))) (by have := h1.lt; omega)) h1
      exact ⟨s, hs⟩
    · obtain ⟨p, hp⟩ := hn.2 (by omega)
      exact ⟨p, asg_bad (f := f) h0 (by omega) (expr_bad hp)⟩
  | n + 1, f + 1, a, d, r, hd, h, hf => by
    have h0 : Rest c a (11 :: 32 :: 2 :: 33 :: 50 :: kBlocks n (52 :: 52 :: r)) := h
    have hb : stmtS c (f + 1) a d = branchS c (exprS c) (blockS c (stmtS c f)) (c.L.length + 1 - a) a d := by
      rw [stmtS, stmtOf, if_neg (by rw [h0.kd]; omega), if_pos h0.kd]
    have hl := h0.lt
    obtain ⟨g, hg⟩ : ∃ g, c.L.length + 1 - a = g + 1 := ⟨c.L.length + 1 - a - 1, by omega⟩
    rw [hb, hg, branchS]
    obtain ⟨t, ht⟩ := wPlain (d := d) h0 (by omega)
    rw [ht]
    show NestS ((parensS c (exprS c) (a + 1) d).bind _) _ _ _
    by_cases h64 : d = 64
    · subst h64
      unfold parensS
      rw [wFull h0.next (.inl rfl)]
      exact ⟨fun hg => by omega, fun _ => ⟨_, rfl⟩⟩
    · obtain ⟨e, he⟩ := parens_num h0.next h64
      rw [he]
      have h4 : Rest c (a + 1 + 3) (50 :: kBlocks n (52 :: 52 :: r)) := h0.next.next.next.next
      obtain ⟨k, t, ek, hk⟩ := kBlocks_head n (52 :: 52 :: r)
      have h4' : Rest c (a + 1 + 3) (50 :: k :: t) := by rw [← ek]; exact h4
      have ih := nest_blocks n f (a + 1 + 3 + 1) (d + 1) (52 :: r) (by omega) h4.next (by omega)
      obtain ⟨l, el, hl⟩ := kBlocks_app n (52 :: 52 :: r)
      have h5 : Rest c (a + 1 + 3 + 1 + (6 * n + 5)) (52 :: 52 :: r) := rest_tail (by rw [← el]; exact h4.next) hl
      show NestS ((blockS c (stmtS c f) (a + 1 + 3) d).bind _) _ _ _
      refine ⟨fun hg => ?_, fun hg => ?_⟩
      · obtain ⟨s, hs⟩ := ih.1 (by omega)
        apply Exists.intro
        rw [block_ok h4' hk h64 hs h5 (by omega)]
        show (takeS c 10 _ _).bind _ = _
        rw [tNo h5.next.kd (by omega)]
        show Out.ok _ _ _ = _
        rw [show a + 1 + 3 + 1 + (6 * n + 5) + 1 = a + (6 * (n + 1) + 5) by omega]
      · obtain ⟨p, hp⟩ := ih.2 (by omega)
        refine ⟨p, ?_⟩
        rw [block_bad h4' hk h64 hp]
        rfl
/-- A program of a loop of one statement. -/
theorem prog_top {c : Ctx} {k : Int} {r : List Int} (h : Rest c 0 (13 :: 50 :: 52 :: 18 :: 50 :: k :: r)) (hk : k ≠ 52) :
    (∀ s a1, stmtS c (c.L.length + 1) 5 1 = .ok s a1 1 → 5 < a1 → Rest c a1 [52] → ∃ x a d, programS c 0 0 = .ok x a d) ∧ (∀ p er, stmtS c (c.L.length + 1) 5 1 = .bad p er → programS c 0 0 = .bad p er) := by
  have hd : declS c 0 0 = .ok (⟨0, 0, ⟨#[]⟩, z67, z67, z67, ps c 0⟩, false) 0 0 := by
    unfold declS
    rw [h.kd]
    simp
  have hl := h.next.next.next.next.next.lt
  have e0 : declsLoop c (c.L.length + 1 - 0) [] 0 0 = .ok [] 0 0 := by
    rw [show c.L.length + 1 - 0 = c.L.length + 1 by omega, declsLoop, hd]; rfl
  have e1 : procsLoop c (c.L.length + 1 - 0) [] 0 0 = .ok [] 0 0 := by
    rw [show c.L.length + 1 - 0 = c.L.length + 1 by omega, procsLoop, if_neg (by rw [h.kd]; omega)]
  obtain ⟨t, ht⟩ := wPlain (d := 0) h (by omega)
  have hb : blkS c 1 0 = .ok [] 3 0 := block_none h.next (by omega)
  obtain ⟨t2, ht2⟩ := wPlain (d := 0) h.next.next.next (by omega)
  refine ⟨fun s a1 hs hlt h1 => ?_, fun p er hs => ?_⟩
  · have hb2 : blkS c 4 0 = .ok [s] (a1 + 1) 0 := block_ok (d := 0) h.next.next.next.next hk (by omega) hs h1 hlt
    apply Exists.intro
    apply Exists.intro
    apply Exists.intro
    unfold programS
    rw [e0]
    show (Out.bind (procsLoop c (c.L.length + 1 - 0) [] 0 0) _) = _
    rw [e1]
    show (Out.bind (wantS c 13 0 0) _) = _
    rw [ht]
    show (Out.bind (blkS c 1 0) _) = _
    rw [hb]
    show (Out.bind (wantS c 18 3 0) _) = _
    rw [ht2]
    show (Out.bind (blkS c 4 0) _) = _
    rw [hb2]
    show (if kd c (a1 + 1) = 0 then _ else _) = _
    rw [if_pos h1.next.nil]
  · have hb2 : blkS c 4 0 = .bad p er := block_bad (d := 0) h.next.next.next.next hk (by omega) hs
    unfold programS
    rw [e0]
    show (Out.bind (procsLoop c (c.L.length + 1 - 0) [] 0 0) _) = _
    rw [e1]
    show (Out.bind (wantS c 13 0 0) _) = _
    rw [ht]
    show (Out.bind (blkS c 1 0) _) = _
    rw [hb]
    show (Out.bind (wantS c 18 3 0) _) = _
    rw [ht2]
    show (Out.bind (blkS c 4 0) _) = _
    rw [hb2]
    rfl
end Go.Proofs.YtgaoapnaplgaiaaGreatDoor.Sc

namespace Go.Proofs.YtgaoapnaplgaiaaGreatDoor.Sc
set_option maxRecDepth 100000

abbrev zTk : Tok := (0, 0, 0, 0)
theorem chain_pos {l : List Int} {p : Nat} {ts : List Tok} (h : Chain l p ts) : ∀ t ∈ ts, (p : Int) ≤ t.2.1 ∧ t.2.1 < t.2.2.1 ∧ t.2.2.1 ≤ ((p + l.length : Nat) : Int) := by
  induction h with
  | done l p g => intro t ht; cases ht
  | tok l p k n a v ts g h1 h2 hc ih =>
    intro t ht
    rcases List.mem_cons.mp ht with rfl | ht
    · dsimp only; omega
    · have := ih t ht
      rw [List.length_drop] at this
      omega
theorem scan_new {K : List Int → Int} {l : List Int} {p : Nat} {acc L : List Tok} (h : scan K l p acc = .toks L) : ∃ new, L = acc ++ new ∧ Chain l p new := scanF_chain K l.length l p acc L (Nat.le_refl _) h
/-- A later token ends behind p. -/
theorem scan_later {K : List Int → Int} {l : List Int} {p : Nat} {acc L : List Tok} (h : scan K l p acc = .toks L) {i : Nat} (hi : acc.length ≤ i) (hl : i < L.length) : (p : Int) ≤ (L.getD i zTk).2.1 ∧ (L.getD i zTk).2.1 < (L.getD i zTk).2.2.1 ∧ (L.getD i zTk).2.2.1 ≤ ((p + l.length : Nat) : Int) := by
  obtain ⟨new, rfl, hc⟩ := scan_new h
  refine chain_pos hc _ ?_
  rw [List.length_append] at hl
  rw [List.getD_eq_getElem?_getD, List.getElem?_append_right hi, List.getElem?_eq_getElem (by omega)]
  exact List.getElem_mem _
end Go.Proofs.YtgaoapnaplgaiaaGreatDoor.Sc

namespace Go.Proofs.YtgaoapnaplgaiaaGreatDoor.Sc
set_option maxRecDepth 100000
open Go.RowKit Tk

/-- A text's tokens have these kinds. -/
def KS (l ks : List Int) : Prop := ∀ (p : Nat) (acc : List Tok), acc.length + ks.length ≤ 16384 → ∃ L, scan KB l p acc = .toks L ∧ L.map (·.1) = acc.map (·.1) ++ ks
theorem KS.nil : KS [] [] := fun p acc _ => ⟨acc, scan_nil _ _ _, by simp⟩
theorem KS.blank {l ks : List Int} (h : KS l ks) : KS (32 :: l) ks := fun p acc ha => by
  rw [scan_cons, if_pos (by decide)]
  exact h _ _ ha
theorem KS.tok {c : Int} {t ks : List Int} {k : Int} {n : Nat} {v : Int} (hb : isBlank c = false) (hc : cmAt (c :: t) = .no) (ho : one KB (c :: t) = .ok (k, n, v)) (h : KS ((c :: t).drop n) ks) : KS (c :: t) (k :: ks) := fun p acc ha => by
  rw [List.length_cons] at ha
  rw [scan_cons, if_neg (by rw [hb]; simp), hc]
  simp only
  rw [ho]
  simp only
  rw [if_neg (by omega)]
  obtain ⟨L, h1, h2⟩ := h (p + n) (acc ++ [(k, (p : Int), ((p + n : Nat) : Int), v)]) (by simp; omega)
  exact ⟨L, h1, by rw [h2]; simp⟩
theorem mark1 {c x : Int} {t : List Int} {k : Int} (h1 : isLetter c = false) (h2 : isDigit c = false) (h3 : KB [c, x] = 0) (h4 : KB [c] = k) (hk : k ≠ 0) : one KB (c :: x :: t) = .ok (k, 1, 0) := by
  unfold one
  simp only
  rw [if_neg (by rw [h1]; simp), if_neg (by rw [h2]; simp), if_neg (by rintro ⟨_, h⟩; exact h h3), if_pos (by show KB [c] ≠ 0; rw [h4]; exact hk), show List.take 1 (c :: x :: t) = [c] from rfl, h4]
theorem cm_not {c : Int} {t : List Int} (h : c ≠ 47) : cmAt (c :: t) = .no := by
  cases t with
  | nil => rfl
  | cons d t => rw [cmAt_two, if_neg (fun e => h e.1), if_neg (fun e => h e.1)]
/-- A mark of one byte, and what stands behind it. -/
theorem KS.mark {c x : Int} {t ks : List Int} (k : Int) (h : KS (x :: t) ks) (hb : isBlank c = false := by decide) (hc : c ≠ 47 := by decide) (h1 : isLetter c = false := by decide) (h2 : isDigit c = false := by decide) (h3 : KB [c, x] = 0 := by kernel_rfl) (h4 : KB [c] = k := by kernel_rfl) (hk : k ≠ 0 := by decide) : KS (c :: x :: t) (k :: ks) :=
  KS.tok hb (cm_not hc) (mark1 h1 h2 h3 h4 hk) h
/-- One digit that is no zero, no digit behind it. -/
theorem KS.one49 {x : Int} {t ks : List Int} (h : KS (x :: t) ks) (hx : isDigit x = false) : KS (49 :: x :: t) (2 :: ks) := by
  have hr : runLen isDigit (49 :: x :: t) = 1 := by
    rw [runLen_cons, if_pos (by decide), runLen_cons, if_neg (by rw [hx]; simp)]
  refine KS.tok (v := 1) (n := 1) (by decide) (cm_not (by decide)) ?_ h
  unfold one
  simp only
  rw [if_neg (by decide), if_pos (by decide), hr, show List.take 1 (49 :: x :: t) = [49] from rfl, if_neg (by decide)]
  rfl
/-- One letter that is no word, no letter and no digit behind it. -/
theorem KS.letter {c x : Int} {t ks : List Int} (h : KS (x :: t) ks) (hx : isWord x = false) (hb : isBlank c = false) (hc : c ≠ 47) (hl : isLetter c = true) (hk : KB [c] = 0) : KS (c :: x :: t) (1 :: ks) := by
  have hr : runLen isWord (c :: x :: t) = 1 := by
    rw [runLen_cons, if_pos (by unfold isWord; rw [hl]; rfl), runLen_cons, if_neg (by rw [hx]; simp)]
  refine KS.tok (v := 0) (n := 1) hb (cm_not hc) ?_ h
  unfold one
  simp only
  rw [if_pos hl, hr, show List.take 1 (c :: x :: t) = [c] from rfl, if_pos hk, if_neg (by decide)]
theorem KS.init {t ks : List Int} (h : KS (123 :: t) ks) : KS (105 :: 110 :: 105 :: 116 :: 123 :: t) (13 :: ks) := by
  have hr : runLen isWord (105 :: 110 :: 105 :: 116 :: 123 :: t) = 4 := rfl
  refine KS.tok (v := 0) (n := 4) (by decide) (cm_not (by decide)) ?_ h
  unfold one
  simp only
  rw [if_pos (by decide), hr, show List.take 4 (105 :: 110 :: 105 :: 116 :: 123 :: t) = [105, 110, 105, 116] from rfl, show KB [105, 110, 105, 116] = 13 by kernel_rfl, if_neg (by decide)]
theorem KS.loop {t ks : List Int} (h : KS (123 :: t) ks) : KS (108 :: 111 :: 111 :: 112 :: 123 :: t) (18 :: ks) := by
  have hr : runLen isWord (108 :: 111 :: 111 :: 112 :: 123 :: t) = 4 := rfl
  refine KS.tok (v := 0) (n := 4) (by decide) (cm_not (by decide)) ?_ h
  unfold one
  simp only
  rw [if_pos (by decide), hr, show List.take 4 (108 :: 111 :: 111 :: 112 :: 123 :: t) = [108, 111, 111, 112] from rfl, show KB [108, 111, 111, 112] = 18 by kernel_rfl, if_neg (by decide)]
theorem KS.kif {t ks : List Int} (h : KS (32 :: t) ks) : KS (105 :: 102 :: 32 :: t) (11 :: ks) := by
  have hr : runLen isWord (105 :: 102 :: 32 :: t) = 2 := rfl
  refine KS.tok (v := 0) (n := 2) (by decide) (cm_not (by decide)) ?_ h
  unfold one
  simp only
  rw [if_pos (by decide), hr, show List.take 2 (105 :: 102 :: 32 :: t) = [105, 102] from rfl, show KB [105, 102] = 11 by kernel_rfl, if_neg (by decide)]
theorem KS.last : KS [125] [52] := by
  refine KS.tok (v := 0) (n := 1) (by decide) rfl ?_ KS.nil
  kernel_rfl
/-- The front of the texts. -/
theorem KS.front {x : Int} {t ks : List Int} (h : KS (x :: t) ks) (hx : KB [123, x] = 0) : KS (105 :: 110 :: 105 :: 116 :: 123 :: 125 :: 108 :: 111 :: 111 :: 112 :: 123 :: x :: t) (13 :: 50 :: 52 :: 18 :: 50 :: ks) :=
  KS.init (KS.mark 50 (KS.mark 52 (KS.loop (KS.mark 50 h (h3 := hx)))))
theorem KS.asg {x : Int} {t ks : List Int} (h : KS (x :: t) ks) (hx : KB [61, x] = 0) : KS (120 :: 61 :: x :: t) (1 :: 44 :: ks) :=
  KS.letter (KS.mark 44 h (h3 := hx)) (by decide) (by decide) (by decide) (by decide) (by kernel_rfl)
def tParens (n : Nat) (r : List Int) : List Int := match n with
  | 0 => 49 :: r
  | n + 1 => 40 :: tParens n (41 :: r)
def tSigns (n : Nat) (r : List Int) : List Int := match n with
  | 0 => 49 :: r
  | n + 1 => 45 :: 32 :: tSigns n r
def tIndex (n : Nat) (r : List Int) : List Int := match n with
  | 0 => 49 :: r
  | n + 1 => 121 :: 91 :: tIndex n (93 :: r)
def tBlocks (n : Nat) (r : List Int) : List Int := match n with
  | 0 => 120 :: 61 :: 45 :: 49 :: 59 :: r
  | n + 1 => 105 :: 102 :: 32 :: 40 :: 49 :: 41 :: 32 :: 123 :: tBlocks n (125 :: r)
theorem ks_parens : ∀ (n : Nat) (x : Int) (t ks : List Int), (x = 41 ∨ x = 59) → KS (x :: t) ks → KS (tParens n (x :: t)) (kParens n ks)
  | 0, x, t, ks, hx, h => KS.one49 h (by rcases hx with rfl | rfl <;> decide)
  | n + 1, x, t, ks, hx, h => by
    have h1 : KS (41 :: x :: t) (33 :: ks) := KS.mark 33 h (h3 := by rcases hx with rfl | rfl <;> kernel_rfl)
    have ih := ks_parens n 41 (x :: t) (33 :: ks) (.inl rfl) h1
    cases n with
    | zero => exact KS.mark 32 ih
    | succ n => exact KS.mark 32 ih
theorem ks_signs : ∀ (n : Nat) (x : Int) (t ks : List Int), x = 59 → KS (x :: t) ks → KS (tSigns n (x :: t)) (kSigns n ks)
  | 0, x, t, ks, hx, h => KS.one49 h (by subst hx; decide)
  | n + 1, x, t, ks, hx, h => KS.mark 37 (KS.blank (ks_signs n x t ks hx h))
theorem ks_index : ∀ (n : Nat) (x : Int) (t ks : List Int), (x = 93 ∨ x = 59) → KS (x :: t) ks → KS (tIndex n (x :: t)) (kIndex n ks)
  | 0, x, t, ks, hx, h => KS.one49 h (by rcases hx with rfl | rfl <;> decide)
  | n + 1, x, t, ks, hx, h => by
    have h1 : KS (93 :: x :: t) (49 :: ks) := KS.mark 49 h (h3 := by rcases hx with rfl | rfl <;> kernel_rfl)
    have ih := ks_index n 93 (x :: t) (49 :: ks) (.inl rfl) h1
    have h2 : KS (91 :: tIndex n (93 :: x :: t)) (48 :: kIndex n (49 :: ks)) := by
      cases n with
      | zero => exact KS.mark 48 ih
      | succ n => exact KS.mark 48 ih
    exact KS.letter h2 (by decide) (by decide) (by decide) (by decide) (by kernel_rfl)
theorem ks_blocks : ∀ (n : Nat) (t ks : List Int), KS (125 :: t) ks → KS (tBlocks n (125 :: t)) (kBlocks n ks)
  | 0, t, ks, h => KS.asg (KS.mark 37 (KS.one49 (KS.mark 41 h) (by decide))) (by kernel_rfl)
  | n + 1, t, ks, h => by
    have h1 : KS (125 :: 125 :: t) (52 :: ks) := KS.mark 52 h
    have ih := ks_blocks n (125 :: t) (52 :: ks) h1
    have h2 : KS (123 :: tBlocks n (125 :: 125 :: t)) (50 :: kBlocks n (52 :: ks)) := by
      cases n with
      | zero => exact KS.mark 50 ih
      | succ n => exact KS.mark 50 ih
    exact KS.kif (KS.blank (KS.mark 32 (KS.one49 (KS.mark 33 (KS.blank h2)) (by decide))))
/-- What reading comes to: taken, or too deep at a place inside. -/
def Ends (ok : Prop) (n : Nat) (o : Option Tre) (p er : Int) : Prop := (ok → er = 0 ∧ o ≠ none) ∧ (¬ ok → er = 41 ∧ 0 ≤ p ∧ p < (n : Int))
theorem parsed_deep {xs ks : List Int} {o : Option Tre} {p er : Int} (hP : Parsed xs.length xs o p er) (hlen : xs.length ≤ 65536) (hks : KS xs ks) (hk : ks.length ≤ 16384) (ok : Prop)
    (h1 : ok → ∀ c : Ctx, Rest c 0 ks → ∃ x a d, programS c 0 0 = .ok x a d) (h2 : ¬ ok → ∀ c : Ctx, Rest c 0 ks → ∃ p, programS c 0 0 = .bad p 41) : Ends ok xs.length o p er := by
  obtain ⟨L, hs, hm⟩ := hks 0 [] (by simpa using hk)
  have hR : ∀ c : Ctx, c.L = L → Rest c 0 ks := fun c e => by
    unfold Rest
    rw [e, hm]; rfl
  cases hP with
  | long h => omega
  | scan h hb => rw [hs] at hb; cases hb
  | @bad c p er hn e1 e2 e3 hp =>
    have hL : c.L = L := by rw [hs] at e3; cases e3; rfl
    refine ⟨fun hok => ?_, fun hok => ?_⟩
    · obtain ⟨x, a, d, hx⟩ := h1 hok c (hR c hL)
      rw [hx] at hp; cases hp
    · obtain ⟨q, hq⟩ := h2 hok c (hR c hL)
      rw [hq] at hp
      cases hp
      refine ⟨rfl, ?_⟩
      obtain ⟨i, _, hi, hi2⟩ := program_bad hq
      have hlt : i < c.L.length := hi2.resolve_left (by omega) |>.2
      have := scan_later e3 (i := i) (Nat.zero_le _) hlt
      rw [hi]
      unfold ps
      rw [if_pos hlt]
      change 0 ≤ (c.L.getD i zTk).2.1 ∧ (c.L.getD i zTk).2.1 < _
      omega
  | @ok c x a d hn e1 e2 e3 hp =>
    have hL : c.L = L := by rw [hs] at e3; cases e3; rfl
    refine ⟨fun hok => ⟨rfl, by simp⟩, fun hok => ?_⟩
    obtain ⟨q, hq⟩ := h2 hok c (hR c hL)
    rw [hq] at hp; cases hp
/-- A program of a loop of one assignment. -/
theorem deep_asg {n : Nat} {ks : List Int} {k : Int} {r : List Int} {a1 : Nat} (he : ks = k :: r) (hk : k ≠ 22) (hn : ∀ c, Rest c 7 (ks) → Nest (unaryS c (c.L.length + 1) 7 1) n a1 1) (ha : 7 < a1)
    (hr : ∀ c, Rest c 7 ks → Rest c a1 [41, 52]) :
    (n ≤ 63 → ∀ c : Ctx, Rest c 0 (13 :: 50 :: 52 :: 18 :: 50 :: 1 :: 44 :: ks) → ∃ x a d, programS c 0 0 = .ok x a d) ∧ (¬ n ≤ 63 → ∀ c : Ctx, Rest c 0 (13 :: 50 :: 52 :: 18 :: 50 :: 1 :: 44 :: ks) → ∃ p, programS c 0 0 = .bad p 41) := by
  subst he
  refine ⟨fun hle c hc => ?_, fun hle c hc => ?_⟩
  all_goals
    have h5 : Rest c 5 (1 :: 44 :: k :: r) := hc.next.next.next.next.next
    have h7 : Rest c 7 (k :: r) := h5.next.next
    have h1 := hr c h7
    have hN := hn c h7
    have hT := prog_top hc (by omega)
  · obtain ⟨e, he⟩ := hN.1 (by omega)
    obtain ⟨s, hs⟩ := asg_ok (f := c.L.length) h5 hk (expr_pass he (noOp_of h1 (.inr (.inr rfl))) (by have := h1.lt; omega)) h1
    exact hT.1 s (a1 + 1) hs (by omega) h1.next
  · obtain ⟨p, hp⟩ := hN.2 (by omega)
    exact ⟨p, hT.2 p 41 (asg_bad (f := c.L.length) h5 hk (expr_bad hp))⟩
abbrev front0 : List Int := [105, 110, 105, 116, 123, 125, 108, 111, 111, 112, 123]
theorem deep0 {n : Nat} (hn : n < 200) {xs : List Int} (hx : xs = front0 ++ 120 :: 61 :: tParens n [59, 125]) {o : Option Tre} {p er : Int} (hlen : xs.length ≤ 65536) (hP : Parsed xs.length xs o p er) : Ends (n ≤ 63) xs.length o p er := by
  subst hx
  obtain ⟨l, e, hl⟩ := kParens_app n [41, 52]
  have hD := deep_asg (n := n) (ks := kParens n [41, 52]) (k := if n = 0 then 2 else 32) (r := (kParens n [41, 52]).tail) (a1 := 7 + (2 * n + 1)) (by cases n <;> rfl) (by split <;> omega)
    (fun c hc => nest_parens n _ 7 1 41 [52] (.inr (.inr rfl)) (by omega) hc (by have := hc.len; rw [e] at this; simp at this; omega)) (by omega) (fun c hc => rest_tail (by rw [← e]; exact hc) hl)
  refine parsed_deep hP hlen (ks := 13 :: 50 :: 52 :: 18 :: 50 :: 1 :: 44 :: kParens n [41, 52]) ?_ (by rw [e]; simp [hl]; omega) _ hD.1 hD.2
  have h0 := ks_parens n 59 [125] [41, 52] (.inr rfl) (KS.mark 41 KS.last)
  cases n with
  | zero => exact KS.front (KS.asg h0 (by kernel_rfl)) (by kernel_rfl)
  | succ n => exact KS.front (KS.asg h0 (by kernel_rfl)) (by kernel_rfl)
theorem deep1 {n : Nat} (hn : n < 200) {xs : List Int} (hx : xs = front0 ++ 120 :: 61 :: tSigns n [59, 125]) {o : Option Tre} {p er : Int} (hlen : xs.length ≤ 65536) (hP : Parsed xs.length xs o p er) : Ends (n ≤ 63) xs.length o p er := by
  subst hx
  obtain ⟨l, e, hl⟩ := kSigns_app n [41, 52]
  have hD := deep_asg (n := n) (ks := kSigns n [41, 52]) (k := if n = 0 then 2 else 37) (r := (kSigns n [41, 52]).tail) (a1 := 7 + (n + 1)) (by cases n <;> rfl) (by split <;> omega)
    (fun c hc => nest_signs n _ 7 1 [41, 52] (by omega) hc (by have := hc.len; rw [e] at this; simp at this; omega)) (by omega) (fun c hc => rest_tail (by rw [← e]; exact hc) hl)
  refine parsed_deep hP hlen (ks := 13 :: 50 :: 52 :: 18 :: 50 :: 1 :: 44 :: kSigns n [41, 52]) ?_ (by rw [e]; simp [hl]; omega) _ hD.1 hD.2
  have h0 := ks_signs n 59 [125] [41, 52] rfl (KS.mark 41 KS.last)
  cases n with
  | zero => exact KS.front (KS.asg h0 (by kernel_rfl)) (by kernel_rfl)
  | succ n => exact KS.front (KS.asg h0 (by kernel_rfl)) (by kernel_rfl)
theorem deep2 {n : Nat} (hn : n < 200) {xs : List Int} (hx : xs = front0 ++ 120 :: 61 :: tIndex n [59, 125]) {o : Option Tre} {p er : Int} (hlen : xs.length ≤ 65536) (hP : Parsed xs.length xs o p er) : Ends (n ≤ 63) xs.length o p er := by
  subst hx
  obtain ⟨l, e, hl⟩ := kIndex_app n [41, 52]
  have hD := deep_asg (n := n) (ks := kIndex n [41, 52]) (k := if n = 0 then 2 else 1) (r := (kIndex n [41, 52]).tail) (a1 := 7 + (3 * n + 1)) (by cases n <;> rfl) (by split <;> omega)
    (fun c hc => nest_index n _ 7 1 41 [52] (.inr (.inr rfl)) (by omega) hc (by have := hc.len; rw [e] at this; simp at this; omega)) (by omega) (fun c hc => rest_tail (by rw [← e]; exact hc) hl)
  refine parsed_deep hP hlen (ks := 13 :: 50 :: 52 :: 18 :: 50 :: 1 :: 44 :: kIndex n [41, 52]) ?_ (by rw [e]; simp [hl]; omega) _ hD.1 hD.2
  have h0 := ks_index n 59 [125] [41, 52] (.inr rfl) (KS.mark 41 KS.last)
  cases n with
  | zero => exact KS.front (KS.asg h0 (by kernel_rfl)) (by kernel_rfl)
  | succ n => exact KS.front (KS.asg h0 (by kernel_rfl)) (by kernel_rfl)
theorem deep3 {n : Nat} (hn : n < 200) {xs : List Int} (hx : xs = front0 ++ tBlocks n [125]) {o : Option Tre} {p er : Int} (hlen : xs.length ≤ 65536) (hP : Parsed xs.length xs o p er) : Ends (n ≤ 62) xs.length o p er := by
  subst hx
  obtain ⟨l, e, hl⟩ := kBlocks_app n [52]
  obtain ⟨k, t, ek, hk⟩ := kBlocks_head n [52]
  have hN : ∀ c, Rest c 5 (kBlocks n [52]) → NestS (stmtS c (c.L.length + 1) 5 1) n (5 + (6 * n + 5)) 1 := fun c hc => nest_blocks n _ 5 1 [] (by omega) hc (by have := hc.len; rw [e] at this; simp at this; omega)
  have hlast : ∀ c, Rest c 5 (kBlocks n [52]) → Rest c (5 + (6 * n + 5)) [52] := fun c hc => rest_tail (by rw [← e]; exact hc) hl
  refine parsed_deep hP hlen (ks := 13 :: 50 :: 52 :: 18 :: 50 :: kBlocks n [52]) ?_ (by rw [e]; simp [hl]; omega) _ (fun hle c hc => ?_) (fun hle c hc => ?_)
  · have h0 := ks_blocks n [] [52] KS.last
    cases n with
    | zero => exact KS.front h0 (by kernel_rfl)
    | succ n => exact KS.front h0 (by kernel_rfl)
  · have h5 := hc.next.next.next.next.next
    obtain ⟨s, hs⟩ := (hN c h5).1 (by omega)
    exact (prog_top (k := k) (r := t) (by rw [← ek]; exact hc) hk).1 s _ hs (by omega) (hlast c h5)
  · have h5 := hc.next.next.next.next.next
    obtain ⟨p, hp⟩ := (hN c h5).2 (by omega)
    exact ⟨p, (prog_top (k := k) (r := t) (by rw [← ek]; exact hc) hk).2 p 41 hp⟩
end Go.Proofs.YtgaoapnaplgaiaaGreatDoor.Sc

