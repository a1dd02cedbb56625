/- This claim's own texts, joined, with only what the claim uses: RefC. -/
import Derived.Test.YteaegfkgnmfleaaDoorBakP23
namespace Go.Proofs.YteaegfkgnmfleaaDoor.Sc
open Go.RowKit Tk Pr Go.Proofs.YteaegfkgnmfleaaDoorW.PrintWords

set_option maxRecDepth 100000 in
set_option maxHeartbeats 4000000 in
theorem ref_other {A : Option Addr} {n cap : Nat} {xs : List Int} (w : World) (hn : n ≤ 65536) (hcap : n ≤ cap) (hx : xs.length = n)
    (hl : ∀ c, gimbalref03_letter.f c = some (isLetter c)) (hdg : ∀ c, gimbalref03_digit.f c = some (isDigit c)) (hKind : ∀ s, gimbalref03_Kind.f 60 s = some (kindOf s))
    (p : Nat) (hp : p < n) (hL : Lies w A n xs) (hz : isLetter (xs.getD p 0) = false) (hzd : isDigit (xs.getD p 0) = false) (K2 K1 : Int) (hK2 : KB ((xs.drop p).take 2) = K2) (hK1 : KB ((xs.drop p).take 1) = K1) (b2 : 0 ≤ K2) (b1 : 0 ≤ K1)
    (R : Value) (hR : Aside0 (R = if p + 2 ≤ n ∧ K2 ≠ 0 then .tuple #[tok4 K2 p ((p + 2 : Nat) : Int) 0, .int .i64 0] else if K1 ≠ 0 then .tuple #[tok4 K1 p ((p + 1 : Nat) : Int) 0, .int .i64 0] else .tuple #[tok4 0 p p 0, .int .i64 31])) :
    Calls Tryd.prog 20 #[.slice A n cap, .int .i64 p] w fun e w' => Below w.heap.size w w' ∧
      e = .returned R := by
  have hLL := hL
  obtain ⟨a0, rfl, hcell⟩ := hL p hp
  have kz : ∀ o o2, ((w.alloc o).alloc o2).cell? (a0.add p) = some (.int .u8 (xs.getD p 0)) := fun o o2 => cells2 hcell o o2
  have hlz : gimbalref03_letter.f (xs.getD p 0) = some false := by rw [hl, hz]
  have hdz : gimbalref03_digit.f (xs.getD p 0) = some false := by rw [hdg, hzd]
  have hsm : ∀ (w : World) (i j : Nat), p + j = i → i ≤ n → (Instr.sliceAt 25 (.slice (some a0) n cap) (some (.int .i64 (p : Int))) (some (.int .i64 (i : Int))) none).run Tryd.prog w = .ok (.slice (tl (some a0) cap p) j (cap - p)) w := fun w i j hi hin => by
    have := slice_mid w (some a0) n cap p i (by omega) (by omega)
    rwa [show i - p = j by omega] at this
  have CV : ∀ (W : World) (j : Nat), p + j ≤ n → Below w.heap.size w W → (convert 25 9 (.slice (tl (some a0) cap p) j (cap - p))).run Tryd.prog W = .ok (.string (strOfNums ((xs.drop p).take j))) W := fun W j hj hb =>
    ((hLL.below hb).mid hcap hj).bytes.convert (by simp; omega) _ 25 5 9 Tryd.underlying25 Tryd.underlying5 Tryd.underlying9
  have hL := Aside0.mk hL
  have hLL := Aside0.mk hLL
  generalize xs.getD p 0 = z at kz hlz hdz hcell hz hzd
  have g0 : (0 : Int) ≤ (p : Int) := by omega
  have g1 : (p : Int) < (n : Int) := by omega
  have sd : ∀ (W : World) (j : Nat) (x : Addr) (v : Value), (W.drewN j).setCell x v = (W.setCell x v).drewN j := fun _ _ _ _ => rfl
  have dd : ∀ (W : World) (j : Nat), (W.drewN j).drew = W.drewN (j + 1) := fun _ _ => rfl
  obtain ⟨p2, hp2⟩ : ∃ i, p + 2 = i := ⟨_, rfl⟩
  obtain ⟨p1, hp1⟩ : ∃ i, p + 1 = i := ⟨_, rfl⟩
  rw [hp1, hp2] at hR
  have w2 : IntKind.i64.wrap ((p : Int) + 2) = (p2 : Int) := by (rw [IntWalk.i64_in _ (by omega)]; omega)
  have w1 : IntKind.i64.wrap ((p : Int) + 1) = (p1 : Int) := by (rw [IntWalk.i64_in _ (by omega)]; omega)
  have s2 := fun w => hsm w p2 2 hp2
  have s1 := fun w => hsm w p1 1 hp1 (by omega)
  have cv2 := fun W => CV W 2
  have cv1 := fun W => CV W 1 (by omega)
  have k2 : gimbalref03_Kind.f 60 (strOfNums ((xs.drop p).take 2)) = some K2 := by rw [hKind, ← hK2]; rfl
  have k1 : gimbalref03_Kind.f 60 (strOfNums ((xs.drop p).take 1)) = some K1 := by rw [hKind, ← hK1]; rfl
  generalize strOfNums ((xs.drop p).take 2) = S2 at cv2 k2
  generalize strOfNums ((xs.drop p).take 1) = S1 at cv1 k1
  clear hsm CV hK2 hK1
  -- behind the loop's two rounds
  go_enter Tryd.func20, Tryd.ntmps20
  go_wp2_with (first | (go_at_call 26; with_reducible refine (gimbalref03_letter.calls _ _ _ hlz).mono ?_; rintro e w' ⟨rfl, ⟨nd, rfl⟩⟩) | (go_at_call 27; with_reducible refine (gimbalref03_digit.calls _ _ _ hdz).mono ?_; rintro e w' ⟨rfl, ⟨nd2, rfl⟩⟩))
  go_loopw [7] (fun v W => ∃ j : Nat, v = .int .i64 j ∧ Aside0 (Bx w W 0 p p 0) ∧ (j = 2 ∨ (j ≤ 1 ∧ ¬ (p2 ≤ n ∧ K2 ≠ 0)) ∧ (j = 1 ∨ K1 = 0))) (fun v _ => (intOf v).toNat)
  case atStart => exact ⟨2, rfl, ⟨bx_lit _ _ _ _ _ _⟩, Or.inl rfl⟩
  case round =>
    obtain ⟨j, rfl, hB, hj⟩ := hrel
    obtain ⟨hbel, c0, c1, c2, c3, f0, f1, f2, f3, z0, z1, z2, z3, y0, y1, y2, y3, hG⟩ := id hB.out
    have hj' : j = 2 ∨ j = 1 ∨ j = 0 := by omega
    rcases hj' with rfl | rfl | rfl
    · by_cases h2 : p2 ≤ n
      · have d2 : decide ((p2 : Int) ≤ (n : Int)) = true := decide_eq_true (by omega)
        have i2 : (p2 : Int) ≤ (n : Int) := by omega
        have s2' := fun w => s2 w h2
        have cv2' := cv2 wr (by omega) hbel
        by_cases hk : K2 = 0
        · subst hk
          go_wp2_with (first | (go_at_call 9; with_reducible refine (gimbalref03_Kind.calls 60 _ _ _ k2).mono ?_; rintro e w3 ⟨rfl, hb3⟩))
          exact ⟨⟨1, rfl, ⟨hB.out.below hb3⟩, Or.inr ⟨⟨by omega, fun h => h.2 rfl⟩, Or.inl rfl⟩⟩, by simp [intOf]⟩
        · have kp : (0 : Int) < K2 := by omega
          go_wp2_with (first | (go_at_call 9; with_reducible refine (gimbalref03_Kind.calls 60 _ _ _ k2).mono ?_; rintro e w3 ⟨rfl, hb3⟩; clear c0 c1 c2 c3 f0 f1 f2 f3 z0 z1 z2 z3 y0 y1 y2 y3 hG hbel; obtain ⟨hbel, c0, c1, c2, c3, f0, f1, f2, f3, z0, z1, z2, z3, y0, y1, y2, y3, hG⟩ := hB.out.below hb3; clear hb3))
          exact bodyPost_ret (ret_box (by repeat (first | with_reducible exact hG.out | refine blk_far ?_ (by dsimp only; omega) _)) rfl rfl) rfl ⟨by repeat (first | with_reducible exact hbel | refine Below.setCell ?_ (by dsimp only; omega) _), by rw [hR.out, if_pos ⟨h2, hk⟩]⟩
      · have d2 : decide ((p2 : Int) ≤ (n : Int)) = false := decide_eq_false (by omega)
        go_wp2
        exact ⟨⟨1, rfl, hB, Or.inr ⟨⟨by omega, fun h => h2 h.1⟩, Or.inl rfl⟩⟩, by simp [intOf]⟩
    · have hne : ¬ (p2 ≤ n ∧ K2 ≠ 0) := by
        rcases hj with h | ⟨h, _⟩
        · omega
        · exact h.2
      have hne := Aside0.mk hne
      clear hj
      have d1 : decide ((p1 : Int) ≤ (n : Int)) = true := decide_eq_true (by omega)
      have i1 : (p1 : Int) ≤ (n : Int) := by omega
      have cv1' := cv1 wr hbel
      by_cases hk : K1 = 0
      · subst hk
        go_wp2_with (first | (go_at_call 9; with_reducible refine (gimbalref03_Kind.calls 60 _ _ _ k1).mono ?_; rintro e w3 ⟨rfl, hb3⟩))
        exact ⟨⟨0, rfl, ⟨hB.out.below hb3⟩, Or.inr ⟨⟨by omega, hne.out⟩, Or.inr (by trivial)⟩⟩, by simp [intOf]⟩
      · have kp : (0 : Int) < K1 := by omega
        go_wp2_with (first | (go_at_call 9; with_reducible refine (gimbalref03_Kind.calls 60 _ _ _ k1).mono ?_; rintro e w3 ⟨rfl, hb3⟩; clear c0 c1 c2 c3 f0 f1 f2 f3 z0 z1 z2 z3 y0 y1 y2 y3 hG hbel; obtain ⟨hbel, c0, c1, c2, c3, f0, f1, f2, f3, z0, z1, z2, z3, y0, y1, y2, y3, hG⟩ := hB.out.below hb3; clear hb3))
        exact bodyPost_ret (ret_box (by repeat (first | with_reducible exact hG.out | refine blk_far ?_ (by dsimp only; omega) _)) rfl rfl) rfl ⟨by repeat (first | with_reducible exact hbel | refine Below.setCell ?_ (by dsimp only; omega) _), by rw [hR.out, if_neg hne.out, if_pos hk]⟩
    · have hne : (¬ (p2 ≤ n ∧ K2 ≠ 0)) ∧ K1 = 0 := by
        rcases hj with h | ⟨h, h3⟩
        · omega
        · exact ⟨h.2, h3.resolve_left (by omega)⟩
      have hne := Aside0.mk hne
      clear hj
      go_wp2
      exact bodyPost_ret (ret_box (by repeat (first | with_reducible exact hG.out | refine blk_far ?_ (by dsimp only; omega) _)) rfl rfl) rfl ⟨by repeat (first | with_reducible exact hbel | refine Below.setCell ?_ (by dsimp only; omega) _), by rw [hR.out, if_neg hne.out.1, if_neg (fun h => h hne.out.2)]⟩
end Go.Proofs.YteaegfkgnmfleaaDoor.Sc

