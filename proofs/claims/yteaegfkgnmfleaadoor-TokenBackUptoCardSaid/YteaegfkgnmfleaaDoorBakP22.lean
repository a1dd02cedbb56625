/- This claim's own texts, joined, with only what the claim uses: RefA. -/
import Derived.Test.YteaegfkgnmfleaaDoorBakP10
import Derived.Test.YteaegfkgnmfleaaDoorBakP19
import Derived.Test.YteaegfkgnmfleaaDoorBakP20
namespace Go.Proofs.YteaegfkgnmfleaaDoor.Sc
open Go.RowKit Tk Pr Go.Proofs.YteaegfkgnmfleaaDoorW.PrintWords

def endOf (g : Nat) (W : World) : Nat := match W.cell? ⟨g, 2, none⟩ with | some (.int _ v) => v.toNat | _ => 0
abbrev Z4 : Obj := .cells #[.int .i64 0, .int .i64 0, .int .i64 0, .int .i64 0] 37
abbrev B4 (k p e v : Int) : Obj := .cells #[.int .i64 k, .int .i64 p, .int .i64 e, .int .i64 v] 37
theorem runLen_stop (f : Int → Bool) : ∀ (l : List Int), runLen f l < l.length → f (l.getD (runLen f l) 0) = false
  | [], h => by simp at h
  | c :: l, h => by
    rw [runLen_cons] at h ⊢
    by_cases hc : f c = true
    · rw [if_pos hc] at h ⊢
      simp only [List.length_cons] at h
      have := runLen_stop f l (by omega)
      simpa using this
    · rw [if_neg hc]
      simpa using hc
/-- What stands in the two boxes behind a call that leaves all as it was. -/
structure Bx (w W : World) (k p e v : Int) : Prop where
  bel : Below w.heap.size w W
  c0 : W.cell? ⟨w.heap.size + 1, 0, none⟩ = some (.int .i64 k)
  c1 : W.cell? ⟨w.heap.size + 1, 1, none⟩ = some (.int .i64 p)
  c2 : W.cell? ⟨w.heap.size + 1, 2, none⟩ = some (.int .i64 e)
  c3 : W.cell? ⟨w.heap.size + 1, 3, none⟩ = some (.int .i64 v)
  f0 : W.frozen? ⟨w.heap.size + 1, 0, none⟩ = false
  f1 : W.frozen? ⟨w.heap.size + 1, 1, none⟩ = false
  f2 : W.frozen? ⟨w.heap.size + 1, 2, none⟩ = false
  f3 : W.frozen? ⟨w.heap.size + 1, 3, none⟩ = false
  z0 : W.cell? ⟨w.heap.size, 0, none⟩ = some (.int .i64 0)
  z1 : W.cell? ⟨w.heap.size, 1, none⟩ = some (.int .i64 0)
  z2 : W.cell? ⟨w.heap.size, 2, none⟩ = some (.int .i64 0)
  z3 : W.cell? ⟨w.heap.size, 3, none⟩ = some (.int .i64 0)
  y0 : W.frozen? ⟨w.heap.size, 0, none⟩ = false
  y1 : W.frozen? ⟨w.heap.size, 1, none⟩ = false
  y2 : W.frozen? ⟨w.heap.size, 2, none⟩ = false
  y3 : W.frozen? ⟨w.heap.size, 3, none⟩ = false
  hG : Aside0 (W.heap[w.heap.size]? = some (.cells #[.int .i64 0, .int .i64 0, .int .i64 0, .int .i64 0] 37 (0, 0)))
theorem bx_lit (w : World) (k p e v : Int) (q : Nat) : Bx w (((w.alloc Z4).alloc (B4 k p e v)).drewN q) k p e v where
  bel := bel2 _ _ _ _
  c0 := by go_simp
  c1 := by go_simp
  c2 := by go_simp
  c3 := by go_simp
  f0 := by go_simp
  f1 := by go_simp
  f2 := by go_simp
  f3 := by go_simp
  z0 := by go_simp
  z1 := by go_simp
  z2 := by go_simp
  z3 := by go_simp
  y0 := by go_simp
  y1 := by go_simp
  y2 := by go_simp
  y3 := by go_simp
  hG := ⟨(((Below.refl _ _).alloc (Nat.le_refl _) (B4 k p e v)).block w.heap.size (by simp)).trans (blk_new w Z4)⟩
theorem Bx.below {w W W' : World} {k p e v : Int} (h : Bx w W k p e v) (hb : Below W.heap.size W W') : Bx w W' k p e v :=
  ⟨h.bel.trans (hb.mono h.bel.size), (hb.cell (World.block_lt_of_cell? W _ h.c0)).trans h.c0, (hb.cell (World.block_lt_of_cell? W _ h.c1)).trans h.c1, (hb.cell (World.block_lt_of_cell? W _ h.c2)).trans h.c2, (hb.cell (World.block_lt_of_cell? W _ h.c3)).trans h.c3,
    (hb.frozen (p := ⟨w.heap.size + 1, 0, none⟩) (World.block_lt_of_cell? W _ h.c0)).trans h.f0, (hb.frozen (p := ⟨w.heap.size + 1, 1, none⟩) (World.block_lt_of_cell? W _ h.c1)).trans h.f1, (hb.frozen (p := ⟨w.heap.size + 1, 2, none⟩) (World.block_lt_of_cell? W _ h.c2)).trans h.f2, (hb.frozen (p := ⟨w.heap.size + 1, 3, none⟩) (World.block_lt_of_cell? W _ h.c3)).trans h.f3,
    (hb.cell (World.block_lt_of_cell? W _ h.z0)).trans h.z0, (hb.cell (World.block_lt_of_cell? W _ h.z1)).trans h.z1, (hb.cell (World.block_lt_of_cell? W _ h.z2)).trans h.z2, (hb.cell (World.block_lt_of_cell? W _ h.z3)).trans h.z3,
    (hb.frozen (p := ⟨w.heap.size, 0, none⟩) (World.block_lt_of_cell? W _ h.z0)).trans h.y0, (hb.frozen (p := ⟨w.heap.size, 1, none⟩) (World.block_lt_of_cell? W _ h.z1)).trans h.y1, (hb.frozen (p := ⟨w.heap.size, 2, none⟩) (World.block_lt_of_cell? W _ h.z2)).trans h.y2, (hb.frozen (p := ⟨w.heap.size, 3, none⟩) (World.block_lt_of_cell? W _ h.z3)).trans h.y3, ⟨blk_below h.hG.out hb⟩⟩
theorem ret_box {tmps : Array Value} {X : World} {g : Nat} {k p e v err : Int} (hg : X.heap[g]? = some (.cells #[.int .i64 0, .int .i64 0, .int .i64 0, .int .i64 0] 37 (0, 0)))
    (hp : tmps.getD 4 undef = .pointer (some ⟨g, 0, none⟩)) (he : tmps.getD 5 undef = .int .i64 err) :
    (results Tryd.f20 tmps).run Tryd.prog ((((X.setCell ⟨g, 0, none⟩ (.int .i64 k)).setCell ⟨g, 1, none⟩ (.int .i64 p)).setCell ⟨g, 2, none⟩ (.int .i64 e)).setCell ⟨g, 3, none⟩ (.int .i64 v)) =
      .ok (.tuple #[tok4 k p e v, .int .i64 err]) ((((X.setCell ⟨g, 0, none⟩ (.int .i64 k)).setCell ⟨g, 1, none⟩ (.int .i64 p)).setCell ⟨g, 2, none⟩ (.int .i64 e)).setCell ⟨g, 3, none⟩ (.int .i64 v)) := by
  have h := results_ct (P := Tryd.prog) (fn := Tryd.f20) rfl tmps _ g 37 #[.int .i64 k, .int .i64 p, .int .i64 e, .int .i64 v] (0, 0) _ hp
    (blk_put (blk_put (blk_put (blk_put hg 0 (.int .i64 k) rfl) 1 (.int .i64 p) rfl) 2 (.int .i64 e) rfl) 3 (.int .i64 v) rfl) Tryd.underlying37 rfl (by kernel_rfl)
  rw [h, he]; rfl
set_option maxRecDepth 100000 in
set_option maxHeartbeats 4000000 in
theorem ref_letter {A : Option Addr} {n cap : Nat} {xs : List Int} (w : World) (hn : n ≤ 65536) (hcap : n ≤ cap) (hx : xs.length = n)
    (hl : ∀ c, gimbalref03_letter.f c = some (isLetter c)) (hdg : ∀ c, gimbalref03_digit.f c = some (isDigit c)) (hKind : ∀ s, gimbalref03_Kind.f 60 s = some (kindOf s))
    (p : Nat) (hp : p < n) (hL : Lies w A n xs) (hz : isLetter (xs.getD p 0) = true) (m : Nat) (hm : runLen isWord (xs.drop p) = m) (hm2 : p + m ≤ n) (K : Int) (hK : KB ((xs.drop p).take m) = K)
    (R : Value) (hR : Aside0 (R = if K = 0 then (.tuple #[tok4 1 p ((p + m : Nat) : Int) 0, .int .i64 (if 32 < m then 33 else 0)]) else (.tuple #[tok4 K p ((p + m : Nat) : Int) 0, .int .i64 0]))) :
    Calls Tryd.prog 20 #[.slice A n cap, .int .i64 p] w fun e w' => Below w.heap.size w w' ∧
      e = .returned R := by
  have hLL := hL
  obtain ⟨a0, rfl, hcell⟩ := hL p hp
  have kz : ∀ o o2, ((w.alloc o).alloc o2).cell? (a0.add p) = some (.int .u8 (xs.getD p 0)) := fun o o2 => cells2 hcell o o2
  have kzz : ∀ o o2 i, i < n → ((w.alloc o).alloc o2).cell? (a0.add i) = some (.int .u8 (xs.getD i 0)) := fun o o2 i hi => cells2 (hL.at i hi) o o2
  have hw : ∀ j, j < m → isWord (xs.getD (p + j) 0) = true := fun j hj => by
    have h1 := runLen_all isWord (xs.drop p) ((xs.drop p).getD j 0)
    rw [hm] at h1
    have hl : j < ((xs.drop p).take m).length := by simp; omega
    have h2 := h1 (by have := List.getElem_mem hl; rw [List.getElem_take] at this; have hl2 : j < (xs.drop p).length := by simp; omega
                      rw [List.getD_eq_getElem?_getD, List.getElem?_eq_getElem hl2]; exact this)
    rw [← h2]; simp [List.getD]
  have hend : p + m < n → isWord (xs.getD (p + m) 0) = false := fun hlt => by
    have := runLen_stop isWord (xs.drop p) (by rw [hm]; simp; omega)
    rw [hm] at this
    rw [← this]; simp [List.getD]
  have hlz : gimbalref03_letter.f (xs.getD p 0) = some true := by rw [hl, hz]
  have kc := Aside0.mk kzz
  have hL := Aside0.mk hL
  have hLL := Aside0.mk hLL
  clear kzz
  generalize xs.getD p 0 = z at kz hlz hcell hz
  have g0 : (0 : Int) ≤ (p : Int) := by omega
  have g1 : (p : Int) < (n : Int) := by omega
  have sd : ∀ (W : World) (j : Nat) (x : Addr) (v : Value), (W.drewN j).setCell x v = (W.setCell x v).drewN j := fun _ _ _ _ => rfl
  have dd : ∀ (W : World) (j : Nat), (W.drewN j).drew = W.drewN (j + 1) := fun _ _ => rfl
  go_enter Tryd.func20, Tryd.ntmps20
  go_wp2_with (first | (go_at_call 26; with_reducible refine (gimbalref03_letter.calls _ _ _ hlz).mono ?_; rintro e w' ⟨rfl, ⟨nd, rfl⟩⟩))

  go_loopw [] (fun W => ∃ j q : Nat, j ≤ m ∧ W = ((w.alloc Z4).alloc (B4 0 p ((p + j : Nat) : Int) 0)).drewN q) (fun W => m + p - endOf (w.heap.size + 1) W)
  case atStart => exact ⟨0, nd, by omega, rfl⟩
  case round =>
    obtain ⟨j, q, hj, rfl⟩ := hrel
    obtain ⟨i, hi⟩ : ∃ i, p + j = i := ⟨_, rfl⟩
    rw [hi]
    have kci := fun o o2 => kc.out o o2 i
    have hen : ∀ (o : Obj) (a b c d : Int) (q : Nat), endOf (w.heap.size + 1) (((w.alloc o).alloc (B4 a b c d)).drewN q) = c.toNat := fun o a b c d q => by
      have : (((w.alloc o).alloc (B4 a b c d)).drewN q).cell? ⟨w.heap.size + 1, 2, none⟩ = some (.int .i64 c) := by go_simp
      unfold endOf
      rw [this]
    have i0 : (0 : Int) ≤ (i : Int) := by omega
    have wi : IntKind.i64.wrap ((i : Int) + 1) = (i : Int) + 1 := IntWalk.i64_in _ (by omega)
    by_cases hjm : j < m
    · have hwi := hw j hjm
      rw [hi] at hwi
      have kcj := fun o o2 => kci o o2 (by omega)
      clear kci
      generalize xs.getD i 0 = y at kcj hwi
      have i1 : (i : Int) < (n : Int) := by omega
      cases hly : isLetter y with
      | true =>
        have hf : gimbalref03_letter.f y = some true := by rw [hl, hly]
        go_wp2_with (first | (go_at_call 26; with_reducible refine (gimbalref03_letter.calls _ _ _ hf).mono ?_; rintro e w' ⟨rfl, ⟨nd, rfl⟩⟩))
        exact ⟨⟨j + 1, q + nd, by omega, by rw [show ((p + (j + 1) : Nat) : Int) = (i : Int) + 1 by omega]⟩, by rw [hen, hen]; omega⟩
      | false =>
        have hf : gimbalref03_letter.f y = some false := by rw [hl, hly]
        have hd : gimbalref03_digit.f y = some true := by
          rw [hdg]
          unfold isWord at hwi
          rw [hly] at hwi
          exact congrArg some hwi
        go_wp2_with (first | (go_at_call 26; with_reducible refine (gimbalref03_letter.calls _ _ _ hf).mono ?_; rintro e w' ⟨rfl, ⟨nd, rfl⟩⟩) | (go_at_call 27; with_reducible refine (gimbalref03_digit.calls _ _ _ hd).mono ?_; rintro e w' ⟨rfl, ⟨nd2, rfl⟩⟩))
        exact ⟨⟨j + 1, q + nd + nd2, by omega, by rw [show ((p + (j + 1) : Nat) : Int) = (i : Int) + 1 by omega]⟩, by rw [hen, hen]; omega⟩
    · obtain rfl : j = m := by omega
      have hsm : ∀ w, (Instr.sliceAt 25 (.slice (some a0) n cap) (some (.int .i64 (p : Int))) (some (.int .i64 (i : Int))) none).run Tryd.prog w = .ok (.slice (tl (some a0) cap p) j (cap - p)) w := fun w => by
        have := slice_mid w (some a0) n cap p i (by omega) (by omega)
        rwa [show i - p = j by omega] at this
      have CV := conv2 (m := j) hx hcap (by omega) hLL.out
      have hKf : gimbalref03_Kind.f 60 (strOfNums ((xs.drop p).take j)) = some K := by rw [hKind, ← hK]; rfl
      have w2 : IntKind.i64.wrap ((i : Int) - (p : Int)) = (j : Int) := by (rw [IntWalk.i64_in _ (by omega)]; omega)
      rw [hi] at hR
      by_cases hin : i < n
      · have i1 : decide ((i : Int) < (n : Int)) = true := decide_eq_true (by omega)
        have kcj := fun o o2 => kci o o2 hin
        have hwi := hend (by omega)
        rw [hi] at hwi
        clear kci
        generalize xs.getD i 0 = y at kcj hwi
        unfold isWord at hwi
        have hf : gimbalref03_letter.f y = some false := by rw [hl]; cases h : isLetter y <;> simp [h] at hwi ⊢
        have hd : gimbalref03_digit.f y = some false := by rw [hdg]; cases h : isDigit y <;> simp [h] at hwi ⊢
        by_cases hk0 : K = 0
        · subst hk0
          by_cases h32 : 32 < j
          · have d32 : decide ((32 : Int) < (j : Int)) = true := decide_eq_true (by omega)
            go_wp2_with (first | (go_at_call 26; with_reducible refine (gimbalref03_letter.calls _ _ _ hf).mono ?_; rintro e w' ⟨rfl, ⟨nd, rfl⟩⟩) | (go_at_call 27; with_reducible refine (gimbalref03_digit.calls _ _ _ hd).mono ?_; rintro e w' ⟨rfl, ⟨nd2, rfl⟩⟩) | (go_at_call 9; with_reducible refine (gimbalref03_Kind.calls 60 _ _ _ hKf).mono ?_; rintro e w3 ⟨rfl, hb3⟩; obtain ⟨hbel, c0, c1, c2, c3, f0, f1, f2, f3, z0, z1, z2, z3, y0, y1, y2, y3, hG⟩ := (bx_lit w 0 p i 0 _).below hb3; clear hb3))
            exact bodyPost_ret (ret_box (by repeat (first | with_reducible exact hG.out | refine blk_far ?_ (by dsimp only; omega) _)) rfl rfl) rfl ⟨by repeat (first | with_reducible exact hbel | refine Below.setCell ?_ (by dsimp only; omega) _), by rw [hR.out, if_pos trivial, if_pos h32]⟩
          · have d32 : decide ((32 : Int) < (j : Int)) = false := decide_eq_false (by omega)
            go_wp2_with (first | (go_at_call 26; with_reducible refine (gimbalref03_letter.calls _ _ _ hf).mono ?_; rintro e w' ⟨rfl, ⟨nd, rfl⟩⟩) | (go_at_call 27; with_reducible refine (gimbalref03_digit.calls _ _ _ hd).mono ?_; rintro e w' ⟨rfl, ⟨nd2, rfl⟩⟩) | (go_at_call 9; with_reducible refine (gimbalref03_Kind.calls 60 _ _ _ hKf).mono ?_; rintro e w3 ⟨rfl, hb3⟩; obtain ⟨hbel, c0, c1, c2, c3, f0, f1, f2, f3, z0, z1, z2, z3, y0, y1, y2, y3, hG⟩ := (bx_lit w 0 p i 0 _).below hb3; clear hb3))
            exact bodyPost_ret (ret_box (by repeat (first | with_reducible exact hG.out | refine blk_far ?_ (by dsimp only; omega) _)) rfl rfl) rfl ⟨by repeat (first | with_reducible exact hbel | refine Below.setCell ?_ (by dsimp only; omega) _), by rw [hR.out, if_pos trivial, if_neg h32]⟩
        · have hkb : (K == 0) = false := beq_eq_false_iff_ne.mpr hk0
          go_wp2_with (first | (go_at_call 26; with_reducible refine (gimbalref03_letter.calls _ _ _ hf).mono ?_; rintro e w' ⟨rfl, ⟨nd, rfl⟩⟩) | (go_at_call 27; with_reducible refine (gimbalref03_digit.calls _ _ _ hd).mono ?_; rintro e w' ⟨rfl, ⟨nd2, rfl⟩⟩) | (go_at_call 9; with_reducible refine (gimbalref03_Kind.calls 60 _ _ _ hKf).mono ?_; rintro e w3 ⟨rfl, hb3⟩; obtain ⟨hbel, c0, c1, c2, c3, f0, f1, f2, f3, z0, z1, z2, z3, y0, y1, y2, y3, hG⟩ := (bx_lit w 0 p i 0 _).below hb3; clear hb3))
          exact bodyPost_ret (ret_box (by repeat (first | with_reducible exact hG.out | refine blk_far ?_ (by dsimp only; omega) _)) rfl rfl) rfl ⟨by repeat (first | with_reducible exact hbel | refine Below.setCell ?_ (by dsimp only; omega) _), by rw [hR.out, if_neg hk0]⟩
      · have i1 : decide ((i : Int) < (n : Int)) = false := decide_eq_false (by omega)
        by_cases hk0 : K = 0
        · subst hk0
          by_cases h32 : 32 < j
          · have d32 : decide ((32 : Int) < (j : Int)) = true := decide_eq_true (by omega)
            go_wp2_with (first | (go_at_call 9; with_reducible refine (gimbalref03_Kind.calls 60 _ _ _ hKf).mono ?_; rintro e w3 ⟨rfl, hb3⟩; obtain ⟨hbel, c0, c1, c2, c3, f0, f1, f2, f3, z0, z1, z2, z3, y0, y1, y2, y3, hG⟩ := (bx_lit w 0 p i 0 _).below hb3; clear hb3))
            exact bodyPost_ret (ret_box (by repeat (first | with_reducible exact hG.out | refine blk_far ?_ (by dsimp only; omega) _)) rfl rfl) rfl ⟨by repeat (first | with_reducible exact hbel | refine Below.setCell ?_ (by dsimp only; omega) _), by rw [hR.out, if_pos trivial, if_pos h32]⟩
          · have d32 : decide ((32 : Int) < (j : Int)) = false := decide_eq_false (by omega)
            go_wp2_with (first | (go_at_call 9; with_reducible refine (gimbalref03_Kind.calls 60 _ _ _ hKf).mono ?_; rintro e w3 ⟨rfl, hb3⟩; obtain ⟨hbel, c0, c1, c2, c3, f0, f1, f2, f3, z0, z1, z2, z3, y0, y1, y2, y3, hG⟩ := (bx_lit w 0 p i 0 _).below hb3; clear hb3))
            exact bodyPost_ret (ret_box (by repeat (first | with_reducible exact hG.out | refine blk_far ?_ (by dsimp only; omega) _)) rfl rfl) rfl ⟨by repeat (first | with_reducible exact hbel | refine Below.setCell ?_ (by dsimp only; omega) _), by rw [hR.out, if_pos trivial, if_neg h32]⟩
        · have hkb : (K == 0) = false := beq_eq_false_iff_ne.mpr hk0
          go_wp2_with (first | (go_at_call 9; with_reducible refine (gimbalref03_Kind.calls 60 _ _ _ hKf).mono ?_; rintro e w3 ⟨rfl, hb3⟩; obtain ⟨hbel, c0, c1, c2, c3, f0, f1, f2, f3, z0, z1, z2, z3, y0, y1, y2, y3, hG⟩ := (bx_lit w 0 p i 0 _).below hb3; clear hb3))
          exact bodyPost_ret (ret_box (by repeat (first | with_reducible exact hG.out | refine blk_far ?_ (by dsimp only; omega) _)) rfl rfl) rfl ⟨by repeat (first | with_reducible exact hbel | refine Below.setCell ?_ (by dsimp only; omega) _), by rw [hR.out, if_neg hk0]⟩
end Go.Proofs.YteaegfkgnmfleaaDoor.Sc

