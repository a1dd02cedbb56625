/- This claim's own texts, joined, with only what the claim uses: RefB. -/
import Derived.Test.YteaegfkgnmfleaaDoorBakP22
namespace Go.Proofs.YteaegfkgnmfleaaDoor.Sc
open Go.RowKit Tk Pr Go.Proofs.YteaegfkgnmfleaaDoorW.PrintWords

def numF (v : Int) (l : List Int) : Int := l.foldl (fun v c => if v ≤ 2147483648 then 10 * v + (c - 48) else v) v
theorem ret_lit {tmps : Array Value} {w : World} {k p e v err : Int} {o2 : Obj} {q : Nat} (hp : tmps.getD 4 undef = .pointer (some ⟨w.heap.size, 0, none⟩)) (he : tmps.getD 5 undef = .int .i64 err) :
    (results Tryd.f20 tmps).run Tryd.prog (((w.alloc (B4 k p e v)).alloc o2).drewN q) = .ok (.tuple #[tok4 k p e v, .int .i64 err]) (((w.alloc (B4 k p e v)).alloc o2).drewN q) := by
  have h := results_ct (P := Tryd.prog) (fn := Tryd.f20) rfl tmps (((w.alloc (B4 k p e v)).alloc o2).drewN q) w.heap.size 37 #[.int .i64 k, .int .i64 p, .int .i64 e, .int .i64 v] (0, 0) _ hp
    ((((Below.refl _ _).alloc (Nat.le_refl _) o2).block w.heap.size (by simp)).trans (blk_new w (B4 k p e v))) Tryd.underlying37 rfl (by kernel_rfl)
  rw [h, he]; rfl
theorem getDx {l : List Int} {k : Nat} (h : k < l.length) : l.getD k 0 = l[k] := by simp [List.getD, h]
set_option maxRecDepth 100000 in
set_option maxHeartbeats 4000000 in
theorem ref_digit {A : Option Addr} {n cap : Nat} {xs : List Int} (w : World) (hn : n ≤ 65536) (_hcap : n ≤ cap) (hx : xs.length = n)
    (hl : ∀ c, gimbalref03_letter.f c = some (isLetter c)) (hdg : ∀ c, gimbalref03_digit.f c = some (isDigit c))
    (p : Nat) (hp : p < n) (hL : Lies w A n xs) (hz : isLetter (xs.getD p 0) = false) (hzd : isDigit (xs.getD p 0) = true) (m : Nat) (hm : runLen isDigit (xs.drop p) = m) (hm2 : p + m ≤ n) (hm1 : 1 ≤ m)
    (V : Int) (hV : numF 0 ((xs.drop p).take m) = V)
    (R : Value) (hR : Aside0 (R = .tuple #[tok4 2 p ((p + m : Nat) : Int) V, .int .i64 (if 2147483648 < V ∨ (xs.getD p 0 = 48 ∧ 1 < m) then 34 else 0)])) :
    Calls Tryd.prog 20 #[.slice A n cap, .int .i64 p] w fun e w' => Below w.heap.size w w' ∧
      e = .returned R := by
  have hLL := hL
  obtain ⟨a0, rfl, hcell⟩ := hL p hp
  have kz : ∀ o o2, ((w.alloc o).alloc o2).cell? (a0.add p) = some (.int .u8 (xs.getD p 0)) := fun o o2 => cells2 hcell o o2
  have kzz : ∀ o o2 i, i < n → ((w.alloc o).alloc o2).cell? (a0.add i) = some (.int .u8 (xs.getD i 0)) := fun o o2 i hi => cells2 (hL.at i hi) o o2
  have hw : ∀ j, j < m → isDigit (xs.getD (p + j) 0) = true := fun j hj => by
    have h1 := runLen_all isDigit (xs.drop p) ((xs.drop p).getD j 0)
    rw [hm] at h1
    have hl : j < ((xs.drop p).take m).length := by simp; omega
    have h2 := h1 (by have := List.getElem_mem hl; rw [List.getElem_take] at this; have hl2 : j < (xs.drop p).length := by simp; omega
                      rw [List.getD_eq_getElem?_getD, List.getElem?_eq_getElem hl2]; exact this)
    rw [← h2]; simp [List.getD]
  have hend : p + m < n → isDigit (xs.getD (p + m) 0) = false := fun hlt => by
    have := runLen_stop isDigit (xs.drop p) (by rw [hm]; simp; omega)
    rw [hm] at this
    rw [← this]; simp [List.getD]
  have hnum : ∀ j, j < m → numF 0 ((xs.drop p).take (j + 1)) = if numF 0 ((xs.drop p).take j) ≤ 2147483648 then 10 * numF 0 ((xs.drop p).take j) + (xs.getD (p + j) 0 - 48) else numF 0 ((xs.drop p).take j) := fun j hj => by
    have hl2 : j < (xs.drop p).length := by simp; omega
    have hl3 : p + j < xs.length := by omega
    unfold numF
    rw [getDx hl3, List.take_succ_eq_append_getElem hl2, List.foldl_append]
    simp
  have hnb : ∀ j, j ≤ m → 0 ≤ numF 0 ((xs.drop p).take j) ∧ numF 0 ((xs.drop p).take j) ≤ 21474836489 := fun j => by
    induction j with
    | zero => intro _; simp [numF]
    | succ j ih =>
      intro hj
      have := ih (by omega)
      have hd := hw j (by omega)
      unfold isDigit at hd
      simp only [Bool.and_eq_true, decide_eq_true_iff] at hd
      rw [hnum j (by omega)]
      split <;> omega
  have hlz : gimbalref03_letter.f (xs.getD p 0) = some false := by rw [hl, hz]
  have hdz : gimbalref03_digit.f (xs.getD p 0) = some true := by rw [hdg, hzd]
  have kc := Aside0.mk kzz
  have hL := Aside0.mk hL
  have hLL := Aside0.mk hLL
  have hnum := Aside0.mk hnum
  have hnb := Aside0.mk hnb
  have hw := Aside0.mk hw
  have hend := Aside0.mk hend
  have hV := Aside0.mk hV
  clear kzz
  generalize xs.getD p 0 = z at kz hlz hdz hcell hz hzd hR
  have g0 : (0 : Int) ≤ (p : Int) := by omega
  have g1 : (p : Int) < (n : Int) := by omega
  have sd : ∀ (W : World) (j : Nat) (x : Addr) (v : Value), (W.drewN j).setCell x v = (W.setCell x v).drewN j := fun _ _ _ _ => rfl
  have dd : ∀ (W : World) (j : Nat), (W.drewN j).drew = W.drewN (j + 1) := fun _ _ => rfl
  clear hm
  go_enter Tryd.func20, Tryd.ntmps20
  go_wp2_with (first | (go_at_call 26; with_reducible refine (gimbalref03_letter.calls _ _ _ hlz).mono ?_; rintro e w' ⟨rfl, ⟨nd, rfl⟩⟩) | (go_at_call 27; with_reducible refine (gimbalref03_digit.calls _ _ _ hdz).mono ?_; rintro e w' ⟨rfl, ⟨nd2, rfl⟩⟩))
  go_loopw [] (fun W => ∃ j q : Nat, j ≤ m ∧ W = ((w.alloc Z4).alloc (B4 0 p ((p + j : Nat) : Int) (numF 0 ((xs.drop p).take j)))).drewN q) (fun W => m + p - endOf (w.heap.size + 1) W)
  case atStart => exact ⟨0, _, by omega, rfl⟩
  case round =>
    obtain ⟨j, q, hj, rfl⟩ := hrel
    obtain ⟨i, hi⟩ : ∃ i, p + j = i := ⟨_, rfl⟩
    rw [hi]
    have kci := fun o o2 => kc.out o o2 i
    have hen : ∀ (o : Obj) (a b c d : Int) (q : Nat), endOf (w.heap.size + 1) (((w.alloc o).alloc (B4 a b c d)).drewN q) = c.toNat := fun o a b c d q => by
      have : (((w.alloc o).alloc (B4 a b c d)).drewN q).cell? ⟨w.heap.size + 1, 2, none⟩ = some (.int .i64 c) := by go_simp
      unfold endOf
      rw [this]
    have i0 : (0 : Int) ≤ (i : Int) := by omega
    have wi : IntKind.i64.wrap ((i : Int) + 1) = (i : Int) + 1 := IntWalk.i64_in _ (by omega)
    have hbk := hnb.out j hj
    by_cases hjm : j < m
    · have hwi := hw.out j hjm
      have hnj := hnum.out j hjm
      rw [hi] at hwi hnj
      have kcj := fun o o2 => kci o o2 (by omega)
      clear kci
      generalize xs.getD i 0 = y at kcj hwi hnj
      generalize hv : numF 0 ((xs.drop p).take j) = v at hnj hbk ⊢
      have i1 : (i : Int) < (n : Int) := by omega
      have hd : gimbalref03_digit.f y = some true := by rw [hdg, hwi]
      unfold isDigit at hwi
      simp only [Bool.and_eq_true, decide_eq_true_iff] at hwi
      by_cases hv : v ≤ 2147483648
      · rw [if_pos hv] at hnj
        have dv : decide (v ≤ 2147483648) = true := decide_eq_true hv
        have wa : IntKind.i64.wrap (10 * v) = 10 * v := IntWalk.i64_in _ (by omega)
        have wb : IntKind.u8.wrap (y - 48) = y - 48 := by rw [IntKind.wrap_u8]; omega
        have wc : IntKind.i64.wrap (y - 48) = y - 48 := IntWalk.i64_in _ (by omega)
        have we : IntKind.i64.wrap (10 * v + (y - 48)) = 10 * v + (y - 48) := IntWalk.i64_in _ (by omega)
        have hnj := Aside0.mk hnj
        go_wp2_with (first | (go_at_call 27; with_reducible refine (gimbalref03_digit.calls _ _ _ hd).mono ?_; rintro e w' ⟨rfl, ⟨nd2, rfl⟩⟩))
        go_region
        go_wp2
        exact ⟨⟨j + 1, _, by omega, by rw [show ((p + (j + 1) : Nat) : Int) = (i : Int) + 1 by omega, hnj.out]⟩, by rw [hen, hen]; omega⟩
      · rw [if_neg hv] at hnj
        have dv : decide (v ≤ 2147483648) = false := decide_eq_false hv
        have hnj := Aside0.mk hnj
        go_wp2_with (first | (go_at_call 27; with_reducible refine (gimbalref03_digit.calls _ _ _ hd).mono ?_; rintro e w' ⟨rfl, ⟨nd2, rfl⟩⟩))
        exact ⟨⟨j + 1, _, by omega, by rw [show ((p + (j + 1) : Nat) : Int) = (i : Int) + 1 by omega, hnj.out]⟩, by rw [hen, hen]; omega⟩
    · obtain rfl : j = m := by omega
      rw [hV.out]
      rw [hV.out] at hbk
      rw [hi] at hR
      have w2 : IntKind.i64.wrap ((i : Int) - (p : Int)) = (j : Int) := by (rw [IntWalk.i64_in _ (by omega)]; omega)
      clear hV hnum hnb hw
      by_cases hin : i < n
      · have i1 : decide ((i : Int) < (n : Int)) = true := decide_eq_true (by omega)
        have kcj := fun o o2 => kci o o2 hin
        have hwi := hend.out (by omega)
        rw [hi] at hwi
        clear kci hend
        generalize xs.getD i 0 = y at kcj hwi
        have hd : gimbalref03_digit.f y = some false := by rw [hdg, hwi]
        by_cases hv : 2147483648 < V
        · have dv : decide (2147483648 < V) = true := decide_eq_true hv
          go_wp2_with (first | (go_at_call 27; with_reducible refine (gimbalref03_digit.calls _ _ _ hd).mono ?_; rintro e w' ⟨rfl, ⟨nd2, rfl⟩⟩))
          exact bodyPost_ret (ret_lit rfl rfl) rfl ⟨bel2 _ _ _ _, by rw [hR.out, if_pos (Or.inl hv)]⟩
        · have dv : decide (2147483648 < V) = false := decide_eq_false hv
          by_cases h48 : z = 48
          · subst h48
            by_cases hj1 : 1 < j
            · have dj : decide ((1 : Int) < (j : Int)) = true := decide_eq_true (by omega)
              go_wp2_with (first | (go_at_call 27; with_reducible refine (gimbalref03_digit.calls _ _ _ hd).mono ?_; rintro e w' ⟨rfl, ⟨nd2, rfl⟩⟩))
              exact bodyPost_ret (ret_lit rfl rfl) rfl ⟨bel2 _ _ _ _, by rw [hR.out, if_pos (Or.inr ⟨trivial, hj1⟩)]⟩
            · have dj : decide ((1 : Int) < (j : Int)) = false := decide_eq_false (by omega)
              go_wp2_with (first | (go_at_call 27; with_reducible refine (gimbalref03_digit.calls _ _ _ hd).mono ?_; rintro e w' ⟨rfl, ⟨nd2, rfl⟩⟩))
              exact bodyPost_ret (ret_lit rfl rfl) rfl ⟨bel2 _ _ _ _, by rw [hR.out, if_neg (fun h => h.elim (Int.not_lt.mpr hv) (fun h => hj1 h.2))]⟩
          · have h48b : (z == 48) = false := beq_eq_false_iff_ne.mpr h48
            go_wp2_with (first | (go_at_call 27; with_reducible refine (gimbalref03_digit.calls _ _ _ hd).mono ?_; rintro e w' ⟨rfl, ⟨nd2, rfl⟩⟩))
            exact bodyPost_ret (ret_lit rfl rfl) rfl ⟨bel2 _ _ _ _, by rw [hR.out, if_neg (fun h => h.elim (Int.not_lt.mpr hv) (fun h => h48 h.1))]⟩
      · have i1 : decide ((i : Int) < (n : Int)) = false := decide_eq_false (by omega)
        by_cases hv : 2147483648 < V
        · have dv : decide (2147483648 < V) = true := decide_eq_true hv
          go_wp2
          exact bodyPost_ret (ret_lit rfl rfl) rfl ⟨bel2 _ _ _ _, by rw [hR.out, if_pos (Or.inl hv)]⟩
        · have dv : decide (2147483648 < V) = false := decide_eq_false hv
          by_cases h48 : z = 48
          · subst h48
            by_cases hj1 : 1 < j
            · have dj : decide ((1 : Int) < (j : Int)) = true := decide_eq_true (by omega)
              go_wp2
              exact bodyPost_ret (ret_lit rfl rfl) rfl ⟨bel2 _ _ _ _, by rw [hR.out, if_pos (Or.inr ⟨trivial, hj1⟩)]⟩
            · have dj : decide ((1 : Int) < (j : Int)) = false := decide_eq_false (by omega)
              go_wp2
              exact bodyPost_ret (ret_lit rfl rfl) rfl ⟨bel2 _ _ _ _, by rw [hR.out, if_neg (fun h => h.elim (Int.not_lt.mpr hv) (fun h => hj1 h.2))]⟩
          · have h48b : (z == 48) = false := beq_eq_false_iff_ne.mpr h48
            go_wp2
            exact bodyPost_ret (ret_lit rfl rfl) rfl ⟨bel2 _ _ _ _, by rw [hR.out, if_neg (fun h => h.elim (Int.not_lt.mpr hv) (fun h => h48 h.1))]⟩
end Go.Proofs.YteaegfkgnmfleaaDoor.Sc

