/-
  gimballaw31.CongrReckons returns true, whatever the two congruences, in every world in which the listed tables read as listed: the row, and its card (the tables tied to the program's text). No further condition.
-/
import Derived.Test.YtfmmjekhknaniaaDoorReckP7
import Derived.Test.YtfmmjekhknaniaaDoorReckP4
namespace Go.Proofs.YtfmmjekhknaniaaDoor.Rk
open Go.RowKit Lk
set_option linter.unusedSimpArgs false
attribute [local go_sem high] eqS23 eqS38

theorem start2 (w : World) (a0 b0 : Bool) (a1 a2 b1 b2 : Int) (W : World) (hW : W = ((w.alloc (.cells #[.bool a0, .int .i64 a1, .int .i64 a2] 23)).alloc (.cells #[.bool b0, .int .i64 b1, .int .i64 b2] 23))) : Held w [(w.heap.size, 0, .bool a0), (w.heap.size, 1, .int .i64 a1), (w.heap.size, 2, .int .i64 a2), (w.heap.size + 1, 0, .bool b0), (w.heap.size + 1, 1, .int .i64 b1), (w.heap.size + 1, 2, .int .i64 b2)] W := by
  subst hW
  refine ⟨((Below.refl _ _).alloc (Nat.le_refl _) _).alloc (by simp) _, ?_⟩
  simp only [List.forall_mem_cons, List.not_mem_nil, false_implies, implies_true, and_true]
  refine ⟨⟨by simp <;> omega, by go_simp⟩, ⟨by simp <;> omega, by go_simp⟩, ⟨by simp <;> omega, by go_simp⟩, ⟨by simp, by go_simp⟩, ⟨by simp, by go_simp⟩, ⟨by simp, by go_simp⟩⟩
set_option maxRecDepth 100000 in
set_option maxHeartbeats 16000000 in
theorem unfit_a (a0 b0 : Bool) (a1 a2 b1 b2 : Int)
    (hFa : ∀ w, Calls Tryd.prog 13 #[.agg #[.bool a0, .int .i64 a1, .int .i64 a2]] w fun e w' => e = .returned (.bool false) ∧ Below w.heap.size w w')
    (hAw : ∀ w, Calls Tryd.prog 18 #[] w fun e w' => e = .returned (.bool true) ∧ Below w.heap.size w w') (w : World) :
    Calls Tryd.prog 7 #[.agg #[.bool a0, .int .i64 a1, .int .i64 a2], .agg #[.bool b0, .int .i64 b1, .int .i64 b2]] w fun e w' => e = .returned (.bool true) ∧ Below w.heap.size w w' := by
  have HFa := Lib.hid hFa
  clear hFa
  have HAw := Lib.hid hAw
  clear hAw
  have hS := start2 w a0 b0 a1 a2 b1 b2 _ rfl
  obtain ⟨kB, kk⟩ := Held.open hS
  simp only [List.forall_mem_cons, List.not_mem_nil, false_implies, implies_true, and_true] at kk
  obtain ⟨⟨l0, k0⟩, ⟨l1, k1⟩, ⟨l2, k2⟩, ⟨l3, k3⟩, ⟨l4, k4⟩, ⟨l5, k5⟩⟩ := kk
  go_enter Tryd.func7, Tryd.ntmps7
  go_wp2_with (first | (go_at_call 13; with_reducible refine (HFa.out _).mono ?_; rintro e w1 ⟨rfl, hb⟩; replace hS := Held.keep hb hS; clear hb kB k0 l0 k1 l1 k2 l2 k3 l3 k4 l4 k5 l5; obtain ⟨kB, kk⟩ := Held.open hS; simp only [List.forall_mem_cons, List.not_mem_nil, false_implies, implies_true, and_true] at kk; obtain ⟨⟨l0, k0⟩, ⟨l1, k1⟩, ⟨l2, k2⟩, ⟨l3, k3⟩, ⟨l4, k4⟩, ⟨l5, k5⟩⟩ := kk) | (go_at_call 18; with_reducible refine (HAw.out _).mono ?_; rintro e w1 ⟨rfl, hb⟩; replace hS := Held.keep hb hS; clear hb kB k0 l0 k1 l1 k2 l2 k3 l3 k4 l4 k5 l5; obtain ⟨kB, kk⟩ := Held.open hS; simp only [List.forall_mem_cons, List.not_mem_nil, false_implies, implies_true, and_true] at kk; obtain ⟨⟨l0, k0⟩, ⟨l1, k1⟩, ⟨l2, k2⟩, ⟨l3, k3⟩, ⟨l4, k4⟩, ⟨l5, k5⟩⟩ := kk))
  go_ret
  exact ⟨rfl, hS.1⟩
set_option maxRecDepth 100000 in
set_option maxHeartbeats 16000000 in
theorem unfit_b (a0 b0 : Bool) (a1 a2 b1 b2 : Int)
    (hFa : ∀ w, Calls Tryd.prog 13 #[.agg #[.bool a0, .int .i64 a1, .int .i64 a2]] w fun e w' => e = .returned (.bool true) ∧ Below w.heap.size w w')
    (hFb : ∀ w, Calls Tryd.prog 13 #[.agg #[.bool b0, .int .i64 b1, .int .i64 b2]] w fun e w' => e = .returned (.bool false) ∧ Below w.heap.size w w')
    (hAw : ∀ w, Calls Tryd.prog 18 #[] w fun e w' => e = .returned (.bool true) ∧ Below w.heap.size w w') (w : World) :
    Calls Tryd.prog 7 #[.agg #[.bool a0, .int .i64 a1, .int .i64 a2], .agg #[.bool b0, .int .i64 b1, .int .i64 b2]] w fun e w' => e = .returned (.bool true) ∧ Below w.heap.size w w' := by
  have HFa := Lib.hid hFa
  clear hFa
  have HFb := Lib.hid hFb
  clear hFb
  have HAw := Lib.hid hAw
  clear hAw
  have hS := start2 w a0 b0 a1 a2 b1 b2 _ rfl
  obtain ⟨kB, kk⟩ := Held.open hS
  simp only [List.forall_mem_cons, List.not_mem_nil, false_implies, implies_true, and_true] at kk
  obtain ⟨⟨l0, k0⟩, ⟨l1, k1⟩, ⟨l2, k2⟩, ⟨l3, k3⟩, ⟨l4, k4⟩, ⟨l5, k5⟩⟩ := kk
  go_enter Tryd.func7, Tryd.ntmps7
  go_wp2_with (first | (go_at_call 13; with_reducible refine (HFa.out _).mono ?_; rintro e w1 ⟨rfl, hb⟩; replace hS := Held.keep hb hS; clear hb kB k0 l0 k1 l1 k2 l2 k3 l3 k4 l4 k5 l5; obtain ⟨kB, kk⟩ := Held.open hS; simp only [List.forall_mem_cons, List.not_mem_nil, false_implies, implies_true, and_true] at kk; obtain ⟨⟨l0, k0⟩, ⟨l1, k1⟩, ⟨l2, k2⟩, ⟨l3, k3⟩, ⟨l4, k4⟩, ⟨l5, k5⟩⟩ := kk) | (go_at_call 13; with_reducible refine (HFb.out _).mono ?_; rintro e w1 ⟨rfl, hb⟩; replace hS := Held.keep hb hS; clear hb kB k0 l0 k1 l1 k2 l2 k3 l3 k4 l4 k5 l5; obtain ⟨kB, kk⟩ := Held.open hS; simp only [List.forall_mem_cons, List.not_mem_nil, false_implies, implies_true, and_true] at kk; obtain ⟨⟨l0, k0⟩, ⟨l1, k1⟩, ⟨l2, k2⟩, ⟨l3, k3⟩, ⟨l4, k4⟩, ⟨l5, k5⟩⟩ := kk) | (go_at_call 18; with_reducible refine (HAw.out _).mono ?_; rintro e w1 ⟨rfl, hb⟩; replace hS := Held.keep hb hS; clear hb kB k0 l0 k1 l1 k2 l2 k3 l3 k4 l4 k5 l5; obtain ⟨kB, kk⟩ := Held.open hS; simp only [List.forall_mem_cons, List.not_mem_nil, false_implies, implies_true, and_true] at kk; obtain ⟨⟨l0, k0⟩, ⟨l1, k1⟩, ⟨l2, k2⟩, ⟨l3, k3⟩, ⟨l4, k4⟩, ⟨l5, k5⟩⟩ := kk))
  go_ret
  exact ⟨rfl, hS.1⟩
set_option maxRecDepth 100000 in
set_option maxHeartbeats 16000000 in
theorem fits (a0 b0 : Bool) (a1 a2 b1 b2 : Int) (l : Bool) (n0 s0 j0 m0 p0 q0 t0 d0 o0 : Bool) (n1 n2 s1 s2 j1 j2 m1 m2 p1 p2 q1 q2 t1 t2 d1 d2 o1 o2 : Int)
    (hFa : ∀ w, Calls Tryd.prog 13 #[.agg #[.bool a0, .int .i64 a1, .int .i64 a2]] w fun e w' => e = .returned (.bool true) ∧ Below w.heap.size w w')
    (hFb : ∀ w, Calls Tryd.prog 13 #[.agg #[.bool b0, .int .i64 b1, .int .i64 b2]] w fun e w' => e = .returned (.bool true) ∧ Below w.heap.size w w')
    (hL1 : ∀ w, Calls Tryd.prog 21 #[.agg #[.bool a0, .int .i64 a1, .int .i64 a2], .agg #[.bool b0, .int .i64 b1, .int .i64 b2]] w fun e w' => e = .returned (.bool l) ∧ Below w.heap.size w w')
    (hL2 : ∀ w, Calls Tryd.prog 28 #[.agg #[.bool a0, .int .i64 a1, .int .i64 a2], .agg #[.bool b0, .int .i64 b1, .int .i64 b2]] w fun e w' => e = .returned (.bool l) ∧ Below w.heap.size w w')
    (hnx : ∀ w, Calls Tryd.prog 31 #[.agg #[.bool a0, .int .i64 a1, .int .i64 a2]] w fun e w' => e = .returned (.agg #[.bool n0, .int .i64 n1, .int .i64 n2]) ∧ Below w.heap.size w w')
    (hny : ∀ w, Calls Tryd.prog 32 #[.agg #[.bool a0, .int .i64 a1, .int .i64 a2]] w fun e w' => e = .returned (.agg #[.bool n0, .int .i64 n1, .int .i64 n2]) ∧ Below w.heap.size w w')
    (hsx : ∀ w, Calls Tryd.prog 33 #[.agg #[.bool a0, .int .i64 a1, .int .i64 a2]] w fun e w' => e = .returned (.agg #[.bool s0, .int .i64 s1, .int .i64 s2]) ∧ Below w.heap.size w w')
    (hsy : ∀ w, Calls Tryd.prog 34 #[.agg #[.bool a0, .int .i64 a1, .int .i64 a2]] w fun e w' => e = .returned (.agg #[.bool s0, .int .i64 s1, .int .i64 s2]) ∧ Below w.heap.size w w')
    (hjx : ∀ w, Calls Tryd.prog 19 #[.agg #[.bool a0, .int .i64 a1, .int .i64 a2], .agg #[.bool b0, .int .i64 b1, .int .i64 b2]] w fun e w' => e = .returned (.agg #[.bool j0, .int .i64 j1, .int .i64 j2]) ∧ Below w.heap.size w w')
    (hjy : ∀ w, Calls Tryd.prog 29 #[.agg #[.bool a0, .int .i64 a1, .int .i64 a2], .agg #[.bool b0, .int .i64 b1, .int .i64 b2]] w fun e w' => e = .returned (.agg #[.bool j0, .int .i64 j1, .int .i64 j2]) ∧ Below w.heap.size w w')
    (hmx : ∀ w, Calls Tryd.prog 20 #[.agg #[.bool a0, .int .i64 a1, .int .i64 a2], .agg #[.bool b0, .int .i64 b1, .int .i64 b2]] w fun e w' => e = .returned (.agg #[.bool m0, .int .i64 m1, .int .i64 m2]) ∧ Below w.heap.size w w')
    (hmy : ∀ w, Calls Tryd.prog 30 #[.agg #[.bool a0, .int .i64 a1, .int .i64 a2], .agg #[.bool b0, .int .i64 b1, .int .i64 b2]] w fun e w' => e = .returned (.agg #[.bool m0, .int .i64 m1, .int .i64 m2]) ∧ Below w.heap.size w w')
    (hpx : ∀ w, Calls Tryd.prog 35 #[.agg #[.bool a0, .int .i64 a1, .int .i64 a2], .agg #[.bool b0, .int .i64 b1, .int .i64 b2]] w fun e w' => e = .returned (.agg #[.bool p0, .int .i64 p1, .int .i64 p2]) ∧ Below w.heap.size w w')
    (hpy : ∀ w, Calls Tryd.prog 36 #[.agg #[.bool a0, .int .i64 a1, .int .i64 a2], .agg #[.bool b0, .int .i64 b1, .int .i64 b2]] w fun e w' => e = .returned (.agg #[.bool p0, .int .i64 p1, .int .i64 p2]) ∧ Below w.heap.size w w')
    (hqx : ∀ w, Calls Tryd.prog 37 #[.agg #[.bool a0, .int .i64 a1, .int .i64 a2], .agg #[.bool b0, .int .i64 b1, .int .i64 b2]] w fun e w' => e = .returned (.agg #[.bool q0, .int .i64 q1, .int .i64 q2]) ∧ Below w.heap.size w w')
    (hqy : ∀ w, Calls Tryd.prog 38 #[.agg #[.bool a0, .int .i64 a1, .int .i64 a2], .agg #[.bool b0, .int .i64 b1, .int .i64 b2]] w fun e w' => e = .returned (.agg #[.bool q0, .int .i64 q1, .int .i64 q2]) ∧ Below w.heap.size w w')
    (htx : ∀ w, Calls Tryd.prog 39 #[.agg #[.bool a0, .int .i64 a1, .int .i64 a2], .agg #[.bool b0, .int .i64 b1, .int .i64 b2]] w fun e w' => e = .returned (.agg #[.bool t0, .int .i64 t1, .int .i64 t2]) ∧ Below w.heap.size w w')
    (hty : ∀ w, Calls Tryd.prog 40 #[.agg #[.bool a0, .int .i64 a1, .int .i64 a2], .agg #[.bool b0, .int .i64 b1, .int .i64 b2]] w fun e w' => e = .returned (.agg #[.bool t0, .int .i64 t1, .int .i64 t2]) ∧ Below w.heap.size w w')
    (hdx : ∀ w, Calls Tryd.prog 41 #[.agg #[.bool a0, .int .i64 a1, .int .i64 a2], .agg #[.bool b0, .int .i64 b1, .int .i64 b2]] w fun e w' => e = .returned (.agg #[.bool d0, .int .i64 d1, .int .i64 d2]) ∧ Below w.heap.size w w')
    (hdy : ∀ w, Calls Tryd.prog 42 #[.agg #[.bool a0, .int .i64 a1, .int .i64 a2], .agg #[.bool b0, .int .i64 b1, .int .i64 b2]] w fun e w' => e = .returned (.agg #[.bool d0, .int .i64 d1, .int .i64 d2]) ∧ Below w.heap.size w w')
    (hox : ∀ w, Calls Tryd.prog 43 #[.agg #[.bool a0, .int .i64 a1, .int .i64 a2], .agg #[.bool b0, .int .i64 b1, .int .i64 b2]] w fun e w' => e = .returned (.agg #[.bool o0, .int .i64 o1, .int .i64 o2]) ∧ Below w.heap.size w w')
    (hoy : ∀ w, Calls Tryd.prog 44 #[.agg #[.bool a0, .int .i64 a1, .int .i64 a2], .agg #[.bool b0, .int .i64 b1, .int .i64 b2]] w fun e w' => e = .returned (.agg #[.bool o0, .int .i64 o1, .int .i64 o2]) ∧ Below w.heap.size w w')
    (hAw : ∀ w, Calls Tryd.prog 18 #[] w fun e w' => e = .returned (.bool true) ∧ Below w.heap.size w w') (w : World) :
    Calls Tryd.prog 7 #[.agg #[.bool a0, .int .i64 a1, .int .i64 a2], .agg #[.bool b0, .int .i64 b1, .int .i64 b2]] w fun e w' => e = .returned (.bool true) ∧ Below w.heap.size w w' := by
  have HFa := Lib.hid hFa
  clear hFa
  have HFb := Lib.hid hFb
  clear hFb
  have HL1 := Lib.hid hL1
  clear hL1
  have HL2 := Lib.hid hL2
  clear hL2
  have Hnx := Lib.hid hnx
  clear hnx
  have Hny := Lib.hid hny
  clear hny
  have Hsx := Lib.hid hsx
  clear hsx
  have Hsy := Lib.hid hsy
  clear hsy
  have Hjx := Lib.hid hjx
  clear hjx
  have Hjy := Lib.hid hjy
  clear hjy
  have Hmx := Lib.hid hmx
  clear hmx
  have Hmy := Lib.hid hmy
  clear hmy
  have Hpx := Lib.hid hpx
  clear hpx
  have Hpy := Lib.hid hpy
  clear hpy
  have Hqx := Lib.hid hqx
  clear hqx
  have Hqy := Lib.hid hqy
  clear hqy
  have Htx := Lib.hid htx
  clear htx
  have Hty := Lib.hid hty
  clear hty
  have Hdx := Lib.hid hdx
  clear hdx
  have Hdy := Lib.hid hdy
  clear hdy
  have Hox := Lib.hid hox
  clear hox
  have Hoy := Lib.hid hoy
  clear hoy
  have HAw := Lib.hid hAw
  clear hAw
  have hS := start2 w a0 b0 a1 a2 b1 b2 _ rfl
  obtain ⟨kB, kk⟩ := Held.open hS
  simp only [List.forall_mem_cons, List.not_mem_nil, false_implies, implies_true, and_true] at kk
  obtain ⟨⟨l0, k0⟩, ⟨l1, k1⟩, ⟨l2, k2⟩, ⟨l3, k3⟩, ⟨l4, k4⟩, ⟨l5, k5⟩⟩ := kk
  go_enter Tryd.func7, Tryd.ntmps7
  go_upto_region 3 with (first | (go_at_call 13; with_reducible refine (HFa.out _).mono ?_; rintro e w1 ⟨rfl, hb⟩; replace hS := Held.keep hb hS; clear hb kB k0 l0 k1 l1 k2 l2 k3 l3 k4 l4 k5 l5; obtain ⟨kB, kk⟩ := Held.open hS; simp only [List.forall_mem_cons, List.not_mem_nil, false_implies, implies_true, and_true] at kk; obtain ⟨⟨l0, k0⟩, ⟨l1, k1⟩, ⟨l2, k2⟩, ⟨l3, k3⟩, ⟨l4, k4⟩, ⟨l5, k5⟩⟩ := kk) | (go_at_call 13; with_reducible refine (HFb.out _).mono ?_; rintro e w1 ⟨rfl, hb⟩; replace hS := Held.keep hb hS; clear hb kB k0 l0 k1 l1 k2 l2 k3 l3 k4 l4 k5 l5; obtain ⟨kB, kk⟩ := Held.open hS; simp only [List.forall_mem_cons, List.not_mem_nil, false_implies, implies_true, and_true] at kk; obtain ⟨⟨l0, k0⟩, ⟨l1, k1⟩, ⟨l2, k2⟩, ⟨l3, k3⟩, ⟨l4, k4⟩, ⟨l5, k5⟩⟩ := kk))
  refine wp_region_held_drew (S := (fun w' => Held w [(w.heap.size, 0, .bool a0), (w.heap.size, 1, .int .i64 a1), (w.heap.size, 2, .int .i64 a2), (w.heap.size + 1, 0, .bool b0), (w.heap.size + 1, 1, .int .i64 b1), (w.heap.size + 1, 2, .int .i64 b2)] w')) (by kernel_rfl) (Held.drew hS) (fun hHeld => ?_)
  refine wpAnyH_take (i := 0) (v := .agg #[.bool a0, .int .i64 a1, .int .i64 a2]) rfl (by kernel_rfl) (by kernel_rfl) (by kernel_rfl) (fun _ _ _ h => h) (Or.inl ⟨by rfl, fun w hSw => by simp only [Held, List.forall_mem_cons, List.not_mem_nil, false_implies, implies_true, and_true] at hSw; go_simp⟩) (by assumption) ?_
  try simp only [Act.put, List.setIfInBounds_toArray, List.set_cons_zero, List.set_cons_succ]
  refine wpAnyH_take (i := 1) (v := .agg #[.bool b0, .int .i64 b1, .int .i64 b2]) rfl (by kernel_rfl) (by kernel_rfl) (by kernel_rfl) (fun _ _ _ h => h) (Or.inl ⟨by rfl, fun w hSw => by simp only [Held, List.forall_mem_cons, List.not_mem_nil, false_implies, implies_true, and_true] at hSw; go_simp⟩) (by assumption) ?_
  try simp only [Act.put, List.setIfInBounds_toArray, List.set_cons_zero, List.set_cons_succ]
  refine wpAnyH_take (i := 3) (v := .agg #[.bool a0, .int .i64 a1, .int .i64 a2]) rfl (by kernel_rfl) (by kernel_rfl) (by kernel_rfl) (fun _ _ _ h => h) (Or.inl ⟨by rfl, fun w hSw => by simp only [Held, List.forall_mem_cons, List.not_mem_nil, false_implies, implies_true, and_true] at hSw; go_simp⟩) (by assumption) ?_
  try simp only [Act.put, List.setIfInBounds_toArray, List.set_cons_zero, List.set_cons_succ]
  refine wpAnyH_take (i := 4) (v := .agg #[.bool b0, .int .i64 b1, .int .i64 b2]) rfl (by kernel_rfl) (by kernel_rfl) (by kernel_rfl) (fun _ _ _ h => h) (Or.inl ⟨by rfl, fun w hSw => by simp only [Held, List.forall_mem_cons, List.not_mem_nil, false_implies, implies_true, and_true] at hSw; go_simp⟩) (by assumption) ?_
  try simp only [Act.put, List.setIfInBounds_toArray, List.set_cons_zero, List.set_cons_succ]
  refine wpAnyH_ready (rs := [2]) (by kernel_rfl) (by simp) ?_
  refine AllReadyH.cons rfl (fun K hK => ?_) AllReadyH.nil
  go_simp
  go_at_call 21; with_reducible refine (HL1.out _).mono ?_; rintro e w1 ⟨rfl, hb⟩
  refine hK.out _ _ (Held.keep hb (by assumption)) (fun hHeld => ?_)
  clear hK K hb
  try simp only [Act.put, List.setIfInBounds_toArray, List.set_cons_zero, List.set_cons_succ]
  refine wpAnyH_ready (rs := [5]) (by kernel_rfl) (by simp) ?_
  refine AllReadyH.cons rfl (fun K hK => ?_) AllReadyH.nil
  go_simp
  go_at_call 28; with_reducible refine (HL2.out _).mono ?_; rintro e w1 ⟨rfl, hb⟩
  refine hK.out _ _ (Held.keep hb (by assumption)) (fun hHeld => ?_)
  clear hK K hb
  try simp only [Act.put, List.setIfInBounds_toArray, List.set_cons_zero, List.set_cons_succ]
  refine wpAnyH_take (i := 6) (v := .bool false) rfl (by kernel_rfl) (by kernel_rfl) (by kernel_rfl) (fun _ _ _ h => h) (Or.inl ⟨by rfl, fun w hSw => by (try dsimp only at hSw); first | (go_simp; done) | (cases l <;> go_simp)⟩) (by assumption) ?_
  try simp only [Act.put, List.setIfInBounds_toArray, List.set_cons_zero, List.set_cons_succ]
  refine wpAnyH_take (i := 7) (v := .bool false) rfl (by kernel_rfl) (by kernel_rfl) (by kernel_rfl) (fun _ _ _ h => h) (Or.inl ⟨by rfl, fun w hSw => by (try dsimp only at hSw); go_simp⟩) (by assumption) ?_
  try simp only [Act.put, List.setIfInBounds_toArray, List.set_cons_zero, List.set_cons_succ]
  refine wpAnyH_take (i := 8) (v := .agg #[.bool a0, .int .i64 a1, .int .i64 a2]) rfl (by kernel_rfl) (by kernel_rfl) (by kernel_rfl) (fun _ _ _ h => h) (Or.inl ⟨by rfl, fun w hSw => by simp only [Held, List.forall_mem_cons, List.not_mem_nil, false_implies, implies_true, and_true] at hSw; go_simp⟩) (by assumption) ?_
  try simp only [Act.put, List.setIfInBounds_toArray, List.set_cons_zero, List.set_cons_succ]
  refine wpAnyH_take (i := 9) (v := .agg #[.bool b0, .int .i64 b1, .int .i64 b2]) rfl (by kernel_rfl) (by kernel_rfl) (by kernel_rfl) (fun _ _ _ h => h) (Or.inl ⟨by rfl, fun w hSw => by simp only [Held, List.forall_mem_cons, List.not_mem_nil, false_implies, implies_true, and_true] at hSw; go_simp⟩) (by assumption) ?_
  try simp only [Act.put, List.setIfInBounds_toArray, List.set_cons_zero, List.set_cons_succ]
  refine wpAnyH_take (i := 11) (v := .agg #[.bool a0, .int .i64 a1, .int .i64 a2]) rfl (by kernel_rfl) (by kernel_rfl) (by kernel_rfl) (fun _ _ _ h => h) (Or.inl ⟨by rfl, fun w hSw => by simp only [Held, List.forall_mem_cons, List.not_mem_nil, false_implies, implies_true, and_true] at hSw; go_simp⟩) (by assumption) ?_
  try simp only [Act.put, List.setIfInBounds_toArray, List.set_cons_zero, List.set_cons_succ]
  refine wpAnyH_take (i := 12) (v := .agg #[.bool b0, .int .i64 b1, .int .i64 b2]) rfl (by kernel_rfl) (by kernel_rfl) (by kernel_rfl) (fun _ _ _ h => h) (Or.inl ⟨by rfl, fun w hSw => by simp only [Held, List.forall_mem_cons, List.not_mem_nil, false_implies, implies_true, and_true] at hSw; go_simp⟩) (by assumption) ?_
  try simp only [Act.put, List.setIfInBounds_toArray, List.set_cons_zero, List.set_cons_succ]
  refine wpAnyH_ready (rs := [10]) (by kernel_rfl) (by simp) ?_
  refine AllReadyH.cons rfl (fun K hK => ?_) AllReadyH.nil
  go_simp
  go_at_call 19; with_reducible refine (Hjx.out _).mono ?_; rintro e w1 ⟨rfl, hb⟩
  refine hK.out _ _ (Held.keep hb (by assumption)) (fun hHeld => ?_)
  clear hK K hb
  try simp only [Act.put, List.setIfInBounds_toArray, List.set_cons_zero, List.set_cons_succ]
  refine wpAnyH_ready (rs := [13]) (by kernel_rfl) (by simp) ?_
  refine AllReadyH.cons rfl (fun K hK => ?_) AllReadyH.nil
  go_simp
  go_at_call 29; with_reducible refine (Hjy.out _).mono ?_; rintro e w1 ⟨rfl, hb⟩
  refine hK.out _ _ (Held.keep hb (by assumption)) (fun hHeld => ?_)
  clear hK K hb
  try simp only [Act.put, List.setIfInBounds_toArray, List.set_cons_zero, List.set_cons_succ]
  refine wpAnyH_take (i := 14) (v := .bool false) rfl (by kernel_rfl) (by kernel_rfl) (by kernel_rfl) (fun _ _ _ h => h) (Or.inl ⟨by rfl, fun w hSw => by (try dsimp only at hSw); go_simp⟩) (by assumption) ?_
  try simp only [Act.put, List.setIfInBounds_toArray, List.set_cons_zero, List.set_cons_succ]
  refine wpAnyH_take (i := 15) (v := .bool false) rfl (by kernel_rfl) (by kernel_rfl) (by kernel_rfl) (fun _ _ _ h => h) (Or.inl ⟨by rfl, fun w hSw => by (try dsimp only at hSw); go_simp⟩) (by assumption) ?_
  try simp only [Act.put, List.setIfInBounds_toArray, List.set_cons_zero, List.set_cons_succ]
  refine wpAnyH_take (i := 16) (v := .bool false) rfl (by kernel_rfl) (by kernel_rfl) (by kernel_rfl) (fun _ _ _ h => h) (Or.inl ⟨by rfl, fun w hSw => by (try dsimp only at hSw); go_simp⟩) (by assumption) ?_
  try simp only [Act.put, List.setIfInBounds_toArray, List.set_cons_zero, List.set_cons_succ]
  refine wpAnyH_take (i := 17) (v := .agg #[.bool a0, .int .i64 a1, .int .i64 a2]) rfl (by kernel_rfl) (by kernel_rfl) (by kernel_rfl) (fun _ _ _ h => h) (Or.inl ⟨by rfl, fun w hSw => by simp only [Held, List.forall_mem_cons, List.not_mem_nil, false_implies, implies_true, and_true] at hSw; go_simp⟩) (by assumption) ?_
  try simp only [Act.put, List.setIfInBounds_toArray, List.set_cons_zero, List.set_cons_succ]
  refine wpAnyH_take (i := 18) (v := .agg #[.bool b0, .int .i64 b1, .int .i64 b2]) rfl (by kernel_rfl) (by kernel_rfl) (by kernel_rfl) (fun _ _ _ h => h) (Or.inl ⟨by rfl, fun w hSw => by simp only [Held, List.forall_mem_cons, List.not_mem_nil, false_implies, implies_true, and_true] at hSw; go_simp⟩) (by assumption) ?_
  try simp only [Act.put, List.setIfInBounds_toArray, List.set_cons_zero, List.set_cons_succ]
  refine wpAnyH_take (i := 20) (v := .agg #[.bool a0, .int .i64 a1, .int .i64 a2]) rfl (by kernel_rfl) (by kernel_rfl) (by kernel_rfl) (fun _ _ _ h => h) (Or.inl ⟨by rfl, fun w hSw => by simp only [Held, List.forall_mem_cons, List.not_mem_nil, false_implies, implies_true, and_true] at hSw; go_simp⟩) (by assumption) ?_
  try simp only [Act.put, List.setIfInBounds_toArray, List.set_cons_zero, List.set_cons_succ]
  refine wpAnyH_take (i := 21) (v := .agg #[.bool b0, .int .i64 b1, .int .i64 b2]) rfl (by kernel_rfl) (by kernel_rfl) (by kernel_rfl) (fun _ _ _ h => h) (Or.inl ⟨by rfl, fun w hSw => by simp only [Held, List.forall_mem_cons, List.not_mem_nil, false_implies, implies_true, and_true] at hSw; go_simp⟩) (by assumption) ?_
  try simp only [Act.put, List.setIfInBounds_toArray, List.set_cons_zero, List.set_cons_succ]
  refine wpAnyH_ready (rs := [19]) (by kernel_rfl) (by simp) ?_
  refine AllReadyH.cons rfl (fun K hK => ?_) AllReadyH.nil
  go_simp
  go_at_call 20; with_reducible refine (Hmx.out _).mono ?_; rintro e w1 ⟨rfl, hb⟩
  refine hK.out _ _ (Held.keep hb (by assumption)) (fun hHeld => ?_)
  clear hK K hb
  try simp only [Act.put, List.setIfInBounds_toArray, List.set_cons_zero, List.set_cons_succ]
  refine wpAnyH_ready (rs := [22]) (by kernel_rfl) (by simp) ?_
  refine AllReadyH.cons rfl (fun K hK => ?_) AllReadyH.nil
  go_simp
  go_at_call 30; with_reducible refine (Hmy.out _).mono ?_; rintro e w1 ⟨rfl, hb⟩
  refine hK.out _ _ (Held.keep hb (by assumption)) (fun hHeld => ?_)
  clear hK K hb
  try simp only [Act.put, List.setIfInBounds_toArray, List.set_cons_zero, List.set_cons_succ]
  refine wpAnyH_take (i := 23) (v := .bool false) rfl (by kernel_rfl) (by kernel_rfl) (by kernel_rfl) (fun _ _ _ h => h) (Or.inl ⟨by rfl, fun w hSw => by (try dsimp only at hSw); go_simp⟩) (by assumption) ?_
  try simp only [Act.put, List.setIfInBounds_toArray, List.set_cons_zero, List.set_cons_succ]
  refine wpAnyH_take (i := 24) (v := .bool false) rfl (by kernel_rfl) (by kernel_rfl) (by kernel_rfl) (fun _ _ _ h => h) (Or.inl ⟨by rfl, fun w hSw => by (try dsimp only at hSw); go_simp⟩) (by assumption) ?_
  try simp only [Act.put, List.setIfInBounds_toArray, List.set_cons_zero, List.set_cons_succ]
  refine wpAnyH_take (i := 25) (v := .bool false) rfl (by kernel_rfl) (by kernel_rfl) (by kernel_rfl) (fun _ _ _ h => h) (Or.inl ⟨by rfl, fun w hSw => by (try dsimp only at hSw); go_simp⟩) (by assumption) ?_
  try simp only [Act.put, List.setIfInBounds_toArray, List.set_cons_zero, List.set_cons_succ]
  refine wpAnyH_take (i := 26) (v := .agg #[.bool a0, .int .i64 a1, .int .i64 a2]) rfl (by kernel_rfl) (by kernel_rfl) (by kernel_rfl) (fun _ _ _ h => h) (Or.inl ⟨by rfl, fun w hSw => by simp only [Held, List.forall_mem_cons, List.not_mem_nil, false_implies, implies_true, and_true] at hSw; go_simp⟩) (by assumption) ?_
  try simp only [Act.put, List.setIfInBounds_toArray, List.set_cons_zero, List.set_cons_succ]
  refine wpAnyH_take (i := 28) (v := .agg #[.bool a0, .int .i64 a1, .int .i64 a2]) rfl (by kernel_rfl) (by kernel_rfl) (by kernel_rfl) (fun _ _ _ h => h) (Or.inl ⟨by rfl, fun w hSw => by simp only [Held, List.forall_mem_cons, List.not_mem_nil, false_implies, implies_true, and_true] at hSw; go_simp⟩) (by assumption) ?_
  try simp only [Act.put, List.setIfInBounds_toArray, List.set_cons_zero, List.set_cons_succ]
  refine wpAnyH_ready (rs := [27]) (by kernel_rfl) (by simp) ?_
  refine AllReadyH.cons rfl (fun K hK => ?_) AllReadyH.nil
  go_simp
  go_at_call 31; with_reducible refine (Hnx.out _).mono ?_; rintro e w1 ⟨rfl, hb⟩
  refine hK.out _ _ (Held.keep hb (by assumption)) (fun hHeld => ?_)
  clear hK K hb
  try simp only [Act.put, List.setIfInBounds_toArray, List.set_cons_zero, List.set_cons_succ]
  refine wpAnyH_ready (rs := [29]) (by kernel_rfl) (by simp) ?_
  refine AllReadyH.cons rfl (fun K hK => ?_) AllReadyH.nil
  go_simp
  go_at_call 32; with_reducible refine (Hny.out _).mono ?_; rintro e w1 ⟨rfl, hb⟩
  refine hK.out _ _ (Held.keep hb (by assumption)) (fun hHeld => ?_)
  clear hK K hb
  try simp only [Act.put, List.setIfInBounds_toArray, List.set_cons_zero, List.set_cons_succ]
  refine wpAnyH_take (i := 30) (v := .bool false) rfl (by kernel_rfl) (by kernel_rfl) (by kernel_rfl) (fun _ _ _ h => h) (Or.inl ⟨by rfl, fun w hSw => by (try dsimp only at hSw); go_simp⟩) (by assumption) ?_
  try simp only [Act.put, List.setIfInBounds_toArray, List.set_cons_zero, List.set_cons_succ]
  refine wpAnyH_take (i := 31) (v := .bool false) rfl (by kernel_rfl) (by kernel_rfl) (by kernel_rfl) (fun _ _ _ h => h) (Or.inl ⟨by rfl, fun w hSw => by (try dsimp only at hSw); go_simp⟩) (by assumption) ?_
  try simp only [Act.put, List.setIfInBounds_toArray, List.set_cons_zero, List.set_cons_succ]
  refine wpAnyH_take (i := 32) (v := .bool false) rfl (by kernel_rfl) (by kernel_rfl) (by kernel_rfl) (fun _ _ _ h => h) (Or.inl ⟨by rfl, fun w hSw => by (try dsimp only at hSw); go_simp⟩) (by assumption) ?_
  try simp only [Act.put, List.setIfInBounds_toArray, List.set_cons_zero, List.set_cons_succ]
  refine wpAnyH_take (i := 33) (v := .agg #[.bool a0, .int .i64 a1, .int .i64 a2]) rfl (by kernel_rfl) (by kernel_rfl) (by kernel_rfl) (fun _ _ _ h => h) (Or.inl ⟨by rfl, fun w hSw => by simp only [Held, List.forall_mem_cons, List.not_mem_nil, false_implies, implies_true, and_true] at hSw; go_simp⟩) (by assumption) ?_
  try simp only [Act.put, List.setIfInBounds_toArray, List.set_cons_zero, List.set_cons_succ]
  refine wpAnyH_take (i := 35) (v := .agg #[.bool a0, .int .i64 a1, .int .i64 a2]) rfl (by kernel_rfl) (by kernel_rfl) (by kernel_rfl) (fun _ _ _ h => h) (Or.inl ⟨by rfl, fun w hSw => by simp only [Held, List.forall_mem_cons, List.not_mem_nil, false_implies, implies_true, and_true] at hSw; go_simp⟩) (by assumption) ?_
  try simp only [Act.put, List.setIfInBounds_toArray, List.set_cons_zero, List.set_cons_succ]
  refine wpAnyH_ready (rs := [34]) (by kernel_rfl) (by simp) ?_
  refine AllReadyH.cons rfl (fun K hK => ?_) AllReadyH.nil
  go_simp
  go_at_call 33; with_reducible refine (Hsx.out _).mono ?_; rintro e w1 ⟨rfl, hb⟩
  refine hK.out _ _ (Held.keep hb (by assumption)) (fun hHeld => ?_)
  clear hK K hb
  try simp only [Act.put, List.setIfInBounds_toArray, List.set_cons_zero, List.set_cons_succ]
  refine wpAnyH_ready (rs := [36]) (by kernel_rfl) (by simp) ?_
  refine AllReadyH.cons rfl (fun K hK => ?_) AllReadyH.nil
  go_simp
  go_at_call 34; with_reducible refine (Hsy.out _).mono ?_; rintro e w1 ⟨rfl, hb⟩
  refine hK.out _ _ (Held.keep hb (by assumption)) (fun hHeld => ?_)
  clear hK K hb
  try simp only [Act.put, List.setIfInBounds_toArray, List.set_cons_zero, List.set_cons_succ]
  refine wpAnyH_take (i := 37) (v := .bool false) rfl (by kernel_rfl) (by kernel_rfl) (by kernel_rfl) (fun _ _ _ h => h) (Or.inl ⟨by rfl, fun w hSw => by (try dsimp only at hSw); go_simp⟩) (by assumption) ?_
  try simp only [Act.put, List.setIfInBounds_toArray, List.set_cons_zero, List.set_cons_succ]
  refine wpAnyH_take (i := 38) (v := .bool false) rfl (by kernel_rfl) (by kernel_rfl) (by kernel_rfl) (fun _ _ _ h => h) (Or.inl ⟨by rfl, fun w hSw => by (try dsimp only at hSw); go_simp⟩) (by assumption) ?_
  try simp only [Act.put, List.setIfInBounds_toArray, List.set_cons_zero, List.set_cons_succ]
  refine wpAnyH_done (by kernel_rfl) ?_ _
  simp only [Act.put, List.getElem_toArray, List.getElem_cons_succ, List.getElem_cons_zero, List.setIfInBounds_toArray, List.set_cons_zero, List.set_cons_succ]
  have hS1 := hHeld
  clear hHeld
  go_upto_region 5 with fail
  refine wp_region_held_drew (S := (fun w' => Held w [(w.heap.size, 0, .bool a0), (w.heap.size, 1, .int .i64 a1), (w.heap.size, 2, .int .i64 a2), (w.heap.size + 1, 0, .bool b0), (w.heap.size + 1, 1, .int .i64 b1), (w.heap.size + 1, 2, .int .i64 b2)] w')) (by kernel_rfl) (Held.drew hS1) (fun hHeld => ?_)
  refine wpAnyH_take (i := 0) (v := .agg #[.bool a0, .int .i64 a1, .int .i64 a2]) rfl (by kernel_rfl) (by kernel_rfl) (by kernel_rfl) (fun _ _ _ h => h) (Or.inl ⟨by rfl, fun w hSw => by simp only [Held, List.forall_mem_cons, List.not_mem_nil, false_implies, implies_true, and_true] at hSw; go_simp⟩) (by assumption) ?_
  try simp only [Act.put, List.setIfInBounds_toArray, List.set_cons_zero, List.set_cons_succ]
  refine wpAnyH_take (i := 1) (v := .agg #[.bool b0, .int .i64 b1, .int .i64 b2]) rfl (by kernel_rfl) (by kernel_rfl) (by kernel_rfl) (fun _ _ _ h => h) (Or.inl ⟨by rfl, fun w hSw => by simp only [Held, List.forall_mem_cons, List.not_mem_nil, false_implies, implies_true, and_true] at hSw; go_simp⟩) (by assumption) ?_
  try simp only [Act.put, List.setIfInBounds_toArray, List.set_cons_zero, List.set_cons_succ]
  refine wpAnyH_take (i := 3) (v := .agg #[.bool a0, .int .i64 a1, .int .i64 a2]) rfl (by kernel_rfl) (by kernel_rfl) (by kernel_rfl) (fun _ _ _ h => h) (Or.inl ⟨by rfl, fun w hSw => by simp only [Held, List.forall_mem_cons, List.not_mem_nil, false_implies, implies_true, and_true] at hSw; go_simp⟩) (by assumption) ?_
  try simp only [Act.put, List.setIfInBounds_toArray, List.set_cons_zero, List.set_cons_succ]
  refine wpAnyH_take (i := 4) (v := .agg #[.bool b0, .int .i64 b1, .int .i64 b2]) rfl (by kernel_rfl) (by kernel_rfl) (by kernel_rfl) (fun _ _ _ h => h) (Or.inl ⟨by rfl, fun w hSw => by simp only [Held, List.forall_mem_cons, List.not_mem_nil, false_implies, implies_true, and_true] at hSw; go_simp⟩) (by assumption) ?_
  try simp only [Act.put, List.setIfInBounds_toArray, List.set_cons_zero, List.set_cons_succ]
  refine wpAnyH_ready (rs := [2]) (by kernel_rfl) (by simp) ?_
  refine AllReadyH.cons rfl (fun K hK => ?_) AllReadyH.nil
  go_simp
  go_at_call 35; with_reducible refine (Hpx.out _).mono ?_; rintro e w1 ⟨rfl, hb⟩
  refine hK.out _ _ (Held.keep hb (by assumption)) (fun hHeld => ?_)
  clear hK K hb
  try simp only [Act.put, List.setIfInBounds_toArray, List.set_cons_zero, List.set_cons_succ]
  refine wpAnyH_ready (rs := [5]) (by kernel_rfl) (by simp) ?_
  refine AllReadyH.cons rfl (fun K hK => ?_) AllReadyH.nil
  go_simp
  go_at_call 36; with_reducible refine (Hpy.out _).mono ?_; rintro e w1 ⟨rfl, hb⟩
  refine hK.out _ _ (Held.keep hb (by assumption)) (fun hHeld => ?_)
  clear hK K hb
  try simp only [Act.put, List.setIfInBounds_toArray, List.set_cons_zero, List.set_cons_succ]
  refine wpAnyH_take (i := 6) (v := .bool true) rfl (by kernel_rfl) (by kernel_rfl) (by kernel_rfl) (fun _ _ _ h => h) (Or.inl ⟨by rfl, fun w hSw => by (try dsimp only at hSw); go_simp⟩) (by assumption) ?_
  try simp only [Act.put, List.setIfInBounds_toArray, List.set_cons_zero, List.set_cons_succ]
  refine wpAnyH_take (i := 7) (v := .bool true) rfl (by kernel_rfl) (by kernel_rfl) (by kernel_rfl) (fun _ _ _ h => h) (Or.inl ⟨by rfl, fun w hSw => by (try dsimp only at hSw); go_simp⟩) (by assumption) ?_
  try simp only [Act.put, List.setIfInBounds_toArray, List.set_cons_zero, List.set_cons_succ]
  refine wpAnyH_take (i := 8) (v := .agg #[.bool a0, .int .i64 a1, .int .i64 a2]) rfl (by kernel_rfl) (by kernel_rfl) (by kernel_rfl) (fun _ _ _ h => h) (Or.inl ⟨by rfl, fun w hSw => by simp only [Held, List.forall_mem_cons, List.not_mem_nil, false_implies, implies_true, and_true] at hSw; go_simp⟩) (by assumption) ?_
  try simp only [Act.put, List.setIfInBounds_toArray, List.set_cons_zero, List.set_cons_succ]
  refine wpAnyH_take (i := 9) (v := .agg #[.bool b0, .int .i64 b1, .int .i64 b2]) rfl (by kernel_rfl) (by kernel_rfl) (by kernel_rfl) (fun _ _ _ h => h) (Or.inl ⟨by rfl, fun w hSw => by simp only [Held, List.forall_mem_cons, List.not_mem_nil, false_implies, implies_true, and_true] at hSw; go_simp⟩) (by assumption) ?_
  try simp only [Act.put, List.setIfInBounds_toArray, List.set_cons_zero, List.set_cons_succ]
  refine wpAnyH_take (i := 11) (v := .agg #[.bool a0, .int .i64 a1, .int .i64 a2]) rfl (by kernel_rfl) (by kernel_rfl) (by kernel_rfl) (fun _ _ _ h => h) (Or.inl ⟨by rfl, fun w hSw => by simp only [Held, List.forall_mem_cons, List.not_mem_nil, false_implies, implies_true, and_true] at hSw; go_simp⟩) (by assumption) ?_
  try simp only [Act.put, List.setIfInBounds_toArray, List.set_cons_zero, List.set_cons_succ]
  refine wpAnyH_take (i := 12) (v := .agg #[.bool b0, .int .i64 b1, .int .i64 b2]) rfl (by kernel_rfl) (by kernel_rfl) (by kernel_rfl) (fun _ _ _ h => h) (Or.inl ⟨by rfl, fun w hSw => by simp only [Held, List.forall_mem_cons, List.not_mem_nil, false_implies, implies_true, and_true] at hSw; go_simp⟩) (by assumption) ?_
  try simp only [Act.put, List.setIfInBounds_toArray, List.set_cons_zero, List.set_cons_succ]
  refine wpAnyH_ready (rs := [10]) (by kernel_rfl) (by simp) ?_
  refine AllReadyH.cons rfl (fun K hK => ?_) AllReadyH.nil
  go_simp
  go_at_call 37; with_reducible refine (Hqx.out _).mono ?_; rintro e w1 ⟨rfl, hb⟩
  refine hK.out _ _ (Held.keep hb (by assumption)) (fun hHeld => ?_)
  clear hK K hb
  try simp only [Act.put, List.setIfInBounds_toArray, List.set_cons_zero, List.set_cons_succ]
  refine wpAnyH_ready (rs := [13]) (by kernel_rfl) (by simp) ?_
  refine AllReadyH.cons rfl (fun K hK => ?_) AllReadyH.nil
  go_simp
  go_at_call 38; with_reducible refine (Hqy.out _).mono ?_; rintro e w1 ⟨rfl, hb⟩
  refine hK.out _ _ (Held.keep hb (by assumption)) (fun hHeld => ?_)
  clear hK K hb
  try simp only [Act.put, List.setIfInBounds_toArray, List.set_cons_zero, List.set_cons_succ]
  refine wpAnyH_take (i := 14) (v := .bool true) rfl (by kernel_rfl) (by kernel_rfl) (by kernel_rfl) (fun _ _ _ h => h) (Or.inl ⟨by rfl, fun w hSw => by (try dsimp only at hSw); go_simp⟩) (by assumption) ?_
  try simp only [Act.put, List.setIfInBounds_toArray, List.set_cons_zero, List.set_cons_succ]
  refine wpAnyH_take (i := 15) (v := .bool true) rfl (by kernel_rfl) (by kernel_rfl) (by kernel_rfl) (fun _ _ _ h => h) (Or.inl ⟨by rfl, fun w hSw => by (try dsimp only at hSw); go_simp⟩) (by assumption) ?_
  try simp only [Act.put, List.setIfInBounds_toArray, List.set_cons_zero, List.set_cons_succ]
  refine wpAnyH_take (i := 16) (v := .bool true) rfl (by kernel_rfl) (by kernel_rfl) (by kernel_rfl) (fun _ _ _ h => h) (Or.inl ⟨by rfl, fun w hSw => by (try dsimp only at hSw); go_simp⟩) (by assumption) ?_
  try simp only [Act.put, List.setIfInBounds_toArray, List.set_cons_zero, List.set_cons_succ]
  refine wpAnyH_take (i := 17) (v := .agg #[.bool a0, .int .i64 a1, .int .i64 a2]) rfl (by kernel_rfl) (by kernel_rfl) (by kernel_rfl) (fun _ _ _ h => h) (Or.inl ⟨by rfl, fun w hSw => by simp only [Held, List.forall_mem_cons, List.not_mem_nil, false_implies, implies_true, and_true] at hSw; go_simp⟩) (by assumption) ?_
  try simp only [Act.put, List.setIfInBounds_toArray, List.set_cons_zero, List.set_cons_succ]
  refine wpAnyH_take (i := 18) (v := .agg #[.bool b0, .int .i64 b1, .int .i64 b2]) rfl (by kernel_rfl) (by kernel_rfl) (by kernel_rfl) (fun _ _ _ h => h) (Or.inl ⟨by rfl, fun w hSw => by simp only [Held, List.forall_mem_cons, List.not_mem_nil, false_implies, implies_true, and_true] at hSw; go_simp⟩) (by assumption) ?_
  try simp only [Act.put, List.setIfInBounds_toArray, List.set_cons_zero, List.set_cons_succ]
  refine wpAnyH_take (i := 20) (v := .agg #[.bool a0, .int .i64 a1, .int .i64 a2]) rfl (by kernel_rfl) (by kernel_rfl) (by kernel_rfl) (fun _ _ _ h => h) (Or.inl ⟨by rfl, fun w hSw => by simp only [Held, List.forall_mem_cons, List.not_mem_nil, false_implies, implies_true, and_true] at hSw; go_simp⟩) (by assumption) ?_
  try simp only [Act.put, List.setIfInBounds_toArray, List.set_cons_zero, List.set_cons_succ]
  refine wpAnyH_take (i := 21) (v := .agg #[.bool b0, .int .i64 b1, .int .i64 b2]) rfl (by kernel_rfl) (by kernel_rfl) (by kernel_rfl) (fun _ _ _ h => h) (Or.inl ⟨by rfl, fun w hSw => by simp only [Held, List.forall_mem_cons, List.not_mem_nil, false_implies, implies_true, and_true] at hSw; go_simp⟩) (by assumption) ?_
  try simp only [Act.put, List.setIfInBounds_toArray, List.set_cons_zero, List.set_cons_succ]
  refine wpAnyH_ready (rs := [19]) (by kernel_rfl) (by simp) ?_
  refine AllReadyH.cons rfl (fun K hK => ?_) AllReadyH.nil
  go_simp
  go_at_call 39; with_reducible refine (Htx.out _).mono ?_; rintro e w1 ⟨rfl, hb⟩
  refine hK.out _ _ (Held.keep hb (by assumption)) (fun hHeld => ?_)
  clear hK K hb
  try simp only [Act.put, List.setIfInBounds_toArray, List.set_cons_zero, List.set_cons_succ]
  refine wpAnyH_ready (rs := [22]) (by kernel_rfl) (by simp) ?_
  refine AllReadyH.cons rfl (fun K hK => ?_) AllReadyH.nil
  go_simp
  go_at_call 40; with_reducible refine (Hty.out _).mono ?_; rintro e w1 ⟨rfl, hb⟩
  refine hK.out _ _ (Held.keep hb (by assumption)) (fun hHeld => ?_)
  clear hK K hb
  try simp only [Act.put, List.setIfInBounds_toArray, List.set_cons_zero, List.set_cons_succ]
  refine wpAnyH_take (i := 23) (v := .bool true) rfl (by kernel_rfl) (by kernel_rfl) (by kernel_rfl) (fun _ _ _ h => h) (Or.inl ⟨by rfl, fun w hSw => by (try dsimp only at hSw); go_simp⟩) (by assumption) ?_
  try simp only [Act.put, List.setIfInBounds_toArray, List.set_cons_zero, List.set_cons_succ]
  refine wpAnyH_take (i := 24) (v := .bool true) rfl (by kernel_rfl) (by kernel_rfl) (by kernel_rfl) (fun _ _ _ h => h) (Or.inl ⟨by rfl, fun w hSw => by (try dsimp only at hSw); go_simp⟩) (by assumption) ?_
  try simp only [Act.put, List.setIfInBounds_toArray, List.set_cons_zero, List.set_cons_succ]
  refine wpAnyH_take (i := 25) (v := .bool true) rfl (by kernel_rfl) (by kernel_rfl) (by kernel_rfl) (fun _ _ _ h => h) (Or.inl ⟨by rfl, fun w hSw => by (try dsimp only at hSw); go_simp⟩) (by assumption) ?_
  try simp only [Act.put, List.setIfInBounds_toArray, List.set_cons_zero, List.set_cons_succ]
  refine wpAnyH_take (i := 26) (v := .agg #[.bool a0, .int .i64 a1, .int .i64 a2]) rfl (by kernel_rfl) (by kernel_rfl) (by kernel_rfl) (fun _ _ _ h => h) (Or.inl ⟨by rfl, fun w hSw => by simp only [Held, List.forall_mem_cons, List.not_mem_nil, false_implies, implies_true, and_true] at hSw; go_simp⟩) (by assumption) ?_
  try simp only [Act.put, List.setIfInBounds_toArray, List.set_cons_zero, List.set_cons_succ]
  refine wpAnyH_take (i := 27) (v := .agg #[.bool b0, .int .i64 b1, .int .i64 b2]) rfl (by kernel_rfl) (by kernel_rfl) (by kernel_rfl) (fun _ _ _ h => h) (Or.inl ⟨by rfl, fun w hSw => by simp only [Held, List.forall_mem_cons, List.not_mem_nil, false_implies, implies_true, and_true] at hSw; go_simp⟩) (by assumption) ?_
  try simp only [Act.put, List.setIfInBounds_toArray, List.set_cons_zero, List.set_cons_succ]
  refine wpAnyH_take (i := 29) (v := .agg #[.bool a0, .int .i64 a1, .int .i64 a2]) rfl (by kernel_rfl) (by kernel_rfl) (by kernel_rfl) (fun _ _ _ h => h) (Or.inl ⟨by rfl, fun w hSw => by simp only [Held, List.forall_mem_cons, List.not_mem_nil, false_implies, implies_true, and_true] at hSw; go_simp⟩) (by assumption) ?_
  try simp only [Act.put, List.setIfInBounds_toArray, List.set_cons_zero, List.set_cons_succ]
  refine wpAnyH_take (i := 30) (v := .agg #[.bool b0, .int .i64 b1, .int .i64 b2]) rfl (by kernel_rfl) (by kernel_rfl) (by kernel_rfl) (fun _ _ _ h => h) (Or.inl ⟨by rfl, fun w hSw => by simp only [Held, List.forall_mem_cons, List.not_mem_nil, false_implies, implies_true, and_true] at hSw; go_simp⟩) (by assumption) ?_
  try simp only [Act.put, List.setIfInBounds_toArray, List.set_cons_zero, List.set_cons_succ]
  refine wpAnyH_ready (rs := [28]) (by kernel_rfl) (by simp) ?_
  refine AllReadyH.cons rfl (fun K hK => ?_) AllReadyH.nil
  go_simp
  go_at_call 41; with_reducible refine (Hdx.out _).mono ?_; rintro e w1 ⟨rfl, hb⟩
  refine hK.out _ _ (Held.keep hb (by assumption)) (fun hHeld => ?_)
  clear hK K hb
  try simp only [Act.put, List.setIfInBounds_toArray, List.set_cons_zero, List.set_cons_succ]
  refine wpAnyH_ready (rs := [31]) (by kernel_rfl) (by simp) ?_
  refine AllReadyH.cons rfl (fun K hK => ?_) AllReadyH.nil
  go_simp
  go_at_call 42; with_reducible refine (Hdy.out _).mono ?_; rintro e w1 ⟨rfl, hb⟩
  refine hK.out _ _ (Held.keep hb (by assumption)) (fun hHeld => ?_)
  clear hK K hb
  try simp only [Act.put, List.setIfInBounds_toArray, List.set_cons_zero, List.set_cons_succ]
  refine wpAnyH_take (i := 32) (v := .bool true) rfl (by kernel_rfl) (by kernel_rfl) (by kernel_rfl) (fun _ _ _ h => h) (Or.inl ⟨by rfl, fun w hSw => by (try dsimp only at hSw); go_simp⟩) (by assumption) ?_
  try simp only [Act.put, List.setIfInBounds_toArray, List.set_cons_zero, List.set_cons_succ]
  refine wpAnyH_take (i := 33) (v := .bool true) rfl (by kernel_rfl) (by kernel_rfl) (by kernel_rfl) (fun _ _ _ h => h) (Or.inl ⟨by rfl, fun w hSw => by (try dsimp only at hSw); go_simp⟩) (by assumption) ?_
  try simp only [Act.put, List.setIfInBounds_toArray, List.set_cons_zero, List.set_cons_succ]
  refine wpAnyH_take (i := 34) (v := .bool true) rfl (by kernel_rfl) (by kernel_rfl) (by kernel_rfl) (fun _ _ _ h => h) (Or.inl ⟨by rfl, fun w hSw => by (try dsimp only at hSw); go_simp⟩) (by assumption) ?_
  try simp only [Act.put, List.setIfInBounds_toArray, List.set_cons_zero, List.set_cons_succ]
  refine wpAnyH_take (i := 35) (v := .agg #[.bool a0, .int .i64 a1, .int .i64 a2]) rfl (by kernel_rfl) (by kernel_rfl) (by kernel_rfl) (fun _ _ _ h => h) (Or.inl ⟨by rfl, fun w hSw => by simp only [Held, List.forall_mem_cons, List.not_mem_nil, false_implies, implies_true, and_true] at hSw; go_simp⟩) (by assumption) ?_
  try simp only [Act.put, List.setIfInBounds_toArray, List.set_cons_zero, List.set_cons_succ]
  refine wpAnyH_take (i := 36) (v := .agg #[.bool b0, .int .i64 b1, .int .i64 b2]) rfl (by kernel_rfl) (by kernel_rfl) (by kernel_rfl) (fun _ _ _ h => h) (Or.inl ⟨by rfl, fun w hSw => by simp only [Held, List.forall_mem_cons, List.not_mem_nil, false_implies, implies_true, and_true] at hSw; go_simp⟩) (by assumption) ?_
  try simp only [Act.put, List.setIfInBounds_toArray, List.set_cons_zero, List.set_cons_succ]
  refine wpAnyH_take (i := 38) (v := .agg #[.bool a0, .int .i64 a1, .int .i64 a2]) rfl (by kernel_rfl) (by kernel_rfl) (by kernel_rfl) (fun _ _ _ h => h) (Or.inl ⟨by rfl, fun w hSw => by simp only [Held, List.forall_mem_cons, List.not_mem_nil, false_implies, implies_true, and_true] at hSw; go_simp⟩) (by assumption) ?_
  try simp only [Act.put, List.setIfInBounds_toArray, List.set_cons_zero, List.set_cons_succ]
  refine wpAnyH_take (i := 39) (v := .agg #[.bool b0, .int .i64 b1, .int .i64 b2]) rfl (by kernel_rfl) (by kernel_rfl) (by kernel_rfl) (fun _ _ _ h => h) (Or.inl ⟨by rfl, fun w hSw => by simp only [Held, List.forall_mem_cons, List.not_mem_nil, false_implies, implies_true, and_true] at hSw; go_simp⟩) (by assumption) ?_
  try simp only [Act.put, List.setIfInBounds_toArray, List.set_cons_zero, List.set_cons_succ]
  refine wpAnyH_ready (rs := [37]) (by kernel_rfl) (by simp) ?_
  refine AllReadyH.cons rfl (fun K hK => ?_) AllReadyH.nil
  go_simp
  go_at_call 43; with_reducible refine (Hox.out _).mono ?_; rintro e w1 ⟨rfl, hb⟩
  refine hK.out _ _ (Held.keep hb (by assumption)) (fun hHeld => ?_)
  clear hK K hb
  try simp only [Act.put, List.setIfInBounds_toArray, List.set_cons_zero, List.set_cons_succ]
  refine wpAnyH_ready (rs := [40]) (by kernel_rfl) (by simp) ?_
  refine AllReadyH.cons rfl (fun K hK => ?_) AllReadyH.nil
  go_simp
  go_at_call 44; with_reducible refine (Hoy.out _).mono ?_; rintro e w1 ⟨rfl, hb⟩
  refine hK.out _ _ (Held.keep hb (by assumption)) (fun hHeld => ?_)
  clear hK K hb
  try simp only [Act.put, List.setIfInBounds_toArray, List.set_cons_zero, List.set_cons_succ]
  refine wpAnyH_take (i := 41) (v := .bool true) rfl (by kernel_rfl) (by kernel_rfl) (by kernel_rfl) (fun _ _ _ h => h) (Or.inl ⟨by rfl, fun w hSw => by (try dsimp only at hSw); go_simp⟩) (by assumption) ?_
  try simp only [Act.put, List.setIfInBounds_toArray, List.set_cons_zero, List.set_cons_succ]
  refine wpAnyH_take (i := 42) (v := .bool true) rfl (by kernel_rfl) (by kernel_rfl) (by kernel_rfl) (fun _ _ _ h => h) (Or.inl ⟨by rfl, fun w hSw => by (try dsimp only at hSw); go_simp⟩) (by assumption) ?_
  try simp only [Act.put, List.setIfInBounds_toArray, List.set_cons_zero, List.set_cons_succ]
  refine wpAnyH_take (i := 43) (v := .bool true) rfl (by kernel_rfl) (by kernel_rfl) (by kernel_rfl) (fun _ _ _ h => h) (Or.inl ⟨by rfl, fun w hSw => by (try dsimp only at hSw); go_simp⟩) (by assumption) ?_
  try simp only [Act.put, List.setIfInBounds_toArray, List.set_cons_zero, List.set_cons_succ]
  refine wpAnyH_ready (rs := [44]) (by kernel_rfl) (by simp) ?_
  refine AllReadyH.cons rfl (fun K hK => ?_) AllReadyH.nil
  go_simp
  go_at_call 18; with_reducible refine (HAw.out _).mono ?_; rintro e w1 ⟨rfl, hb⟩
  refine hK.out _ _ (Held.keep hb (by assumption)) (fun hHeld => ?_)
  clear hK K hb
  try simp only [Act.put, List.setIfInBounds_toArray, List.set_cons_zero, List.set_cons_succ]
  refine wpAnyH_take (i := 45) (v := .bool true) rfl (by kernel_rfl) (by kernel_rfl) (by kernel_rfl) (fun _ _ _ h => h) (Or.inl ⟨by rfl, fun w hSw => by (try dsimp only at hSw); go_simp⟩) (by assumption) ?_
  try simp only [Act.put, List.setIfInBounds_toArray, List.set_cons_zero, List.set_cons_succ]
  refine wpAnyH_take (i := 46) (v := .bool true) rfl (by kernel_rfl) (by kernel_rfl) (by kernel_rfl) (fun _ _ _ h => h) (Or.inl ⟨by rfl, fun w hSw => by (try dsimp only at hSw); go_simp⟩) (by assumption) ?_
  try simp only [Act.put, List.setIfInBounds_toArray, List.set_cons_zero, List.set_cons_succ]
  refine wpAnyH_done (by kernel_rfl) ?_ _
  simp only [Act.put, List.getElem_toArray, List.getElem_cons_succ, List.getElem_cons_zero, List.setIfInBounds_toArray, List.set_cons_zero, List.set_cons_succ]
  have hS2 := hHeld
  clear hHeld
  go_wp2
  go_ret
  exact ⟨rfl, hS2.1⟩
end Go.Proofs.YtfmmjekhknaniaaDoor.Rk

namespace Go.Proofs.YtfmmjekhknaniaaDoor.Pr
open Go.RowKit Go.Proofs.YtfmmjekhknaniaaDoor.Given Go.Proofs.YtfmmjekhknaniaaDoorW.PrintWords Go.Proofs.YtfmmjekhknaniaaDoorW.PrintLast Go.Proofs.YtfmmjekhknaniaaDoorW.PrintMore
attribute [local go_sem] max2_int min2_int max_two min_two max_three min_three max_four min_four   -- for this text's walks alone
set_option linter.unusedVariables false
set_option linter.unusedSimpArgs false

def gimbalref31_Mul.j0 : Nat → Bool → Bool → Int → Int → Bool → Int → Int → Option (Bool × Int × Int)
 | 0, _, _, _, _, _, _, _ => none
 | k + 1, x11, x549000, x549001, x549002, x550000, x550001, x550002 => if x11 = true then ((gimbalref31_None.f).bind fun bt551 => (some (bt551.1, bt551.2.1, bt551.2.2))) else ((gimbalref31_size.f x549001).bind fun t554 => ((gimbalref31_size.f x550001).bind fun t555 => ((gimbalref31_size.f x549001).bind fun t556 => ((gimbalref31_size.f x550002).bind fun t557 => ((gimbalref31_size.f x550001).bind fun t558 => ((gimbalref31_size.f x549002).bind fun t559 => ((gimbalref31_gcd.f k (IntKind.u64.wrap (t556 * t557)) (IntKind.u64.wrap (t558 * t559))).bind fun t560 => ((gimbalref31_gcd.f k (IntKind.u64.wrap (t554 * t555)) t560).bind fun t561 => ((gimbalref31_size.f x549002).bind fun t562 => ((gimbalref31_size.f x550002).bind fun t563 => ((gimbalref31_class.f k t561 (IntKind.u64.wrap (t562 * t563)) ((decide (x549002 < 0)) != (decide (x550002 < 0)))).bind fun bt564 => (some (bt564.1, bt564.2.1, bt564.2.2)))))))))))))
def gimbalref31_Mul.f (k : Nat) (a0_0 : Bool) (a0_1 : Int) (a0_2 : Int) (a1_0 : Bool) (a1_1 : Int) (a1_2 : Int) : Option (Bool × Int × Int) := if a0_0 = true then (gimbalref31_Mul.j0 k true a0_0 a0_1 a0_2 a1_0 a1_1 a1_2) else (gimbalref31_Mul.j0 k a1_0 a0_0 a0_1 a0_2 a1_0 a1_1 a1_2)
def gimbalref31_Mul.T3 : Bool × List (List Nat × List Nat) := (true, [([], []), ([0], [0]), ([1], [1]), ([], []), ([3], [3]), ([4, 2], [4]), ([2, 5], [2, 5]), ([], []), ([7], [7]), ([8, 5], [8]), ([], []), ([10], [10]), ([11, 9], [11]), ([9, 12], [9, 12]), ([], []), ([14], [14]), ([15, 12], [15]), ([], []), ([17], [17]), ([18, 16], [18]), ([16, 19], [16, 19]), ([13, 20, 19], [13, 20]), ([6, 21, 21], [6, 21]), ([22, 22, 0, 1, 2, 3, 4, 5, 6, 7, 8, 9, 10, 11, 12, 13, 14, 15, 16, 17, 18, 19, 20, 21, 22], [22])])
def gimbalref31_Mul.B3 : List Nat := [0, 1, 3, 0, 8, 31, 63, 0, 128, 447, 0, 1024, 4031, 8127, 0, 16384, 57279, 0, 131072, 516031, 1040319, 2097087, 4194303, 8388607]
theorem gimbalref31_Mul.tab3 : rtab .any (opsOf Tryd.f40 3) = gimbalref31_Mul.T3 := by kernel_rfl
theorem gimbalref31_Mul.bits3 : waitsOk gimbalref31_Mul.T3.2 gimbalref31_Mul.B3 = true := by kernel_rfl
def gimbalref31_Mul.T4 : Bool × List (List Nat × List Nat) := (true, [([], []), ([], []), ([1], [1]), ([2], [2]), ([], []), ([4], [4]), ([5, 3], [5]), ([3, 6], [3, 6]), ([], []), ([8], [8]), ([9], [9]), ([], []), ([11], [11]), ([12], [12]), ([10, 13], [10, 13]), ([0, 7, 14, 6], [0, 7, 14]), ([15, 15, 0, 1, 2, 3, 4, 5, 6, 7, 8, 9, 10, 11, 12, 13, 14, 15], [15])])
def gimbalref31_Mul.B4 : List Nat := [0, 0, 2, 6, 0, 16, 62, 126, 0, 256, 768, 0, 2048, 6144, 16128, 32767, 65535]
theorem gimbalref31_Mul.tab4 : rtab .any (opsOf Tryd.f40 4) = gimbalref31_Mul.T4 := by kernel_rfl
theorem gimbalref31_Mul.bits4 : waitsOk gimbalref31_Mul.T4.2 gimbalref31_Mul.B4 = true := by kernel_rfl
set_option maxHeartbeats 8000000 in
set_option maxRecDepth 100000 in
theorem gimbalref31_Mul.calls (k : Nat) (a0_0 : Bool) (a0_1 : Int) (a0_2 : Int) (a1_0 : Bool) (a1_1 : Int) (a1_2 : Int) (r1 : Bool) (r2 : Int) (r3 : Int) (w : World) (h : gimbalref31_Mul.f k a0_0 a0_1 a0_2 a1_0 a1_1 a1_2 = some (r1, r2, r3)) :
  Calls Tryd.prog 40 #[.agg #[.bool a0_0, .int .i64 a0_1, .int .i64 a0_2], .agg #[.bool a1_0, .int .i64 a1_1, .int .i64 a1_2]] w fun e w' => e = .returned (.agg #[.bool r1, .int .i64 r2, .int .i64 r3]) ∧ Below w.heap.size w w' := by
 have hu23 := Tryd.underlying23
 have HB := Aside0.mk (Below.refl w.heap.size w)
 have H : (if a0_0 = true then (gimbalref31_Mul.j0 k true a0_0 a0_1 a0_2 a1_0 a1_1 a1_2) else (gimbalref31_Mul.j0 k a1_0 a0_0 a0_1 a0_2 a1_0 a1_1 a1_2)) = some (r1, r2, r3) := h
 clear h
 have HC3 := Aside0.mk H
 clear H
 go_enter Tryd.func40, Tryd.ntmps40
 go_upto_region 1 with (first | ((with_reducible refine gate_dst (N := 2) rfl ?_); refine box_event ?hg (N := 2) ?hd (cs := #[.bool a0_0, .int .i64 a0_1, .int .i64 a0_2]) (t := 23) ?hr ?_; (case hd => rfl); (case hg => rfl); (case hr => first | (go_simp; done) | (go_simp; rfl)); intro gb548 hg w4 hbox hb; have n0_ := kW HB hb; have n1_ := Aside0.mk (hbox); have n2_ := Aside0.mk ((by rw [hg]; exact (below_size (bS HB)) : w.heap.size ≤ gb548)); have n3_ := Aside0.mk ((by rw [hg]; exact (below_size (bS HB)) : w.heap.size ≤ gb548)); clear HB; have HB := n0_; have BK548 := n1_; have GW548 := n2_; have GE548 := n3_; clear n0_ n1_ n2_ n3_; clear hb hbox hg) | ((with_reducible refine gate_dst (N := 3) rfl ?_); refine box_event ?hg (N := 3) ?hd (cs := #[.bool a1_0, .int .i64 a1_1, .int .i64 a1_2]) (t := 23) ?hr ?_; (case hd => rfl); (case hg => rfl); (case hr => first | (go_simp; done) | (go_simp; rfl)); intro gb549 hg w5 hbox hb; have n0_ := kB BK548 hb; have n1_ := kW HB hb; have n2_ := Aside0.mk (hbox); have n3_ := Aside0.mk ((by rw [hg]; exact (below_size (bS HB)) : w.heap.size ≤ gb549)); have n4_ := Aside0.mk ((by rw [hg]; exact (below_size (bS HB)) : w.heap.size ≤ gb549)); have n5_ := Aside0.mk ((by rw [hg]; exact Nat.ne_of_lt (blk_lt (bkS BK548)) : gb548 ≠ gb549)); have n6_ := Aside0.mk ((by rw [hg]; exact Nat.ne_of_gt (blk_lt (bkS BK548)) : gb549 ≠ gb548)); clear BK548; clear HB; have BK548 := n0_; have HB := n1_; have BK549 := n2_; have GW549 := n3_; have GE549 := n4_; have NB548_549 := n5_; have NB549_548 := n6_; clear n0_ n1_ n2_ n3_ n4_ n5_ n6_; clear hb hbox hg) | ((with_reducible refine gate_dst (N := 4) rfl ?_); refine box_event ?hg (N := 4) ?hd (cs := #[.bool false, .int .i64 0, .int .i64 0]) (t := 23) ?hr ?_; (case hd => rfl); (case hg => rfl); (case hr => first | (go_simp; done) | (go_simp; rfl)); intro gb550 hg w6 hbox hb; have n0_ := kB BK548 hb; have n1_ := kB BK549 hb; have n2_ := kW HB hb; have n3_ := Aside0.mk (hbox); have n4_ := Aside0.mk ((by rw [hg]; exact (below_size (bS HB)) : w.heap.size ≤ gb550)); have n5_ := Aside0.mk ((by rw [hg]; exact (below_size (bS HB)) : w.heap.size ≤ gb550)); have n6_ := Aside0.mk ((by rw [hg]; exact Nat.ne_of_lt (blk_lt (bkS BK548)) : gb548 ≠ gb550)); have n7_ := Aside0.mk ((by rw [hg]; exact Nat.ne_of_gt (blk_lt (bkS BK548)) : gb550 ≠ gb548)); have n8_ := Aside0.mk ((by rw [hg]; exact Nat.ne_of_lt (blk_lt (bkS BK549)) : gb549 ≠ gb550)); have n9_ := Aside0.mk ((by rw [hg]; exact Nat.ne_of_gt (blk_lt (bkS BK549)) : gb550 ≠ gb549)); clear BK548; clear BK549; clear HB; have BK548 := n0_; have BK549 := n1_; have HB := n2_; have BK550 := n3_; have GW550 := n4_; have GE550 := n5_; have NB548_550 := n6_; have NB550_548 := n7_; have NB549_550 := n8_; have NB550_549 := n9_; clear n0_ n1_ n2_ n3_ n4_ n5_ n6_ n7_ n8_ n9_; clear hb hbox hg))
 (try simp only [Act.put, lA, lB, lC])
 go_cut [11] (fun v11 wc => ∃ (kq : Nat) (x11_2 : Bool), v11 = .bool x11_2 ∧ Aside0 (gimbalref31_Mul.j0 kq x11_2 a0_0 a0_1 a0_2 a1_0 a1_1 a1_2 = some (r1, r2, r3)) ∧ Aside0 (kq ≤ k) ∧ Aside0 (wc.heap[gb548]? = some (.cells #[.bool a0_0, .int .i64 a0_1, .int .i64 a0_2] 23 (0, 0))) ∧ Aside0 (wc.heap[gb549]? = some (.cells #[.bool a1_0, .int .i64 a1_1, .int .i64 a1_2] 23 (0, 0))) ∧ Aside0 (wc.heap[gb550]? = some (.cells #[.bool false, .int .i64 0, .int .i64 0] 23 (0, 0))) ∧ Aside0 (Below w.heap.size w wc))
 case first =>
  have H := HC3.out
  clear HC3
  by_cases c7 : a0_0 = true
  ·
   subst c7
   have H1 : (gimbalref31_Mul.j0 k true true a0_1 a0_2 a1_0 a1_1 a1_2) = some (r1, r2, r3) := by rw [if_pos rfl] at H; exact H
   clear H
   have H := H1
   clear H1
   have H' := Aside0.mk H
   clear H
   have hnb8 := NB548_549.out
   have hnc8 := NB549_548.out
   have hnb9 := NB548_550.out
   have hnc9 := NB550_548.out
   have hcz10_0 := cz0 BK548
   have hcz10_1 := cz1 BK548
   have hcz10_2 := cz2 BK548
   have hfz10_0 := fz BK548 0
   have hfz10_1 := fz BK548 1
   have hfz10_2 := fz BK548 2
   go_wp2
   go_meet
   case rel => exact ⟨_, (true), (by first | rfl | (simp; done) | (simp [*]; done)), H', ⟨by first | omega | exact Nat.le_refl _⟩, ⟨bkS BK548⟩, ⟨bkS BK549⟩, ⟨bkS BK550⟩, ⟨bS HB⟩⟩
  ·
   replace c7 := Bool.eq_false_iff.mpr c7
   subst c7
   have H1 : (gimbalref31_Mul.j0 k a1_0 false a0_1 a0_2 a1_0 a1_1 a1_2) = some (r1, r2, r3) := by rw [if_neg (show ¬ (false = true) by decide)] at H; exact H
   clear H
   have H := H1
   clear H1
   have H' := Aside0.mk H
   clear H
   have hnb11 := NB548_549.out
   have hnc11 := NB549_548.out
   have hnb12 := NB548_550.out
   have hnc12 := NB550_548.out
   have hcz13_0 := cz0 BK548
   have hcz13_1 := cz1 BK548
   have hcz13_2 := cz2 BK548
   have hfz13_0 := fz BK548 0
   have hfz13_1 := fz BK548 1
   have hfz13_2 := fz BK548 2
   have hnb14 := NB549_550.out
   have hnc14 := NB550_549.out
   have hcz15_0 := cz0 BK549
   have hcz15_1 := cz1 BK549
   have hcz15_2 := cz2 BK549
   have hfz15_0 := fz BK549 0
   have hfz15_1 := fz BK549 1
   have hfz15_2 := fz BK549 2
   go_wp2
   go_meet
   case rel => exact ⟨_, (a1_0), (by first | rfl | (simp; done) | (simp [*]; done)), H', ⟨by first | omega | exact Nat.le_refl _⟩, ⟨bkS BK548⟩, ⟨bkS BK549⟩, ⟨bkS BK550⟩, ⟨bS HB⟩⟩
 case rest =>
  clear HC3
  try clear c1
  try clear p2
  try clear c4
  try clear c7
  try clear c8
  try clear c9
  try clear c11
  try clear c12
  try clear c14
  try clear hcz10_0
  try clear hcz10_1
  try clear hcz10_2
  try clear hcz13_0
  try clear hcz13_1
  try clear hcz13_2
  try clear hcz15_0
  try clear hcz15_1
  try clear hcz15_2
  try clear hfz10_0
  try clear hfz10_1
  try clear hfz10_2
  try clear hfz13_0
  try clear hfz13_1
  try clear hfz13_2
  try clear hfz15_0
  try clear hfz15_1
  try clear hfz15_2
  obtain ⟨kq, x11_2, rfl, HA, HJ2, BK548, BK549, BK550, HB⟩ := hcut
  cases kq with
  | zero => exact absurd HA.out (by simp [gimbalref31_Mul.j0])
  | succ kj2 =>
   have H := HA.out
   clear HA
   simp only [gimbalref31_Mul.j0] at H
   by_cases c16 : x11_2 = true
   ·
    subst c16
    have H1 : ((gimbalref31_None.f).bind fun bt551 => (some (bt551.1, bt551.2.1, bt551.2.2))) = some (r1, r2, r3) := by rw [if_pos rfl] at H; exact H
    clear H
    have H := H1
    clear H1
    replace H := Option.bind_eq_some_iff.mp H
    obtain ⟨⟨t551, t552, t553⟩, A170, H⟩ := H
    replace H : (some (t551, t552, t553)) = some (r1, r2, r3) := H
    have A17 := Aside0.mk A170
    clear A170
    simp only [Option.some.injEq, Prod.mk.injEq] at H
    obtain ⟨rfl, rfl, rfl⟩ := H
    go_wp2_with (first | ((with_reducible refine gate_callee (f := 69) rfl ?_); refine goesL_ (some 12) rfl rfl Tryd.func69 (by kernel_rfl) rfl #[] rfl mS ?_; (with_reducible refine (gimbalref31_None.calls  t551 t552 t553 _ A17.out).mono ?_); rintro e w18 ⟨rfl, hb⟩; refine ⟨_, rfl, ?_⟩; replace BK548 := kB BK548 hb; replace BK549 := kB BK549 hb; replace BK550 := kB BK550 hb; replace HB := kW HB hb; (try clear hb); (try clear hb2); (try clear hk); (try clear hi); have hnb19 := NB550_548.out; have hnc19 := NB548_550.out; have hnb20 := NB550_549.out; have hnc20 := NB549_550.out; have hcz21_0 := cz0 BK550; have hcz21_1 := cz1 BK550; have hcz21_2 := cz2 BK550; have hfz21_0 := fz BK550 0; have hfz21_1 := fz BK550 1; have hfz21_2 := fz BK550 2))
    refine bodyPost_ret (results_cell_row rfl _ _ gb550 23 #[.bool t551, .int .i64 t552, .int .i64 t553] (0, 0) _ rfl (by (with_reducible repeat (first | refine b1 ?_ _ | refine b2 ?_ | refine b3 ?_ _)); refine blk_put (cs := #[.bool t551, .int .i64 t552, .int .i64 0]) ?_ 2 _ rfl; (with_reducible repeat (first | refine b1 ?_ _ | refine b2 ?_ | refine b3 ?_ _)); refine blk_put (cs := #[.bool t551, .int .i64 0, .int .i64 0]) ?_ 1 _ rfl; (with_reducible repeat (first | refine b1 ?_ _ | refine b2 ?_ | refine b3 ?_ _)); refine blk_put (cs := #[.bool false, .int .i64 0, .int .i64 0]) ?_ 0 _ rfl; (with_reducible repeat (first | refine b1 ?_ _ | refine b2 ?_ | refine b3 ?_ _)); exact BK550.out) Tryd.underlying23 rfl (by kernel_rfl)) rfl ?_
    exact ⟨eS, bS HB⟩
   ·
    replace c16 := Bool.eq_false_iff.mpr c16
    subst c16
    have H1 : ((gimbalref31_size.f a0_1).bind fun t554 => ((gimbalref31_size.f a1_1).bind fun t555 => ((gimbalref31_size.f a0_1).bind fun t556 => ((gimbalref31_size.f a1_2).bind fun t557 => ((gimbalref31_size.f a1_1).bind fun t558 => ((gimbalref31_size.f a0_2).bind fun t559 => ((gimbalref31_gcd.f kj2 (IntKind.u64.wrap (t556 * t557)) (IntKind.u64.wrap (t558 * t559))).bind fun t560 => ((gimbalref31_gcd.f kj2 (IntKind.u64.wrap (t554 * t555)) t560).bind fun t561 => ((gimbalref31_size.f a0_2).bind fun t562 => ((gimbalref31_size.f a1_2).bind fun t563 => ((gimbalref31_class.f kj2 t561 (IntKind.u64.wrap (t562 * t563)) ((decide (a0_2 < 0)) != (decide (a1_2 < 0)))).bind fun bt564 => (some (bt564.1, bt564.2.1, bt564.2.2))))))))))))) = some (r1, r2, r3) := by rw [if_neg (show ¬ (false = true) by decide)] at H; exact H
    clear H
    have H := H1
    clear H1
    replace H := Option.bind_eq_some_iff.mp H
    obtain ⟨t554, A220, H⟩ := H
    replace H : ((gimbalref31_size.f a1_1).bind fun t555 => ((gimbalref31_size.f a0_1).bind fun t556 => ((gimbalref31_size.f a1_2).bind fun t557 => ((gimbalref31_size.f a1_1).bind fun t558 => ((gimbalref31_size.f a0_2).bind fun t559 => ((gimbalref31_gcd.f kj2 (IntKind.u64.wrap (t556 * t557)) (IntKind.u64.wrap (t558 * t559))).bind fun t560 => ((gimbalref31_gcd.f kj2 (IntKind.u64.wrap (t554 * t555)) t560).bind fun t561 => ((gimbalref31_size.f a0_2).bind fun t562 => ((gimbalref31_size.f a1_2).bind fun t563 => ((gimbalref31_class.f kj2 t561 (IntKind.u64.wrap (t562 * t563)) ((decide (a0_2 < 0)) != (decide (a1_2 < 0)))).bind fun bt564 => (some (bt564.1, bt564.2.1, bt564.2.2)))))))))))) = some (r1, r2, r3) := H
    have A22 := Aside0.mk A220
    clear A220
    replace H := Option.bind_eq_some_iff.mp H
    obtain ⟨t555, A230, H⟩ := H
    replace H : ((gimbalref31_size.f a0_1).bind fun t556 => ((gimbalref31_size.f a1_2).bind fun t557 => ((gimbalref31_size.f a1_1).bind fun t558 => ((gimbalref31_size.f a0_2).bind fun t559 => ((gimbalref31_gcd.f kj2 (IntKind.u64.wrap (t556 * t557)) (IntKind.u64.wrap (t558 * t559))).bind fun t560 => ((gimbalref31_gcd.f kj2 (IntKind.u64.wrap (t554 * t555)) t560).bind fun t561 => ((gimbalref31_size.f a0_2).bind fun t562 => ((gimbalref31_size.f a1_2).bind fun t563 => ((gimbalref31_class.f kj2 t561 (IntKind.u64.wrap (t562 * t563)) ((decide (a0_2 < 0)) != (decide (a1_2 < 0)))).bind fun bt564 => (some (bt564.1, bt564.2.1, bt564.2.2))))))))))) = some (r1, r2, r3) := H
    have A23 := Aside0.mk A230
    clear A230
    replace H := Option.bind_eq_some_iff.mp H
    obtain ⟨t556, A240, H⟩ := H
    replace H : ((gimbalref31_size.f a1_2).bind fun t557 => ((gimbalref31_size.f a1_1).bind fun t558 => ((gimbalref31_size.f a0_2).bind fun t559 => ((gimbalref31_gcd.f kj2 (IntKind.u64.wrap (t556 * t557)) (IntKind.u64.wrap (t558 * t559))).bind fun t560 => ((gimbalref31_gcd.f kj2 (IntKind.u64.wrap (t554 * t555)) t560).bind fun t561 => ((gimbalref31_size.f a0_2).bind fun t562 => ((gimbalref31_size.f a1_2).bind fun t563 => ((gimbalref31_class.f kj2 t561 (IntKind.u64.wrap (t562 * t563)) ((decide (a0_2 < 0)) != (decide (a1_2 < 0)))).bind fun bt564 => (some (bt564.1, bt564.2.1, bt564.2.2)))))))))) = some (r1, r2, r3) := H
    have A24 := Aside0.mk A240
    clear A240
    replace H := Option.bind_eq_some_iff.mp H
    obtain ⟨t557, A250, H⟩ := H
    replace H : ((gimbalref31_size.f a1_1).bind fun t558 => ((gimbalref31_size.f a0_2).bind fun t559 => ((gimbalref31_gcd.f kj2 (IntKind.u64.wrap (t556 * t557)) (IntKind.u64.wrap (t558 * t559))).bind fun t560 => ((gimbalref31_gcd.f kj2 (IntKind.u64.wrap (t554 * t555)) t560).bind fun t561 => ((gimbalref31_size.f a0_2).bind fun t562 => ((gimbalref31_size.f a1_2).bind fun t563 => ((gimbalref31_class.f kj2 t561 (IntKind.u64.wrap (t562 * t563)) ((decide (a0_2 < 0)) != (decide (a1_2 < 0)))).bind fun bt564 => (some (bt564.1, bt564.2.1, bt564.2.2))))))))) = some (r1, r2, r3) := H
    have A25 := Aside0.mk A250
    clear A250
    replace H := Option.bind_eq_some_iff.mp H
    obtain ⟨t558, A260, H⟩ := H
    replace H : ((gimbalref31_size.f a0_2).bind fun t559 => ((gimbalref31_gcd.f kj2 (IntKind.u64.wrap (t556 * t557)) (IntKind.u64.wrap (t558 * t559))).bind fun t560 => ((gimbalref31_gcd.f kj2 (IntKind.u64.wrap (t554 * t555)) t560).bind fun t561 => ((gimbalref31_size.f a0_2).bind fun t562 => ((gimbalref31_size.f a1_2).bind fun t563 => ((gimbalref31_class.f kj2 t561 (IntKind.u64.wrap (t562 * t563)) ((decide (a0_2 < 0)) != (decide (a1_2 < 0)))).bind fun bt564 => (some (bt564.1, bt564.2.1, bt564.2.2)))))))) = some (r1, r2, r3) := H
    have A26 := Aside0.mk A260
    clear A260
    replace H := Option.bind_eq_some_iff.mp H
    obtain ⟨t559, A270, H⟩ := H
    replace H : ((gimbalref31_gcd.f kj2 (IntKind.u64.wrap (t556 * t557)) (IntKind.u64.wrap (t558 * t559))).bind fun t560 => ((gimbalref31_gcd.f kj2 (IntKind.u64.wrap (t554 * t555)) t560).bind fun t561 => ((gimbalref31_size.f a0_2).bind fun t562 => ((gimbalref31_size.f a1_2).bind fun t563 => ((gimbalref31_class.f kj2 t561 (IntKind.u64.wrap (t562 * t563)) ((decide (a0_2 < 0)) != (decide (a1_2 < 0)))).bind fun bt564 => (some (bt564.1, bt564.2.1, bt564.2.2))))))) = some (r1, r2, r3) := H
    have A27 := Aside0.mk A270
    clear A270
    replace H := Option.bind_eq_some_iff.mp H
    obtain ⟨t560, A280, H⟩ := H
    replace H : ((gimbalref31_gcd.f kj2 (IntKind.u64.wrap (t554 * t555)) t560).bind fun t561 => ((gimbalref31_size.f a0_2).bind fun t562 => ((gimbalref31_size.f a1_2).bind fun t563 => ((gimbalref31_class.f kj2 t561 (IntKind.u64.wrap (t562 * t563)) ((decide (a0_2 < 0)) != (decide (a1_2 < 0)))).bind fun bt564 => (some (bt564.1, bt564.2.1, bt564.2.2)))))) = some (r1, r2, r3) := H
    have A28 := Aside0.mk A280
    clear A280
    replace H := Option.bind_eq_some_iff.mp H
    obtain ⟨t561, A290, H⟩ := H
    replace H : ((gimbalref31_size.f a0_2).bind fun t562 => ((gimbalref31_size.f a1_2).bind fun t563 => ((gimbalref31_class.f kj2 t561 (IntKind.u64.wrap (t562 * t563)) ((decide (a0_2 < 0)) != (decide (a1_2 < 0)))).bind fun bt564 => (some (bt564.1, bt564.2.1, bt564.2.2))))) = some (r1, r2, r3) := H
    have A29 := Aside0.mk A290
    clear A290
    replace H := Option.bind_eq_some_iff.mp H
    obtain ⟨t562, A300, H⟩ := H
    replace H : ((gimbalref31_size.f a1_2).bind fun t563 => ((gimbalref31_class.f kj2 t561 (IntKind.u64.wrap (t562 * t563)) ((decide (a0_2 < 0)) != (decide (a1_2 < 0)))).bind fun bt564 => (some (bt564.1, bt564.2.1, bt564.2.2)))) = some (r1, r2, r3) := H
    have A30 := Aside0.mk A300
    clear A300
    replace H := Option.bind_eq_some_iff.mp H
    obtain ⟨t563, A310, H⟩ := H
    replace H : ((gimbalref31_class.f kj2 t561 (IntKind.u64.wrap (t562 * t563)) ((decide (a0_2 < 0)) != (decide (a1_2 < 0)))).bind fun bt564 => (some (bt564.1, bt564.2.1, bt564.2.2))) = some (r1, r2, r3) := H
    have A31 := Aside0.mk A310
    clear A310
    replace H := Option.bind_eq_some_iff.mp H
    obtain ⟨⟨t564, t565, t566⟩, A320, H⟩ := H
    replace H : (some (t564, t565, t566)) = some (r1, r2, r3) := H
    have A32 := Aside0.mk A320
    clear A320
    simp only [Option.some.injEq, Prod.mk.injEq] at H
    obtain ⟨rfl, rfl, rfl⟩ := H
    try go_wp2
    replace BK548 := Aside0.mk (blk_drew BK548.out)
    replace BK549 := Aside0.mk (blk_drew BK549.out)
    replace BK550 := Aside0.mk (blk_drew BK550.out)
    replace HB := Aside0.mk (below_drew1 HB.out)
    refine start_ (n := 24) (S := fun w' => w'.cell? ⟨gb548, 0, none⟩ = some (.bool a0_0) ∧ w'.cell? ⟨gb548, 1, none⟩ = some (.int .i64 a0_1) ∧ w'.cell? ⟨gb548, 2, none⟩ = some (.int .i64 a0_2) ∧ w'.cell? ⟨gb549, 0, none⟩ = some (.bool a1_0) ∧ w'.cell? ⟨gb549, 1, none⟩ = some (.int .i64 a1_1) ∧ w'.cell? ⟨gb549, 2, none⟩ = some (.int .i64 a1_2)) (ds := []) #[false, false, false, false, false, false, false, false, false, false, false, false, false, false, false, false, false, false, false, false, false, false, false, false] (by kernel_rfl) rfl rfl ⟨cz0 BK548, cz1 BK548, cz2 BK548, cz0 BK549, cz1 BK549, cz2 BK549⟩ (fun hHeld => ?_); refine with_tabW gimbalref31_Mul.tab3 gimbalref31_Mul.bits3 (fun HT_ HW_ => ?_)
    generalize wc.drew = w33 at BK548 BK549 BK550 HB hHeld ⊢
    refine pure_ (i := 0) (N := some 13) (v := ?_) (a' := ?_) #[true, false, false, false, false, false, false, false, false, false, false, false, false, false, false, false, false, false, false, false, false, false, false, false] rfl rfl (any_of HT_.out (by kernel_rfl)) (fun _ _ _ h => h) (Or.inl ⟨by rfl, ?_⟩) ?_ ?_
    rotate_left
    ·
     intro w'
     go_simp
     with_reducible rfl
    rotate_left
    ·
     simp only [Act.put, lA, lB, lC, i64_w, i32_w]
     rfl
    refine pure_ (i := 3) (N := some 16) (v := ?_) (a' := ?_) #[true, false, false, true, false, false, false, false, false, false, false, false, false, false, false, false, false, false, false, false, false, false, false, false] rfl rfl (any_of HT_.out (by kernel_rfl)) (fun _ _ _ h => h) (Or.inl ⟨by rfl, ?_⟩) ?_ ?_
    rotate_left
    ·
     intro w'
     go_simp
     with_reducible rfl
    rotate_left
    ·
     simp only [Act.put, lA, lB, lC, i64_w, i32_w]
     rfl
    refine pure_ (i := 7) (N := some 20) (v := ?_) (a' := ?_) #[true, false, false, true, false, false, false, true, false, false, false, false, false, false, false, false, false, false, false, false, false, false, false, false] rfl rfl (any_of HT_.out (by kernel_rfl)) (fun _ _ _ h => h) (Or.inl ⟨by rfl, ?_⟩) ?_ ?_
    rotate_left
    ·
     intro w'
     go_simp
     with_reducible rfl
    rotate_left
    ·
     simp only [Act.put, lA, lB, lC, i64_w, i32_w]
     rfl
    refine pure_ (i := 10) (N := some 23) (v := ?_) (a' := ?_) #[true, false, false, true, false, false, false, true, false, false, true, false, false, false, false, false, false, false, false, false, false, false, false, false] rfl rfl (any_of HT_.out (by kernel_rfl)) (fun _ _ _ h => h) (Or.inl ⟨by rfl, ?_⟩) ?_ ?_
    rotate_left
    ·
     intro w'
     go_simp
     with_reducible rfl
    rotate_left
    ·
     simp only [Act.put, lA, lB, lC, i64_w, i32_w]
     rfl
    refine pure_ (i := 14) (N := some 27) (v := ?_) (a' := ?_) #[true, false, false, true, false, false, false, true, false, false, true, false, false, false, true, false, false, false, false, false, false, false, false, false] rfl rfl (any_of HT_.out (by kernel_rfl)) (fun _ _ _ h => h) (Or.inl ⟨by rfl, ?_⟩) ?_ ?_
    rotate_left
    ·
     intro w'
     go_simp
     with_reducible rfl
    rotate_left
    ·
     simp only [Act.put, lA, lB, lC, i64_w, i32_w]
     rfl
    refine pure_ (i := 17) (N := some 30) (v := ?_) (a' := ?_) #[true, false, false, true, false, false, false, true, false, false, true, false, false, false, true, false, false, true, false, false, false, false, false, false] rfl rfl (any_of HT_.out (by kernel_rfl)) (fun _ _ _ h => h) (Or.inl ⟨by rfl, ?_⟩) ?_ ?_
    rotate_left
    ·
     intro w'
     go_simp
     with_reducible rfl
    rotate_left
    ·
     simp only [Act.put, lA, lB, lC, i64_w, i32_w]
     rfl
    refine take_ (i := 1) (N := some 14) (v := ?_) (a' := ?_) #[true, true, false, true, false, false, false, true, false, false, true, false, false, false, true, false, false, true, false, false, false, false, false, false] rfl rfl (take_ofW HT_.out HW_.out (by kernel_rfl)) (fun _ _ _ h => h) (Or.inl ⟨by rfl, ?_⟩) hHeld ?_ ?_
    rotate_left
    ·
     rintro w' ⟨s0, s1, s2, s3, s4, s5⟩
     go_simp
     with_reducible rfl
    rotate_left
    ·
     simp only [Act.put, lA, lB, lC, i64_w, i32_w]
     rfl
    refine take_ (i := 4) (N := some 17) (v := ?_) (a' := ?_) #[true, true, false, true, true, false, false, true, false, false, true, false, false, false, true, false, false, true, false, false, false, false, false, false] rfl rfl (take_ofW HT_.out HW_.out (by kernel_rfl)) (fun _ _ _ h => h) (Or.inl ⟨by rfl, ?_⟩) hHeld ?_ ?_
    rotate_left
    ·
     rintro w' ⟨s0, s1, s2, s3, s4, s5⟩
     go_simp
     with_reducible rfl
    rotate_left
    ·
     simp only [Act.put, lA, lB, lC, i64_w, i32_w]
     rfl
    refine take_ (i := 8) (N := some 21) (v := ?_) (a' := ?_) #[true, true, false, true, true, false, false, true, true, false, true, false, false, false, true, false, false, true, false, false, false, false, false, false] rfl rfl (take_ofW HT_.out HW_.out (by kernel_rfl)) (fun _ _ _ h => h) (Or.inl ⟨by rfl, ?_⟩) hHeld ?_ ?_
    rotate_left
    ·
     rintro w' ⟨s0, s1, s2, s3, s4, s5⟩
     go_simp
     with_reducible rfl
    rotate_left
    ·
     simp only [Act.put, lA, lB, lC, i64_w, i32_w]
     rfl
    refine take_ (i := 11) (N := some 24) (v := ?_) (a' := ?_) #[true, true, false, true, true, false, false, true, true, false, true, true, false, false, true, false, false, true, false, false, false, false, false, false] rfl rfl (take_ofW HT_.out HW_.out (by kernel_rfl)) (fun _ _ _ h => h) (Or.inl ⟨by rfl, ?_⟩) hHeld ?_ ?_
    rotate_left
    ·
     rintro w' ⟨s0, s1, s2, s3, s4, s5⟩
     go_simp
     with_reducible rfl
    rotate_left
    ·
     simp only [Act.put, lA, lB, lC, i64_w, i32_w]
     rfl
    refine take_ (i := 15) (N := some 28) (v := ?_) (a' := ?_) #[true, true, false, true, true, false, false, true, true, false, true, true, false, false, true, true, false, true, false, false, false, false, false, false] rfl rfl (take_ofW HT_.out HW_.out (by kernel_rfl)) (fun _ _ _ h => h) (Or.inl ⟨by rfl, ?_⟩) hHeld ?_ ?_
    rotate_left
    ·
     rintro w' ⟨s0, s1, s2, s3, s4, s5⟩
     go_simp
     with_reducible rfl
    rotate_left
    ·
     simp only [Act.put, lA, lB, lC, i64_w, i32_w]
     rfl
    refine take_ (i := 18) (N := some 31) (v := ?_) (a' := ?_) #[true, true, false, true, true, false, false, true, true, false, true, true, false, false, true, true, false, true, true, false, false, false, false, false] rfl rfl (take_ofW HT_.out HW_.out (by kernel_rfl)) (fun _ _ _ h => h) (Or.inl ⟨by rfl, ?_⟩) hHeld ?_ ?_
    rotate_left
    ·
     rintro w' ⟨s0, s1, s2, s3, s4, s5⟩
     go_simp
     with_reducible rfl
    rotate_left
    ·
     simp only [Act.put, lA, lB, lC, i64_w, i32_w]
     rfl
    refine one_ (i := 2) (N := some 15) #[true, true, true, true, true, false, false, true, true, false, true, true, false, false, true, true, false, true, true, false, false, false, false, false] rfl rfl (one_of HT_.out (by kernel_rfl)) (by decide) (fun K hK => ?_)
    refine goes_ Tryd.func55 (by kernel_rfl) rfl #[.int .i64 a0_1] (by rfl) rfl rfl mS ?_
    with_reducible refine (gimbalref31_size.calls a0_1 t554 _ A22.out).mono ?_
    rintro e w' ⟨rfl, ⟨nd, rfl⟩⟩
    refine ⟨_, rfl, ?_⟩
    refine hK.out _ _ ⟨cz0 BK548, cz1 BK548, cz2 BK548, cz0 BK549, cz1 BK549, cz2 BK549⟩ (fun hHeld => ?_)
    clear hK K
    refine norm_ (a' := ?_) ?_ ?_
    rotate_left
    ·
     show Act.put _ (some 15) _ = _
     simp only [Act.put, lA, lB, lC, i64_w, i32_w]
     rfl
    refine one_ (i := 5) (N := some 18) #[true, true, true, true, true, true, false, true, true, false, true, true, false, false, true, true, false, true, true, false, false, false, false, false] rfl rfl (one_of HT_.out (by kernel_rfl)) (by decide) (fun K hK => ?_)
    refine goes_ Tryd.func55 (by kernel_rfl) rfl #[.int .i64 a1_1] (by rfl) rfl rfl mS ?_
    with_reducible refine (gimbalref31_size.calls a1_1 t555 _ A23.out).mono ?_
    rintro e w' ⟨rfl, ⟨nd, rfl⟩⟩
    refine ⟨_, rfl, ?_⟩
    refine hK.out _ _ ⟨cz0 BK548, cz1 BK548, cz2 BK548, cz0 BK549, cz1 BK549, cz2 BK549⟩ (fun hHeld => ?_)
    clear hK K
    refine norm_ (a' := ?_) ?_ ?_
    rotate_left
    ·
     show Act.put _ (some 18) _ = _
     simp only [Act.put, lA, lB, lC, i64_w, i32_w]
     rfl
    refine pure_ (i := 6) (N := some 19) (v := ?_) (a' := ?_) #[true, true, true, true, true, true, true, true, true, false, true, true, false, false, true, true, false, true, true, false, false, false, false, false] rfl rfl (any_of HT_.out (by kernel_rfl)) (fun _ _ _ h => h) (Or.inl ⟨by rfl, ?_⟩) ?_ ?_
    rotate_left
    ·
     intro w'
     go_simp
     with_reducible rfl
    rotate_left
    ·
     simp only [Act.put, lA, lB, lC, i64_w, i32_w]
     rfl
    refine one_ (i := 9) (N := some 22) #[true, true, true, true, true, true, true, true, true, true, true, true, false, false, true, true, false, true, true, false, false, false, false, false] rfl rfl (one_of HT_.out (by kernel_rfl)) (by decide) (fun K hK => ?_)
    refine goes_ Tryd.func55 (by kernel_rfl) rfl #[.int .i64 a0_1] (by rfl) rfl rfl mS ?_
    with_reducible refine (gimbalref31_size.calls a0_1 t556 _ A24.out).mono ?_
    rintro e w' ⟨rfl, ⟨nd, rfl⟩⟩
    refine ⟨_, rfl, ?_⟩
    refine hK.out _ _ ⟨cz0 BK548, cz1 BK548, cz2 BK548, cz0 BK549, cz1 BK549, cz2 BK549⟩ (fun hHeld => ?_)
    clear hK K
    refine norm_ (a' := ?_) ?_ ?_
    rotate_left
    ·
     show Act.put _ (some 22) _ = _
     simp only [Act.put, lA, lB, lC, i64_w, i32_w]
     rfl
    refine one_ (i := 12) (N := some 25) #[true, true, true, true, true, true, true, true, true, true, true, true, true, false, true, true, false, true, true, false, false, false, false, false] rfl rfl (one_of HT_.out (by kernel_rfl)) (by decide) (fun K hK => ?_)
    refine goes_ Tryd.func55 (by kernel_rfl) rfl #[.int .i64 a1_2] (by rfl) rfl rfl mS ?_
    with_reducible refine (gimbalref31_size.calls a1_2 t557 _ A25.out).mono ?_
    rintro e w' ⟨rfl, ⟨nd, rfl⟩⟩
    refine ⟨_, rfl, ?_⟩
    refine hK.out _ _ ⟨cz0 BK548, cz1 BK548, cz2 BK548, cz0 BK549, cz1 BK549, cz2 BK549⟩ (fun hHeld => ?_)
    clear hK K
    refine norm_ (a' := ?_) ?_ ?_
    rotate_left
    ·
     show Act.put _ (some 25) _ = _
     simp only [Act.put, lA, lB, lC, i64_w, i32_w]
     rfl
    refine pure_ (i := 13) (N := some 26) (v := ?_) (a' := ?_) #[true, true, true, true, true, true, true, true, true, true, true, true, true, true, true, true, false, true, true, false, false, false, false, false] rfl rfl (any_of HT_.out (by kernel_rfl)) (fun _ _ _ h => h) (Or.inl ⟨by rfl, ?_⟩) ?_ ?_
    rotate_left
    ·
     intro w'
     go_simp
     with_reducible rfl
    rotate_left
    ·
     simp only [Act.put, lA, lB, lC, i64_w, i32_w]
     rfl
    refine one_ (i := 16) (N := some 29) #[true, true, true, true, true, true, true, true, true, true, true, true, true, true, true, true, true, true, true, false, false, false, false, false] rfl rfl (one_of HT_.out (by kernel_rfl)) (by decide) (fun K hK => ?_)
    refine goes_ Tryd.func55 (by kernel_rfl) rfl #[.int .i64 a1_1] (by rfl) rfl rfl mS ?_
    with_reducible refine (gimbalref31_size.calls a1_1 t558 _ A26.out).mono ?_
    rintro e w' ⟨rfl, ⟨nd, rfl⟩⟩
    refine ⟨_, rfl, ?_⟩
    refine hK.out _ _ ⟨cz0 BK548, cz1 BK548, cz2 BK548, cz0 BK549, cz1 BK549, cz2 BK549⟩ (fun hHeld => ?_)
    clear hK K
    refine norm_ (a' := ?_) ?_ ?_
    rotate_left
    ·
     show Act.put _ (some 29) _ = _
     simp only [Act.put, lA, lB, lC, i64_w, i32_w]
     rfl
    refine one_ (i := 19) (N := some 32) #[true, true, true, true, true, true, true, true, true, true, true, true, true, true, true, true, true, true, true, true, false, false, false, false] rfl rfl (one_of HT_.out (by kernel_rfl)) (by decide) (fun K hK => ?_)
    refine goes_ Tryd.func55 (by kernel_rfl) rfl #[.int .i64 a0_2] (by rfl) rfl rfl mS ?_
    with_reducible refine (gimbalref31_size.calls a0_2 t559 _ A27.out).mono ?_
    rintro e w' ⟨rfl, ⟨nd, rfl⟩⟩
    refine ⟨_, rfl, ?_⟩
    refine hK.out _ _ ⟨cz0 BK548, cz1 BK548, cz2 BK548, cz0 BK549, cz1 BK549, cz2 BK549⟩ (fun hHeld => ?_)
    clear hK K
    refine norm_ (a' := ?_) ?_ ?_
    rotate_left
    ·
     show Act.put _ (some 32) _ = _
     simp only [Act.put, lA, lB, lC, i64_w, i32_w]
     rfl
    refine pure_ (i := 20) (N := some 33) (v := ?_) (a' := ?_) #[true, true, true, true, true, true, true, true, true, true, true, true, true, true, true, true, true, true, true, true, true, false, false, false] rfl rfl (any_of HT_.out (by kernel_rfl)) (fun _ _ _ h => h) (Or.inl ⟨by rfl, ?_⟩) ?_ ?_
    rotate_left
    ·
     intro w'
     go_simp
     with_reducible rfl
    rotate_left
    ·
     simp only [Act.put, lA, lB, lC, i64_w, i32_w]
     rfl
    refine one_ (i := 21) (N := some 34) #[true, true, true, true, true, true, true, true, true, true, true, true, true, true, true, true, true, true, true, true, true, true, false, false] rfl rfl (one_of HT_.out (by kernel_rfl)) (by decide) (fun K hK => ?_)
    refine goes_ Tryd.func80 (by kernel_rfl) rfl #[.int .u64 (IntKind.u64.wrap (t556 * t557)), .int .u64 (IntKind.u64.wrap (t558 * t559))] (by rfl) rfl rfl mS ?_
    with_reducible refine (gimbalref31_gcd.calls kj2 (IntKind.u64.wrap (t556 * t557)) (IntKind.u64.wrap (t558 * t559)) t560 _ A28.out).mono ?_
    rintro e w' ⟨rfl, ⟨nd, rfl⟩⟩
    refine ⟨_, rfl, ?_⟩
    refine hK.out _ _ ⟨cz0 BK548, cz1 BK548, cz2 BK548, cz0 BK549, cz1 BK549, cz2 BK549⟩ (fun hHeld => ?_)
    clear hK K
    refine norm_ (a' := ?_) ?_ ?_
    rotate_left
    ·
     show Act.put _ (some 34) _ = _
     simp only [Act.put, lA, lB, lC, i64_w, i32_w]
     rfl
    refine one_ (i := 22) (N := some 35) #[true, true, true, true, true, true, true, true, true, true, true, true, true, true, true, true, true, true, true, true, true, true, true, false] rfl rfl (one_of HT_.out (by kernel_rfl)) (by decide) (fun K hK => ?_)
    refine goes_ Tryd.func80 (by kernel_rfl) rfl #[.int .u64 (IntKind.u64.wrap (t554 * t555)), .int .u64 t560] (by rfl) rfl rfl mS ?_
    with_reducible refine (gimbalref31_gcd.calls kj2 (IntKind.u64.wrap (t554 * t555)) t560 t561 _ A29.out).mono ?_
    rintro e w' ⟨rfl, ⟨nd, rfl⟩⟩
    refine ⟨_, rfl, ?_⟩
    refine hK.out _ _ ⟨cz0 BK548, cz1 BK548, cz2 BK548, cz0 BK549, cz1 BK549, cz2 BK549⟩ (fun hHeld => ?_)
    clear hK K
    refine norm_ (a' := ?_) ?_ ?_
    rotate_left
    ·
     show Act.put _ (some 35) _ = _
     simp only [Act.put, lA, lB, lC, i64_w, i32_w]
     rfl
    refine pure_ (i := 23) (N := some 5) (v := ?_) (a' := ?_) #[true, true, true, true, true, true, true, true, true, true, true, true, true, true, true, true, true, true, true, true, true, true, true, true] rfl rfl (any_of HT_.out (by kernel_rfl)) (fun _ _ _ h => h) (Or.inl ⟨by rfl, ?_⟩) ?_ ?_
    rotate_left
    ·
     intro w'
     go_simp
     with_reducible rfl
    rotate_left
    ·
     simp only [Act.put, lA, lB, lC, i64_w, i32_w]
     rfl
    refine done_ (done_of HT_.out (by kernel_rfl)) ?_
    try go_wp2
    (repeat (rw [drewN_self w33]; generalize hq_ : World.drewN w33 _ = w33; have n0_ : Aside0 (w33.heap[gb548]? = some (.cells #[.bool a0_0, .int .i64 a0_1, .int .i64 a0_2] 23 (0, 0))) := ⟨by rw [← hq_]; exact (bkS BK548)⟩; have n1_ : Aside0 (w33.heap[gb549]? = some (.cells #[.bool a1_0, .int .i64 a1_1, .int .i64 a1_2] 23 (0, 0))) := ⟨by rw [← hq_]; exact (bkS BK549)⟩; have n2_ : Aside0 (w33.heap[gb550]? = some (.cells #[.bool false, .int .i64 0, .int .i64 0] 23 (0, 0))) := ⟨by rw [← hq_]; exact (bkS BK550)⟩; have n3_ : Aside0 (Below w.heap.size w w33) := ⟨by rw [← hq_]; exact (bS HB)⟩; clear BK548 BK549 BK550 HB hq_; have BK548 := n0_; have BK549 := n1_; have BK550 := n2_; have HB := n3_; clear n0_ n1_ n2_ n3_))
    replace BK548 := Aside0.mk (blk_drew BK548.out)
    replace BK549 := Aside0.mk (blk_drew BK549.out)
    replace BK550 := Aside0.mk (blk_drew BK550.out)
    replace HB := Aside0.mk (below_drew1 HB.out)
    refine start_ (n := 17) (S := fun w' => w'.cell? ⟨gb548, 0, none⟩ = some (.bool a0_0) ∧ w'.cell? ⟨gb548, 1, none⟩ = some (.int .i64 a0_1) ∧ w'.cell? ⟨gb548, 2, none⟩ = some (.int .i64 a0_2) ∧ w'.cell? ⟨gb549, 0, none⟩ = some (.bool a1_0) ∧ w'.cell? ⟨gb549, 1, none⟩ = some (.int .i64 a1_1) ∧ w'.cell? ⟨gb549, 2, none⟩ = some (.int .i64 a1_2)) (ds := []) #[false, false, false, false, false, false, false, false, false, false, false, false, false, false, false, false, false] (by kernel_rfl) rfl rfl ⟨cz0 BK548, cz1 BK548, cz2 BK548, cz0 BK549, cz1 BK549, cz2 BK549⟩ (fun hHeld => ?_); refine with_tabW gimbalref31_Mul.tab4 gimbalref31_Mul.bits4 (fun HT_ HW_ => ?_)
    generalize w33.drew = w34 at BK548 BK549 BK550 HB hHeld ⊢
    refine pure_ (i := 0) (N := some 36) (v := ?_) (a' := ?_) #[true, false, false, false, false, false, false, false, false, false, false, false, false, false, false, false, false] rfl rfl (any_of HT_.out (by kernel_rfl)) (fun _ _ _ h => h) (Or.inl ⟨by rfl, ?_⟩) ?_ ?_
    rotate_left
    ·
     intro w'
     go_simp
     with_reducible rfl
    rotate_left
    ·
     simp only [Act.put, lA, lB, lC, i64_w, i32_w]
     rfl
    refine pure_ (i := 1) (N := some 37) (v := ?_) (a' := ?_) #[true, true, false, false, false, false, false, false, false, false, false, false, false, false, false, false, false] rfl rfl (any_of HT_.out (by kernel_rfl)) (fun _ _ _ h => h) (Or.inl ⟨by rfl, ?_⟩) ?_ ?_
    rotate_left
    ·
     intro w'
     go_simp
     with_reducible rfl
    rotate_left
    ·
     simp only [Act.put, lA, lB, lC, i64_w, i32_w]
     rfl
    refine pure_ (i := 4) (N := some 40) (v := ?_) (a' := ?_) #[true, true, false, false, true, false, false, false, false, false, false, false, false, false, false, false, false] rfl rfl (any_of HT_.out (by kernel_rfl)) (fun _ _ _ h => h) (Or.inl ⟨by rfl, ?_⟩) ?_ ?_
    rotate_left
    ·
     intro w'
     go_simp
     with_reducible rfl
    rotate_left
    ·
     simp only [Act.put, lA, lB, lC, i64_w, i32_w]
     rfl
    refine pure_ (i := 8) (N := some 44) (v := ?_) (a' := ?_) #[true, true, false, false, true, false, false, false, true, false, false, false, false, false, false, false, false] rfl rfl (any_of HT_.out (by kernel_rfl)) (fun _ _ _ h => h) (Or.inl ⟨by rfl, ?_⟩) ?_ ?_
    rotate_left
    ·
     intro w'
     go_simp
     with_reducible rfl
    rotate_left
    ·
     simp only [Act.put, lA, lB, lC, i64_w, i32_w]
     rfl
    refine pure_ (i := 11) (N := some 47) (v := ?_) (a' := ?_) #[true, true, false, false, true, false, false, false, true, false, false, true, false, false, false, false, false] rfl rfl (any_of HT_.out (by kernel_rfl)) (fun _ _ _ h => h) (Or.inl ⟨by rfl, ?_⟩) ?_ ?_
    rotate_left
    ·
     intro w'
     go_simp
     with_reducible rfl
    rotate_left
    ·
     simp only [Act.put, lA, lB, lC, i64_w, i32_w]
     rfl
    refine take_ (i := 2) (N := some 38) (v := ?_) (a' := ?_) #[true, true, true, false, true, false, false, false, true, false, false, true, false, false, false, false, false] rfl rfl (take_ofW HT_.out HW_.out (by kernel_rfl)) (fun _ _ _ h => h) (Or.inl ⟨by rfl, ?_⟩) hHeld ?_ ?_
    rotate_left
    ·
     rintro w' ⟨s0, s1, s2, s3, s4, s5⟩
     go_simp
     with_reducible rfl
    rotate_left
    ·
     simp only [Act.put, lA, lB, lC, i64_w, i32_w]
     rfl
    refine take_ (i := 5) (N := some 41) (v := ?_) (a' := ?_) #[true, true, true, false, true, true, false, false, true, false, false, true, false, false, false, false, false] rfl rfl (take_ofW HT_.out HW_.out (by kernel_rfl)) (fun _ _ _ h => h) (Or.inl ⟨by rfl, ?_⟩) hHeld ?_ ?_
    rotate_left
    ·
     rintro w' ⟨s0, s1, s2, s3, s4, s5⟩
     go_simp
     with_reducible rfl
    rotate_left
    ·
     simp only [Act.put, lA, lB, lC, i64_w, i32_w]
     rfl
    refine take_ (i := 9) (N := some 45) (v := ?_) (a' := ?_) #[true, true, true, false, true, true, false, false, true, true, false, true, false, false, false, false, false] rfl rfl (take_ofW HT_.out HW_.out (by kernel_rfl)) (fun _ _ _ h => h) (Or.inl ⟨by rfl, ?_⟩) hHeld ?_ ?_
    rotate_left
    ·
     rintro w' ⟨s0, s1, s2, s3, s4, s5⟩
     go_simp
     with_reducible rfl
    rotate_left
    ·
     simp only [Act.put, lA, lB, lC, i64_w, i32_w]
     rfl
    refine pure_ (i := 10) (N := some 46) (v := ?_) (a' := ?_) #[true, true, true, false, true, true, false, false, true, true, true, true, false, false, false, false, false] rfl rfl (any_of HT_.out (by kernel_rfl)) (fun _ _ _ h => h) (Or.inl ⟨by rfl, ?_⟩) ?_ ?_
    rotate_left
    ·
     intro w'
     go_simp
     with_reducible rfl
    rotate_left
    ·
     simp only [Act.put, lA, lB, lC, i64_w, i32_w]
     rfl
    refine take_ (i := 12) (N := some 48) (v := ?_) (a' := ?_) #[true, true, true, false, true, true, false, false, true, true, true, true, true, false, false, false, false] rfl rfl (take_ofW HT_.out HW_.out (by kernel_rfl)) (fun _ _ _ h => h) (Or.inl ⟨by rfl, ?_⟩) hHeld ?_ ?_
    rotate_left
    ·
     rintro w' ⟨s0, s1, s2, s3, s4, s5⟩
     go_simp
     with_reducible rfl
    rotate_left
    ·
     simp only [Act.put, lA, lB, lC, i64_w, i32_w]
     rfl
    refine pure_ (i := 13) (N := some 49) (v := ?_) (a' := ?_) #[true, true, true, false, true, true, false, false, true, true, true, true, true, true, false, false, false] rfl rfl (any_of HT_.out (by kernel_rfl)) (fun _ _ _ h => h) (Or.inl ⟨by rfl, ?_⟩) ?_ ?_
    rotate_left
    ·
     intro w'
     go_simp
     with_reducible rfl
    rotate_left
    ·
     simp only [Act.put, lA, lB, lC, i64_w, i32_w]
     rfl
    refine pure_ (i := 14) (N := some 50) (v := ?_) (a' := ?_) #[true, true, true, false, true, true, false, false, true, true, true, true, true, true, true, false, false] rfl rfl (any_of HT_.out (by kernel_rfl)) (fun _ _ _ h => h) (Or.inl ⟨by rfl, ?_⟩) ?_ ?_
    rotate_left
    ·
     intro w'
     go_simp
     with_reducible rfl
    rotate_left
    ·
     simp only [Act.put, lA, lB, lC, i64_w, i32_w]
     rfl
    refine one_ (i := 3) (N := some 39) #[true, true, true, true, true, true, false, false, true, true, true, true, true, true, true, false, false] rfl rfl (one_of HT_.out (by kernel_rfl)) (by decide) (fun K hK => ?_)
    refine goes_ Tryd.func55 (by kernel_rfl) rfl #[.int .i64 a0_2] (by rfl) rfl rfl mS ?_
    with_reducible refine (gimbalref31_size.calls a0_2 t562 _ A30.out).mono ?_
    rintro e w' ⟨rfl, ⟨nd, rfl⟩⟩
    refine ⟨_, rfl, ?_⟩
    refine hK.out _ _ ⟨cz0 BK548, cz1 BK548, cz2 BK548, cz0 BK549, cz1 BK549, cz2 BK549⟩ (fun hHeld => ?_)
    clear hK K
    refine norm_ (a' := ?_) ?_ ?_
    rotate_left
    ·
     show Act.put _ (some 39) _ = _
     simp only [Act.put, lA, lB, lC, i64_w, i32_w]
     rfl
    refine one_ (i := 6) (N := some 42) #[true, true, true, true, true, true, true, false, true, true, true, true, true, true, true, false, false] rfl rfl (one_of HT_.out (by kernel_rfl)) (by decide) (fun K hK => ?_)
    refine goes_ Tryd.func55 (by kernel_rfl) rfl #[.int .i64 a1_2] (by rfl) rfl rfl mS ?_
    with_reducible refine (gimbalref31_size.calls a1_2 t563 _ A31.out).mono ?_
    rintro e w' ⟨rfl, ⟨nd, rfl⟩⟩
    refine ⟨_, rfl, ?_⟩
    refine hK.out _ _ ⟨cz0 BK548, cz1 BK548, cz2 BK548, cz0 BK549, cz1 BK549, cz2 BK549⟩ (fun hHeld => ?_)
    clear hK K
    refine norm_ (a' := ?_) ?_ ?_
    rotate_left
    ·
     show Act.put _ (some 42) _ = _
     simp only [Act.put, lA, lB, lC, i64_w, i32_w]
     rfl
    refine pure_ (i := 7) (N := some 43) (v := ?_) (a' := ?_) #[true, true, true, true, true, true, true, true, true, true, true, true, true, true, true, false, false] rfl rfl (any_of HT_.out (by kernel_rfl)) (fun _ _ _ h => h) (Or.inl ⟨by rfl, ?_⟩) ?_ ?_
    rotate_left
    ·
     intro w'
     go_simp
     with_reducible rfl
    rotate_left
    ·
     simp only [Act.put, lA, lB, lC, i64_w, i32_w]
     rfl
    refine one_ (i := 15) (N := some 51) #[true, true, true, true, true, true, true, true, true, true, true, true, true, true, true, true, false] rfl rfl (one_of HT_.out (by kernel_rfl)) (by decide) (fun K hK => ?_)
    refine goes_ Tryd.func54 (by kernel_rfl) rfl #[.int .u64 t561, .int .u64 (IntKind.u64.wrap (t562 * t563)), .bool ((decide (a0_2 < 0)) != (decide (a1_2 < 0)))] (by rfl) rfl rfl mS ?_
    with_reducible refine (gimbalref31_class.calls kj2 t561 (IntKind.u64.wrap (t562 * t563)) ((decide (a0_2 < 0)) != (decide (a1_2 < 0))) t564 t565 t566 _ A32.out).mono ?_
    rintro e w35 ⟨rfl, hb⟩
    refine ⟨_, rfl, ?_⟩
    replace BK548 := kB BK548 hb
    replace BK549 := kB BK549 hb
    replace BK550 := kB BK550 hb
    replace HB := kW HB hb
    (try clear hb)
    (try clear hb2)
    (try clear hk)
    (try clear hi)
    refine hK.out _ _ ⟨cz0 BK548, cz1 BK548, cz2 BK548, cz0 BK549, cz1 BK549, cz2 BK549⟩ (fun hHeld => ?_)
    clear hK K
    refine norm_ (a' := ?_) ?_ ?_
    rotate_left
    ·
     show Act.put _ (some 51) _ = _
     simp only [Act.put, lA, lB, lC, i64_w, i32_w]
     rfl
    refine one_ (i := 16) (N := none) #[true, true, true, true, true, true, true, true, true, true, true, true, true, true, true, true, true] rfl rfl (one_of HT_.out (by kernel_rfl)) (by decide) (fun K hK => ?_)
    have hs36 : w35.cell? ⟨gb550, 0, none⟩ = some (.bool false) := cz0 BK550
    have hfs36 := fz BK550 0
    have hns36_0 := NB548_550.out
    have hns36_1 := NB549_550.out
    have hms36_0 := NB550_548.out
    have hms36_1 := NB550_549.out
    have hs37 : w35.cell? ⟨gb550, 1, none⟩ = some (.int .i64 0) := cz1 BK550
    have hfs37 := fz BK550 1
    have hns37_0 := NB548_550.out
    have hns37_1 := NB549_550.out
    have hms37_0 := NB550_548.out
    have hms37_1 := NB550_549.out
    have hs38 : w35.cell? ⟨gb550, 2, none⟩ = some (.int .i64 0) := cz2 BK550
    have hfs38 := fz BK550 2
    have hns38_0 := NB548_550.out
    have hns38_1 := NB549_550.out
    have hms38_0 := NB550_548.out
    have hms38_1 := NB550_549.out
    refine skip_ (w1 := ?_) (by rfl) rfl ?_ ?_
    rotate_left
    ·
     go_simp
     rfl
    refine hK.out _ _ ⟨((cell_far (p := ⟨gb550, _, none⟩) NB548_550.out _).trans (((cell_far (p := ⟨gb550, _, none⟩) NB548_550.out _).trans (((cell_far (p := ⟨gb550, _, none⟩) NB548_550.out _).trans (hHeld.1)))))), ((cell_far (p := ⟨gb550, _, none⟩) NB548_550.out _).trans (((cell_far (p := ⟨gb550, _, none⟩) NB548_550.out _).trans (((cell_far (p := ⟨gb550, _, none⟩) NB548_550.out _).trans (hHeld.2.1)))))), ((cell_far (p := ⟨gb550, _, none⟩) NB548_550.out _).trans (((cell_far (p := ⟨gb550, _, none⟩) NB548_550.out _).trans (((cell_far (p := ⟨gb550, _, none⟩) NB548_550.out _).trans (hHeld.2.2.1)))))), ((cell_far (p := ⟨gb550, _, none⟩) NB549_550.out _).trans (((cell_far (p := ⟨gb550, _, none⟩) NB549_550.out _).trans (((cell_far (p := ⟨gb550, _, none⟩) NB549_550.out _).trans (hHeld.2.2.2.1)))))), ((cell_far (p := ⟨gb550, _, none⟩) NB549_550.out _).trans (((cell_far (p := ⟨gb550, _, none⟩) NB549_550.out _).trans (((cell_far (p := ⟨gb550, _, none⟩) NB549_550.out _).trans (hHeld.2.2.2.2.1)))))), ((cell_far (p := ⟨gb550, _, none⟩) NB549_550.out _).trans (((cell_far (p := ⟨gb550, _, none⟩) NB549_550.out _).trans (((cell_far (p := ⟨gb550, _, none⟩) NB549_550.out _).trans (hHeld.2.2.2.2.2))))))⟩ (fun hHeld => ?_)
    clear hK K
    refine done_ (done_of HT_.out (by kernel_rfl)) ?_
    try go_wp2
    refine bodyPost_ret (results_cell_row rfl _ _ gb550 23 #[.bool t564, .int .i64 t565, .int .i64 t566] (0, 0) _ rfl (by (with_reducible repeat (first | refine b1 ?_ _ | refine b2 ?_ | refine b3 ?_ _)); refine blk_put (cs := #[.bool t564, .int .i64 t565, .int .i64 0]) ?_ 2 _ rfl; (with_reducible repeat (first | refine b1 ?_ _ | refine b2 ?_ | refine b3 ?_ _)); refine blk_put (cs := #[.bool t564, .int .i64 0, .int .i64 0]) ?_ 1 _ rfl; (with_reducible repeat (first | refine b1 ?_ _ | refine b2 ?_ | refine b3 ?_ _)); refine blk_put (cs := #[.bool false, .int .i64 0, .int .i64 0]) ?_ 0 _ rfl; (with_reducible repeat (first | refine b1 ?_ _ | refine b2 ?_ | refine b3 ?_ _)); exact BK550.out) Tryd.underlying23 rfl (by kernel_rfl)) rfl ?_
    exact ⟨eS, bS HB⟩

end Go.Proofs.YtfmmjekhknaniaaDoor.Pr

namespace Go.Proofs.YtfmmjekhknaniaaDoor.Core
open Go.RowKit Go.Proofs.YtfmmjekhknaniaaDoor.Pr Go.Proofs.YtfmmjekhknaniaaDoor.Given Go.Proofs.YtfmmjekhknaniaaDoorW.PrintWords

theorem G_assoc (x y z : Int) : G x (G y z) = G (G x y) z := by
  refine Int.dvd_antisymm (G_nonneg _ _) (G_nonneg _ _) ?_ ?_
  · have h := dvd_G.mp (Int.dvd_refl (G x (G y z)))
    have h2 := dvd_G.mp h.2
    exact dvd_G.mpr ⟨dvd_G.mpr ⟨h.1, h2.1⟩, h2.2⟩
  · have h := dvd_G.mp (Int.dvd_refl (G (G x y) z))
    have h2 := dvd_G.mp h.1
    exact dvd_G.mpr ⟨h2.1, dvd_G.mpr ⟨h2.2, h.2⟩⟩

theorem sign_norm (g x y : Int) : norm g (if (decide (x < 0) != decide (y < 0)) = true then -(ab x * ab y) else ab x * ab y) = norm g (x * y) := by
  rw [ab_mul]
  by_cases hp : x * y = 0
  · have : ab (x * y) = 0 := by rw [hp]; rfl
    rw [this, hp]
    split <;> rfl
  · rw [signs_mul x y hp, ab_sign]

theorem rMul_f {a b : Cg} (ha : Fit a) (hb : Fit b) : Ev (fun k => gimbalref31_Mul.f k a.1 a.2.1 a.2.2 b.1 b.2.1 b.2.2) (mulS a b) := by
  have ma := fit_mod ha
  have mb := fit_mod hb
  have p1 := prod_le (x := a.2.1) (y := b.2.1) (by omega) (by omega) (by omega) (by omega)
  have p2 := prod_le (x := a.2.1) (y := ab b.2.2) (by omega) (by omega) (ab_nonneg _) (ab_le (by omega) (by omega))
  have p3 := prod_le (x := b.2.1) (y := ab a.2.2) (by omega) (by omega) (ab_nonneg _) (ab_le (by omega) (by omega))
  have p4 := prod_le (x := ab a.2.2) (y := ab b.2.2) (ab_nonneg _) (ab_le (by omega) (by omega)) (ab_nonneg _) (ab_le (by omega) (by omega))
  obtain ⟨K, hK⟩ := rgcd_f p2.1 p3.1
  obtain ⟨L, hL⟩ := rgcd_f p1.1 (G_nonneg (a.2.1 * ab b.2.2) (b.2.1 * ab a.2.2))
  refine ⟨K + L + 12, fun k hk => ?_⟩
  obtain ⟨j, rfl⟩ : ∃ j, k = j + 12 := ⟨k - 12, by omega⟩
  dsimp only at hK hL ⊢
  unfold gimbalref31_Mul.f mulS
  by_cases h1 : a.1 = true
  · rw [if_pos h1, if_pos h1]; simp [gimbalref31_Mul.j0, gimbalref31_None.f]
  rw [if_neg h1, if_neg h1]
  simp only [gimbalref31_Mul.j0]
  by_cases h2 : b.1 = true
  · rw [if_pos h2, if_pos h2]; rfl
  rw [if_neg h2, if_neg h2, rsize_f (x := a.2.1) (by omega) (by omega), rsize_f (x := b.2.1) (by omega) (by omega), rsize_f (x := a.2.2) (by omega) (by omega), rsize_f (x := b.2.2) (by omega) (by omega),
    ab_of_nonneg (x := a.2.1) (by omega), ab_of_nonneg (x := b.2.1) (by omega)]
  simp only [Option.bind_some]
  rw [u64_id (n := a.2.1 * b.2.1) (by omega) (by omega), u64_id (n := a.2.1 * ab b.2.2) (by omega) (by omega), u64_id (n := b.2.1 * ab a.2.2) (by omega) (by omega), u64_id (n := ab a.2.2 * ab b.2.2) (by omega) (by omega), hK _ (by omega)]
  simp only [Option.bind_some]
  rw [hL _ (by omega)]
  simp only [Option.bind_some]
  have hg1 : mulG a b ≤ 18446744073709551615 := G_le (G_nonneg _ _) p3.1 (G_le p1.1 p2.1 (by omega) (by omega)) (by omega)
  rw [G_assoc, show G (G (a.2.1 * b.2.1) (a.2.1 * ab b.2.2)) (b.2.1 * ab a.2.2) = mulG a b from rfl,
    class_f _ (mulG_nonneg a b) hg1 p4.1 (by omega), sign_norm]
  try rfl
end Go.Proofs.YtfmmjekhknaniaaDoor.Core

namespace Go.Proofs.YtfmmjekhknaniaaDoor.Rk
open Go.ChangeShapes Go.WideShapes Go.ChangeAt Go.RowKit Go.Deep Go.Proofs.YtfmmjekhknaniaaDoor.Core Go.Proofs.YtfmmjekhknaniaaDoor.Pr Go.Proofs.YtfmmjekhknaniaaDoor.Given Lr
set_option maxRecDepth 100000

theorem law (a b : Cg) (a1 : I64 a.2.1) (a2 : I64 a.2.2) (b1 : I64 b.2.1) (b2 : I64 b.2.2) (w : World) :
    Calls Tryd.prog 7 #[.agg #[.bool a.1, .int .i64 a.2.1, .int .i64 a.2.2], .agg #[.bool b.1, .int .i64 b.2.1, .int .i64 b.2.2]] w fun e w' => e = .returned (.bool true) ∧ Below w.heap.size w w' := by
  by_cases fa : Fit a
  case neg => exact unfit_a _ _ _ _ _ _ (fit_n fa a1 a2) aw w
  by_cases fb : Fit b
  case neg => exact unfit_b _ _ _ _ _ _ (fit_t fa a1 a2) (fit_n fb b1 b2) aw w
  obtain ⟨m, hm, em⟩ := Meet_f fa fb
  obtain ⟨m', hm', em'⟩ := rMeet_f fa fb
  obtain rfl := hm.unique hm'
  obtain ⟨kl, hl⟩ := (Leq_f fa fb).rounds
  obtain ⟨kl', hl'⟩ := (rLeq_f fa fb).rounds
  obtain ⟨kj, hj⟩ := (Join_f fa fb).rounds
  obtain ⟨kj', hj'⟩ := (rJoin_f fa fb).rounds
  obtain ⟨km, hkm⟩ := em.rounds
  obtain ⟨km', hkm'⟩ := em'.rounds
  obtain ⟨ks, hs⟩ := (Abs_f fa).rounds
  obtain ⟨ks', hs'⟩ := (rAbs_f fa).rounds
  obtain ⟨kp, hp⟩ := (Add_f fa fb).rounds
  obtain ⟨kp', hp'⟩ := (rAdd_f fa fb).rounds
  obtain ⟨kq, hq⟩ := (Sub_f fa fb).rounds
  obtain ⟨kq', hq'⟩ := (rSub_f fa fb).rounds
  obtain ⟨kt, ht⟩ := (Mul_f fa fb).rounds
  obtain ⟨kt', ht'⟩ := (rMul_f fa fb).rounds
  obtain ⟨ko, ho⟩ := (Mod_f fa fb).rounds
  obtain ⟨ko', ho'⟩ := (rMod_f fa fb).rounds
  exact fits _ _ _ _ _ _ _ _ _ _ _ _ _ _ _ _ _ _ _ _ _ _ _ _ _ _ _ _ _ _ _ _ _ _ (fit_t fa a1 a2) (fit_t fb b1 b2)
    (fun w => congr_Leq.calls kl _ _ _ _ _ _ _ w hl) (fun w => gimbalref31_Leq.calls kl' _ _ _ _ _ _ _ w hl')
    (fun w => congr_Neg.calls 1 _ _ _ _ _ _ w (Neg_f fa 0)) (fun w => gimbalref31_Neg.calls 8 _ _ _ _ _ _ w (rNeg_f fa 0))
    (fun w => congr_Abs.calls ks _ _ _ _ _ _ w hs) (fun w => gimbalref31_Abs.calls ks' _ _ _ _ _ _ w hs')
    (fun w => congr_Join.calls kj _ _ _ _ _ _ _ _ _ w hj) (fun w => gimbalref31_Join.calls kj' _ _ _ _ _ _ _ _ _ w hj')
    (fun w => congr_Meet.calls km _ _ _ _ _ _ _ _ _ w hkm) (fun w => gimbalref31_Meet.calls km' _ _ _ _ _ _ _ _ _ w hkm')
    (fun w => congr_Add.calls kp _ _ _ _ _ _ _ _ _ w hp) (fun w => gimbalref31_Add.calls kp' _ _ _ _ _ _ _ _ _ w hp')
    (fun w => congr_Sub.calls kq _ _ _ _ _ _ _ _ _ w hq) (fun w => gimbalref31_Sub.calls kq' _ _ _ _ _ _ _ _ _ w hq')
    (fun w => congr_Mul.calls kt _ _ _ _ _ _ _ _ _ w ht) (fun w => gimbalref31_Mul.calls kt' _ _ _ _ _ _ _ _ _ w ht')
    (fun w => congr_Div.calls 9 _ _ _ _ _ _ _ _ _ w (Div_f fa fb 0)) (fun w => gimbalref31_Div.calls 10 _ _ _ _ _ _ _ _ _ w (rDiv_f fa fb 0))
    (fun w => congr_Mod.calls ko _ _ _ _ _ _ _ _ _ w ho) (fun w => gimbalref31_Mod.calls ko' _ _ _ _ _ _ _ _ _ w ho') aw w

theorem reckons_contract (H : Type) (enc : TypeId × Value → H) (W : World) (base : Nat) (args : Array Value) (ds gs : List (DataW H)) (before : List MemPlace)
    (hval : ∀ (j : Nat) t v, Tryd.f7.params[j]? = some t → args[j]? = some v → Value.okWide Tryd.prog W .any base t v)
    (hW : DataW.Whole enc Tryd.prog Tryd.f7.params.toList Rows.congrReckonsSpec.vars false W args.toList ds gs before) (_hL : laidMetH Tryd.prog Rows.congrReckonsRow.laid W) :
    Calls Tryd.prog 7 args W fun e W' => ∃ v, e = .returned v ∧ Rows.congrReckonsSpec.post enc Tryd.prog Tryd.f7 false true false false W args v W' := by
  have hW' := hW
  have hlt := hW.lt
  obtain ⟨p, q, hA0, hV, rfl, hfz, hnd⟩ := hW
  have hA : DataW.TrodAll enc Tryd.prog W 0 (fun _ => true) true Tryd.f7.params.toList args.toList ds p := hA0
  rw [Tryd.params7] at hA hval
  obtain ⟨v0, v1, d0, d1, p0, p1, rfl, rfl, rfl, h0, h1⟩ := trodAll_two hA
  obtain ⟨rfl, rfl⟩ := trodVars_none hV
  clear hA0
  obtain ⟨a, hv0, i1, i2⟩ := open_cg (hval 0 23 v0 rfl rfl) h0
  subst hv0
  obtain ⟨b, hv1, i3, i4⟩ := open_cg (hval 1 23 v1 rfl rfl) h1
  subst hv1
  refine (law a b i1 i2 i3 i4 W).mono fun e W' ⟨he, hb⟩ => ?_
  subst he
  have h0' := hb.trod laidOut read23 size23 h0 (fun y hy => hlt y (by simp [hy]))
  have h1' := hb.trod laidOut read23 size23 h1 (fun y hy => hlt y (by simp [hy]))
  exact ⟨_, rfl, _, _, _, [], _, [], hW', trodAll_mk1 (shut_bool Tryd.underlying4 _), trodAll_mk2 h0' h1', rfl, hb.frame _, fun h => by cases h⟩
noncomputable def congrReckons_world (os : Os) : World := World.laidAll Tryd.prog os Rows.congrReckonsRow.laid
theorem congrReckons_laid_met (os : Os) : laidMet Tryd.prog Rows.congrReckonsRow.laid ((congrReckons_world os).forCall (fun _ _ => 0) ⟨#[], #[.agg #[.bool false, .int .i64 0, .int .i64 0], .agg #[.bool false, .int .i64 0, .int .i64 0]], []⟩).memory :=
  laidMet_laidAll _ (by kernel_rfl) (by kernel_rfl)
theorem congrReckons_reads (os : Os) {H : Type} (enc : TypeId × Value → H) : ∃ places, DataW.whole enc Tryd.prog ((congrReckons_world os).forCall (fun _ _ => 0) ⟨#[], #[.agg #[.bool false, .int .i64 0, .int .i64 0], .agg #[.bool false, .int .i64 0, .int .i64 0]], []⟩).memory Tryd.f7.params.toList Rows.congrReckonsSpec.vars false (#[.agg #[.bool false, .int .i64 0, .int .i64 0], .agg #[.bool false, .int .i64 0, .int .i64 0]] : Array Value).toList 8 = some ([.agg [.lit (.bool false), .lit (.int .i64 0), .lit (.int .i64 0)], .agg [.lit (.bool false), .lit (.int .i64 0), .lit (.int .i64 0)]], [], places) :=
  ⟨[], by kernel_rfl⟩
theorem congrReckons_lifted (os : Os) (started : os.Started) (H : Type) (enc : TypeId × Value → H) (F : Stop.Interp) :
    ReturnsInHanded {} Tryd.checked os 7 .any ((OpenSpec.ofChange Rows.congrReckonsSpec).preRow enc Tryd.prog Tryd.f7 Rows.congrReckonsRow.domain false Rows.congrReckonsRow.laid) (((OpenSpec.ofChange Rows.congrReckonsSpec).at F).post enc Tryd.prog Tryd.f7 false true false false) := by
  obtain ⟨places, hx⟩ := congrReckons_reads os enc
  refine returnsInHanded_of_row (C := Tryd.checked) (s := OpenSpec.ofChange Rows.congrReckonsSpec) own started (by kernel_rfl) Tryd.func7
    (witness_row_at (enc := enc) (C := Tryd.checked) false (congrReckons_world os) #[.agg #[.bool false, .int .i64 0, .int .i64 0], .agg #[.bool false, .int .i64 0, .int .i64 0]] (World.laidAll_os _ _ _) (by kernel_rfl) (by kernel_rfl) (by kernel_rfl)
      (OpenSpec.preRow_of_cond 8 hx (by kernel_rfl) (fun k hk => by cases hk) (by kernel_rfl) (congrReckons_laid_met os))) ?_
  intro W base args ds gs before hval hW _ _ _ hL _ _
  exact reckons_contract H enc W base args ds gs before hval hW hL
theorem congrReckons_said : Rows.CongrReckonsSaid :=
  OpenClaim.holds_of_cond 7 Tryd.f7 rfl rfl rfl rfl rfl rfl rfl ⟨rfl, rfl, rfl, rfl, rfl⟩ rfl rfl rfl rfl rfl (by kernel_rfl) Tryd.func7 (by kernel_rfl)
    (of_decide_eq_true (by kernel_rfl)) (by unfold Func.isWrapper; first | (rw [if_pos (by decide +kernel)]; kernel_rfl) | (rw [if_neg (by decide +kernel)]; exact ⟨rfl, rfl⟩))
    (fun os started H enc _ F => by rw [OpenClaim.pre_eq_preRow]; exact congrReckons_lifted os started H enc F)
theorem congrReckons_plain (f : FuncId) (fn : Func) (hf : Tryd.pinned.checked.prog.funcNamed "gimbal/gimballaw31.CongrReckons" = some f) (hfn : Tryd.pinned.checked.prog.funcs[f]? = some fn) :
    false = Tryd.pinned.checked.prog.looks [] ∧ ∀ (j : Nat) t, fn.params[j]? = some t → Tryd.pinned.checked.prog.wantsStandIn t = false := by
  obtain rfl : f = 7 := Option.some.inj ((show Tryd.prog.funcNamed "gimbal/gimballaw31.CongrReckons" = some 7 by kernel_rfl).symm.trans hf) |>.symm
  obtain rfl : fn = Tryd.f7 := (Option.some.inj (Tryd.func7.symm.trans hfn)).symm
  refine ⟨by kernel_rfl, fun j t ht => ?_⟩
  rw [Tryd.params7] at ht
  obtain rfl : t = 23 := by simpa using Array.mem_of_getElem? ht
  exact (show Tryd.prog.wantsStandIn 23 = false by kernel_rfl)

/-- The card. -/
theorem congrReckons_card : Rows.CongrReckonsCardSaid :=
  Claim7.holds_tied_plain_at .later [] _ _ _ _ congrReckons_said (fun _ h => by cases h) (by kernel_rfl) (fun _ h => by cases h) congrReckons_row_tie rfl ⟨rfl, rfl⟩ (by kernel_rfl) rfl congrReckons_plain (by kernel_rfl)
end Go.Proofs.YtfmmjekhknaniaaDoor.Rk
namespace Go.Proofs.YtfmmjekhknaniaaDoor
theorem CongrReckons_holds : Rows.CongrReckonsCardSaid := Rk.congrReckons_card
end Go.Proofs.YtfmmjekhknaniaaDoor

