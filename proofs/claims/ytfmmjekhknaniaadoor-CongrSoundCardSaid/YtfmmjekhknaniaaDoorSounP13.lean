/- This claim's own texts, joined, with only what the claim uses: SounD. -/
import Derived.Test.YtfmmjekhknaniaaDoorSounP10
namespace Go.Proofs.YtfmmjekhknaniaaDoor.Sd
open Go.RowKit Lk
set_option linter.unusedSimpArgs false
attribute [local go_sem high] eqS23 eqS38
set_option maxRecDepth 100000 in
set_option maxHeartbeats 16000000 in
theorem main1 (op ii jj : Int) (a0 b0 : Bool) (a1 a2 b1 b2 t1 t2 : Int) (x y : Int) (hY0 : ¬ y = 0) (h : Bool) (p0 q0 m0 n0 s0 j0 d0 o0 e0 : Bool) (p1 p2 q1 q2 m1 m2 n1 n2 s1 s2 j1 j2 d1 d2 o1 o2 e1 e2 : Int) (u0 v0 c0 g r : Bool) (u1 u2 v1 v2 c1 c2 k1 k2 : Int)
    (hFa : ∀ w, Calls Tryd.prog 13 #[.agg #[.bool a0, .int .i64 a1, .int .i64 a2]] w fun e w' => e = .returned (.bool true) ∧ Below w.heap.size w w')
    (hFb : ∀ w, Calls Tryd.prog 13 #[.agg #[.bool b0, .int .i64 b1, .int .i64 b2]] w fun e w' => e = .returned (.bool true) ∧ Below w.heap.size w w')
    (hO : ∀ w, Calls Tryd.prog 23 #[.int .i64 t1, .int .i64 t2] w fun e w' => e = .returned (.agg #[.int .i64 t1, .int .i64 t2]) ∧ Below w.heap.size w w')
    (hAw : ∀ w, Calls Tryd.prog 18 #[] w fun e w' => e = .returned (.bool true) ∧ Below w.heap.size w w')
    (hNa : ∀ w, Calls Tryd.prog 22 #[.agg #[.bool a0, .int .i64 a1, .int .i64 a2], .int .i64 ii] w fun e w' => e = .returned (.tuple #[.int .i64 x, .bool true]) ∧ Below w.heap.size w w')
    (hNb : ∀ w, Calls Tryd.prog 22 #[.agg #[.bool b0, .int .i64 b1, .int .i64 b2], .int .i64 jj] w fun e w' => e = .returned (.tuple #[.int .i64 y, .bool true]) ∧ Below w.heap.size w w')
    (hp : ∀ w, Calls Tryd.prog 35 #[.agg #[.bool a0, .int .i64 a1, .int .i64 a2], .agg #[.bool b0, .int .i64 b1, .int .i64 b2]] w fun e w' => e = .returned (.agg #[.bool p0, .int .i64 p1, .int .i64 p2]) ∧ Below w.heap.size w w')
    (hIp : ∀ w, Calls Tryd.prog 45 #[.agg #[.bool p0, .int .i64 p1, .int .i64 p2], .int .i64 (wrap64 (x + y))] w fun e w' => e = .returned (.bool true) ∧ Below w.heap.size w w')
    (hq : ∀ w, Calls Tryd.prog 37 #[.agg #[.bool a0, .int .i64 a1, .int .i64 a2], .agg #[.bool b0, .int .i64 b1, .int .i64 b2]] w fun e w' => e = .returned (.agg #[.bool q0, .int .i64 q1, .int .i64 q2]) ∧ Below w.heap.size w w')
    (hIq : ∀ w, Calls Tryd.prog 45 #[.agg #[.bool q0, .int .i64 q1, .int .i64 q2], .int .i64 (wrap64 (x - y))] w fun e w' => e = .returned (.bool true) ∧ Below w.heap.size w w')
    (hm : ∀ w, Calls Tryd.prog 39 #[.agg #[.bool a0, .int .i64 a1, .int .i64 a2], .agg #[.bool b0, .int .i64 b1, .int .i64 b2]] w fun e w' => e = .returned (.agg #[.bool m0, .int .i64 m1, .int .i64 m2]) ∧ Below w.heap.size w w')
    (hIm : ∀ w, Calls Tryd.prog 45 #[.agg #[.bool m0, .int .i64 m1, .int .i64 m2], .int .i64 (wrap64 (x * y))] w fun e w' => e = .returned (.bool true) ∧ Below w.heap.size w w')
    (hn : ∀ w, Calls Tryd.prog 31 #[.agg #[.bool a0, .int .i64 a1, .int .i64 a2]] w fun e w' => e = .returned (.agg #[.bool n0, .int .i64 n1, .int .i64 n2]) ∧ Below w.heap.size w w')
    (hIn : ∀ w, Calls Tryd.prog 45 #[.agg #[.bool n0, .int .i64 n1, .int .i64 n2], .int .i64 (wrap64 (-x))] w fun e w' => e = .returned (.bool true) ∧ Below w.heap.size w w')
    (hs : ∀ w, Calls Tryd.prog 33 #[.agg #[.bool a0, .int .i64 a1, .int .i64 a2]] w fun e w' => e = .returned (.agg #[.bool s0, .int .i64 s1, .int .i64 s2]) ∧ Below w.heap.size w w')
    (hIs1 : x < wrap64 (-x) → ∀ w, Calls Tryd.prog 45 #[.agg #[.bool s0, .int .i64 s1, .int .i64 s2], .int .i64 (wrap64 (-x))] w fun e w' => e = .returned (.bool true) ∧ Below w.heap.size w w')
    (hIs2 : wrap64 (-x) ≤ x → ∀ w, Calls Tryd.prog 45 #[.agg #[.bool s0, .int .i64 s1, .int .i64 s2], .int .i64 x] w fun e w' => e = .returned (.bool true) ∧ Below w.heap.size w w')
    (hj : ∀ w, Calls Tryd.prog 19 #[.agg #[.bool a0, .int .i64 a1, .int .i64 a2], .agg #[.bool b0, .int .i64 b1, .int .i64 b2]] w fun e w' => e = .returned (.agg #[.bool j0, .int .i64 j1, .int .i64 j2]) ∧ Below w.heap.size w w')
    (hIjx : ∀ w, Calls Tryd.prog 45 #[.agg #[.bool j0, .int .i64 j1, .int .i64 j2], .int .i64 x] w fun e w' => e = .returned (.bool true) ∧ Below w.heap.size w w')
    (hIjy : ∀ w, Calls Tryd.prog 45 #[.agg #[.bool j0, .int .i64 j1, .int .i64 j2], .int .i64 y] w fun e w' => e = .returned (.bool true) ∧ Below w.heap.size w w')
    (hd : ∀ w, Calls Tryd.prog 41 #[.agg #[.bool a0, .int .i64 a1, .int .i64 a2], .agg #[.bool b0, .int .i64 b1, .int .i64 b2]] w fun e w' => e = .returned (.agg #[.bool d0, .int .i64 d1, .int .i64 d2]) ∧ Below w.heap.size w w')
    (hId : ¬ y = 0 → ∀ w, Calls Tryd.prog 45 #[.agg #[.bool d0, .int .i64 d1, .int .i64 d2], .int .i64 (IntKind.i64.wrap (Int.tdiv x y))] w fun e w' => e = .returned (.bool true) ∧ Below w.heap.size w w')
    (ho : ∀ w, Calls Tryd.prog 43 #[.agg #[.bool a0, .int .i64 a1, .int .i64 a2], .agg #[.bool b0, .int .i64 b1, .int .i64 b2]] w fun e w' => e = .returned (.agg #[.bool o0, .int .i64 o1, .int .i64 o2]) ∧ Below w.heap.size w w')
    (hIo : ¬ y = 0 → ∀ w, Calls Tryd.prog 45 #[.agg #[.bool o0, .int .i64 o1, .int .i64 o2], .int .i64 (Int.tmod x y)] w fun e w' => e = .returned (.bool true) ∧ Below w.heap.size w w')
    (hh : ∀ w, Calls Tryd.prog 14 #[.agg #[.bool b0, .int .i64 b1, .int .i64 b2], .int .i64 x] w fun e w' => e = .returned (.bool h) ∧ Below w.heap.size w w')
    (he : ∀ w, Calls Tryd.prog 20 #[.agg #[.bool a0, .int .i64 a1, .int .i64 a2], .agg #[.bool b0, .int .i64 b1, .int .i64 b2]] w fun e w' => e = .returned (.agg #[.bool e0, .int .i64 e1, .int .i64 e2]) ∧ Below w.heap.size w w')
    (hIe : h = true → ∀ w, Calls Tryd.prog 45 #[.agg #[.bool e0, .int .i64 e1, .int .i64 e2], .int .i64 x] w fun e w' => e = .returned (.bool true) ∧ Below w.heap.size w w')
    (hT : ∀ w, Calls Tryd.prog 24 #[.int .i64 op, .agg #[.bool a0, .int .i64 a1, .int .i64 a2], .agg #[.bool b0, .int .i64 b1, .int .i64 b2]] w fun e w' => e = .returned (.tuple #[.agg #[.bool u0, .int .i64 u1, .int .i64 u2], .agg #[.bool v0, .int .i64 v1, .int .i64 v2]]) ∧ Below w.heap.size w w')
    (hH : ∀ w, Calls Tryd.prog 46 #[.int .i64 op, .int .i64 x, .int .i64 y] w fun e w' => e = .returned (.bool g) ∧ Below w.heap.size w w')
    (hIu : op < 14 ∨ 19 < op ∨ g = true → ∀ w, Calls Tryd.prog 45 #[.agg #[.bool u0, .int .i64 u1, .int .i64 u2], .int .i64 x] w fun e w' => e = .returned (.bool true) ∧ Below w.heap.size w w')
    (hIv : op < 14 ∨ 19 < op ∨ g = true → ∀ w, Calls Tryd.prog 45 #[.agg #[.bool v0, .int .i64 v1, .int .i64 v2], .int .i64 y] w fun e w' => e = .returned (.bool true) ∧ Below w.heap.size w w')
    (hG : ∀ w, Calls Tryd.prog 26 #[.agg #[.bool a0, .int .i64 a1, .int .i64 a2], .agg #[.int .i64 t1, .int .i64 t2]] w fun e w' => e = .returned (.tuple #[.agg #[.bool c0, .int .i64 c1, .int .i64 c2], .agg #[.int .i64 k1, .int .i64 k2]]) ∧ Below w.heap.size w w')
    (hr : ∀ w, Calls Tryd.prog 47 #[.agg #[.int .i64 t1, .int .i64 t2], .int .i64 x] w fun e w' => e = .returned (.bool r) ∧ Below w.heap.size w w')
    (hIc : r = true → ∀ w, Calls Tryd.prog 45 #[.agg #[.bool c0, .int .i64 c1, .int .i64 c2], .int .i64 x] w fun e w' => e = .returned (.bool true) ∧ Below w.heap.size w w')
    (hk : r = true → ∀ w, Calls Tryd.prog 47 #[.agg #[.int .i64 k1, .int .i64 k2], .int .i64 x] w fun e w' => e = .returned (.bool true) ∧ Below w.heap.size w w') (w : World) :
    Calls Tryd.prog 8 #[.agg #[.bool a0, .int .i64 a1, .int .i64 a2], .agg #[.bool b0, .int .i64 b1, .int .i64 b2], .int .i64 ii, .int .i64 jj, .int .i64 op, .agg #[.int .i64 t1, .int .i64 t2]] w fun e w' => e = .returned (.bool true) ∧ Below w.heap.size w w' := by
  have HFa := Lib.hid hFa
  clear hFa
  have HFb := Lib.hid hFb
  clear hFb
  have HO := Lib.hid hO
  clear hO
  have HAw := Lib.hid hAw
  clear hAw
  have HNa := Lib.hid hNa
  clear hNa
  have HNb := Lib.hid hNb
  clear hNb
  have Hp := Lib.hid hp
  clear hp
  have HIp := Lib.hid hIp
  clear hIp
  have Hq := Lib.hid hq
  clear hq
  have HIq := Lib.hid hIq
  clear hIq
  have Hm := Lib.hid hm
  clear hm
  have HIm := Lib.hid hIm
  clear hIm
  have Hn := Lib.hid hn
  clear hn
  have HIn := Lib.hid hIn
  clear hIn
  have Hs := Lib.hid hs
  clear hs
  have HIs1 := Lib.hid hIs1
  clear hIs1
  have HIs2 := Lib.hid hIs2
  clear hIs2
  have Hj := Lib.hid hj
  clear hj
  have HIjx := Lib.hid hIjx
  clear hIjx
  have HIjy := Lib.hid hIjy
  clear hIjy
  have Hd := Lib.hid hd
  clear hd
  have HId := Lib.hid hId
  clear hId
  have Ho := Lib.hid ho
  clear ho
  have HIo := Lib.hid hIo
  clear hIo
  have Hh := Lib.hid hh
  clear hh
  have He := Lib.hid he
  clear he
  have HIe := Lib.hid hIe
  clear hIe
  have HT := Lib.hid hT
  clear hT
  have HH := Lib.hid hH
  clear hH
  have HIu := Lib.hid hIu
  clear hIu
  have HIv := Lib.hid hIv
  clear hIv
  have HG := Lib.hid hG
  clear hG
  have Hr := Lib.hid hr
  clear hr
  have HIc := Lib.hid hIc
  clear hIc
  have Hk := Lib.hid hk
  clear hk
  have HY0 := Lib.hid hY0
  clear hY0
  have hS := start3 w a0 b0 a1 a2 b1 b2 t1 t2 _ rfl
  go_enter Tryd.func8, Tryd.ntmps8
  go_upto_region 1 with fail
  refine wp_region_held_drew (S := (fun w' => Held w [(w.heap.size, 0, .bool a0), (w.heap.size, 1, .int .i64 a1), (w.heap.size, 2, .int .i64 a2), (w.heap.size + 1, 0, .bool b0), (w.heap.size + 1, 1, .int .i64 b1), (w.heap.size + 1, 2, .int .i64 b2), (w.heap.size + 1 + 1, 0, .int .i64 t1), (w.heap.size + 1 + 1, 1, .int .i64 t2)] w')) (by kernel_rfl) (Held.drew hS) (fun hHeld => ?_)
  refine wpAnyH_take (i := 0) (v := .agg #[.bool a0, .int .i64 a1, .int .i64 a2]) rfl (by kernel_rfl) (by kernel_rfl) (by kernel_rfl) (fun _ _ _ h => h) (Or.inl ⟨by kernel_rfl, fun w hSw => by simp only [Held, List.forall_mem_cons, List.not_mem_nil, false_implies, implies_true, and_true] at hSw; go_simp⟩) (by assumption) ?_
  try simp only [Act.put, List.setIfInBounds_toArray, List.set_cons_zero, List.set_cons_succ]
  refine wpAnyH_ready (rs := [1]) (by kernel_rfl) (by simp) ?_
  refine AllReadyH.cons rfl (fun K hK => ?_) AllReadyH.nil
  go_simp
  go_at_call 13; with_reducible refine (HFa.out _).mono ?_; rintro e w1 ⟨rfl, hb⟩
  refine hK.out _ _ (Held.keep hb (by assumption)) (fun hHeld => ?_)
  clear hK K hb
  try simp only [Act.put, List.setIfInBounds_toArray, List.set_cons_zero, List.set_cons_succ]
  refine wpAnyH_take (i := 2) (v := .bool false) rfl (by kernel_rfl) (by kernel_rfl) (by kernel_rfl) (fun _ _ _ h => h) (Or.inl ⟨by kernel_rfl, fun w hSw => by (try dsimp only at hSw); go_simp⟩) (by assumption) ?_
  try simp only [Act.put, List.setIfInBounds_toArray, List.set_cons_zero, List.set_cons_succ]
  refine wpAnyH_take (i := 3) (v := .bool false) rfl (by kernel_rfl) (by kernel_rfl) (by kernel_rfl) (fun _ _ _ h => h) (Or.inl ⟨by kernel_rfl, fun w hSw => by (try dsimp only at hSw); go_simp⟩) (by assumption) ?_
  try simp only [Act.put, List.setIfInBounds_toArray, List.set_cons_zero, List.set_cons_succ]
  refine wpAnyH_take (i := 4) (v := .agg #[.bool b0, .int .i64 b1, .int .i64 b2]) rfl (by kernel_rfl) (by kernel_rfl) (by kernel_rfl) (fun _ _ _ h => h) (Or.inl ⟨by kernel_rfl, fun w hSw => by simp only [Held, List.forall_mem_cons, List.not_mem_nil, false_implies, implies_true, and_true] at hSw; go_simp⟩) (by assumption) ?_
  try simp only [Act.put, List.setIfInBounds_toArray, List.set_cons_zero, List.set_cons_succ]
  refine wpAnyH_ready (rs := [5]) (by kernel_rfl) (by simp) ?_
  refine AllReadyH.cons rfl (fun K hK => ?_) AllReadyH.nil
  go_simp
  go_at_call 13; with_reducible refine (HFb.out _).mono ?_; rintro e w1 ⟨rfl, hb⟩
  refine hK.out _ _ (Held.keep hb (by assumption)) (fun hHeld => ?_)
  clear hK K hb
  try simp only [Act.put, List.setIfInBounds_toArray, List.set_cons_zero, List.set_cons_succ]
  refine wpAnyH_take (i := 6) (v := .bool false) rfl (by kernel_rfl) (by kernel_rfl) (by kernel_rfl) (fun _ _ _ h => h) (Or.inl ⟨by kernel_rfl, fun w hSw => by (try dsimp only at hSw); go_simp⟩) (by assumption) ?_
  try simp only [Act.put, List.setIfInBounds_toArray, List.set_cons_zero, List.set_cons_succ]
  refine wpAnyH_take (i := 7) (v := .bool false) rfl (by kernel_rfl) (by kernel_rfl) (by kernel_rfl) (fun _ _ _ h => h) (Or.inl ⟨by kernel_rfl, fun w hSw => by (try dsimp only at hSw); go_simp⟩) (by assumption) ?_
  try simp only [Act.put, List.setIfInBounds_toArray, List.set_cons_zero, List.set_cons_succ]
  refine wpAnyH_take (i := 8) (v := .bool false) rfl (by kernel_rfl) (by kernel_rfl) (by kernel_rfl) (fun _ _ _ h => h) (Or.inl ⟨by kernel_rfl, fun w hSw => by (try dsimp only at hSw); go_simp⟩) (by assumption) ?_
  try simp only [Act.put, List.setIfInBounds_toArray, List.set_cons_zero, List.set_cons_succ]
  refine wpAnyH_take (i := 9) (v := .agg #[.int .i64 t1, .int .i64 t2]) rfl (by kernel_rfl) (by kernel_rfl) (by kernel_rfl) (fun _ _ _ h => h) (Or.inl ⟨by kernel_rfl, fun w hSw => by simp only [Held, List.forall_mem_cons, List.not_mem_nil, false_implies, implies_true, and_true] at hSw; go_simp⟩) (by assumption) ?_
  try simp only [Act.put, List.setIfInBounds_toArray, List.set_cons_zero, List.set_cons_succ]
  refine wpAnyH_take (i := 10) (v := .pointer (some ⟨w.heap.size + 1 + 1, 0, none⟩)) rfl (by kernel_rfl) (by kernel_rfl) (by kernel_rfl) (fun _ _ _ h => h) (Or.inl ⟨by kernel_rfl, fun w hSw => by (try dsimp only at hSw); go_simp⟩) (by assumption) ?_
  try simp only [Act.put, List.setIfInBounds_toArray, List.set_cons_zero, List.set_cons_succ]
  refine wpAnyH_take (i := 11) (v := .int .i64 t1) rfl (by kernel_rfl) (by kernel_rfl) (by kernel_rfl) (fun _ _ _ h => h) (Or.inl ⟨by kernel_rfl, fun w hSw => by simp only [Held, List.forall_mem_cons, List.not_mem_nil, false_implies, implies_true, and_true] at hSw; go_simp⟩) (by assumption) ?_
  try simp only [Act.put, List.setIfInBounds_toArray, List.set_cons_zero, List.set_cons_succ]
  refine wpAnyH_take (i := 12) (v := .pointer (some ⟨w.heap.size + 1 + 1, 1, none⟩)) rfl (by kernel_rfl) (by kernel_rfl) (by kernel_rfl) (fun _ _ _ h => h) (Or.inl ⟨by kernel_rfl, fun w hSw => by (try dsimp only at hSw); go_simp⟩) (by assumption) ?_
  try simp only [Act.put, List.setIfInBounds_toArray, List.set_cons_zero, List.set_cons_succ]
  refine wpAnyH_take (i := 13) (v := .int .i64 t2) rfl (by kernel_rfl) (by kernel_rfl) (by kernel_rfl) (fun _ _ _ h => h) (Or.inl ⟨by kernel_rfl, fun w hSw => by simp only [Held, List.forall_mem_cons, List.not_mem_nil, false_implies, implies_true, and_true] at hSw; go_simp⟩) (by assumption) ?_
  try simp only [Act.put, List.setIfInBounds_toArray, List.set_cons_zero, List.set_cons_succ]
  refine wpAnyH_ready (rs := [14]) (by kernel_rfl) (by simp) ?_
  refine AllReadyH.cons rfl (fun K hK => ?_) AllReadyH.nil
  go_simp
  go_at_call 23; with_reducible refine (HO.out _).mono ?_; rintro e w1 ⟨rfl, hb⟩
  refine hK.out _ _ (Held.keep hb (by assumption)) (fun hHeld => ?_)
  clear hK K hb
  try simp only [Act.put, List.setIfInBounds_toArray, List.set_cons_zero, List.set_cons_succ]
  refine wpAnyH_take (i := 15) (v := .bool false) rfl (by kernel_rfl) (by kernel_rfl) (by kernel_rfl) (fun _ _ _ h => h) (Or.inl ⟨by kernel_rfl, fun w hSw => by (try dsimp only at hSw); go_simp⟩) (by assumption) ?_
  try simp only [Act.put, List.setIfInBounds_toArray, List.set_cons_zero, List.set_cons_succ]
  refine wpAnyH_take (i := 16) (v := .bool false) rfl (by kernel_rfl) (by kernel_rfl) (by kernel_rfl) (fun _ _ _ h => h) (Or.inl ⟨by kernel_rfl, fun w hSw => by (try dsimp only at hSw); go_simp⟩) (by assumption) ?_
  try simp only [Act.put, List.setIfInBounds_toArray, List.set_cons_zero, List.set_cons_succ]
  refine wpAnyH_done (by kernel_rfl) ?_ _
  simp only [Act.put, List.getElem_toArray, List.getElem_cons_succ, List.getElem_cons_zero, List.setIfInBounds_toArray, List.set_cons_zero, List.set_cons_succ]
  replace hS := hHeld
  clear hHeld
  obtain ⟨kB, kk⟩ := Held.open hS
  simp only [List.forall_mem_cons, List.not_mem_nil, false_implies, implies_true, and_true] at kk
  obtain ⟨⟨l0, k0⟩, ⟨l1, k1⟩, ⟨l2, k2⟩, ⟨l3, k3⟩, ⟨l4, k4⟩, ⟨l5, k5⟩, ⟨l6, k6⟩, ⟨l7, k7⟩⟩ := kk
  go_upto_region 7 with (first | (go_at_call 22; with_reducible refine (HNa.out _).mono ?_; rintro e w1 ⟨rfl, hb⟩; replace hS := Held.keep hb hS; clear hb kB k0 l0 k1 l1 k2 l2 k3 l3 k4 l4 k5 l5 k6 l6 k7 l7; obtain ⟨kB, kk⟩ := Held.open hS; simp only [List.forall_mem_cons, List.not_mem_nil, false_implies, implies_true, and_true] at kk; obtain ⟨⟨l0, k0⟩, ⟨l1, k1⟩, ⟨l2, k2⟩, ⟨l3, k3⟩, ⟨l4, k4⟩, ⟨l5, k5⟩, ⟨l6, k6⟩, ⟨l7, k7⟩⟩ := kk) | (go_at_call 22; with_reducible refine (HNb.out _).mono ?_; rintro e w1 ⟨rfl, hb⟩; replace hS := Held.keep hb hS; clear hb kB k0 l0 k1 l1 k2 l2 k3 l3 k4 l4 k5 l5 k6 l6 k7 l7; obtain ⟨kB, kk⟩ := Held.open hS; simp only [List.forall_mem_cons, List.not_mem_nil, false_implies, implies_true, and_true] at kk; obtain ⟨⟨l0, k0⟩, ⟨l1, k1⟩, ⟨l2, k2⟩, ⟨l3, k3⟩, ⟨l4, k4⟩, ⟨l5, k5⟩, ⟨l6, k6⟩, ⟨l7, k7⟩⟩ := kk))
  go_cut [119] from 58 to 119 (fun s119 wc => s119 = .bool false ∧ Held w [(w.heap.size, 0, .bool a0), (w.heap.size, 1, .int .i64 a1), (w.heap.size, 2, .int .i64 a2), (w.heap.size + 1, 0, .bool b0), (w.heap.size + 1, 1, .int .i64 b1), (w.heap.size + 1, 2, .int .i64 b2), (w.heap.size + 1 + 1, 0, .int .i64 t1), (w.heap.size + 1 + 1, 1, .int .i64 t2)] wc)
  case first =>
    go_wp2_with (first | (go_at_call 35; with_reducible refine (Hp.out _).mono ?_; rintro e w1 ⟨rfl, hb⟩; replace hS := Held.keep hb hS; clear hb kB k0 l0 k1 l1 k2 l2 k3 l3 k4 l4 k5 l5 k6 l6 k7 l7; obtain ⟨kB, kk⟩ := Held.open hS; simp only [List.forall_mem_cons, List.not_mem_nil, false_implies, implies_true, and_true] at kk; obtain ⟨⟨l0, k0⟩, ⟨l1, k1⟩, ⟨l2, k2⟩, ⟨l3, k3⟩, ⟨l4, k4⟩, ⟨l5, k5⟩, ⟨l6, k6⟩, ⟨l7, k7⟩⟩ := kk) | (go_at_call 37; with_reducible refine (Hq.out _).mono ?_; rintro e w1 ⟨rfl, hb⟩; replace hS := Held.keep hb hS; clear hb kB k0 l0 k1 l1 k2 l2 k3 l3 k4 l4 k5 l5 k6 l6 k7 l7; obtain ⟨kB, kk⟩ := Held.open hS; simp only [List.forall_mem_cons, List.not_mem_nil, false_implies, implies_true, and_true] at kk; obtain ⟨⟨l0, k0⟩, ⟨l1, k1⟩, ⟨l2, k2⟩, ⟨l3, k3⟩, ⟨l4, k4⟩, ⟨l5, k5⟩, ⟨l6, k6⟩, ⟨l7, k7⟩⟩ := kk) | (go_at_call 39; with_reducible refine (Hm.out _).mono ?_; rintro e w1 ⟨rfl, hb⟩; replace hS := Held.keep hb hS; clear hb kB k0 l0 k1 l1 k2 l2 k3 l3 k4 l4 k5 l5 k6 l6 k7 l7; obtain ⟨kB, kk⟩ := Held.open hS; simp only [List.forall_mem_cons, List.not_mem_nil, false_implies, implies_true, and_true] at kk; obtain ⟨⟨l0, k0⟩, ⟨l1, k1⟩, ⟨l2, k2⟩, ⟨l3, k3⟩, ⟨l4, k4⟩, ⟨l5, k5⟩, ⟨l6, k6⟩, ⟨l7, k7⟩⟩ := kk) | (go_at_call 31; with_reducible refine (Hn.out _).mono ?_; rintro e w1 ⟨rfl, hb⟩; replace hS := Held.keep hb hS; clear hb kB k0 l0 k1 l1 k2 l2 k3 l3 k4 l4 k5 l5 k6 l6 k7 l7; obtain ⟨kB, kk⟩ := Held.open hS; simp only [List.forall_mem_cons, List.not_mem_nil, false_implies, implies_true, and_true] at kk; obtain ⟨⟨l0, k0⟩, ⟨l1, k1⟩, ⟨l2, k2⟩, ⟨l3, k3⟩, ⟨l4, k4⟩, ⟨l5, k5⟩, ⟨l6, k6⟩, ⟨l7, k7⟩⟩ := kk) | (go_at_call 33; with_reducible refine (Hs.out _).mono ?_; rintro e w1 ⟨rfl, hb⟩; replace hS := Held.keep hb hS; clear hb kB k0 l0 k1 l1 k2 l2 k3 l3 k4 l4 k5 l5 k6 l6 k7 l7; obtain ⟨kB, kk⟩ := Held.open hS; simp only [List.forall_mem_cons, List.not_mem_nil, false_implies, implies_true, and_true] at kk; obtain ⟨⟨l0, k0⟩, ⟨l1, k1⟩, ⟨l2, k2⟩, ⟨l3, k3⟩, ⟨l4, k4⟩, ⟨l5, k5⟩, ⟨l6, k6⟩, ⟨l7, k7⟩⟩ := kk) | (go_at_call 19; with_reducible refine (Hj.out _).mono ?_; rintro e w1 ⟨rfl, hb⟩; replace hS := Held.keep hb hS; clear hb kB k0 l0 k1 l1 k2 l2 k3 l3 k4 l4 k5 l5 k6 l6 k7 l7; obtain ⟨kB, kk⟩ := Held.open hS; simp only [List.forall_mem_cons, List.not_mem_nil, false_implies, implies_true, and_true] at kk; obtain ⟨⟨l0, k0⟩, ⟨l1, k1⟩, ⟨l2, k2⟩, ⟨l3, k3⟩, ⟨l4, k4⟩, ⟨l5, k5⟩, ⟨l6, k6⟩, ⟨l7, k7⟩⟩ := kk) | (go_at_call 45; with_reducible refine (HIp.out _).mono ?_; rintro e w1 ⟨rfl, hb⟩; replace hS := Held.keep hb hS; clear hb kB k0 l0 k1 l1 k2 l2 k3 l3 k4 l4 k5 l5 k6 l6 k7 l7; obtain ⟨kB, kk⟩ := Held.open hS; simp only [List.forall_mem_cons, List.not_mem_nil, false_implies, implies_true, and_true] at kk; obtain ⟨⟨l0, k0⟩, ⟨l1, k1⟩, ⟨l2, k2⟩, ⟨l3, k3⟩, ⟨l4, k4⟩, ⟨l5, k5⟩, ⟨l6, k6⟩, ⟨l7, k7⟩⟩ := kk) | (go_at_call 45; with_reducible refine (HIq.out _).mono ?_; rintro e w1 ⟨rfl, hb⟩; replace hS := Held.keep hb hS; clear hb kB k0 l0 k1 l1 k2 l2 k3 l3 k4 l4 k5 l5 k6 l6 k7 l7; obtain ⟨kB, kk⟩ := Held.open hS; simp only [List.forall_mem_cons, List.not_mem_nil, false_implies, implies_true, and_true] at kk; obtain ⟨⟨l0, k0⟩, ⟨l1, k1⟩, ⟨l2, k2⟩, ⟨l3, k3⟩, ⟨l4, k4⟩, ⟨l5, k5⟩, ⟨l6, k6⟩, ⟨l7, k7⟩⟩ := kk) | (go_at_call 45; with_reducible refine (HIm.out _).mono ?_; rintro e w1 ⟨rfl, hb⟩; replace hS := Held.keep hb hS; clear hb kB k0 l0 k1 l1 k2 l2 k3 l3 k4 l4 k5 l5 k6 l6 k7 l7; obtain ⟨kB, kk⟩ := Held.open hS; simp only [List.forall_mem_cons, List.not_mem_nil, false_implies, implies_true, and_true] at kk; obtain ⟨⟨l0, k0⟩, ⟨l1, k1⟩, ⟨l2, k2⟩, ⟨l3, k3⟩, ⟨l4, k4⟩, ⟨l5, k5⟩, ⟨l6, k6⟩, ⟨l7, k7⟩⟩ := kk) | (go_at_call 45; with_reducible refine (HIn.out _).mono ?_; rintro e w1 ⟨rfl, hb⟩; replace hS := Held.keep hb hS; clear hb kB k0 l0 k1 l1 k2 l2 k3 l3 k4 l4 k5 l5 k6 l6 k7 l7; obtain ⟨kB, kk⟩ := Held.open hS; simp only [List.forall_mem_cons, List.not_mem_nil, false_implies, implies_true, and_true] at kk; obtain ⟨⟨l0, k0⟩, ⟨l1, k1⟩, ⟨l2, k2⟩, ⟨l3, k3⟩, ⟨l4, k4⟩, ⟨l5, k5⟩, ⟨l6, k6⟩, ⟨l7, k7⟩⟩ := kk) | (go_at_call 45; with_reducible refine (HIjx.out _).mono ?_; rintro e w1 ⟨rfl, hb⟩; replace hS := Held.keep hb hS; clear hb kB k0 l0 k1 l1 k2 l2 k3 l3 k4 l4 k5 l5 k6 l6 k7 l7; obtain ⟨kB, kk⟩ := Held.open hS; simp only [List.forall_mem_cons, List.not_mem_nil, false_implies, implies_true, and_true] at kk; obtain ⟨⟨l0, k0⟩, ⟨l1, k1⟩, ⟨l2, k2⟩, ⟨l3, k3⟩, ⟨l4, k4⟩, ⟨l5, k5⟩, ⟨l6, k6⟩, ⟨l7, k7⟩⟩ := kk) | (go_at_call 45; with_reducible refine (HIjy.out _).mono ?_; rintro e w1 ⟨rfl, hb⟩; replace hS := Held.keep hb hS; clear hb kB k0 l0 k1 l1 k2 l2 k3 l3 k4 l4 k5 l5 k6 l6 k7 l7; obtain ⟨kB, kk⟩ := Held.open hS; simp only [List.forall_mem_cons, List.not_mem_nil, false_implies, implies_true, and_true] at kk; obtain ⟨⟨l0, k0⟩, ⟨l1, k1⟩, ⟨l2, k2⟩, ⟨l3, k3⟩, ⟨l4, k4⟩, ⟨l5, k5⟩, ⟨l6, k6⟩, ⟨l7, k7⟩⟩ := kk) | (go_at_call 45; with_reducible refine (HIs1.out (by assumption) _).mono ?_; rintro e w1 ⟨rfl, hb⟩; replace hS := Held.keep hb hS; clear hb kB k0 l0 k1 l1 k2 l2 k3 l3 k4 l4 k5 l5 k6 l6 k7 l7; obtain ⟨kB, kk⟩ := Held.open hS; simp only [List.forall_mem_cons, List.not_mem_nil, false_implies, implies_true, and_true] at kk; obtain ⟨⟨l0, k0⟩, ⟨l1, k1⟩, ⟨l2, k2⟩, ⟨l3, k3⟩, ⟨l4, k4⟩, ⟨l5, k5⟩, ⟨l6, k6⟩, ⟨l7, k7⟩⟩ := kk) | (go_at_call 45; with_reducible refine (HIs2.out (by assumption) _).mono ?_; rintro e w1 ⟨rfl, hb⟩; replace hS := Held.keep hb hS; clear hb kB k0 l0 k1 l1 k2 l2 k3 l3 k4 l4 k5 l5 k6 l6 k7 l7; obtain ⟨kB, kk⟩ := Held.open hS; simp only [List.forall_mem_cons, List.not_mem_nil, false_implies, implies_true, and_true] at kk; obtain ⟨⟨l0, k0⟩, ⟨l1, k1⟩, ⟨l2, k2⟩, ⟨l3, k3⟩, ⟨l4, k4⟩, ⟨l5, k5⟩, ⟨l6, k6⟩, ⟨l7, k7⟩⟩ := kk))
    all_goals (
      go_meet
      exact ⟨rfl, hS⟩)
  case rest KK hKK =>
    obtain ⟨rfl, hS⟩ := hcut
    clear kB k0 l0 k1 l1 k2 l2 k3 l3 k4 l4 k5 l5 k6 l6 k7 l7
    go_upto_region 9 with fail
    try clear hKK KK
    go_cut [141] from 120 to 141 (fun s141 wc => s141 = .bool false ∧ Held w [(w.heap.size, 0, .bool a0), (w.heap.size, 1, .int .i64 a1), (w.heap.size, 2, .int .i64 a2), (w.heap.size + 1, 0, .bool b0), (w.heap.size + 1, 1, .int .i64 b1), (w.heap.size + 1, 2, .int .i64 b2), (w.heap.size + 1 + 1, 0, .int .i64 t1), (w.heap.size + 1 + 1, 1, .int .i64 t2)] wc)
    case first =>
      have y0 := HY0.out
      have HId2 := Lib.hid (HId.out y0)
      have HIo2 := Lib.hid (HIo.out y0)
      refine wp_region_held_drew (S := (fun w' => Held w [(w.heap.size, 0, .bool a0), (w.heap.size, 1, .int .i64 a1), (w.heap.size, 2, .int .i64 a2), (w.heap.size + 1, 0, .bool b0), (w.heap.size + 1, 1, .int .i64 b1), (w.heap.size + 1, 2, .int .i64 b2), (w.heap.size + 1 + 1, 0, .int .i64 t1), (w.heap.size + 1 + 1, 1, .int .i64 t2)] w')) (by kernel_rfl) (Held.drew hS) (fun hHeld => ?_)
      refine wpAnyH_take (i := 0) (v := .int .i64 y) rfl (by kernel_rfl) (by kernel_rfl) (by kernel_rfl) (fun _ _ _ h => h) (Or.inl ⟨by kernel_rfl, fun w hSw => by (try dsimp only at hSw); go_simp⟩) (by assumption) ?_
      try simp only [Act.put, List.setIfInBounds_toArray, List.set_cons_zero, List.set_cons_succ]
      refine wpAnyH_take (i := 1) (v := .bool true) rfl (by kernel_rfl) (by kernel_rfl) (by kernel_rfl) (fun _ _ _ h => h) (Or.inl ⟨by kernel_rfl, fun w hSw => by (try dsimp only at hSw); go_simp⟩) (by assumption) ?_
      try simp only [Act.put, List.setIfInBounds_toArray, List.set_cons_zero, List.set_cons_succ]
      refine wpAnyH_take (i := 2) (v := .bool true) rfl (by kernel_rfl) (by kernel_rfl) (by kernel_rfl) (fun _ _ _ h => h) (Or.inl ⟨by kernel_rfl, fun w hSw => by (try dsimp only at hSw); go_simp⟩) (by assumption) ?_
      try simp only [Act.put, List.setIfInBounds_toArray, List.set_cons_zero, List.set_cons_succ]
      refine wpAnyH_take (i := 3) (v := .agg #[.bool a0, .int .i64 a1, .int .i64 a2]) rfl (by kernel_rfl) (by kernel_rfl) (by kernel_rfl) (fun _ _ _ h => h) (Or.inl ⟨by kernel_rfl, fun w hSw => by simp only [Held, List.forall_mem_cons, List.not_mem_nil, false_implies, implies_true, and_true] at hSw; go_simp⟩) (by assumption) ?_
      try simp only [Act.put, List.setIfInBounds_toArray, List.set_cons_zero, List.set_cons_succ]
      refine wpAnyH_take (i := 4) (v := .agg #[.bool b0, .int .i64 b1, .int .i64 b2]) rfl (by kernel_rfl) (by kernel_rfl) (by kernel_rfl) (fun _ _ _ h => h) (Or.inl ⟨by kernel_rfl, fun w hSw => by simp only [Held, List.forall_mem_cons, List.not_mem_nil, false_implies, implies_true, and_true] at hSw; go_simp⟩) (by assumption) ?_
      try simp only [Act.put, List.setIfInBounds_toArray, List.set_cons_zero, List.set_cons_succ]
      refine wpAnyH_take (i := 6) (v := .int .i64 x) rfl (by kernel_rfl) (by kernel_rfl) (by kernel_rfl) (fun _ _ _ h => h) (Or.inl ⟨by kernel_rfl, fun w hSw => by (try dsimp only at hSw); go_simp⟩) (by assumption) ?_
      try simp only [Act.put, List.setIfInBounds_toArray, List.set_cons_zero, List.set_cons_succ]
      refine wpAnyH_take (i := 7) (v := .int .i64 y) rfl (by kernel_rfl) (by kernel_rfl) (by kernel_rfl) (fun _ _ _ h => h) (Or.inl ⟨by kernel_rfl, fun w hSw => by (try dsimp only at hSw); go_simp⟩) (by assumption) ?_
      try simp only [Act.put, List.setIfInBounds_toArray, List.set_cons_zero, List.set_cons_succ]
      refine wpAnyH_take (i := 8) (v := .int .i64 (IntKind.i64.wrap (Int.tdiv x y))) rfl (by kernel_rfl) (by kernel_rfl) (by kernel_rfl) (fun _ _ _ h => h) (Or.inl ⟨by kernel_rfl, fun w hSw => by (try dsimp only at hSw); go_simp⟩) (by assumption) ?_
      try simp only [Act.put, List.setIfInBounds_toArray, List.set_cons_zero, List.set_cons_succ]
      refine wpAnyH_ready (rs := [5]) (by kernel_rfl) (by simp) ?_
      refine AllReadyH.cons rfl (fun K hK => ?_) AllReadyH.nil
      go_simp
      go_at_call 41; with_reducible refine (Hd.out _).mono ?_; rintro e w1 ⟨rfl, hb⟩
      refine hK.out _ _ (Held.keep hb (by assumption)) (fun hHeld => ?_)
      clear hK K hb
      try simp only [Act.put, List.setIfInBounds_toArray, List.set_cons_zero, List.set_cons_succ]
      refine wpAnyH_ready (rs := [9]) (by kernel_rfl) (by simp) ?_
      refine AllReadyH.cons rfl (fun K hK => ?_) AllReadyH.nil
      go_simp
      go_at_call 45; with_reducible refine (HId2.out _).mono ?_; rintro e w1 ⟨rfl, hb⟩
      refine hK.out _ _ (Held.keep hb (by assumption)) (fun hHeld => ?_)
      clear hK K hb
      try simp only [Act.put, List.setIfInBounds_toArray, List.set_cons_zero, List.set_cons_succ]
      refine wpAnyH_take (i := 10) (v := .bool false) rfl (by kernel_rfl) (by kernel_rfl) (by kernel_rfl) (fun _ _ _ h => h) (Or.inl ⟨by kernel_rfl, fun w hSw => by (try dsimp only at hSw); go_simp⟩) (by assumption) ?_
      try simp only [Act.put, List.setIfInBounds_toArray, List.set_cons_zero, List.set_cons_succ]
      refine wpAnyH_take (i := 11) (v := .bool false) rfl (by kernel_rfl) (by kernel_rfl) (by kernel_rfl) (fun _ _ _ h => h) (Or.inl ⟨by kernel_rfl, fun w hSw => by (try dsimp only at hSw); go_simp⟩) (by assumption) ?_
      try simp only [Act.put, List.setIfInBounds_toArray, List.set_cons_zero, List.set_cons_succ]
      refine wpAnyH_take (i := 12) (v := .agg #[.bool a0, .int .i64 a1, .int .i64 a2]) rfl (by kernel_rfl) (by kernel_rfl) (by kernel_rfl) (fun _ _ _ h => h) (Or.inl ⟨by kernel_rfl, fun w hSw => by simp only [Held, List.forall_mem_cons, List.not_mem_nil, false_implies, implies_true, and_true] at hSw; go_simp⟩) (by assumption) ?_
      try simp only [Act.put, List.setIfInBounds_toArray, List.set_cons_zero, List.set_cons_succ]
      refine wpAnyH_take (i := 13) (v := .agg #[.bool b0, .int .i64 b1, .int .i64 b2]) rfl (by kernel_rfl) (by kernel_rfl) (by kernel_rfl) (fun _ _ _ h => h) (Or.inl ⟨by kernel_rfl, fun w hSw => by simp only [Held, List.forall_mem_cons, List.not_mem_nil, false_implies, implies_true, and_true] at hSw; go_simp⟩) (by assumption) ?_
      try simp only [Act.put, List.setIfInBounds_toArray, List.set_cons_zero, List.set_cons_succ]
      refine wpAnyH_take (i := 15) (v := .int .i64 x) rfl (by kernel_rfl) (by kernel_rfl) (by kernel_rfl) (fun _ _ _ h => h) (Or.inl ⟨by kernel_rfl, fun w hSw => by (try dsimp only at hSw); go_simp⟩) (by assumption) ?_
      try simp only [Act.put, List.setIfInBounds_toArray, List.set_cons_zero, List.set_cons_succ]
      refine wpAnyH_take (i := 16) (v := .int .i64 y) rfl (by kernel_rfl) (by kernel_rfl) (by kernel_rfl) (fun _ _ _ h => h) (Or.inl ⟨by kernel_rfl, fun w hSw => by (try dsimp only at hSw); go_simp⟩) (by assumption) ?_
      try simp only [Act.put, List.setIfInBounds_toArray, List.set_cons_zero, List.set_cons_succ]
      refine wpAnyH_take (i := 17) (v := .int .i64 (Int.tmod x y)) rfl (by kernel_rfl) (by kernel_rfl) (by kernel_rfl) (fun _ _ _ h => h) (Or.inl ⟨by kernel_rfl, fun w hSw => by (try dsimp only at hSw); go_simp⟩) (by assumption) ?_
      try simp only [Act.put, List.setIfInBounds_toArray, List.set_cons_zero, List.set_cons_succ]
      refine wpAnyH_ready (rs := [14]) (by kernel_rfl) (by simp) ?_
      refine AllReadyH.cons rfl (fun K hK => ?_) AllReadyH.nil
      go_simp
      go_at_call 43; with_reducible refine (Ho.out _).mono ?_; rintro e w1 ⟨rfl, hb⟩
      refine hK.out _ _ (Held.keep hb (by assumption)) (fun hHeld => ?_)
      clear hK K hb
      try simp only [Act.put, List.setIfInBounds_toArray, List.set_cons_zero, List.set_cons_succ]
      refine wpAnyH_ready (rs := [18]) (by kernel_rfl) (by simp) ?_
      refine AllReadyH.cons rfl (fun K hK => ?_) AllReadyH.nil
      go_simp
      go_at_call 45; with_reducible refine (HIo2.out _).mono ?_; rintro e w1 ⟨rfl, hb⟩
      refine hK.out _ _ (Held.keep hb (by assumption)) (fun hHeld => ?_)
      clear hK K hb
      try simp only [Act.put, List.setIfInBounds_toArray, List.set_cons_zero, List.set_cons_succ]
      refine wpAnyH_take (i := 19) (v := .bool false) rfl (by kernel_rfl) (by kernel_rfl) (by kernel_rfl) (fun _ _ _ h => h) (Or.inl ⟨by kernel_rfl, fun w hSw => by (try dsimp only at hSw); go_simp⟩) (by assumption) ?_
      try simp only [Act.put, List.setIfInBounds_toArray, List.set_cons_zero, List.set_cons_succ]
      refine wpAnyH_take (i := 20) (v := .bool false) rfl (by kernel_rfl) (by kernel_rfl) (by kernel_rfl) (fun _ _ _ h => h) (Or.inl ⟨by kernel_rfl, fun w hSw => by (try dsimp only at hSw); go_simp⟩) (by assumption) ?_
      try simp only [Act.put, List.setIfInBounds_toArray, List.set_cons_zero, List.set_cons_succ]
      refine wpAnyH_take (i := 21) (v := .bool false) rfl (by kernel_rfl) (by kernel_rfl) (by kernel_rfl) (fun _ _ _ h => h) (Or.inl ⟨by kernel_rfl, fun w hSw => by (try dsimp only at hSw); go_simp⟩) (by assumption) ?_
      try simp only [Act.put, List.setIfInBounds_toArray, List.set_cons_zero, List.set_cons_succ]
      refine wpAnyH_done (by kernel_rfl) ?_ _
      simp only [Act.put, List.getElem_toArray, List.getElem_cons_succ, List.getElem_cons_zero, List.setIfInBounds_toArray, List.set_cons_zero, List.set_cons_succ]
      have hS1 := hHeld
      clear hHeld
      go_wp2_with fail
      go_meet
      exact ⟨rfl, hS1⟩
    case rest KK hKK =>
      obtain ⟨rfl, hS⟩ := hcut
      obtain ⟨kB, kk⟩ := Held.open hS; simp only [List.forall_mem_cons, List.not_mem_nil, false_implies, implies_true, and_true] at kk; obtain ⟨⟨l0, k0⟩, ⟨l1, k1⟩, ⟨l2, k2⟩, ⟨l3, k3⟩, ⟨l4, k4⟩, ⟨l5, k5⟩, ⟨l6, k6⟩, ⟨l7, k7⟩⟩ := kk
      go_upto_region 11 with fail
      try clear hKK KK
      go_cut [152] from 142 to 152 (fun s152 wc => s152 = .bool false ∧ Held w [(w.heap.size, 0, .bool a0), (w.heap.size, 1, .int .i64 a1), (w.heap.size, 2, .int .i64 a2), (w.heap.size + 1, 0, .bool b0), (w.heap.size + 1, 1, .int .i64 b1), (w.heap.size + 1, 2, .int .i64 b2), (w.heap.size + 1 + 1, 0, .int .i64 t1), (w.heap.size + 1 + 1, 1, .int .i64 t2)] wc)
      case first =>
        cases h with
        | false =>
          go_wp2_with (first | (go_at_call 14; with_reducible refine (Hh.out _).mono ?_; rintro e w1 ⟨rfl, hb⟩; replace hS := Held.keep hb hS; clear hb kB k0 l0 k1 l1 k2 l2 k3 l3 k4 l4 k5 l5 k6 l6 k7 l7; obtain ⟨kB, kk⟩ := Held.open hS; simp only [List.forall_mem_cons, List.not_mem_nil, false_implies, implies_true, and_true] at kk; obtain ⟨⟨l0, k0⟩, ⟨l1, k1⟩, ⟨l2, k2⟩, ⟨l3, k3⟩, ⟨l4, k4⟩, ⟨l5, k5⟩, ⟨l6, k6⟩, ⟨l7, k7⟩⟩ := kk))
          go_meet
          exact ⟨rfl, hS⟩
        | true =>
          have HIe2 := Lib.hid (HIe.out rfl)
          go_wp2_with (first | (go_at_call 14; with_reducible refine (Hh.out _).mono ?_; rintro e w1 ⟨rfl, hb⟩; replace hS := Held.keep hb hS; clear hb kB k0 l0 k1 l1 k2 l2 k3 l3 k4 l4 k5 l5 k6 l6 k7 l7; obtain ⟨kB, kk⟩ := Held.open hS; simp only [List.forall_mem_cons, List.not_mem_nil, false_implies, implies_true, and_true] at kk; obtain ⟨⟨l0, k0⟩, ⟨l1, k1⟩, ⟨l2, k2⟩, ⟨l3, k3⟩, ⟨l4, k4⟩, ⟨l5, k5⟩, ⟨l6, k6⟩, ⟨l7, k7⟩⟩ := kk) | (go_at_call 20; with_reducible refine (He.out _).mono ?_; rintro e w1 ⟨rfl, hb⟩; replace hS := Held.keep hb hS; clear hb kB k0 l0 k1 l1 k2 l2 k3 l3 k4 l4 k5 l5 k6 l6 k7 l7; obtain ⟨kB, kk⟩ := Held.open hS; simp only [List.forall_mem_cons, List.not_mem_nil, false_implies, implies_true, and_true] at kk; obtain ⟨⟨l0, k0⟩, ⟨l1, k1⟩, ⟨l2, k2⟩, ⟨l3, k3⟩, ⟨l4, k4⟩, ⟨l5, k5⟩, ⟨l6, k6⟩, ⟨l7, k7⟩⟩ := kk) | (go_at_call 45; with_reducible refine (HIe2.out _).mono ?_; rintro e w1 ⟨rfl, hb⟩; replace hS := Held.keep hb hS; clear hb kB k0 l0 k1 l1 k2 l2 k3 l3 k4 l4 k5 l5 k6 l6 k7 l7; obtain ⟨kB, kk⟩ := Held.open hS; simp only [List.forall_mem_cons, List.not_mem_nil, false_implies, implies_true, and_true] at kk; obtain ⟨⟨l0, k0⟩, ⟨l1, k1⟩, ⟨l2, k2⟩, ⟨l3, k3⟩, ⟨l4, k4⟩, ⟨l5, k5⟩, ⟨l6, k6⟩, ⟨l7, k7⟩⟩ := kk))
          go_meet
          exact ⟨rfl, hS⟩
      case rest KK hKK =>
        obtain ⟨rfl, hS⟩ := hcut
        clear kB k0 l0 k1 l1 k2 l2 k3 l3 k4 l4 k5 l5 k6 l6 k7 l7
        go_upto_region 13 with fail
        try clear hKK KK
        go_cut [17, 18] from 153 to 159 (fun s17 s18 wc => ∃ n17 n18 : Nat, s17 = .pointer (some ⟨n17, 0, none⟩) ∧ s18 = .pointer (some ⟨n18, 0, none⟩) ∧ Held w [(n17, 0, .bool u0), (n17, 1, .int .i64 u1), (n17, 2, .int .i64 u2), (n18, 0, .bool v0), (n18, 1, .int .i64 v1), (n18, 2, .int .i64 v2), (w.heap.size, 0, .bool a0), (w.heap.size, 1, .int .i64 a1), (w.heap.size, 2, .int .i64 a2), (w.heap.size + 1, 0, .bool b0), (w.heap.size + 1, 1, .int .i64 b1), (w.heap.size + 1, 2, .int .i64 b2), (w.heap.size + 1 + 1, 0, .int .i64 t1), (w.heap.size + 1 + 1, 1, .int .i64 t2)] wc)
        case first =>
          obtain ⟨kB, kk⟩ := Held.open hS; simp only [List.forall_mem_cons, List.not_mem_nil, false_implies, implies_true, and_true] at kk; obtain ⟨⟨l0, k0⟩, ⟨l1, k1⟩, ⟨l2, k2⟩, ⟨l3, k3⟩, ⟨l4, k4⟩, ⟨l5, k5⟩, ⟨l6, k6⟩, ⟨l7, k7⟩⟩ := kk
          go_wp2_with (go_at_call 24; with_reducible refine (HT.out _).mono ?_; rintro e w1 ⟨rfl, hb⟩; replace hS := Held.keep hb hS; clear hb kB k0 l0 k1 l1 k2 l2 k3 l3 k4 l4 k5 l5 k6 l6 k7 l7; obtain ⟨kB, kk⟩ := Held.open hS; simp only [List.forall_mem_cons, List.not_mem_nil, false_implies, implies_true, and_true] at kk; obtain ⟨⟨l0, k0⟩, ⟨l1, k1⟩, ⟨l2, k2⟩, ⟨l3, k3⟩, ⟨l4, k4⟩, ⟨l5, k5⟩, ⟨l6, k6⟩, ⟨l7, k7⟩⟩ := kk)
          go_meet
          refine ⟨_, _, rfl, rfl, ?_⟩
          refine Held.cons ?_ ?_ (Held.cons ?_ ?_ (Held.cons ?_ ?_ (Held.cons ?_ ?_ (Held.cons ?_ ?_ (Held.cons ?_ ?_ (Held.alloc _ (Held.alloc _ hS)))))))
          all_goals go_simp
        case rest KK hKK =>
          obtain ⟨n17, n18, rfl, rfl, hS⟩ := hcut
          obtain ⟨kB, kk⟩ := Held.open hS; simp only [List.forall_mem_cons, List.not_mem_nil, false_implies, implies_true, and_true] at kk; obtain ⟨⟨l0, k0⟩, ⟨l1, k1⟩, ⟨l2, k2⟩, ⟨l3, k3⟩, ⟨l4, k4⟩, ⟨l5, k5⟩, ⟨l6, k6⟩, ⟨l7, k7⟩, ⟨l8, k8⟩, ⟨l9, k9⟩, ⟨l10, k10⟩, ⟨l11, k11⟩, ⟨l12, k12⟩, ⟨l13, k13⟩⟩ := kk
          go_upto_region 14 with fail
          try clear hKK KK
          go_cut [171] from 160 to 171 (fun s171 wc => ∃ c : Bool, s171 = .bool c ∧ (c = true → op < 14 ∨ 19 < op ∨ g = true) ∧ Held w [(n17, 0, .bool u0), (n17, 1, .int .i64 u1), (n17, 2, .int .i64 u2), (n18, 0, .bool v0), (n18, 1, .int .i64 v1), (n18, 2, .int .i64 v2), (w.heap.size, 0, .bool a0), (w.heap.size, 1, .int .i64 a1), (w.heap.size, 2, .int .i64 a2), (w.heap.size + 1, 0, .bool b0), (w.heap.size + 1, 1, .int .i64 b1), (w.heap.size + 1, 2, .int .i64 b2), (w.heap.size + 1 + 1, 0, .int .i64 t1), (w.heap.size + 1 + 1, 1, .int .i64 t2)] wc)
          case first =>
            by_cases o1 : op < 14
            · go_wp2_with fail
              go_meet
              exact ⟨true, rfl, fun _ => Or.inl o1, hS⟩
            · by_cases o2 : 19 < op
              · go_wp2_with fail
                go_meet
                exact ⟨true, rfl, fun _ => Or.inr (Or.inl o2), hS⟩
              · go_wp2_with (first | (go_at_call 46; with_reducible refine (HH.out _).mono ?_; rintro e w1 ⟨rfl, hb⟩; replace hS := Held.keep hb hS; clear hb kB k0 l0 k1 l1 k2 l2 k3 l3 k4 l4 k5 l5 k6 l6 k7 l7 k8 l8 k9 l9 k10 l10 k11 l11 k12 l12 k13 l13; obtain ⟨kB, kk⟩ := Held.open hS; simp only [List.forall_mem_cons, List.not_mem_nil, false_implies, implies_true, and_true] at kk; obtain ⟨⟨l0, k0⟩, ⟨l1, k1⟩, ⟨l2, k2⟩, ⟨l3, k3⟩, ⟨l4, k4⟩, ⟨l5, k5⟩, ⟨l6, k6⟩, ⟨l7, k7⟩, ⟨l8, k8⟩, ⟨l9, k9⟩, ⟨l10, k10⟩, ⟨l11, k11⟩, ⟨l12, k12⟩, ⟨l13, k13⟩⟩ := kk))
                go_meet
                exact ⟨g, rfl, fun hg => Or.inr (Or.inr hg), hS⟩
          case rest KK hKK =>
            obtain ⟨c, rfl, hc, hS⟩ := hcut
            clear kB k0 l0 k1 l1 k2 l2 k3 l3 k4 l4 k5 l5 k6 l6 k7 l7 k8 l8 k9 l9 k10 l10 k11 l11 k12 l12 k13 l13
            obtain ⟨kB, kk⟩ := Held.open hS; simp only [List.forall_mem_cons, List.not_mem_nil, false_implies, implies_true, and_true] at kk; obtain ⟨⟨l0, k0⟩, ⟨l1, k1⟩, ⟨l2, k2⟩, ⟨l3, k3⟩, ⟨l4, k4⟩, ⟨l5, k5⟩, ⟨l6, k6⟩, ⟨l7, k7⟩, ⟨l8, k8⟩, ⟨l9, k9⟩, ⟨l10, k10⟩, ⟨l11, k11⟩, ⟨l12, k12⟩, ⟨l13, k13⟩⟩ := kk
            cases c with
            | false =>
              clear hc
              clear kB k0 l0 k1 l1 k2 l2 k3 l3 k4 l4 k5 l5 k6 l6 k7 l7 k8 l8 k9 l9 k10 l10 k11 l11 k12 l12 k13 l13
              go_upto_region 17 with fail
              try clear hKK KK
              go_cut [19, 20] from 182 to 187 (fun s19 s20 wc => ∃ n19 n20 : Nat, s19 = .pointer (some ⟨n19, 0, none⟩) ∧ s20 = .pointer (some ⟨n20, 0, none⟩) ∧ Held w [(n19, 0, .bool c0), (n19, 1, .int .i64 c1), (n19, 2, .int .i64 c2), (n20, 0, .int .i64 k1), (n20, 1, .int .i64 k2), (n17, 0, .bool u0), (n17, 1, .int .i64 u1), (n17, 2, .int .i64 u2), (n18, 0, .bool v0), (n18, 1, .int .i64 v1), (n18, 2, .int .i64 v2), (w.heap.size, 0, .bool a0), (w.heap.size, 1, .int .i64 a1), (w.heap.size, 2, .int .i64 a2), (w.heap.size + 1, 0, .bool b0), (w.heap.size + 1, 1, .int .i64 b1), (w.heap.size + 1, 2, .int .i64 b2), (w.heap.size + 1 + 1, 0, .int .i64 t1), (w.heap.size + 1 + 1, 1, .int .i64 t2)] wc)
              case first =>
                obtain ⟨kB, kk⟩ := Held.open hS; simp only [List.forall_mem_cons, List.not_mem_nil, false_implies, implies_true, and_true] at kk; obtain ⟨⟨l0, k0⟩, ⟨l1, k1⟩, ⟨l2, k2⟩, ⟨l3, k3⟩, ⟨l4, k4⟩, ⟨l5, k5⟩, ⟨l6, k6⟩, ⟨l7, k7⟩, ⟨l8, k8⟩, ⟨l9, k9⟩, ⟨l10, k10⟩, ⟨l11, k11⟩, ⟨l12, k12⟩, ⟨l13, k13⟩⟩ := kk
                go_wp2_with (go_at_call 26; with_reducible refine (HG.out _).mono ?_; rintro e w1 ⟨rfl, hb⟩; replace hS := Held.keep hb hS; clear hb kB k0 l0 k1 l1 k2 l2 k3 l3 k4 l4 k5 l5 k6 l6 k7 l7 k8 l8 k9 l9 k10 l10 k11 l11 k12 l12 k13 l13; obtain ⟨kB, kk⟩ := Held.open hS; simp only [List.forall_mem_cons, List.not_mem_nil, false_implies, implies_true, and_true] at kk; obtain ⟨⟨l0, k0⟩, ⟨l1, k1⟩, ⟨l2, k2⟩, ⟨l3, k3⟩, ⟨l4, k4⟩, ⟨l5, k5⟩, ⟨l6, k6⟩, ⟨l7, k7⟩, ⟨l8, k8⟩, ⟨l9, k9⟩, ⟨l10, k10⟩, ⟨l11, k11⟩, ⟨l12, k12⟩, ⟨l13, k13⟩⟩ := kk)
                go_meet
                refine ⟨_, _, rfl, rfl, ?_⟩
                refine Held.cons ?_ ?_ (Held.cons ?_ ?_ (Held.cons ?_ ?_ (Held.cons ?_ ?_ (Held.cons ?_ ?_ (Held.alloc _ (Held.alloc _ hS))))))
                all_goals go_simp
              case rest KK hKK =>
                obtain ⟨n19, n20, rfl, rfl, hS⟩ := hcut
                obtain ⟨kB, kk⟩ := Held.open hS; simp only [List.forall_mem_cons, List.not_mem_nil, false_implies, implies_true, and_true] at kk; obtain ⟨⟨l0, k0⟩, ⟨l1, k1⟩, ⟨l2, k2⟩, ⟨l3, k3⟩, ⟨l4, k4⟩, ⟨l5, k5⟩, ⟨l6, k6⟩, ⟨l7, k7⟩, ⟨l8, k8⟩, ⟨l9, k9⟩, ⟨l10, k10⟩, ⟨l11, k11⟩, ⟨l12, k12⟩, ⟨l13, k13⟩, ⟨l14, k14⟩, ⟨l15, k15⟩, ⟨l16, k16⟩, ⟨l17, k17⟩, ⟨l18, k18⟩⟩ := kk
                have Hr2 := Hr
                cases r with
                | false =>
                  go_wp2_with (first | (go_at_call 47; with_reducible refine (Hr.out _).mono ?_; rintro e w1 ⟨rfl, hb⟩; replace hS := Held.keep hb hS; clear hb kB k0 l0 k1 l1 k2 l2 k3 l3 k4 l4 k5 l5 k6 l6 k7 l7 k8 l8 k9 l9 k10 l10 k11 l11 k12 l12 k13 l13 k14 l14 k15 l15 k16 l16 k17 l17 k18 l18; obtain ⟨kB, kk⟩ := Held.open hS; simp only [List.forall_mem_cons, List.not_mem_nil, false_implies, implies_true, and_true] at kk; obtain ⟨⟨l0, k0⟩, ⟨l1, k1⟩, ⟨l2, k2⟩, ⟨l3, k3⟩, ⟨l4, k4⟩, ⟨l5, k5⟩, ⟨l6, k6⟩, ⟨l7, k7⟩, ⟨l8, k8⟩, ⟨l9, k9⟩, ⟨l10, k10⟩, ⟨l11, k11⟩, ⟨l12, k12⟩, ⟨l13, k13⟩, ⟨l14, k14⟩, ⟨l15, k15⟩, ⟨l16, k16⟩, ⟨l17, k17⟩, ⟨l18, k18⟩⟩ := kk) | (go_at_call 18; with_reducible refine (HAw.out _).mono ?_; rintro e w1 ⟨rfl, hb⟩; replace hS := Held.keep hb hS; clear hb kB k0 l0 k1 l1 k2 l2 k3 l3 k4 l4 k5 l5 k6 l6 k7 l7 k8 l8 k9 l9 k10 l10 k11 l11 k12 l12 k13 l13 k14 l14 k15 l15 k16 l16 k17 l17 k18 l18; obtain ⟨kB, kk⟩ := Held.open hS; simp only [List.forall_mem_cons, List.not_mem_nil, false_implies, implies_true, and_true] at kk; obtain ⟨⟨l0, k0⟩, ⟨l1, k1⟩, ⟨l2, k2⟩, ⟨l3, k3⟩, ⟨l4, k4⟩, ⟨l5, k5⟩, ⟨l6, k6⟩, ⟨l7, k7⟩, ⟨l8, k8⟩, ⟨l9, k9⟩, ⟨l10, k10⟩, ⟨l11, k11⟩, ⟨l12, k12⟩, ⟨l13, k13⟩, ⟨l14, k14⟩, ⟨l15, k15⟩, ⟨l16, k16⟩, ⟨l17, k17⟩, ⟨l18, k18⟩⟩ := kk))
                  go_ret
                  exact ⟨rfl, hS.1⟩
                | true =>
                  have HIc2 := Lib.hid (HIc.out rfl)
                  have Hk2 := Lib.hid (Hk.out rfl)
                  go_wp2_with (first | (go_at_call 47; with_reducible refine (Hr.out _).mono ?_; rintro e w1 ⟨rfl, hb⟩; replace hS := Held.keep hb hS; clear hb kB k0 l0 k1 l1 k2 l2 k3 l3 k4 l4 k5 l5 k6 l6 k7 l7 k8 l8 k9 l9 k10 l10 k11 l11 k12 l12 k13 l13 k14 l14 k15 l15 k16 l16 k17 l17 k18 l18; obtain ⟨kB, kk⟩ := Held.open hS; simp only [List.forall_mem_cons, List.not_mem_nil, false_implies, implies_true, and_true] at kk; obtain ⟨⟨l0, k0⟩, ⟨l1, k1⟩, ⟨l2, k2⟩, ⟨l3, k3⟩, ⟨l4, k4⟩, ⟨l5, k5⟩, ⟨l6, k6⟩, ⟨l7, k7⟩, ⟨l8, k8⟩, ⟨l9, k9⟩, ⟨l10, k10⟩, ⟨l11, k11⟩, ⟨l12, k12⟩, ⟨l13, k13⟩, ⟨l14, k14⟩, ⟨l15, k15⟩, ⟨l16, k16⟩, ⟨l17, k17⟩, ⟨l18, k18⟩⟩ := kk) | (go_at_call 45; with_reducible refine (HIc2.out _).mono ?_; rintro e w1 ⟨rfl, hb⟩; replace hS := Held.keep hb hS; clear hb kB k0 l0 k1 l1 k2 l2 k3 l3 k4 l4 k5 l5 k6 l6 k7 l7 k8 l8 k9 l9 k10 l10 k11 l11 k12 l12 k13 l13 k14 l14 k15 l15 k16 l16 k17 l17 k18 l18; obtain ⟨kB, kk⟩ := Held.open hS; simp only [List.forall_mem_cons, List.not_mem_nil, false_implies, implies_true, and_true] at kk; obtain ⟨⟨l0, k0⟩, ⟨l1, k1⟩, ⟨l2, k2⟩, ⟨l3, k3⟩, ⟨l4, k4⟩, ⟨l5, k5⟩, ⟨l6, k6⟩, ⟨l7, k7⟩, ⟨l8, k8⟩, ⟨l9, k9⟩, ⟨l10, k10⟩, ⟨l11, k11⟩, ⟨l12, k12⟩, ⟨l13, k13⟩, ⟨l14, k14⟩, ⟨l15, k15⟩, ⟨l16, k16⟩, ⟨l17, k17⟩, ⟨l18, k18⟩⟩ := kk) | (go_at_call 47; with_reducible refine (Hk2.out _).mono ?_; rintro e w1 ⟨rfl, hb⟩; replace hS := Held.keep hb hS; clear hb kB k0 l0 k1 l1 k2 l2 k3 l3 k4 l4 k5 l5 k6 l6 k7 l7 k8 l8 k9 l9 k10 l10 k11 l11 k12 l12 k13 l13 k14 l14 k15 l15 k16 l16 k17 l17 k18 l18; obtain ⟨kB, kk⟩ := Held.open hS; simp only [List.forall_mem_cons, List.not_mem_nil, false_implies, implies_true, and_true] at kk; obtain ⟨⟨l0, k0⟩, ⟨l1, k1⟩, ⟨l2, k2⟩, ⟨l3, k3⟩, ⟨l4, k4⟩, ⟨l5, k5⟩, ⟨l6, k6⟩, ⟨l7, k7⟩, ⟨l8, k8⟩, ⟨l9, k9⟩, ⟨l10, k10⟩, ⟨l11, k11⟩, ⟨l12, k12⟩, ⟨l13, k13⟩, ⟨l14, k14⟩, ⟨l15, k15⟩, ⟨l16, k16⟩, ⟨l17, k17⟩, ⟨l18, k18⟩⟩ := kk) | (go_at_call 18; with_reducible refine (HAw.out _).mono ?_; rintro e w1 ⟨rfl, hb⟩; replace hS := Held.keep hb hS; clear hb kB k0 l0 k1 l1 k2 l2 k3 l3 k4 l4 k5 l5 k6 l6 k7 l7 k8 l8 k9 l9 k10 l10 k11 l11 k12 l12 k13 l13 k14 l14 k15 l15 k16 l16 k17 l17 k18 l18; obtain ⟨kB, kk⟩ := Held.open hS; simp only [List.forall_mem_cons, List.not_mem_nil, false_implies, implies_true, and_true] at kk; obtain ⟨⟨l0, k0⟩, ⟨l1, k1⟩, ⟨l2, k2⟩, ⟨l3, k3⟩, ⟨l4, k4⟩, ⟨l5, k5⟩, ⟨l6, k6⟩, ⟨l7, k7⟩, ⟨l8, k8⟩, ⟨l9, k9⟩, ⟨l10, k10⟩, ⟨l11, k11⟩, ⟨l12, k12⟩, ⟨l13, k13⟩, ⟨l14, k14⟩, ⟨l15, k15⟩, ⟨l16, k16⟩, ⟨l17, k17⟩, ⟨l18, k18⟩⟩ := kk))
                  go_ret
                  exact ⟨rfl, hS.1⟩
            | true =>
              have HIu2 := Lib.hid (HIu.out (hc rfl))
              have HIv2 := Lib.hid (HIv.out (hc rfl))
              clear hc
              go_upto_region 17 with (first | (go_at_call 45; with_reducible refine (HIu2.out _).mono ?_; rintro e w1 ⟨rfl, hb⟩; replace hS := Held.keep hb hS; clear hb kB k0 l0 k1 l1 k2 l2 k3 l3 k4 l4 k5 l5 k6 l6 k7 l7 k8 l8 k9 l9 k10 l10 k11 l11 k12 l12 k13 l13; obtain ⟨kB, kk⟩ := Held.open hS; simp only [List.forall_mem_cons, List.not_mem_nil, false_implies, implies_true, and_true] at kk; obtain ⟨⟨l0, k0⟩, ⟨l1, k1⟩, ⟨l2, k2⟩, ⟨l3, k3⟩, ⟨l4, k4⟩, ⟨l5, k5⟩, ⟨l6, k6⟩, ⟨l7, k7⟩, ⟨l8, k8⟩, ⟨l9, k9⟩, ⟨l10, k10⟩, ⟨l11, k11⟩, ⟨l12, k12⟩, ⟨l13, k13⟩⟩ := kk) | (go_at_call 45; with_reducible refine (HIv2.out _).mono ?_; rintro e w1 ⟨rfl, hb⟩; replace hS := Held.keep hb hS; clear hb kB k0 l0 k1 l1 k2 l2 k3 l3 k4 l4 k5 l5 k6 l6 k7 l7 k8 l8 k9 l9 k10 l10 k11 l11 k12 l12 k13 l13; obtain ⟨kB, kk⟩ := Held.open hS; simp only [List.forall_mem_cons, List.not_mem_nil, false_implies, implies_true, and_true] at kk; obtain ⟨⟨l0, k0⟩, ⟨l1, k1⟩, ⟨l2, k2⟩, ⟨l3, k3⟩, ⟨l4, k4⟩, ⟨l5, k5⟩, ⟨l6, k6⟩, ⟨l7, k7⟩, ⟨l8, k8⟩, ⟨l9, k9⟩, ⟨l10, k10⟩, ⟨l11, k11⟩, ⟨l12, k12⟩, ⟨l13, k13⟩⟩ := kk))
              try clear hKK KK
              clear kB k0 l0 k1 l1 k2 l2 k3 l3 k4 l4 k5 l5 k6 l6 k7 l7 k8 l8 k9 l9 k10 l10 k11 l11 k12 l12 k13 l13
              go_cut [19, 20] from 182 to 187 (fun s19 s20 wc => ∃ n19 n20 : Nat, s19 = .pointer (some ⟨n19, 0, none⟩) ∧ s20 = .pointer (some ⟨n20, 0, none⟩) ∧ Held w [(n19, 0, .bool c0), (n19, 1, .int .i64 c1), (n19, 2, .int .i64 c2), (n20, 0, .int .i64 k1), (n20, 1, .int .i64 k2), (n17, 0, .bool u0), (n17, 1, .int .i64 u1), (n17, 2, .int .i64 u2), (n18, 0, .bool v0), (n18, 1, .int .i64 v1), (n18, 2, .int .i64 v2), (w.heap.size, 0, .bool a0), (w.heap.size, 1, .int .i64 a1), (w.heap.size, 2, .int .i64 a2), (w.heap.size + 1, 0, .bool b0), (w.heap.size + 1, 1, .int .i64 b1), (w.heap.size + 1, 2, .int .i64 b2), (w.heap.size + 1 + 1, 0, .int .i64 t1), (w.heap.size + 1 + 1, 1, .int .i64 t2)] wc)
              case first =>
                obtain ⟨kB, kk⟩ := Held.open hS; simp only [List.forall_mem_cons, List.not_mem_nil, false_implies, implies_true, and_true] at kk; obtain ⟨⟨l0, k0⟩, ⟨l1, k1⟩, ⟨l2, k2⟩, ⟨l3, k3⟩, ⟨l4, k4⟩, ⟨l5, k5⟩, ⟨l6, k6⟩, ⟨l7, k7⟩, ⟨l8, k8⟩, ⟨l9, k9⟩, ⟨l10, k10⟩, ⟨l11, k11⟩, ⟨l12, k12⟩, ⟨l13, k13⟩⟩ := kk
                go_wp2_with (go_at_call 26; with_reducible refine (HG.out _).mono ?_; rintro e w1 ⟨rfl, hb⟩; replace hS := Held.keep hb hS; clear hb kB k0 l0 k1 l1 k2 l2 k3 l3 k4 l4 k5 l5 k6 l6 k7 l7 k8 l8 k9 l9 k10 l10 k11 l11 k12 l12 k13 l13; obtain ⟨kB, kk⟩ := Held.open hS; simp only [List.forall_mem_cons, List.not_mem_nil, false_implies, implies_true, and_true] at kk; obtain ⟨⟨l0, k0⟩, ⟨l1, k1⟩, ⟨l2, k2⟩, ⟨l3, k3⟩, ⟨l4, k4⟩, ⟨l5, k5⟩, ⟨l6, k6⟩, ⟨l7, k7⟩, ⟨l8, k8⟩, ⟨l9, k9⟩, ⟨l10, k10⟩, ⟨l11, k11⟩, ⟨l12, k12⟩, ⟨l13, k13⟩⟩ := kk)
                go_meet
                refine ⟨_, _, rfl, rfl, ?_⟩
                refine Held.cons ?_ ?_ (Held.cons ?_ ?_ (Held.cons ?_ ?_ (Held.cons ?_ ?_ (Held.cons ?_ ?_ (Held.alloc _ (Held.alloc _ hS))))))
                all_goals go_simp
              case rest KK hKK =>
                obtain ⟨n19, n20, rfl, rfl, hS⟩ := hcut
                obtain ⟨kB, kk⟩ := Held.open hS; simp only [List.forall_mem_cons, List.not_mem_nil, false_implies, implies_true, and_true] at kk; obtain ⟨⟨l0, k0⟩, ⟨l1, k1⟩, ⟨l2, k2⟩, ⟨l3, k3⟩, ⟨l4, k4⟩, ⟨l5, k5⟩, ⟨l6, k6⟩, ⟨l7, k7⟩, ⟨l8, k8⟩, ⟨l9, k9⟩, ⟨l10, k10⟩, ⟨l11, k11⟩, ⟨l12, k12⟩, ⟨l13, k13⟩, ⟨l14, k14⟩, ⟨l15, k15⟩, ⟨l16, k16⟩, ⟨l17, k17⟩, ⟨l18, k18⟩⟩ := kk
                have Hr2 := Hr
                cases r with
                | false =>
                  go_wp2_with (first | (go_at_call 47; with_reducible refine (Hr.out _).mono ?_; rintro e w1 ⟨rfl, hb⟩; replace hS := Held.keep hb hS; clear hb kB k0 l0 k1 l1 k2 l2 k3 l3 k4 l4 k5 l5 k6 l6 k7 l7 k8 l8 k9 l9 k10 l10 k11 l11 k12 l12 k13 l13 k14 l14 k15 l15 k16 l16 k17 l17 k18 l18; obtain ⟨kB, kk⟩ := Held.open hS; simp only [List.forall_mem_cons, List.not_mem_nil, false_implies, implies_true, and_true] at kk; obtain ⟨⟨l0, k0⟩, ⟨l1, k1⟩, ⟨l2, k2⟩, ⟨l3, k3⟩, ⟨l4, k4⟩, ⟨l5, k5⟩, ⟨l6, k6⟩, ⟨l7, k7⟩, ⟨l8, k8⟩, ⟨l9, k9⟩, ⟨l10, k10⟩, ⟨l11, k11⟩, ⟨l12, k12⟩, ⟨l13, k13⟩, ⟨l14, k14⟩, ⟨l15, k15⟩, ⟨l16, k16⟩, ⟨l17, k17⟩, ⟨l18, k18⟩⟩ := kk) | (go_at_call 18; with_reducible refine (HAw.out _).mono ?_; rintro e w1 ⟨rfl, hb⟩; replace hS := Held.keep hb hS; clear hb kB k0 l0 k1 l1 k2 l2 k3 l3 k4 l4 k5 l5 k6 l6 k7 l7 k8 l8 k9 l9 k10 l10 k11 l11 k12 l12 k13 l13 k14 l14 k15 l15 k16 l16 k17 l17 k18 l18; obtain ⟨kB, kk⟩ := Held.open hS; simp only [List.forall_mem_cons, List.not_mem_nil, false_implies, implies_true, and_true] at kk; obtain ⟨⟨l0, k0⟩, ⟨l1, k1⟩, ⟨l2, k2⟩, ⟨l3, k3⟩, ⟨l4, k4⟩, ⟨l5, k5⟩, ⟨l6, k6⟩, ⟨l7, k7⟩, ⟨l8, k8⟩, ⟨l9, k9⟩, ⟨l10, k10⟩, ⟨l11, k11⟩, ⟨l12, k12⟩, ⟨l13, k13⟩, ⟨l14, k14⟩, ⟨l15, k15⟩, ⟨l16, k16⟩, ⟨l17, k17⟩, ⟨l18, k18⟩⟩ := kk))
                  go_ret
                  exact ⟨rfl, hS.1⟩
                | true =>
                  have HIc2 := Lib.hid (HIc.out rfl)
                  have Hk2 := Lib.hid (Hk.out rfl)
                  go_wp2_with (first | (go_at_call 47; with_reducible refine (Hr.out _).mono ?_; rintro e w1 ⟨rfl, hb⟩; replace hS := Held.keep hb hS; clear hb kB k0 l0 k1 l1 k2 l2 k3 l3 k4 l4 k5 l5 k6 l6 k7 l7 k8 l8 k9 l9 k10 l10 k11 l11 k12 l12 k13 l13 k14 l14 k15 l15 k16 l16 k17 l17 k18 l18; obtain ⟨kB, kk⟩ := Held.open hS; simp only [List.forall_mem_cons, List.not_mem_nil, false_implies, implies_true, and_true] at kk; obtain ⟨⟨l0, k0⟩, ⟨l1, k1⟩, ⟨l2, k2⟩, ⟨l3, k3⟩, ⟨l4, k4⟩, ⟨l5, k5⟩, ⟨l6, k6⟩, ⟨l7, k7⟩, ⟨l8, k8⟩, ⟨l9, k9⟩, ⟨l10, k10⟩, ⟨l11, k11⟩, ⟨l12, k12⟩, ⟨l13, k13⟩, ⟨l14, k14⟩, ⟨l15, k15⟩, ⟨l16, k16⟩, ⟨l17, k17⟩, ⟨l18, k18⟩⟩ := kk) | (go_at_call 45; with_reducible refine (HIc2.out _).mono ?_; rintro e w1 ⟨rfl, hb⟩; replace hS := Held.keep hb hS; clear hb kB k0 l0 k1 l1 k2 l2 k3 l3 k4 l4 k5 l5 k6 l6 k7 l7 k8 l8 k9 l9 k10 l10 k11 l11 k12 l12 k13 l13 k14 l14 k15 l15 k16 l16 k17 l17 k18 l18; obtain ⟨kB, kk⟩ := Held.open hS; simp only [List.forall_mem_cons, List.not_mem_nil, false_implies, implies_true, and_true] at kk; obtain ⟨⟨l0, k0⟩, ⟨l1, k1⟩, ⟨l2, k2⟩, ⟨l3, k3⟩, ⟨l4, k4⟩, ⟨l5, k5⟩, ⟨l6, k6⟩, ⟨l7, k7⟩, ⟨l8, k8⟩, ⟨l9, k9⟩, ⟨l10, k10⟩, ⟨l11, k11⟩, ⟨l12, k12⟩, ⟨l13, k13⟩, ⟨l14, k14⟩, ⟨l15, k15⟩, ⟨l16, k16⟩, ⟨l17, k17⟩, ⟨l18, k18⟩⟩ := kk) | (go_at_call 47; with_reducible refine (Hk2.out _).mono ?_; rintro e w1 ⟨rfl, hb⟩; replace hS := Held.keep hb hS; clear hb kB k0 l0 k1 l1 k2 l2 k3 l3 k4 l4 k5 l5 k6 l6 k7 l7 k8 l8 k9 l9 k10 l10 k11 l11 k12 l12 k13 l13 k14 l14 k15 l15 k16 l16 k17 l17 k18 l18; obtain ⟨kB, kk⟩ := Held.open hS; simp only [List.forall_mem_cons, List.not_mem_nil, false_implies, implies_true, and_true] at kk; obtain ⟨⟨l0, k0⟩, ⟨l1, k1⟩, ⟨l2, k2⟩, ⟨l3, k3⟩, ⟨l4, k4⟩, ⟨l5, k5⟩, ⟨l6, k6⟩, ⟨l7, k7⟩, ⟨l8, k8⟩, ⟨l9, k9⟩, ⟨l10, k10⟩, ⟨l11, k11⟩, ⟨l12, k12⟩, ⟨l13, k13⟩, ⟨l14, k14⟩, ⟨l15, k15⟩, ⟨l16, k16⟩, ⟨l17, k17⟩, ⟨l18, k18⟩⟩ := kk) | (go_at_call 18; with_reducible refine (HAw.out _).mono ?_; rintro e w1 ⟨rfl, hb⟩; replace hS := Held.keep hb hS; clear hb kB k0 l0 k1 l1 k2 l2 k3 l3 k4 l4 k5 l5 k6 l6 k7 l7 k8 l8 k9 l9 k10 l10 k11 l11 k12 l12 k13 l13 k14 l14 k15 l15 k16 l16 k17 l17 k18 l18; obtain ⟨kB, kk⟩ := Held.open hS; simp only [List.forall_mem_cons, List.not_mem_nil, false_implies, implies_true, and_true] at kk; obtain ⟨⟨l0, k0⟩, ⟨l1, k1⟩, ⟨l2, k2⟩, ⟨l3, k3⟩, ⟨l4, k4⟩, ⟨l5, k5⟩, ⟨l6, k6⟩, ⟨l7, k7⟩, ⟨l8, k8⟩, ⟨l9, k9⟩, ⟨l10, k10⟩, ⟨l11, k11⟩, ⟨l12, k12⟩, ⟨l13, k13⟩, ⟨l14, k14⟩, ⟨l15, k15⟩, ⟨l16, k16⟩, ⟨l17, k17⟩, ⟨l18, k18⟩⟩ := kk))
                  go_ret
                  exact ⟨rfl, hS.1⟩
end Go.Proofs.YtfmmjekhknaniaaDoor.Sd

