/- This claim's own texts, joined, with only what the claim uses: MonoA. -/
import Derived.Test.YtfmmjekhknaniaaDoorMonoP10
namespace Go.Proofs.YtfmmjekhknaniaaDoor.Mn
open Go.RowKit Lk
set_option linter.unusedSimpArgs false
attribute [local go_sem high] eqS23 eqS38
set_option maxRecDepth 100000 in
set_option maxHeartbeats 16000000 in
theorem start6 (w : World) (a0 b0 c0 d0 : Bool) (a1 a2 b1 b2 c1 c2 d1 d2 i1 i2 r1 r2 : Int) (W : World) (hW : W = ((((((w.alloc (.cells #[.bool a0, .int .i64 a1, .int .i64 a2] 23)).alloc (.cells #[.bool b0, .int .i64 b1, .int .i64 b2] 23)).alloc (.cells #[.bool c0, .int .i64 c1, .int .i64 c2] 23)).alloc (.cells #[.bool d0, .int .i64 d1, .int .i64 d2] 23)).alloc (.cells #[.int .i64 i1, .int .i64 i2] 38)).alloc (.cells #[.int .i64 r1, .int .i64 r2] 38))) : Held w [(w.heap.size, 0, .bool a0), (w.heap.size, 1, .int .i64 a1), (w.heap.size, 2, .int .i64 a2), (w.heap.size + 1, 0, .bool b0), (w.heap.size + 1, 1, .int .i64 b1), (w.heap.size + 1, 2, .int .i64 b2), (w.heap.size + 1 + 1, 0, .bool c0), (w.heap.size + 1 + 1, 1, .int .i64 c1), (w.heap.size + 1 + 1, 2, .int .i64 c2), (w.heap.size + 1 + 1 + 1, 0, .bool d0), (w.heap.size + 1 + 1 + 1, 1, .int .i64 d1), (w.heap.size + 1 + 1 + 1, 2, .int .i64 d2), (w.heap.size + 1 + 1 + 1 + 1, 0, .int .i64 i1), (w.heap.size + 1 + 1 + 1 + 1, 1, .int .i64 i2), (w.heap.size + 1 + 1 + 1 + 1 + 1, 0, .int .i64 r1), (w.heap.size + 1 + 1 + 1 + 1 + 1, 1, .int .i64 r2)] W := by
 subst hW
 refine ⟨(Below.alloc (Below.alloc (Below.alloc (Below.alloc (Below.alloc (Below.alloc (Below.refl _ _) (by simp <;> omega) _) (by simp <;> omega) _) (by simp <;> omega) _) (by simp <;> omega) _) (by simp <;> omega) _) (by simp <;> omega) _), ?_⟩
 simp only [List.forall_mem_cons, List.not_mem_nil, false_implies, implies_true, and_true]
 refine ⟨⟨by simp <;> omega, by go_simp⟩, ⟨by simp <;> omega, by go_simp⟩, ⟨by simp <;> omega, by go_simp⟩, ⟨by simp <;> omega, by go_simp⟩, ⟨by simp <;> omega, by go_simp⟩, ⟨by simp <;> omega, by go_simp⟩, ⟨by simp <;> omega, by go_simp⟩, ⟨by simp <;> omega, by go_simp⟩, ⟨by simp <;> omega, by go_simp⟩, ⟨by simp <;> omega, by go_simp⟩, ⟨by simp <;> omega, by go_simp⟩, ⟨by simp <;> omega, by go_simp⟩, ⟨by simp <;> omega, by go_simp⟩, ⟨by simp <;> omega, by go_simp⟩, ⟨by simp <;> omega, by go_simp⟩, ⟨by simp <;> omega, by go_simp⟩⟩
set_option maxRecDepth 100000 in
set_option maxHeartbeats 16000000 in
theorem bad_a (op : Int) (a0 b0 c0 d0 : Bool) (a1 a2 b1 b2 c1 c2 d1 d2 i1 i2 r1 r2 : Int)
  (hFa : ∀ w, Calls Tryd.prog 13 #[.agg #[.bool a0, .int .i64 a1, .int .i64 a2]] w fun e w' => e = .returned (.bool false) ∧ Below w.heap.size w w')
  (hAw : ∀ w, Calls Tryd.prog 18 #[] w fun e w' => e = .returned (.bool true) ∧ Below w.heap.size w w') (w : World) :
  Calls Tryd.prog 9 #[.agg #[.bool a0, .int .i64 a1, .int .i64 a2], .agg #[.bool b0, .int .i64 b1, .int .i64 b2], .agg #[.bool c0, .int .i64 c1, .int .i64 c2], .agg #[.bool d0, .int .i64 d1, .int .i64 d2], .int .i64 op, .agg #[.int .i64 i1, .int .i64 i2], .agg #[.int .i64 r1, .int .i64 r2]] w fun e w' => e = .returned (.bool true) ∧ Below w.heap.size w w' := by
 have HFa := Lib.hid hFa
 clear hFa
 have HAw := Lib.hid hAw
 clear hAw
 have hS := start6 w a0 b0 c0 d0 a1 a2 b1 b2 c1 c2 d1 d2 i1 i2 r1 r2 _ rfl
 go_enter Tryd.func9, Tryd.ntmps9
 go_upto_region 1 with fail
 refine wp_region_held_drew (S := (fun w' => Held w [(w.heap.size, 0, .bool a0), (w.heap.size, 1, .int .i64 a1), (w.heap.size, 2, .int .i64 a2), (w.heap.size + 1, 0, .bool b0), (w.heap.size + 1, 1, .int .i64 b1), (w.heap.size + 1, 2, .int .i64 b2), (w.heap.size + 1 + 1, 0, .bool c0), (w.heap.size + 1 + 1, 1, .int .i64 c1), (w.heap.size + 1 + 1, 2, .int .i64 c2), (w.heap.size + 1 + 1 + 1, 0, .bool d0), (w.heap.size + 1 + 1 + 1, 1, .int .i64 d1), (w.heap.size + 1 + 1 + 1, 2, .int .i64 d2), (w.heap.size + 1 + 1 + 1 + 1, 0, .int .i64 i1), (w.heap.size + 1 + 1 + 1 + 1, 1, .int .i64 i2), (w.heap.size + 1 + 1 + 1 + 1 + 1, 0, .int .i64 r1), (w.heap.size + 1 + 1 + 1 + 1 + 1, 1, .int .i64 r2)] w')) (by kernel_rfl) (Held.drew hS) (fun hHeld => ?_)
 refine wpAnyH_take (i := 0) (v := .agg #[.bool a0, .int .i64 a1, .int .i64 a2]) rfl (by kernel_rfl) (by kernel_rfl) (by kernel_rfl) (fun _ _ _ h => h) (Or.inl ⟨by kernel_rfl, fun w hSw => by simp only [Held, List.forall_mem_cons, List.not_mem_nil, false_implies, implies_true, and_true] at hSw; go_simp⟩) (by assumption) ?_
 try simp only [Act.put, lA, lB, lC]
 refine wpAnyH_ready (rs := [1]) (by kernel_rfl) (by simp) ?_
 refine AllReadyH.cons rfl (fun K hK => ?_) AllReadyH.nil
 go_simp
 go_at_call 13; with_reducible refine (HFa.out _).mono ?_; rintro e w1 ⟨rfl, hb⟩
 refine hK.out _ _ (Held.keep hb (by assumption)) (fun hHeld => ?_)
 clear hK K hb
 try simp only [Act.put, lA, lB, lC]
 refine wpAnyH_take (i := 2) (v := .bool true) rfl (by kernel_rfl) (by kernel_rfl) (by kernel_rfl) (fun _ _ _ h => h) (Or.inl ⟨by kernel_rfl, fun w hSw => by (try dsimp only at hSw); go_simp⟩) (by assumption) ?_
 try simp only [Act.put, lA, lB, lC]
 refine wpAnyH_take (i := 3) (v := .bool true) rfl (by kernel_rfl) (by kernel_rfl) (by kernel_rfl) (fun _ _ _ h => h) (Or.inl ⟨by kernel_rfl, fun w hSw => by (try dsimp only at hSw); go_simp⟩) (by assumption) ?_
 try simp only [Act.put, lA, lB, lC]
 refine wpAnyH_take (i := 4) (v := undef) rfl (by kernel_rfl) (by kernel_rfl) (by kernel_rfl) (fun _ _ _ h => h) (Or.inr ⟨by kernel_rfl, by kernel_rfl⟩) (by assumption) ?_
 try simp only [Act.put, lA, lB, lC]
 refine wpAnyH_ready (rs := [5]) (by kernel_rfl) (by simp) ?_
 refine AllReadyH.cons rfl (fun K hK => ?_) AllReadyH.nil
 go_simp
 refine hK.out _ _ (by assumption) (fun hHeld => ?_)
 clear hK K
 try simp only [Act.put, lA, lB, lC]
 refine wpAnyH_take (i := 6) (v := undef) rfl (by kernel_rfl) (by kernel_rfl) (by kernel_rfl) (fun _ _ _ h => h) (Or.inr ⟨by kernel_rfl, by kernel_rfl⟩) (by assumption) ?_
 try simp only [Act.put, lA, lB, lC]
 refine wpAnyH_take (i := 7) (v := .bool true) rfl (by kernel_rfl) (by kernel_rfl) (by kernel_rfl) (fun _ _ _ h => h) (Or.inl ⟨by kernel_rfl, fun w hSw => by (try dsimp only at hSw); go_simp⟩) (by assumption) ?_
 try simp only [Act.put, lA, lB, lC]
 refine wpAnyH_take (i := 8) (v := .bool true) rfl (by kernel_rfl) (by kernel_rfl) (by kernel_rfl) (fun _ _ _ h => h) (Or.inl ⟨by kernel_rfl, fun w hSw => by (try dsimp only at hSw); go_simp⟩) (by assumption) ?_
 try simp only [Act.put, lA, lB, lC]
 refine wpAnyH_take (i := 9) (v := undef) rfl (by kernel_rfl) (by kernel_rfl) (by kernel_rfl) (fun _ _ _ h => h) (Or.inr ⟨by kernel_rfl, by kernel_rfl⟩) (by assumption) ?_
 try simp only [Act.put, lA, lB, lC]
 refine wpAnyH_ready (rs := [10]) (by kernel_rfl) (by simp) ?_
 refine AllReadyH.cons rfl (fun K hK => ?_) AllReadyH.nil
 go_simp
 refine hK.out _ _ (by assumption) (fun hHeld => ?_)
 clear hK K
 try simp only [Act.put, lA, lB, lC]
 refine wpAnyH_take (i := 11) (v := undef) rfl (by kernel_rfl) (by kernel_rfl) (by kernel_rfl) (fun _ _ _ h => h) (Or.inr ⟨by kernel_rfl, by kernel_rfl⟩) (by assumption) ?_
 try simp only [Act.put, lA, lB, lC]
 refine wpAnyH_take (i := 12) (v := .bool true) rfl (by kernel_rfl) (by kernel_rfl) (by kernel_rfl) (fun _ _ _ h => h) (Or.inl ⟨by kernel_rfl, fun w hSw => by (try dsimp only at hSw); go_simp⟩) (by assumption) ?_
 try simp only [Act.put, lA, lB, lC]
 refine wpAnyH_take (i := 13) (v := .bool true) rfl (by kernel_rfl) (by kernel_rfl) (by kernel_rfl) (fun _ _ _ h => h) (Or.inl ⟨by kernel_rfl, fun w hSw => by (try dsimp only at hSw); go_simp⟩) (by assumption) ?_
 try simp only [Act.put, lA, lB, lC]
 refine wpAnyH_take (i := 14) (v := undef) rfl (by kernel_rfl) (by kernel_rfl) (by kernel_rfl) (fun _ _ _ h => h) (Or.inr ⟨by kernel_rfl, by kernel_rfl⟩) (by assumption) ?_
 try simp only [Act.put, lA, lB, lC]
 refine wpAnyH_ready (rs := [15]) (by kernel_rfl) (by simp) ?_
 refine AllReadyH.cons rfl (fun K hK => ?_) AllReadyH.nil
 go_simp
 refine hK.out _ _ (by assumption) (fun hHeld => ?_)
 clear hK K
 try simp only [Act.put, lA, lB, lC]
 refine wpAnyH_take (i := 16) (v := undef) rfl (by kernel_rfl) (by kernel_rfl) (by kernel_rfl) (fun _ _ _ h => h) (Or.inr ⟨by kernel_rfl, by kernel_rfl⟩) (by assumption) ?_
 try simp only [Act.put, lA, lB, lC]
 refine wpAnyH_take (i := 17) (v := .bool true) rfl (by kernel_rfl) (by kernel_rfl) (by kernel_rfl) (fun _ _ _ h => h) (Or.inl ⟨by kernel_rfl, fun w hSw => by (try dsimp only at hSw); go_simp⟩) (by assumption) ?_
 try simp only [Act.put, lA, lB, lC]
 refine wpAnyH_take (i := 18) (v := .bool true) rfl (by kernel_rfl) (by kernel_rfl) (by kernel_rfl) (fun _ _ _ h => h) (Or.inl ⟨by kernel_rfl, fun w hSw => by (try dsimp only at hSw); go_simp⟩) (by assumption) ?_
 try simp only [Act.put, lA, lB, lC]
 refine wpAnyH_take (i := 19) (v := undef) rfl (by kernel_rfl) (by kernel_rfl) (by kernel_rfl) (fun _ _ _ h => h) (Or.inr ⟨by kernel_rfl, by kernel_rfl⟩) (by assumption) ?_
 try simp only [Act.put, lA, lB, lC]
 refine wpAnyH_take (i := 20) (v := undef) rfl (by kernel_rfl) (by kernel_rfl) (by kernel_rfl) (fun _ _ _ h => h) (Or.inr ⟨by kernel_rfl, by kernel_rfl⟩) (by assumption) ?_
 try simp only [Act.put, lA, lB, lC]
 refine wpAnyH_take (i := 21) (v := undef) rfl (by kernel_rfl) (by kernel_rfl) (by kernel_rfl) (fun _ _ _ h => h) (Or.inr ⟨by kernel_rfl, by kernel_rfl⟩) (by assumption) ?_
 try simp only [Act.put, lA, lB, lC]
 refine wpAnyH_take (i := 22) (v := undef) rfl (by kernel_rfl) (by kernel_rfl) (by kernel_rfl) (fun _ _ _ h => h) (Or.inr ⟨by kernel_rfl, by kernel_rfl⟩) (by assumption) ?_
 try simp only [Act.put, lA, lB, lC]
 refine wpAnyH_take (i := 23) (v := undef) rfl (by kernel_rfl) (by kernel_rfl) (by kernel_rfl) (fun _ _ _ h => h) (Or.inr ⟨by kernel_rfl, by kernel_rfl⟩) (by assumption) ?_
 try simp only [Act.put, lA, lB, lC]
 refine wpAnyH_ready (rs := [24]) (by kernel_rfl) (by simp) ?_
 refine AllReadyH.cons rfl (fun K hK => ?_) AllReadyH.nil
 go_simp
 refine hK.out _ _ (by assumption) (fun hHeld => ?_)
 clear hK K
 try simp only [Act.put, lA, lB, lC]
 refine wpAnyH_take (i := 25) (v := undef) rfl (by kernel_rfl) (by kernel_rfl) (by kernel_rfl) (fun _ _ _ h => h) (Or.inr ⟨by kernel_rfl, by kernel_rfl⟩) (by assumption) ?_
 try simp only [Act.put, lA, lB, lC]
 refine wpAnyH_take (i := 26) (v := .bool true) rfl (by kernel_rfl) (by kernel_rfl) (by kernel_rfl) (fun _ _ _ h => h) (Or.inl ⟨by kernel_rfl, fun w hSw => by (try dsimp only at hSw); go_simp⟩) (by assumption) ?_
 try simp only [Act.put, lA, lB, lC]
 refine wpAnyH_take (i := 27) (v := .bool true) rfl (by kernel_rfl) (by kernel_rfl) (by kernel_rfl) (fun _ _ _ h => h) (Or.inl ⟨by kernel_rfl, fun w hSw => by (try dsimp only at hSw); go_simp⟩) (by assumption) ?_
 try simp only [Act.put, lA, lB, lC]
 refine wpAnyH_take (i := 28) (v := undef) rfl (by kernel_rfl) (by kernel_rfl) (by kernel_rfl) (fun _ _ _ h => h) (Or.inr ⟨by kernel_rfl, by kernel_rfl⟩) (by assumption) ?_
 try simp only [Act.put, lA, lB, lC]
 refine wpAnyH_take (i := 29) (v := undef) rfl (by kernel_rfl) (by kernel_rfl) (by kernel_rfl) (fun _ _ _ h => h) (Or.inr ⟨by kernel_rfl, by kernel_rfl⟩) (by assumption) ?_
 try simp only [Act.put, lA, lB, lC]
 refine wpAnyH_take (i := 30) (v := undef) rfl (by kernel_rfl) (by kernel_rfl) (by kernel_rfl) (fun _ _ _ h => h) (Or.inr ⟨by kernel_rfl, by kernel_rfl⟩) (by assumption) ?_
 try simp only [Act.put, lA, lB, lC]
 refine wpAnyH_take (i := 31) (v := undef) rfl (by kernel_rfl) (by kernel_rfl) (by kernel_rfl) (fun _ _ _ h => h) (Or.inr ⟨by kernel_rfl, by kernel_rfl⟩) (by assumption) ?_
 try simp only [Act.put, lA, lB, lC]
 refine wpAnyH_take (i := 32) (v := undef) rfl (by kernel_rfl) (by kernel_rfl) (by kernel_rfl) (fun _ _ _ h => h) (Or.inr ⟨by kernel_rfl, by kernel_rfl⟩) (by assumption) ?_
 try simp only [Act.put, lA, lB, lC]
 refine wpAnyH_ready (rs := [33]) (by kernel_rfl) (by simp) ?_
 refine AllReadyH.cons rfl (fun K hK => ?_) AllReadyH.nil
 go_simp
 refine hK.out _ _ (by assumption) (fun hHeld => ?_)
 clear hK K
 try simp only [Act.put, lA, lB, lC]
 refine wpAnyH_take (i := 34) (v := undef) rfl (by kernel_rfl) (by kernel_rfl) (by kernel_rfl) (fun _ _ _ h => h) (Or.inr ⟨by kernel_rfl, by kernel_rfl⟩) (by assumption) ?_
 try simp only [Act.put, lA, lB, lC]
 refine wpAnyH_take (i := 35) (v := .bool true) rfl (by kernel_rfl) (by kernel_rfl) (by kernel_rfl) (fun _ _ _ h => h) (Or.inl ⟨by kernel_rfl, fun w hSw => by (try dsimp only at hSw); go_simp⟩) (by assumption) ?_
 try simp only [Act.put, lA, lB, lC]
 refine wpAnyH_done (by kernel_rfl) ?_ _
 simp only [Act.put, List.getElem_toArray, List.getElem_cons_succ, List.getElem_cons_zero, lA, lB, lC]
 have hS1 := hHeld
 clear hHeld
 go_wp2_with (first | (go_at_call 18; with_reducible refine (HAw.out _).mono ?_; rintro e w1 ⟨rfl, hb⟩; replace hS1 := Held.keep hb hS1))
 go_ret
 exact ⟨rfl, hS1.1⟩
set_option maxRecDepth 100000 in
set_option maxHeartbeats 16000000 in
theorem bad_b (op : Int) (a0 b0 c0 d0 : Bool) (a1 a2 b1 b2 c1 c2 d1 d2 i1 i2 r1 r2 : Int)
  (hFa : ∀ w, Calls Tryd.prog 13 #[.agg #[.bool a0, .int .i64 a1, .int .i64 a2]] w fun e w' => e = .returned (.bool true) ∧ Below w.heap.size w w')
  (hFb : ∀ w, Calls Tryd.prog 13 #[.agg #[.bool b0, .int .i64 b1, .int .i64 b2]] w fun e w' => e = .returned (.bool false) ∧ Below w.heap.size w w')
  (hAw : ∀ w, Calls Tryd.prog 18 #[] w fun e w' => e = .returned (.bool true) ∧ Below w.heap.size w w') (w : World) :
  Calls Tryd.prog 9 #[.agg #[.bool a0, .int .i64 a1, .int .i64 a2], .agg #[.bool b0, .int .i64 b1, .int .i64 b2], .agg #[.bool c0, .int .i64 c1, .int .i64 c2], .agg #[.bool d0, .int .i64 d1, .int .i64 d2], .int .i64 op, .agg #[.int .i64 i1, .int .i64 i2], .agg #[.int .i64 r1, .int .i64 r2]] w fun e w' => e = .returned (.bool true) ∧ Below w.heap.size w w' := by
 have HFa := Lib.hid hFa
 clear hFa
 have HFb := Lib.hid hFb
 clear hFb
 have HAw := Lib.hid hAw
 clear hAw
 have hS := start6 w a0 b0 c0 d0 a1 a2 b1 b2 c1 c2 d1 d2 i1 i2 r1 r2 _ rfl
 go_enter Tryd.func9, Tryd.ntmps9
 go_upto_region 1 with fail
 refine wp_region_held_drew (S := (fun w' => Held w [(w.heap.size, 0, .bool a0), (w.heap.size, 1, .int .i64 a1), (w.heap.size, 2, .int .i64 a2), (w.heap.size + 1, 0, .bool b0), (w.heap.size + 1, 1, .int .i64 b1), (w.heap.size + 1, 2, .int .i64 b2), (w.heap.size + 1 + 1, 0, .bool c0), (w.heap.size + 1 + 1, 1, .int .i64 c1), (w.heap.size + 1 + 1, 2, .int .i64 c2), (w.heap.size + 1 + 1 + 1, 0, .bool d0), (w.heap.size + 1 + 1 + 1, 1, .int .i64 d1), (w.heap.size + 1 + 1 + 1, 2, .int .i64 d2), (w.heap.size + 1 + 1 + 1 + 1, 0, .int .i64 i1), (w.heap.size + 1 + 1 + 1 + 1, 1, .int .i64 i2), (w.heap.size + 1 + 1 + 1 + 1 + 1, 0, .int .i64 r1), (w.heap.size + 1 + 1 + 1 + 1 + 1, 1, .int .i64 r2)] w')) (by kernel_rfl) (Held.drew hS) (fun hHeld => ?_)
 refine wpAnyH_take (i := 0) (v := .agg #[.bool a0, .int .i64 a1, .int .i64 a2]) rfl (by kernel_rfl) (by kernel_rfl) (by kernel_rfl) (fun _ _ _ h => h) (Or.inl ⟨by kernel_rfl, fun w hSw => by simp only [Held, List.forall_mem_cons, List.not_mem_nil, false_implies, implies_true, and_true] at hSw; go_simp⟩) (by assumption) ?_
 try simp only [Act.put, lA, lB, lC]
 refine wpAnyH_ready (rs := [1]) (by kernel_rfl) (by simp) ?_
 refine AllReadyH.cons rfl (fun K hK => ?_) AllReadyH.nil
 go_simp
 go_at_call 13; with_reducible refine (HFa.out _).mono ?_; rintro e w1 ⟨rfl, hb⟩
 refine hK.out _ _ (Held.keep hb (by assumption)) (fun hHeld => ?_)
 clear hK K hb
 try simp only [Act.put, lA, lB, lC]
 refine wpAnyH_take (i := 2) (v := .bool false) rfl (by kernel_rfl) (by kernel_rfl) (by kernel_rfl) (fun _ _ _ h => h) (Or.inl ⟨by kernel_rfl, fun w hSw => by (try dsimp only at hSw); go_simp⟩) (by assumption) ?_
 try simp only [Act.put, lA, lB, lC]
 refine wpAnyH_take (i := 3) (v := .bool false) rfl (by kernel_rfl) (by kernel_rfl) (by kernel_rfl) (fun _ _ _ h => h) (Or.inl ⟨by kernel_rfl, fun w hSw => by (try dsimp only at hSw); go_simp⟩) (by assumption) ?_
 try simp only [Act.put, lA, lB, lC]
 refine wpAnyH_take (i := 4) (v := .agg #[.bool b0, .int .i64 b1, .int .i64 b2]) rfl (by kernel_rfl) (by kernel_rfl) (by kernel_rfl) (fun _ _ _ h => h) (Or.inl ⟨by kernel_rfl, fun w hSw => by simp only [Held, List.forall_mem_cons, List.not_mem_nil, false_implies, implies_true, and_true] at hSw; go_simp⟩) (by assumption) ?_
 try simp only [Act.put, lA, lB, lC]
 refine wpAnyH_ready (rs := [5]) (by kernel_rfl) (by simp) ?_
 refine AllReadyH.cons rfl (fun K hK => ?_) AllReadyH.nil
 go_simp
 go_at_call 13; with_reducible refine (HFb.out _).mono ?_; rintro e w1 ⟨rfl, hb⟩
 refine hK.out _ _ (Held.keep hb (by assumption)) (fun hHeld => ?_)
 clear hK K hb
 try simp only [Act.put, lA, lB, lC]
 refine wpAnyH_take (i := 6) (v := .bool true) rfl (by kernel_rfl) (by kernel_rfl) (by kernel_rfl) (fun _ _ _ h => h) (Or.inl ⟨by kernel_rfl, fun w hSw => by (try dsimp only at hSw); go_simp⟩) (by assumption) ?_
 try simp only [Act.put, lA, lB, lC]
 refine wpAnyH_take (i := 7) (v := .bool true) rfl (by kernel_rfl) (by kernel_rfl) (by kernel_rfl) (fun _ _ _ h => h) (Or.inl ⟨by kernel_rfl, fun w hSw => by (try dsimp only at hSw); go_simp⟩) (by assumption) ?_
 try simp only [Act.put, lA, lB, lC]
 refine wpAnyH_take (i := 8) (v := .bool true) rfl (by kernel_rfl) (by kernel_rfl) (by kernel_rfl) (fun _ _ _ h => h) (Or.inl ⟨by kernel_rfl, fun w hSw => by (try dsimp only at hSw); go_simp⟩) (by assumption) ?_
 try simp only [Act.put, lA, lB, lC]
 refine wpAnyH_take (i := 9) (v := undef) rfl (by kernel_rfl) (by kernel_rfl) (by kernel_rfl) (fun _ _ _ h => h) (Or.inr ⟨by kernel_rfl, by kernel_rfl⟩) (by assumption) ?_
 try simp only [Act.put, lA, lB, lC]
 refine wpAnyH_ready (rs := [10]) (by kernel_rfl) (by simp) ?_
 refine AllReadyH.cons rfl (fun K hK => ?_) AllReadyH.nil
 go_simp
 refine hK.out _ _ (by assumption) (fun hHeld => ?_)
 clear hK K
 try simp only [Act.put, lA, lB, lC]
 refine wpAnyH_take (i := 11) (v := undef) rfl (by kernel_rfl) (by kernel_rfl) (by kernel_rfl) (fun _ _ _ h => h) (Or.inr ⟨by kernel_rfl, by kernel_rfl⟩) (by assumption) ?_
 try simp only [Act.put, lA, lB, lC]
 refine wpAnyH_take (i := 12) (v := .bool true) rfl (by kernel_rfl) (by kernel_rfl) (by kernel_rfl) (fun _ _ _ h => h) (Or.inl ⟨by kernel_rfl, fun w hSw => by (try dsimp only at hSw); go_simp⟩) (by assumption) ?_
 try simp only [Act.put, lA, lB, lC]
 refine wpAnyH_take (i := 13) (v := .bool true) rfl (by kernel_rfl) (by kernel_rfl) (by kernel_rfl) (fun _ _ _ h => h) (Or.inl ⟨by kernel_rfl, fun w hSw => by (try dsimp only at hSw); go_simp⟩) (by assumption) ?_
 try simp only [Act.put, lA, lB, lC]
 refine wpAnyH_take (i := 14) (v := undef) rfl (by kernel_rfl) (by kernel_rfl) (by kernel_rfl) (fun _ _ _ h => h) (Or.inr ⟨by kernel_rfl, by kernel_rfl⟩) (by assumption) ?_
 try simp only [Act.put, lA, lB, lC]
 refine wpAnyH_ready (rs := [15]) (by kernel_rfl) (by simp) ?_
 refine AllReadyH.cons rfl (fun K hK => ?_) AllReadyH.nil
 go_simp
 refine hK.out _ _ (by assumption) (fun hHeld => ?_)
 clear hK K
 try simp only [Act.put, lA, lB, lC]
 refine wpAnyH_take (i := 16) (v := undef) rfl (by kernel_rfl) (by kernel_rfl) (by kernel_rfl) (fun _ _ _ h => h) (Or.inr ⟨by kernel_rfl, by kernel_rfl⟩) (by assumption) ?_
 try simp only [Act.put, lA, lB, lC]
 refine wpAnyH_take (i := 17) (v := .bool true) rfl (by kernel_rfl) (by kernel_rfl) (by kernel_rfl) (fun _ _ _ h => h) (Or.inl ⟨by kernel_rfl, fun w hSw => by (try dsimp only at hSw); go_simp⟩) (by assumption) ?_
 try simp only [Act.put, lA, lB, lC]
 refine wpAnyH_take (i := 18) (v := .bool true) rfl (by kernel_rfl) (by kernel_rfl) (by kernel_rfl) (fun _ _ _ h => h) (Or.inl ⟨by kernel_rfl, fun w hSw => by (try dsimp only at hSw); go_simp⟩) (by assumption) ?_
 try simp only [Act.put, lA, lB, lC]
 refine wpAnyH_take (i := 19) (v := undef) rfl (by kernel_rfl) (by kernel_rfl) (by kernel_rfl) (fun _ _ _ h => h) (Or.inr ⟨by kernel_rfl, by kernel_rfl⟩) (by assumption) ?_
 try simp only [Act.put, lA, lB, lC]
 refine wpAnyH_take (i := 20) (v := undef) rfl (by kernel_rfl) (by kernel_rfl) (by kernel_rfl) (fun _ _ _ h => h) (Or.inr ⟨by kernel_rfl, by kernel_rfl⟩) (by assumption) ?_
 try simp only [Act.put, lA, lB, lC]
 refine wpAnyH_take (i := 21) (v := undef) rfl (by kernel_rfl) (by kernel_rfl) (by kernel_rfl) (fun _ _ _ h => h) (Or.inr ⟨by kernel_rfl, by kernel_rfl⟩) (by assumption) ?_
 try simp only [Act.put, lA, lB, lC]
 refine wpAnyH_take (i := 22) (v := undef) rfl (by kernel_rfl) (by kernel_rfl) (by kernel_rfl) (fun _ _ _ h => h) (Or.inr ⟨by kernel_rfl, by kernel_rfl⟩) (by assumption) ?_
 try simp only [Act.put, lA, lB, lC]
 refine wpAnyH_take (i := 23) (v := undef) rfl (by kernel_rfl) (by kernel_rfl) (by kernel_rfl) (fun _ _ _ h => h) (Or.inr ⟨by kernel_rfl, by kernel_rfl⟩) (by assumption) ?_
 try simp only [Act.put, lA, lB, lC]
 refine wpAnyH_ready (rs := [24]) (by kernel_rfl) (by simp) ?_
 refine AllReadyH.cons rfl (fun K hK => ?_) AllReadyH.nil
 go_simp
 refine hK.out _ _ (by assumption) (fun hHeld => ?_)
 clear hK K
 try simp only [Act.put, lA, lB, lC]
 refine wpAnyH_take (i := 25) (v := undef) rfl (by kernel_rfl) (by kernel_rfl) (by kernel_rfl) (fun _ _ _ h => h) (Or.inr ⟨by kernel_rfl, by kernel_rfl⟩) (by assumption) ?_
 try simp only [Act.put, lA, lB, lC]
 refine wpAnyH_take (i := 26) (v := .bool true) rfl (by kernel_rfl) (by kernel_rfl) (by kernel_rfl) (fun _ _ _ h => h) (Or.inl ⟨by kernel_rfl, fun w hSw => by (try dsimp only at hSw); go_simp⟩) (by assumption) ?_
 try simp only [Act.put, lA, lB, lC]
 refine wpAnyH_take (i := 27) (v := .bool true) rfl (by kernel_rfl) (by kernel_rfl) (by kernel_rfl) (fun _ _ _ h => h) (Or.inl ⟨by kernel_rfl, fun w hSw => by (try dsimp only at hSw); go_simp⟩) (by assumption) ?_
 try simp only [Act.put, lA, lB, lC]
 refine wpAnyH_take (i := 28) (v := undef) rfl (by kernel_rfl) (by kernel_rfl) (by kernel_rfl) (fun _ _ _ h => h) (Or.inr ⟨by kernel_rfl, by kernel_rfl⟩) (by assumption) ?_
 try simp only [Act.put, lA, lB, lC]
 refine wpAnyH_take (i := 29) (v := undef) rfl (by kernel_rfl) (by kernel_rfl) (by kernel_rfl) (fun _ _ _ h => h) (Or.inr ⟨by kernel_rfl, by kernel_rfl⟩) (by assumption) ?_
 try simp only [Act.put, lA, lB, lC]
 refine wpAnyH_take (i := 30) (v := undef) rfl (by kernel_rfl) (by kernel_rfl) (by kernel_rfl) (fun _ _ _ h => h) (Or.inr ⟨by kernel_rfl, by kernel_rfl⟩) (by assumption) ?_
 try simp only [Act.put, lA, lB, lC]
 refine wpAnyH_take (i := 31) (v := undef) rfl (by kernel_rfl) (by kernel_rfl) (by kernel_rfl) (fun _ _ _ h => h) (Or.inr ⟨by kernel_rfl, by kernel_rfl⟩) (by assumption) ?_
 try simp only [Act.put, lA, lB, lC]
 refine wpAnyH_take (i := 32) (v := undef) rfl (by kernel_rfl) (by kernel_rfl) (by kernel_rfl) (fun _ _ _ h => h) (Or.inr ⟨by kernel_rfl, by kernel_rfl⟩) (by assumption) ?_
 try simp only [Act.put, lA, lB, lC]
 refine wpAnyH_ready (rs := [33]) (by kernel_rfl) (by simp) ?_
 refine AllReadyH.cons rfl (fun K hK => ?_) AllReadyH.nil
 go_simp
 refine hK.out _ _ (by assumption) (fun hHeld => ?_)
 clear hK K
 try simp only [Act.put, lA, lB, lC]
 refine wpAnyH_take (i := 34) (v := undef) rfl (by kernel_rfl) (by kernel_rfl) (by kernel_rfl) (fun _ _ _ h => h) (Or.inr ⟨by kernel_rfl, by kernel_rfl⟩) (by assumption) ?_
 try simp only [Act.put, lA, lB, lC]
 refine wpAnyH_take (i := 35) (v := .bool true) rfl (by kernel_rfl) (by kernel_rfl) (by kernel_rfl) (fun _ _ _ h => h) (Or.inl ⟨by kernel_rfl, fun w hSw => by (try dsimp only at hSw); go_simp⟩) (by assumption) ?_
 try simp only [Act.put, lA, lB, lC]
 refine wpAnyH_done (by kernel_rfl) ?_ _
 simp only [Act.put, List.getElem_toArray, List.getElem_cons_succ, List.getElem_cons_zero, lA, lB, lC]
 have hS1 := hHeld
 clear hHeld
 go_wp2_with (first | (go_at_call 18; with_reducible refine (HAw.out _).mono ?_; rintro e w1 ⟨rfl, hb⟩; replace hS1 := Held.keep hb hS1))
 go_ret
 exact ⟨rfl, hS1.1⟩
set_option maxRecDepth 100000 in
set_option maxHeartbeats 16000000 in
theorem bad_c (op : Int) (a0 b0 c0 d0 : Bool) (a1 a2 b1 b2 c1 c2 d1 d2 i1 i2 r1 r2 : Int)
  (hFa : ∀ w, Calls Tryd.prog 13 #[.agg #[.bool a0, .int .i64 a1, .int .i64 a2]] w fun e w' => e = .returned (.bool true) ∧ Below w.heap.size w w')
  (hFb : ∀ w, Calls Tryd.prog 13 #[.agg #[.bool b0, .int .i64 b1, .int .i64 b2]] w fun e w' => e = .returned (.bool true) ∧ Below w.heap.size w w')
  (hFc : ∀ w, Calls Tryd.prog 13 #[.agg #[.bool c0, .int .i64 c1, .int .i64 c2]] w fun e w' => e = .returned (.bool false) ∧ Below w.heap.size w w')
  (hAw : ∀ w, Calls Tryd.prog 18 #[] w fun e w' => e = .returned (.bool true) ∧ Below w.heap.size w w') (w : World) :
  Calls Tryd.prog 9 #[.agg #[.bool a0, .int .i64 a1, .int .i64 a2], .agg #[.bool b0, .int .i64 b1, .int .i64 b2], .agg #[.bool c0, .int .i64 c1, .int .i64 c2], .agg #[.bool d0, .int .i64 d1, .int .i64 d2], .int .i64 op, .agg #[.int .i64 i1, .int .i64 i2], .agg #[.int .i64 r1, .int .i64 r2]] w fun e w' => e = .returned (.bool true) ∧ Below w.heap.size w w' := by
 have HFa := Lib.hid hFa
 clear hFa
 have HFb := Lib.hid hFb
 clear hFb
 have HFc := Lib.hid hFc
 clear hFc
 have HAw := Lib.hid hAw
 clear hAw
 have hS := start6 w a0 b0 c0 d0 a1 a2 b1 b2 c1 c2 d1 d2 i1 i2 r1 r2 _ rfl
 go_enter Tryd.func9, Tryd.ntmps9
 go_upto_region 1 with fail
 refine wp_region_held_drew (S := (fun w' => Held w [(w.heap.size, 0, .bool a0), (w.heap.size, 1, .int .i64 a1), (w.heap.size, 2, .int .i64 a2), (w.heap.size + 1, 0, .bool b0), (w.heap.size + 1, 1, .int .i64 b1), (w.heap.size + 1, 2, .int .i64 b2), (w.heap.size + 1 + 1, 0, .bool c0), (w.heap.size + 1 + 1, 1, .int .i64 c1), (w.heap.size + 1 + 1, 2, .int .i64 c2), (w.heap.size + 1 + 1 + 1, 0, .bool d0), (w.heap.size + 1 + 1 + 1, 1, .int .i64 d1), (w.heap.size + 1 + 1 + 1, 2, .int .i64 d2), (w.heap.size + 1 + 1 + 1 + 1, 0, .int .i64 i1), (w.heap.size + 1 + 1 + 1 + 1, 1, .int .i64 i2), (w.heap.size + 1 + 1 + 1 + 1 + 1, 0, .int .i64 r1), (w.heap.size + 1 + 1 + 1 + 1 + 1, 1, .int .i64 r2)] w')) (by kernel_rfl) (Held.drew hS) (fun hHeld => ?_)
 refine wpAnyH_take (i := 0) (v := .agg #[.bool a0, .int .i64 a1, .int .i64 a2]) rfl (by kernel_rfl) (by kernel_rfl) (by kernel_rfl) (fun _ _ _ h => h) (Or.inl ⟨by kernel_rfl, fun w hSw => by simp only [Held, List.forall_mem_cons, List.not_mem_nil, false_implies, implies_true, and_true] at hSw; go_simp⟩) (by assumption) ?_
 try simp only [Act.put, lA, lB, lC]
 refine wpAnyH_ready (rs := [1]) (by kernel_rfl) (by simp) ?_
 refine AllReadyH.cons rfl (fun K hK => ?_) AllReadyH.nil
 go_simp
 go_at_call 13; with_reducible refine (HFa.out _).mono ?_; rintro e w1 ⟨rfl, hb⟩
 refine hK.out _ _ (Held.keep hb (by assumption)) (fun hHeld => ?_)
 clear hK K hb
 try simp only [Act.put, lA, lB, lC]
 refine wpAnyH_take (i := 2) (v := .bool false) rfl (by kernel_rfl) (by kernel_rfl) (by kernel_rfl) (fun _ _ _ h => h) (Or.inl ⟨by kernel_rfl, fun w hSw => by (try dsimp only at hSw); go_simp⟩) (by assumption) ?_
 try simp only [Act.put, lA, lB, lC]
 refine wpAnyH_take (i := 3) (v := .bool false) rfl (by kernel_rfl) (by kernel_rfl) (by kernel_rfl) (fun _ _ _ h => h) (Or.inl ⟨by kernel_rfl, fun w hSw => by (try dsimp only at hSw); go_simp⟩) (by assumption) ?_
 try simp only [Act.put, lA, lB, lC]
 refine wpAnyH_take (i := 4) (v := .agg #[.bool b0, .int .i64 b1, .int .i64 b2]) rfl (by kernel_rfl) (by kernel_rfl) (by kernel_rfl) (fun _ _ _ h => h) (Or.inl ⟨by kernel_rfl, fun w hSw => by simp only [Held, List.forall_mem_cons, List.not_mem_nil, false_implies, implies_true, and_true] at hSw; go_simp⟩) (by assumption) ?_
 try simp only [Act.put, lA, lB, lC]
 refine wpAnyH_ready (rs := [5]) (by kernel_rfl) (by simp) ?_
 refine AllReadyH.cons rfl (fun K hK => ?_) AllReadyH.nil
 go_simp
 go_at_call 13; with_reducible refine (HFb.out _).mono ?_; rintro e w1 ⟨rfl, hb⟩
 refine hK.out _ _ (Held.keep hb (by assumption)) (fun hHeld => ?_)
 clear hK K hb
 try simp only [Act.put, lA, lB, lC]
 refine wpAnyH_take (i := 6) (v := .bool false) rfl (by kernel_rfl) (by kernel_rfl) (by kernel_rfl) (fun _ _ _ h => h) (Or.inl ⟨by kernel_rfl, fun w hSw => by (try dsimp only at hSw); go_simp⟩) (by assumption) ?_
 try simp only [Act.put, lA, lB, lC]
 refine wpAnyH_take (i := 7) (v := .bool false) rfl (by kernel_rfl) (by kernel_rfl) (by kernel_rfl) (fun _ _ _ h => h) (Or.inl ⟨by kernel_rfl, fun w hSw => by (try dsimp only at hSw); go_simp⟩) (by assumption) ?_
 try simp only [Act.put, lA, lB, lC]
 refine wpAnyH_take (i := 8) (v := .bool false) rfl (by kernel_rfl) (by kernel_rfl) (by kernel_rfl) (fun _ _ _ h => h) (Or.inl ⟨by kernel_rfl, fun w hSw => by (try dsimp only at hSw); go_simp⟩) (by assumption) ?_
 try simp only [Act.put, lA, lB, lC]
 refine wpAnyH_take (i := 9) (v := .agg #[.bool c0, .int .i64 c1, .int .i64 c2]) rfl (by kernel_rfl) (by kernel_rfl) (by kernel_rfl) (fun _ _ _ h => h) (Or.inl ⟨by kernel_rfl, fun w hSw => by simp only [Held, List.forall_mem_cons, List.not_mem_nil, false_implies, implies_true, and_true] at hSw; go_simp⟩) (by assumption) ?_
 try simp only [Act.put, lA, lB, lC]
 refine wpAnyH_ready (rs := [10]) (by kernel_rfl) (by simp) ?_
 refine AllReadyH.cons rfl (fun K hK => ?_) AllReadyH.nil
 go_simp
 go_at_call 13; with_reducible refine (HFc.out _).mono ?_; rintro e w1 ⟨rfl, hb⟩
 refine hK.out _ _ (Held.keep hb (by assumption)) (fun hHeld => ?_)
 clear hK K hb
 try simp only [Act.put, lA, lB, lC]
 refine wpAnyH_take (i := 11) (v := .bool true) rfl (by kernel_rfl) (by kernel_rfl) (by kernel_rfl) (fun _ _ _ h => h) (Or.inl ⟨by kernel_rfl, fun w hSw => by (try dsimp only at hSw); go_simp⟩) (by assumption) ?_
 try simp only [Act.put, lA, lB, lC]
 refine wpAnyH_take (i := 12) (v := .bool true) rfl (by kernel_rfl) (by kernel_rfl) (by kernel_rfl) (fun _ _ _ h => h) (Or.inl ⟨by kernel_rfl, fun w hSw => by (try dsimp only at hSw); go_simp⟩) (by assumption) ?_
 try simp only [Act.put, lA, lB, lC]
 refine wpAnyH_take (i := 13) (v := .bool true) rfl (by kernel_rfl) (by kernel_rfl) (by kernel_rfl) (fun _ _ _ h => h) (Or.inl ⟨by kernel_rfl, fun w hSw => by (try dsimp only at hSw); go_simp⟩) (by assumption) ?_
 try simp only [Act.put, lA, lB, lC]
 refine wpAnyH_take (i := 14) (v := undef) rfl (by kernel_rfl) (by kernel_rfl) (by kernel_rfl) (fun _ _ _ h => h) (Or.inr ⟨by kernel_rfl, by kernel_rfl⟩) (by assumption) ?_
 try simp only [Act.put, lA, lB, lC]
 refine wpAnyH_ready (rs := [15]) (by kernel_rfl) (by simp) ?_
 refine AllReadyH.cons rfl (fun K hK => ?_) AllReadyH.nil
 go_simp
 refine hK.out _ _ (by assumption) (fun hHeld => ?_)
 clear hK K
 try simp only [Act.put, lA, lB, lC]
 refine wpAnyH_take (i := 16) (v := undef) rfl (by kernel_rfl) (by kernel_rfl) (by kernel_rfl) (fun _ _ _ h => h) (Or.inr ⟨by kernel_rfl, by kernel_rfl⟩) (by assumption) ?_
 try simp only [Act.put, lA, lB, lC]
 refine wpAnyH_take (i := 17) (v := .bool true) rfl (by kernel_rfl) (by kernel_rfl) (by kernel_rfl) (fun _ _ _ h => h) (Or.inl ⟨by kernel_rfl, fun w hSw => by (try dsimp only at hSw); go_simp⟩) (by assumption) ?_
 try simp only [Act.put, lA, lB, lC]
 refine wpAnyH_take (i := 18) (v := .bool true) rfl (by kernel_rfl) (by kernel_rfl) (by kernel_rfl) (fun _ _ _ h => h) (Or.inl ⟨by kernel_rfl, fun w hSw => by (try dsimp only at hSw); go_simp⟩) (by assumption) ?_
 try simp only [Act.put, lA, lB, lC]
 refine wpAnyH_take (i := 19) (v := undef) rfl (by kernel_rfl) (by kernel_rfl) (by kernel_rfl) (fun _ _ _ h => h) (Or.inr ⟨by kernel_rfl, by kernel_rfl⟩) (by assumption) ?_
 try simp only [Act.put, lA, lB, lC]
 refine wpAnyH_take (i := 20) (v := undef) rfl (by kernel_rfl) (by kernel_rfl) (by kernel_rfl) (fun _ _ _ h => h) (Or.inr ⟨by kernel_rfl, by kernel_rfl⟩) (by assumption) ?_
 try simp only [Act.put, lA, lB, lC]
 refine wpAnyH_take (i := 21) (v := undef) rfl (by kernel_rfl) (by kernel_rfl) (by kernel_rfl) (fun _ _ _ h => h) (Or.inr ⟨by kernel_rfl, by kernel_rfl⟩) (by assumption) ?_
 try simp only [Act.put, lA, lB, lC]
 refine wpAnyH_take (i := 22) (v := undef) rfl (by kernel_rfl) (by kernel_rfl) (by kernel_rfl) (fun _ _ _ h => h) (Or.inr ⟨by kernel_rfl, by kernel_rfl⟩) (by assumption) ?_
 try simp only [Act.put, lA, lB, lC]
 refine wpAnyH_take (i := 23) (v := undef) rfl (by kernel_rfl) (by kernel_rfl) (by kernel_rfl) (fun _ _ _ h => h) (Or.inr ⟨by kernel_rfl, by kernel_rfl⟩) (by assumption) ?_
 try simp only [Act.put, lA, lB, lC]
 refine wpAnyH_ready (rs := [24]) (by kernel_rfl) (by simp) ?_
 refine AllReadyH.cons rfl (fun K hK => ?_) AllReadyH.nil
 go_simp
 refine hK.out _ _ (by assumption) (fun hHeld => ?_)
 clear hK K
 try simp only [Act.put, lA, lB, lC]
 refine wpAnyH_take (i := 25) (v := undef) rfl (by kernel_rfl) (by kernel_rfl) (by kernel_rfl) (fun _ _ _ h => h) (Or.inr ⟨by kernel_rfl, by kernel_rfl⟩) (by assumption) ?_
 try simp only [Act.put, lA, lB, lC]
 refine wpAnyH_take (i := 26) (v := .bool true) rfl (by kernel_rfl) (by kernel_rfl) (by kernel_rfl) (fun _ _ _ h => h) (Or.inl ⟨by kernel_rfl, fun w hSw => by (try dsimp only at hSw); go_simp⟩) (by assumption) ?_
 try simp only [Act.put, lA, lB, lC]
 refine wpAnyH_take (i := 27) (v := .bool true) rfl (by kernel_rfl) (by kernel_rfl) (by kernel_rfl) (fun _ _ _ h => h) (Or.inl ⟨by kernel_rfl, fun w hSw => by (try dsimp only at hSw); go_simp⟩) (by assumption) ?_
 try simp only [Act.put, lA, lB, lC]
 refine wpAnyH_take (i := 28) (v := undef) rfl (by kernel_rfl) (by kernel_rfl) (by kernel_rfl) (fun _ _ _ h => h) (Or.inr ⟨by kernel_rfl, by kernel_rfl⟩) (by assumption) ?_
 try simp only [Act.put, lA, lB, lC]
 refine wpAnyH_take (i := 29) (v := undef) rfl (by kernel_rfl) (by kernel_rfl) (by kernel_rfl) (fun _ _ _ h => h) (Or.inr ⟨by kernel_rfl, by kernel_rfl⟩) (by assumption) ?_
 try simp only [Act.put, lA, lB, lC]
 refine wpAnyH_take (i := 30) (v := undef) rfl (by kernel_rfl) (by kernel_rfl) (by kernel_rfl) (fun _ _ _ h => h) (Or.inr ⟨by kernel_rfl, by kernel_rfl⟩) (by assumption) ?_
 try simp only [Act.put, lA, lB, lC]
 refine wpAnyH_take (i := 31) (v := undef) rfl (by kernel_rfl) (by kernel_rfl) (by kernel_rfl) (fun _ _ _ h => h) (Or.inr ⟨by kernel_rfl, by kernel_rfl⟩) (by assumption) ?_
 try simp only [Act.put, lA, lB, lC]
 refine wpAnyH_take (i := 32) (v := undef) rfl (by kernel_rfl) (by kernel_rfl) (by kernel_rfl) (fun _ _ _ h => h) (Or.inr ⟨by kernel_rfl, by kernel_rfl⟩) (by assumption) ?_
 try simp only [Act.put, lA, lB, lC]
 refine wpAnyH_ready (rs := [33]) (by kernel_rfl) (by simp) ?_
 refine AllReadyH.cons rfl (fun K hK => ?_) AllReadyH.nil
 go_simp
 refine hK.out _ _ (by assumption) (fun hHeld => ?_)
 clear hK K
 try simp only [Act.put, lA, lB, lC]
 refine wpAnyH_take (i := 34) (v := undef) rfl (by kernel_rfl) (by kernel_rfl) (by kernel_rfl) (fun _ _ _ h => h) (Or.inr ⟨by kernel_rfl, by kernel_rfl⟩) (by assumption) ?_
 try simp only [Act.put, lA, lB, lC]
 refine wpAnyH_take (i := 35) (v := .bool true) rfl (by kernel_rfl) (by kernel_rfl) (by kernel_rfl) (fun _ _ _ h => h) (Or.inl ⟨by kernel_rfl, fun w hSw => by (try dsimp only at hSw); go_simp⟩) (by assumption) ?_
 try simp only [Act.put, lA, lB, lC]
 refine wpAnyH_done (by kernel_rfl) ?_ _
 simp only [Act.put, List.getElem_toArray, List.getElem_cons_succ, List.getElem_cons_zero, lA, lB, lC]
 have hS1 := hHeld
 clear hHeld
 go_wp2_with (first | (go_at_call 18; with_reducible refine (HAw.out _).mono ?_; rintro e w1 ⟨rfl, hb⟩; replace hS1 := Held.keep hb hS1))
 go_ret
 exact ⟨rfl, hS1.1⟩
set_option maxRecDepth 100000 in
set_option maxHeartbeats 16000000 in
theorem bad_d (op : Int) (a0 b0 c0 d0 : Bool) (a1 a2 b1 b2 c1 c2 d1 d2 i1 i2 r1 r2 : Int)
  (hFa : ∀ w, Calls Tryd.prog 13 #[.agg #[.bool a0, .int .i64 a1, .int .i64 a2]] w fun e w' => e = .returned (.bool true) ∧ Below w.heap.size w w')
  (hFb : ∀ w, Calls Tryd.prog 13 #[.agg #[.bool b0, .int .i64 b1, .int .i64 b2]] w fun e w' => e = .returned (.bool true) ∧ Below w.heap.size w w')
  (hFc : ∀ w, Calls Tryd.prog 13 #[.agg #[.bool c0, .int .i64 c1, .int .i64 c2]] w fun e w' => e = .returned (.bool true) ∧ Below w.heap.size w w')
  (hFd : ∀ w, Calls Tryd.prog 13 #[.agg #[.bool d0, .int .i64 d1, .int .i64 d2]] w fun e w' => e = .returned (.bool false) ∧ Below w.heap.size w w')
  (hAw : ∀ w, Calls Tryd.prog 18 #[] w fun e w' => e = .returned (.bool true) ∧ Below w.heap.size w w') (w : World) :
  Calls Tryd.prog 9 #[.agg #[.bool a0, .int .i64 a1, .int .i64 a2], .agg #[.bool b0, .int .i64 b1, .int .i64 b2], .agg #[.bool c0, .int .i64 c1, .int .i64 c2], .agg #[.bool d0, .int .i64 d1, .int .i64 d2], .int .i64 op, .agg #[.int .i64 i1, .int .i64 i2], .agg #[.int .i64 r1, .int .i64 r2]] w fun e w' => e = .returned (.bool true) ∧ Below w.heap.size w w' := by
 have HFa := Lib.hid hFa
 clear hFa
 have HFb := Lib.hid hFb
 clear hFb
 have HFc := Lib.hid hFc
 clear hFc
 have HFd := Lib.hid hFd
 clear hFd
 have HAw := Lib.hid hAw
 clear hAw
 have hS := start6 w a0 b0 c0 d0 a1 a2 b1 b2 c1 c2 d1 d2 i1 i2 r1 r2 _ rfl
 go_enter Tryd.func9, Tryd.ntmps9
 go_upto_region 1 with fail
 refine wp_region_held_drew (S := (fun w' => Held w [(w.heap.size, 0, .bool a0), (w.heap.size, 1, .int .i64 a1), (w.heap.size, 2, .int .i64 a2), (w.heap.size + 1, 0, .bool b0), (w.heap.size + 1, 1, .int .i64 b1), (w.heap.size + 1, 2, .int .i64 b2), (w.heap.size + 1 + 1, 0, .bool c0), (w.heap.size + 1 + 1, 1, .int .i64 c1), (w.heap.size + 1 + 1, 2, .int .i64 c2), (w.heap.size + 1 + 1 + 1, 0, .bool d0), (w.heap.size + 1 + 1 + 1, 1, .int .i64 d1), (w.heap.size + 1 + 1 + 1, 2, .int .i64 d2), (w.heap.size + 1 + 1 + 1 + 1, 0, .int .i64 i1), (w.heap.size + 1 + 1 + 1 + 1, 1, .int .i64 i2), (w.heap.size + 1 + 1 + 1 + 1 + 1, 0, .int .i64 r1), (w.heap.size + 1 + 1 + 1 + 1 + 1, 1, .int .i64 r2)] w')) (by kernel_rfl) (Held.drew hS) (fun hHeld => ?_)
 refine wpAnyH_take (i := 0) (v := .agg #[.bool a0, .int .i64 a1, .int .i64 a2]) rfl (by kernel_rfl) (by kernel_rfl) (by kernel_rfl) (fun _ _ _ h => h) (Or.inl ⟨by kernel_rfl, fun w hSw => by simp only [Held, List.forall_mem_cons, List.not_mem_nil, false_implies, implies_true, and_true] at hSw; go_simp⟩) (by assumption) ?_
 try simp only [Act.put, lA, lB, lC]
 refine wpAnyH_ready (rs := [1]) (by kernel_rfl) (by simp) ?_
 refine AllReadyH.cons rfl (fun K hK => ?_) AllReadyH.nil
 go_simp
 go_at_call 13; with_reducible refine (HFa.out _).mono ?_; rintro e w1 ⟨rfl, hb⟩
 refine hK.out _ _ (Held.keep hb (by assumption)) (fun hHeld => ?_)
 clear hK K hb
 try simp only [Act.put, lA, lB, lC]
 refine wpAnyH_take (i := 2) (v := .bool false) rfl (by kernel_rfl) (by kernel_rfl) (by kernel_rfl) (fun _ _ _ h => h) (Or.inl ⟨by kernel_rfl, fun w hSw => by (try dsimp only at hSw); go_simp⟩) (by assumption) ?_
 try simp only [Act.put, lA, lB, lC]
 refine wpAnyH_take (i := 3) (v := .bool false) rfl (by kernel_rfl) (by kernel_rfl) (by kernel_rfl) (fun _ _ _ h => h) (Or.inl ⟨by kernel_rfl, fun w hSw => by (try dsimp only at hSw); go_simp⟩) (by assumption) ?_
 try simp only [Act.put, lA, lB, lC]
 refine wpAnyH_take (i := 4) (v := .agg #[.bool b0, .int .i64 b1, .int .i64 b2]) rfl (by kernel_rfl) (by kernel_rfl) (by kernel_rfl) (fun _ _ _ h => h) (Or.inl ⟨by kernel_rfl, fun w hSw => by simp only [Held, List.forall_mem_cons, List.not_mem_nil, false_implies, implies_true, and_true] at hSw; go_simp⟩) (by assumption) ?_
 try simp only [Act.put, lA, lB, lC]
 refine wpAnyH_ready (rs := [5]) (by kernel_rfl) (by simp) ?_
 refine AllReadyH.cons rfl (fun K hK => ?_) AllReadyH.nil
 go_simp
 go_at_call 13; with_reducible refine (HFb.out _).mono ?_; rintro e w1 ⟨rfl, hb⟩
 refine hK.out _ _ (Held.keep hb (by assumption)) (fun hHeld => ?_)
 clear hK K hb
 try simp only [Act.put, lA, lB, lC]
 refine wpAnyH_take (i := 6) (v := .bool false) rfl (by kernel_rfl) (by kernel_rfl) (by kernel_rfl) (fun _ _ _ h => h) (Or.inl ⟨by kernel_rfl, fun w hSw => by (try dsimp only at hSw); go_simp⟩) (by assumption) ?_
 try simp only [Act.put, lA, lB, lC]
 refine wpAnyH_take (i := 7) (v := .bool false) rfl (by kernel_rfl) (by kernel_rfl) (by kernel_rfl) (fun _ _ _ h => h) (Or.inl ⟨by kernel_rfl, fun w hSw => by (try dsimp only at hSw); go_simp⟩) (by assumption) ?_
 try simp only [Act.put, lA, lB, lC]
 refine wpAnyH_take (i := 8) (v := .bool false) rfl (by kernel_rfl) (by kernel_rfl) (by kernel_rfl) (fun _ _ _ h => h) (Or.inl ⟨by kernel_rfl, fun w hSw => by (try dsimp only at hSw); go_simp⟩) (by assumption) ?_
 try simp only [Act.put, lA, lB, lC]
 refine wpAnyH_take (i := 9) (v := .agg #[.bool c0, .int .i64 c1, .int .i64 c2]) rfl (by kernel_rfl) (by kernel_rfl) (by kernel_rfl) (fun _ _ _ h => h) (Or.inl ⟨by kernel_rfl, fun w hSw => by simp only [Held, List.forall_mem_cons, List.not_mem_nil, false_implies, implies_true, and_true] at hSw; go_simp⟩) (by assumption) ?_
 try simp only [Act.put, lA, lB, lC]
 refine wpAnyH_ready (rs := [10]) (by kernel_rfl) (by simp) ?_
 refine AllReadyH.cons rfl (fun K hK => ?_) AllReadyH.nil
 go_simp
 go_at_call 13; with_reducible refine (HFc.out _).mono ?_; rintro e w1 ⟨rfl, hb⟩
 refine hK.out _ _ (Held.keep hb (by assumption)) (fun hHeld => ?_)
 clear hK K hb
 try simp only [Act.put, lA, lB, lC]
 refine wpAnyH_take (i := 11) (v := .bool false) rfl (by kernel_rfl) (by kernel_rfl) (by kernel_rfl) (fun _ _ _ h => h) (Or.inl ⟨by kernel_rfl, fun w hSw => by (try dsimp only at hSw); go_simp⟩) (by assumption) ?_
 try simp only [Act.put, lA, lB, lC]
 refine wpAnyH_take (i := 12) (v := .bool false) rfl (by kernel_rfl) (by kernel_rfl) (by kernel_rfl) (fun _ _ _ h => h) (Or.inl ⟨by kernel_rfl, fun w hSw => by (try dsimp only at hSw); go_simp⟩) (by assumption) ?_
 try simp only [Act.put, lA, lB, lC]
 refine wpAnyH_take (i := 13) (v := .bool false) rfl (by kernel_rfl) (by kernel_rfl) (by kernel_rfl) (fun _ _ _ h => h) (Or.inl ⟨by kernel_rfl, fun w hSw => by (try dsimp only at hSw); go_simp⟩) (by assumption) ?_
 try simp only [Act.put, lA, lB, lC]
 refine wpAnyH_take (i := 14) (v := .agg #[.bool d0, .int .i64 d1, .int .i64 d2]) rfl (by kernel_rfl) (by kernel_rfl) (by kernel_rfl) (fun _ _ _ h => h) (Or.inl ⟨by kernel_rfl, fun w hSw => by simp only [Held, List.forall_mem_cons, List.not_mem_nil, false_implies, implies_true, and_true] at hSw; go_simp⟩) (by assumption) ?_
 try simp only [Act.put, lA, lB, lC]
 refine wpAnyH_ready (rs := [15]) (by kernel_rfl) (by simp) ?_
 refine AllReadyH.cons rfl (fun K hK => ?_) AllReadyH.nil
 go_simp
 go_at_call 13; with_reducible refine (HFd.out _).mono ?_; rintro e w1 ⟨rfl, hb⟩
 refine hK.out _ _ (Held.keep hb (by assumption)) (fun hHeld => ?_)
 clear hK K hb
 try simp only [Act.put, lA, lB, lC]
 refine wpAnyH_take (i := 16) (v := .bool true) rfl (by kernel_rfl) (by kernel_rfl) (by kernel_rfl) (fun _ _ _ h => h) (Or.inl ⟨by kernel_rfl, fun w hSw => by (try dsimp only at hSw); go_simp⟩) (by assumption) ?_
 try simp only [Act.put, lA, lB, lC]
 refine wpAnyH_take (i := 17) (v := .bool true) rfl (by kernel_rfl) (by kernel_rfl) (by kernel_rfl) (fun _ _ _ h => h) (Or.inl ⟨by kernel_rfl, fun w hSw => by (try dsimp only at hSw); go_simp⟩) (by assumption) ?_
 try simp only [Act.put, lA, lB, lC]
 refine wpAnyH_take (i := 18) (v := .bool true) rfl (by kernel_rfl) (by kernel_rfl) (by kernel_rfl) (fun _ _ _ h => h) (Or.inl ⟨by kernel_rfl, fun w hSw => by (try dsimp only at hSw); go_simp⟩) (by assumption) ?_
 try simp only [Act.put, lA, lB, lC]
 refine wpAnyH_take (i := 19) (v := undef) rfl (by kernel_rfl) (by kernel_rfl) (by kernel_rfl) (fun _ _ _ h => h) (Or.inr ⟨by kernel_rfl, by kernel_rfl⟩) (by assumption) ?_
 try simp only [Act.put, lA, lB, lC]
 refine wpAnyH_take (i := 20) (v := undef) rfl (by kernel_rfl) (by kernel_rfl) (by kernel_rfl) (fun _ _ _ h => h) (Or.inr ⟨by kernel_rfl, by kernel_rfl⟩) (by assumption) ?_
 try simp only [Act.put, lA, lB, lC]
 refine wpAnyH_take (i := 21) (v := undef) rfl (by kernel_rfl) (by kernel_rfl) (by kernel_rfl) (fun _ _ _ h => h) (Or.inr ⟨by kernel_rfl, by kernel_rfl⟩) (by assumption) ?_
 try simp only [Act.put, lA, lB, lC]
 refine wpAnyH_take (i := 22) (v := undef) rfl (by kernel_rfl) (by kernel_rfl) (by kernel_rfl) (fun _ _ _ h => h) (Or.inr ⟨by kernel_rfl, by kernel_rfl⟩) (by assumption) ?_
 try simp only [Act.put, lA, lB, lC]
 refine wpAnyH_take (i := 23) (v := undef) rfl (by kernel_rfl) (by kernel_rfl) (by kernel_rfl) (fun _ _ _ h => h) (Or.inr ⟨by kernel_rfl, by kernel_rfl⟩) (by assumption) ?_
 try simp only [Act.put, lA, lB, lC]
 refine wpAnyH_ready (rs := [24]) (by kernel_rfl) (by simp) ?_
 refine AllReadyH.cons rfl (fun K hK => ?_) AllReadyH.nil
 go_simp
 refine hK.out _ _ (by assumption) (fun hHeld => ?_)
 clear hK K
 try simp only [Act.put, lA, lB, lC]
 refine wpAnyH_take (i := 25) (v := undef) rfl (by kernel_rfl) (by kernel_rfl) (by kernel_rfl) (fun _ _ _ h => h) (Or.inr ⟨by kernel_rfl, by kernel_rfl⟩) (by assumption) ?_
 try simp only [Act.put, lA, lB, lC]
 refine wpAnyH_take (i := 26) (v := .bool true) rfl (by kernel_rfl) (by kernel_rfl) (by kernel_rfl) (fun _ _ _ h => h) (Or.inl ⟨by kernel_rfl, fun w hSw => by (try dsimp only at hSw); go_simp⟩) (by assumption) ?_
 try simp only [Act.put, lA, lB, lC]
 refine wpAnyH_take (i := 27) (v := .bool true) rfl (by kernel_rfl) (by kernel_rfl) (by kernel_rfl) (fun _ _ _ h => h) (Or.inl ⟨by kernel_rfl, fun w hSw => by (try dsimp only at hSw); go_simp⟩) (by assumption) ?_
 try simp only [Act.put, lA, lB, lC]
 refine wpAnyH_take (i := 28) (v := undef) rfl (by kernel_rfl) (by kernel_rfl) (by kernel_rfl) (fun _ _ _ h => h) (Or.inr ⟨by kernel_rfl, by kernel_rfl⟩) (by assumption) ?_
 try simp only [Act.put, lA, lB, lC]
 refine wpAnyH_take (i := 29) (v := undef) rfl (by kernel_rfl) (by kernel_rfl) (by kernel_rfl) (fun _ _ _ h => h) (Or.inr ⟨by kernel_rfl, by kernel_rfl⟩) (by assumption) ?_
 try simp only [Act.put, lA, lB, lC]
 refine wpAnyH_take (i := 30) (v := undef) rfl (by kernel_rfl) (by kernel_rfl) (by kernel_rfl) (fun _ _ _ h => h) (Or.inr ⟨by kernel_rfl, by kernel_rfl⟩) (by assumption) ?_
 try simp only [Act.put, lA, lB, lC]
 refine wpAnyH_take (i := 31) (v := undef) rfl (by kernel_rfl) (by kernel_rfl) (by kernel_rfl) (fun _ _ _ h => h) (Or.inr ⟨by kernel_rfl, by kernel_rfl⟩) (by assumption) ?_
 try simp only [Act.put, lA, lB, lC]
 refine wpAnyH_take (i := 32) (v := undef) rfl (by kernel_rfl) (by kernel_rfl) (by kernel_rfl) (fun _ _ _ h => h) (Or.inr ⟨by kernel_rfl, by kernel_rfl⟩) (by assumption) ?_
 try simp only [Act.put, lA, lB, lC]
 refine wpAnyH_ready (rs := [33]) (by kernel_rfl) (by simp) ?_
 refine AllReadyH.cons rfl (fun K hK => ?_) AllReadyH.nil
 go_simp
 refine hK.out _ _ (by assumption) (fun hHeld => ?_)
 clear hK K
 try simp only [Act.put, lA, lB, lC]
 refine wpAnyH_take (i := 34) (v := undef) rfl (by kernel_rfl) (by kernel_rfl) (by kernel_rfl) (fun _ _ _ h => h) (Or.inr ⟨by kernel_rfl, by kernel_rfl⟩) (by assumption) ?_
 try simp only [Act.put, lA, lB, lC]
 refine wpAnyH_take (i := 35) (v := .bool true) rfl (by kernel_rfl) (by kernel_rfl) (by kernel_rfl) (fun _ _ _ h => h) (Or.inl ⟨by kernel_rfl, fun w hSw => by (try dsimp only at hSw); go_simp⟩) (by assumption) ?_
 try simp only [Act.put, lA, lB, lC]
 refine wpAnyH_done (by kernel_rfl) ?_ _
 simp only [Act.put, List.getElem_toArray, List.getElem_cons_succ, List.getElem_cons_zero, lA, lB, lC]
 have hS1 := hHeld
 clear hHeld
 go_wp2_with (first | (go_at_call 18; with_reducible refine (HAw.out _).mono ?_; rintro e w1 ⟨rfl, hb⟩; replace hS1 := Held.keep hb hS1))
 go_ret
 exact ⟨rfl, hS1.1⟩
set_option maxRecDepth 100000 in
set_option maxHeartbeats 16000000 in
theorem bad_i (op : Int) (a0 b0 c0 d0 : Bool) (a1 a2 b1 b2 c1 c2 d1 d2 i1 i2 r1 r2 : Int) (o1 o2 : Int) (ho : (i1 == o1 && (i2 == o2)) = false)
  (hFa : ∀ w, Calls Tryd.prog 13 #[.agg #[.bool a0, .int .i64 a1, .int .i64 a2]] w fun e w' => e = .returned (.bool true) ∧ Below w.heap.size w w')
  (hFb : ∀ w, Calls Tryd.prog 13 #[.agg #[.bool b0, .int .i64 b1, .int .i64 b2]] w fun e w' => e = .returned (.bool true) ∧ Below w.heap.size w w')
  (hFc : ∀ w, Calls Tryd.prog 13 #[.agg #[.bool c0, .int .i64 c1, .int .i64 c2]] w fun e w' => e = .returned (.bool true) ∧ Below w.heap.size w w')
  (hFd : ∀ w, Calls Tryd.prog 13 #[.agg #[.bool d0, .int .i64 d1, .int .i64 d2]] w fun e w' => e = .returned (.bool true) ∧ Below w.heap.size w w')
  (hOi : ∀ w, Calls Tryd.prog 23 #[.int .i64 i1, .int .i64 i2] w fun e w' => e = .returned (.agg #[.int .i64 o1, .int .i64 o2]) ∧ Below w.heap.size w w')
  (hAw : ∀ w, Calls Tryd.prog 18 #[] w fun e w' => e = .returned (.bool true) ∧ Below w.heap.size w w') (w : World) :
  Calls Tryd.prog 9 #[.agg #[.bool a0, .int .i64 a1, .int .i64 a2], .agg #[.bool b0, .int .i64 b1, .int .i64 b2], .agg #[.bool c0, .int .i64 c1, .int .i64 c2], .agg #[.bool d0, .int .i64 d1, .int .i64 d2], .int .i64 op, .agg #[.int .i64 i1, .int .i64 i2], .agg #[.int .i64 r1, .int .i64 r2]] w fun e w' => e = .returned (.bool true) ∧ Below w.heap.size w w' := by
 have HFa := Lib.hid hFa
 clear hFa
 have HFb := Lib.hid hFb
 clear hFb
 have HFc := Lib.hid hFc
 clear hFc
 have HFd := Lib.hid hFd
 clear hFd
 have HOi := Lib.hid hOi
 clear hOi
 have HAw := Lib.hid hAw
 clear hAw
 have hne : ∀ (d : Nat) (w : World), (Op.equalIn (d + 2) 38 (.agg #[.int .i64 i1, .int .i64 i2]) (.agg #[.int .i64 o1, .int .i64 o2])).run Tryd.prog w = .ok false w := fun d w => by rw [eqA38, ho]
 clear ho
 have hS := start6 w a0 b0 c0 d0 a1 a2 b1 b2 c1 c2 d1 d2 i1 i2 r1 r2 _ rfl
 go_enter Tryd.func9, Tryd.ntmps9
 go_upto_region 1 with fail
 refine wp_region_held_drew (S := (fun w' => Held w [(w.heap.size, 0, .bool a0), (w.heap.size, 1, .int .i64 a1), (w.heap.size, 2, .int .i64 a2), (w.heap.size + 1, 0, .bool b0), (w.heap.size + 1, 1, .int .i64 b1), (w.heap.size + 1, 2, .int .i64 b2), (w.heap.size + 1 + 1, 0, .bool c0), (w.heap.size + 1 + 1, 1, .int .i64 c1), (w.heap.size + 1 + 1, 2, .int .i64 c2), (w.heap.size + 1 + 1 + 1, 0, .bool d0), (w.heap.size + 1 + 1 + 1, 1, .int .i64 d1), (w.heap.size + 1 + 1 + 1, 2, .int .i64 d2), (w.heap.size + 1 + 1 + 1 + 1, 0, .int .i64 i1), (w.heap.size + 1 + 1 + 1 + 1, 1, .int .i64 i2), (w.heap.size + 1 + 1 + 1 + 1 + 1, 0, .int .i64 r1), (w.heap.size + 1 + 1 + 1 + 1 + 1, 1, .int .i64 r2)] w')) (by kernel_rfl) (Held.drew hS) (fun hHeld => ?_)
 refine wpAnyH_take (i := 0) (v := .agg #[.bool a0, .int .i64 a1, .int .i64 a2]) rfl (by kernel_rfl) (by kernel_rfl) (by kernel_rfl) (fun _ _ _ h => h) (Or.inl ⟨by kernel_rfl, fun w hSw => by simp only [Held, List.forall_mem_cons, List.not_mem_nil, false_implies, implies_true, and_true] at hSw; go_simp⟩) (by assumption) ?_
 try simp only [Act.put, lA, lB, lC]
 refine wpAnyH_ready (rs := [1]) (by kernel_rfl) (by simp) ?_
 refine AllReadyH.cons rfl (fun K hK => ?_) AllReadyH.nil
 go_simp
 go_at_call 13; with_reducible refine (HFa.out _).mono ?_; rintro e w1 ⟨rfl, hb⟩
 refine hK.out _ _ (Held.keep hb (by assumption)) (fun hHeld => ?_)
 clear hK K hb
 try simp only [Act.put, lA, lB, lC]
 refine wpAnyH_take (i := 2) (v := .bool false) rfl (by kernel_rfl) (by kernel_rfl) (by kernel_rfl) (fun _ _ _ h => h) (Or.inl ⟨by kernel_rfl, fun w hSw => by (try dsimp only at hSw); go_simp⟩) (by assumption) ?_
 try simp only [Act.put, lA, lB, lC]
 refine wpAnyH_take (i := 3) (v := .bool false) rfl (by kernel_rfl) (by kernel_rfl) (by kernel_rfl) (fun _ _ _ h => h) (Or.inl ⟨by kernel_rfl, fun w hSw => by (try dsimp only at hSw); go_simp⟩) (by assumption) ?_
 try simp only [Act.put, lA, lB, lC]
 refine wpAnyH_take (i := 4) (v := .agg #[.bool b0, .int .i64 b1, .int .i64 b2]) rfl (by kernel_rfl) (by kernel_rfl) (by kernel_rfl) (fun _ _ _ h => h) (Or.inl ⟨by kernel_rfl, fun w hSw => by simp only [Held, List.forall_mem_cons, List.not_mem_nil, false_implies, implies_true, and_true] at hSw; go_simp⟩) (by assumption) ?_
 try simp only [Act.put, lA, lB, lC]
 refine wpAnyH_ready (rs := [5]) (by kernel_rfl) (by simp) ?_
 refine AllReadyH.cons rfl (fun K hK => ?_) AllReadyH.nil
 go_simp
 go_at_call 13; with_reducible refine (HFb.out _).mono ?_; rintro e w1 ⟨rfl, hb⟩
 refine hK.out _ _ (Held.keep hb (by assumption)) (fun hHeld => ?_)
 clear hK K hb
 try simp only [Act.put, lA, lB, lC]
 refine wpAnyH_take (i := 6) (v := .bool false) rfl (by kernel_rfl) (by kernel_rfl) (by kernel_rfl) (fun _ _ _ h => h) (Or.inl ⟨by kernel_rfl, fun w hSw => by (try dsimp only at hSw); go_simp⟩) (by assumption) ?_
 try simp only [Act.put, lA, lB, lC]
 refine wpAnyH_take (i := 7) (v := .bool false) rfl (by kernel_rfl) (by kernel_rfl) (by kernel_rfl) (fun _ _ _ h => h) (Or.inl ⟨by kernel_rfl, fun w hSw => by (try dsimp only at hSw); go_simp⟩) (by assumption) ?_
 try simp only [Act.put, lA, lB, lC]
 refine wpAnyH_take (i := 8) (v := .bool false) rfl (by kernel_rfl) (by kernel_rfl) (by kernel_rfl) (fun _ _ _ h => h) (Or.inl ⟨by kernel_rfl, fun w hSw => by (try dsimp only at hSw); go_simp⟩) (by assumption) ?_
 try simp only [Act.put, lA, lB, lC]
 refine wpAnyH_take (i := 9) (v := .agg #[.bool c0, .int .i64 c1, .int .i64 c2]) rfl (by kernel_rfl) (by kernel_rfl) (by kernel_rfl) (fun _ _ _ h => h) (Or.inl ⟨by kernel_rfl, fun w hSw => by simp only [Held, List.forall_mem_cons, List.not_mem_nil, false_implies, implies_true, and_true] at hSw; go_simp⟩) (by assumption) ?_
 try simp only [Act.put, lA, lB, lC]
 refine wpAnyH_ready (rs := [10]) (by kernel_rfl) (by simp) ?_
 refine AllReadyH.cons rfl (fun K hK => ?_) AllReadyH.nil
 go_simp
 go_at_call 13; with_reducible refine (HFc.out _).mono ?_; rintro e w1 ⟨rfl, hb⟩
 refine hK.out _ _ (Held.keep hb (by assumption)) (fun hHeld => ?_)
 clear hK K hb
 try simp only [Act.put, lA, lB, lC]
 refine wpAnyH_take (i := 11) (v := .bool false) rfl (by kernel_rfl) (by kernel_rfl) (by kernel_rfl) (fun _ _ _ h => h) (Or.inl ⟨by kernel_rfl, fun w hSw => by (try dsimp only at hSw); go_simp⟩) (by assumption) ?_
 try simp only [Act.put, lA, lB, lC]
 refine wpAnyH_take (i := 12) (v := .bool false) rfl (by kernel_rfl) (by kernel_rfl) (by kernel_rfl) (fun _ _ _ h => h) (Or.inl ⟨by kernel_rfl, fun w hSw => by (try dsimp only at hSw); go_simp⟩) (by assumption) ?_
 try simp only [Act.put, lA, lB, lC]
 refine wpAnyH_take (i := 13) (v := .bool false) rfl (by kernel_rfl) (by kernel_rfl) (by kernel_rfl) (fun _ _ _ h => h) (Or.inl ⟨by kernel_rfl, fun w hSw => by (try dsimp only at hSw); go_simp⟩) (by assumption) ?_
 try simp only [Act.put, lA, lB, lC]
 refine wpAnyH_take (i := 14) (v := .agg #[.bool d0, .int .i64 d1, .int .i64 d2]) rfl (by kernel_rfl) (by kernel_rfl) (by kernel_rfl) (fun _ _ _ h => h) (Or.inl ⟨by kernel_rfl, fun w hSw => by simp only [Held, List.forall_mem_cons, List.not_mem_nil, false_implies, implies_true, and_true] at hSw; go_simp⟩) (by assumption) ?_
 try simp only [Act.put, lA, lB, lC]
 refine wpAnyH_ready (rs := [15]) (by kernel_rfl) (by simp) ?_
 refine AllReadyH.cons rfl (fun K hK => ?_) AllReadyH.nil
 go_simp
 go_at_call 13; with_reducible refine (HFd.out _).mono ?_; rintro e w1 ⟨rfl, hb⟩
 refine hK.out _ _ (Held.keep hb (by assumption)) (fun hHeld => ?_)
 clear hK K hb
 try simp only [Act.put, lA, lB, lC]
 refine wpAnyH_take (i := 16) (v := .bool false) rfl (by kernel_rfl) (by kernel_rfl) (by kernel_rfl) (fun _ _ _ h => h) (Or.inl ⟨by kernel_rfl, fun w hSw => by (try dsimp only at hSw); go_simp⟩) (by assumption) ?_
 try simp only [Act.put, lA, lB, lC]
 refine wpAnyH_take (i := 17) (v := .bool false) rfl (by kernel_rfl) (by kernel_rfl) (by kernel_rfl) (fun _ _ _ h => h) (Or.inl ⟨by kernel_rfl, fun w hSw => by (try dsimp only at hSw); go_simp⟩) (by assumption) ?_
 try simp only [Act.put, lA, lB, lC]
 refine wpAnyH_take (i := 18) (v := .bool false) rfl (by kernel_rfl) (by kernel_rfl) (by kernel_rfl) (fun _ _ _ h => h) (Or.inl ⟨by kernel_rfl, fun w hSw => by (try dsimp only at hSw); go_simp⟩) (by assumption) ?_
 try simp only [Act.put, lA, lB, lC]
 refine wpAnyH_take (i := 19) (v := .agg #[.int .i64 i1, .int .i64 i2]) rfl (by kernel_rfl) (by kernel_rfl) (by kernel_rfl) (fun _ _ _ h => h) (Or.inl ⟨by kernel_rfl, fun w hSw => by simp only [Held, List.forall_mem_cons, List.not_mem_nil, false_implies, implies_true, and_true] at hSw; go_simp⟩) (by assumption) ?_
 try simp only [Act.put, lA, lB, lC]
 refine wpAnyH_take (i := 20) (v := .pointer (some ⟨w.heap.size + 1 + 1 + 1 + 1, 0, none⟩)) rfl (by kernel_rfl) (by kernel_rfl) (by kernel_rfl) (fun _ _ _ h => h) (Or.inl ⟨by kernel_rfl, fun w hSw => by (try dsimp only at hSw); go_simp⟩) (by assumption) ?_
 try simp only [Act.put, lA, lB, lC]
 refine wpAnyH_take (i := 21) (v := .int .i64 i1) rfl (by kernel_rfl) (by kernel_rfl) (by kernel_rfl) (fun _ _ _ h => h) (Or.inl ⟨by kernel_rfl, fun w hSw => by simp only [Held, List.forall_mem_cons, List.not_mem_nil, false_implies, implies_true, and_true] at hSw; go_simp⟩) (by assumption) ?_
 try simp only [Act.put, lA, lB, lC]
 refine wpAnyH_take (i := 22) (v := .pointer (some ⟨w.heap.size + 1 + 1 + 1 + 1, 1, none⟩)) rfl (by kernel_rfl) (by kernel_rfl) (by kernel_rfl) (fun _ _ _ h => h) (Or.inl ⟨by kernel_rfl, fun w hSw => by (try dsimp only at hSw); go_simp⟩) (by assumption) ?_
 try simp only [Act.put, lA, lB, lC]
 refine wpAnyH_take (i := 23) (v := .int .i64 i2) rfl (by kernel_rfl) (by kernel_rfl) (by kernel_rfl) (fun _ _ _ h => h) (Or.inl ⟨by kernel_rfl, fun w hSw => by simp only [Held, List.forall_mem_cons, List.not_mem_nil, false_implies, implies_true, and_true] at hSw; go_simp⟩) (by assumption) ?_
 try simp only [Act.put, lA, lB, lC]
 refine wpAnyH_ready (rs := [24]) (by kernel_rfl) (by simp) ?_
 refine AllReadyH.cons rfl (fun K hK => ?_) AllReadyH.nil
 go_simp
 go_at_call 23; with_reducible refine (HOi.out _).mono ?_; rintro e w1 ⟨rfl, hb⟩
 refine hK.out _ _ (Held.keep hb (by assumption)) (fun hHeld => ?_)
 clear hK K hb
 try simp only [Act.put, lA, lB, lC]
 refine wpAnyH_take (i := 25) (v := .bool true) rfl (by kernel_rfl) (by kernel_rfl) (by kernel_rfl) (fun _ _ _ h => h) (Or.inl ⟨by kernel_rfl, fun w hSw => by (try dsimp only at hSw); go_simp⟩) (by assumption) ?_
 try simp only [Act.put, lA, lB, lC]
 refine wpAnyH_take (i := 26) (v := .bool true) rfl (by kernel_rfl) (by kernel_rfl) (by kernel_rfl) (fun _ _ _ h => h) (Or.inl ⟨by kernel_rfl, fun w hSw => by (try dsimp only at hSw); go_simp⟩) (by assumption) ?_
 try simp only [Act.put, lA, lB, lC]
 refine wpAnyH_take (i := 27) (v := .bool true) rfl (by kernel_rfl) (by kernel_rfl) (by kernel_rfl) (fun _ _ _ h => h) (Or.inl ⟨by kernel_rfl, fun w hSw => by (try dsimp only at hSw); go_simp⟩) (by assumption) ?_
 try simp only [Act.put, lA, lB, lC]
 refine wpAnyH_take (i := 28) (v := undef) rfl (by kernel_rfl) (by kernel_rfl) (by kernel_rfl) (fun _ _ _ h => h) (Or.inr ⟨by kernel_rfl, by kernel_rfl⟩) (by assumption) ?_
 try simp only [Act.put, lA, lB, lC]
 refine wpAnyH_take (i := 29) (v := undef) rfl (by kernel_rfl) (by kernel_rfl) (by kernel_rfl) (fun _ _ _ h => h) (Or.inr ⟨by kernel_rfl, by kernel_rfl⟩) (by assumption) ?_
 try simp only [Act.put, lA, lB, lC]
 refine wpAnyH_take (i := 30) (v := undef) rfl (by kernel_rfl) (by kernel_rfl) (by kernel_rfl) (fun _ _ _ h => h) (Or.inr ⟨by kernel_rfl, by kernel_rfl⟩) (by assumption) ?_
 try simp only [Act.put, lA, lB, lC]
 refine wpAnyH_take (i := 31) (v := undef) rfl (by kernel_rfl) (by kernel_rfl) (by kernel_rfl) (fun _ _ _ h => h) (Or.inr ⟨by kernel_rfl, by kernel_rfl⟩) (by assumption) ?_
 try simp only [Act.put, lA, lB, lC]
 refine wpAnyH_take (i := 32) (v := undef) rfl (by kernel_rfl) (by kernel_rfl) (by kernel_rfl) (fun _ _ _ h => h) (Or.inr ⟨by kernel_rfl, by kernel_rfl⟩) (by assumption) ?_
 try simp only [Act.put, lA, lB, lC]
 refine wpAnyH_ready (rs := [33]) (by kernel_rfl) (by simp) ?_
 refine AllReadyH.cons rfl (fun K hK => ?_) AllReadyH.nil
 go_simp
 refine hK.out _ _ (by assumption) (fun hHeld => ?_)
 clear hK K
 try simp only [Act.put, lA, lB, lC]
 refine wpAnyH_take (i := 34) (v := undef) rfl (by kernel_rfl) (by kernel_rfl) (by kernel_rfl) (fun _ _ _ h => h) (Or.inr ⟨by kernel_rfl, by kernel_rfl⟩) (by assumption) ?_
 try simp only [Act.put, lA, lB, lC]
 refine wpAnyH_take (i := 35) (v := .bool true) rfl (by kernel_rfl) (by kernel_rfl) (by kernel_rfl) (fun _ _ _ h => h) (Or.inl ⟨by kernel_rfl, fun w hSw => by (try dsimp only at hSw); go_simp⟩) (by assumption) ?_
 try simp only [Act.put, lA, lB, lC]
 refine wpAnyH_done (by kernel_rfl) ?_ _
 simp only [Act.put, List.getElem_toArray, List.getElem_cons_succ, List.getElem_cons_zero, lA, lB, lC]
 have hS1 := hHeld
 clear hHeld
 go_wp2_with (first | (go_at_call 18; with_reducible refine (HAw.out _).mono ?_; rintro e w1 ⟨rfl, hb⟩; replace hS1 := Held.keep hb hS1))
 go_ret
 exact ⟨rfl, hS1.1⟩
set_option maxRecDepth 100000 in
set_option maxHeartbeats 16000000 in
theorem bad_r (op : Int) (a0 b0 c0 d0 : Bool) (a1 a2 b1 b2 c1 c2 d1 d2 i1 i2 r1 r2 : Int) (o1 o2 : Int) (ho : (r1 == o1 && (r2 == o2)) = false)
  (hFa : ∀ w, Calls Tryd.prog 13 #[.agg #[.bool a0, .int .i64 a1, .int .i64 a2]] w fun e w' => e = .returned (.bool true) ∧ Below w.heap.size w w')
  (hFb : ∀ w, Calls Tryd.prog 13 #[.agg #[.bool b0, .int .i64 b1, .int .i64 b2]] w fun e w' => e = .returned (.bool true) ∧ Below w.heap.size w w')
  (hFc : ∀ w, Calls Tryd.prog 13 #[.agg #[.bool c0, .int .i64 c1, .int .i64 c2]] w fun e w' => e = .returned (.bool true) ∧ Below w.heap.size w w')
  (hFd : ∀ w, Calls Tryd.prog 13 #[.agg #[.bool d0, .int .i64 d1, .int .i64 d2]] w fun e w' => e = .returned (.bool true) ∧ Below w.heap.size w w')
  (hOi : ∀ w, Calls Tryd.prog 23 #[.int .i64 i1, .int .i64 i2] w fun e w' => e = .returned (.agg #[.int .i64 i1, .int .i64 i2]) ∧ Below w.heap.size w w')
  (hOr : ∀ w, Calls Tryd.prog 23 #[.int .i64 r1, .int .i64 r2] w fun e w' => e = .returned (.agg #[.int .i64 o1, .int .i64 o2]) ∧ Below w.heap.size w w')
  (hAw : ∀ w, Calls Tryd.prog 18 #[] w fun e w' => e = .returned (.bool true) ∧ Below w.heap.size w w') (w : World) :
  Calls Tryd.prog 9 #[.agg #[.bool a0, .int .i64 a1, .int .i64 a2], .agg #[.bool b0, .int .i64 b1, .int .i64 b2], .agg #[.bool c0, .int .i64 c1, .int .i64 c2], .agg #[.bool d0, .int .i64 d1, .int .i64 d2], .int .i64 op, .agg #[.int .i64 i1, .int .i64 i2], .agg #[.int .i64 r1, .int .i64 r2]] w fun e w' => e = .returned (.bool true) ∧ Below w.heap.size w w' := by
 have HFa := Lib.hid hFa
 clear hFa
 have HFb := Lib.hid hFb
 clear hFb
 have HFc := Lib.hid hFc
 clear hFc
 have HFd := Lib.hid hFd
 clear hFd
 have HOi := Lib.hid hOi
 clear hOi
 have HOr := Lib.hid hOr
 clear hOr
 have HAw := Lib.hid hAw
 clear hAw
 have hne : ∀ (d : Nat) (w : World), (Op.equalIn (d + 2) 38 (.agg #[.int .i64 r1, .int .i64 r2]) (.agg #[.int .i64 o1, .int .i64 o2])).run Tryd.prog w = .ok false w := fun d w => by rw [eqA38, ho]
 clear ho
 have hS := start6 w a0 b0 c0 d0 a1 a2 b1 b2 c1 c2 d1 d2 i1 i2 r1 r2 _ rfl
 go_enter Tryd.func9, Tryd.ntmps9
 go_upto_region 1 with fail
 refine wp_region_held_drew (S := (fun w' => Held w [(w.heap.size, 0, .bool a0), (w.heap.size, 1, .int .i64 a1), (w.heap.size, 2, .int .i64 a2), (w.heap.size + 1, 0, .bool b0), (w.heap.size + 1, 1, .int .i64 b1), (w.heap.size + 1, 2, .int .i64 b2), (w.heap.size + 1 + 1, 0, .bool c0), (w.heap.size + 1 + 1, 1, .int .i64 c1), (w.heap.size + 1 + 1, 2, .int .i64 c2), (w.heap.size + 1 + 1 + 1, 0, .bool d0), (w.heap.size + 1 + 1 + 1, 1, .int .i64 d1), (w.heap.size + 1 + 1 + 1, 2, .int .i64 d2), (w.heap.size + 1 + 1 + 1 + 1, 0, .int .i64 i1), (w.heap.size + 1 + 1 + 1 + 1, 1, .int .i64 i2), (w.heap.size + 1 + 1 + 1 + 1 + 1, 0, .int .i64 r1), (w.heap.size + 1 + 1 + 1 + 1 + 1, 1, .int .i64 r2)] w')) (by kernel_rfl) (Held.drew hS) (fun hHeld => ?_)
 refine wpAnyH_take (i := 0) (v := .agg #[.bool a0, .int .i64 a1, .int .i64 a2]) rfl (by kernel_rfl) (by kernel_rfl) (by kernel_rfl) (fun _ _ _ h => h) (Or.inl ⟨by kernel_rfl, fun w hSw => by simp only [Held, List.forall_mem_cons, List.not_mem_nil, false_implies, implies_true, and_true] at hSw; go_simp⟩) (by assumption) ?_
 try simp only [Act.put, lA, lB, lC]
 refine wpAnyH_ready (rs := [1]) (by kernel_rfl) (by simp) ?_
 refine AllReadyH.cons rfl (fun K hK => ?_) AllReadyH.nil
 go_simp
 go_at_call 13; with_reducible refine (HFa.out _).mono ?_; rintro e w1 ⟨rfl, hb⟩
 refine hK.out _ _ (Held.keep hb (by assumption)) (fun hHeld => ?_)
 clear hK K hb
 try simp only [Act.put, lA, lB, lC]
 refine wpAnyH_take (i := 2) (v := .bool false) rfl (by kernel_rfl) (by kernel_rfl) (by kernel_rfl) (fun _ _ _ h => h) (Or.inl ⟨by kernel_rfl, fun w hSw => by (try dsimp only at hSw); go_simp⟩) (by assumption) ?_
 try simp only [Act.put, lA, lB, lC]
 refine wpAnyH_take (i := 3) (v := .bool false) rfl (by kernel_rfl) (by kernel_rfl) (by kernel_rfl) (fun _ _ _ h => h) (Or.inl ⟨by kernel_rfl, fun w hSw => by (try dsimp only at hSw); go_simp⟩) (by assumption) ?_
 try simp only [Act.put, lA, lB, lC]
 refine wpAnyH_take (i := 4) (v := .agg #[.bool b0, .int .i64 b1, .int .i64 b2]) rfl (by kernel_rfl) (by kernel_rfl) (by kernel_rfl) (fun _ _ _ h => h) (Or.inl ⟨by kernel_rfl, fun w hSw => by simp only [Held, List.forall_mem_cons, List.not_mem_nil, false_implies, implies_true, and_true] at hSw; go_simp⟩) (by assumption) ?_
 try simp only [Act.put, lA, lB, lC]
 refine wpAnyH_ready (rs := [5]) (by kernel_rfl) (by simp) ?_
 refine AllReadyH.cons rfl (fun K hK => ?_) AllReadyH.nil
 go_simp
 go_at_call 13; with_reducible refine (HFb.out _).mono ?_; rintro e w1 ⟨rfl, hb⟩
 refine hK.out _ _ (Held.keep hb (by assumption)) (fun hHeld => ?_)
 clear hK K hb
 try simp only [Act.put, lA, lB, lC]
 refine wpAnyH_take (i := 6) (v := .bool false) rfl (by kernel_rfl) (by kernel_rfl) (by kernel_rfl) (fun _ _ _ h => h) (Or.inl ⟨by kernel_rfl, fun w hSw => by (try dsimp only at hSw); go_simp⟩) (by assumption) ?_
 try simp only [Act.put, lA, lB, lC]
 refine wpAnyH_take (i := 7) (v := .bool false) rfl (by kernel_rfl) (by kernel_rfl) (by kernel_rfl) (fun _ _ _ h => h) (Or.inl ⟨by kernel_rfl, fun w hSw => by (try dsimp only at hSw); go_simp⟩) (by assumption) ?_
 try simp only [Act.put, lA, lB, lC]
 refine wpAnyH_take (i := 8) (v := .bool false) rfl (by kernel_rfl) (by kernel_rfl) (by kernel_rfl) (fun _ _ _ h => h) (Or.inl ⟨by kernel_rfl, fun w hSw => by (try dsimp only at hSw); go_simp⟩) (by assumption) ?_
 try simp only [Act.put, lA, lB, lC]
 refine wpAnyH_take (i := 9) (v := .agg #[.bool c0, .int .i64 c1, .int .i64 c2]) rfl (by kernel_rfl) (by kernel_rfl) (by kernel_rfl) (fun _ _ _ h => h) (Or.inl ⟨by kernel_rfl, fun w hSw => by simp only [Held, List.forall_mem_cons, List.not_mem_nil, false_implies, implies_true, and_true] at hSw; go_simp⟩) (by assumption) ?_
 try simp only [Act.put, lA, lB, lC]
 refine wpAnyH_ready (rs := [10]) (by kernel_rfl) (by simp) ?_
 refine AllReadyH.cons rfl (fun K hK => ?_) AllReadyH.nil
 go_simp
 go_at_call 13; with_reducible refine (HFc.out _).mono ?_; rintro e w1 ⟨rfl, hb⟩
 refine hK.out _ _ (Held.keep hb (by assumption)) (fun hHeld => ?_)
 clear hK K hb
 try simp only [Act.put, lA, lB, lC]
 refine wpAnyH_take (i := 11) (v := .bool false) rfl (by kernel_rfl) (by kernel_rfl) (by kernel_rfl) (fun _ _ _ h => h) (Or.inl ⟨by kernel_rfl, fun w hSw => by (try dsimp only at hSw); go_simp⟩) (by assumption) ?_
 try simp only [Act.put, lA, lB, lC]
 refine wpAnyH_take (i := 12) (v := .bool false) rfl (by kernel_rfl) (by kernel_rfl) (by kernel_rfl) (fun _ _ _ h => h) (Or.inl ⟨by kernel_rfl, fun w hSw => by (try dsimp only at hSw); go_simp⟩) (by assumption) ?_
 try simp only [Act.put, lA, lB, lC]
 refine wpAnyH_take (i := 13) (v := .bool false) rfl (by kernel_rfl) (by kernel_rfl) (by kernel_rfl) (fun _ _ _ h => h) (Or.inl ⟨by kernel_rfl, fun w hSw => by (try dsimp only at hSw); go_simp⟩) (by assumption) ?_
 try simp only [Act.put, lA, lB, lC]
 refine wpAnyH_take (i := 14) (v := .agg #[.bool d0, .int .i64 d1, .int .i64 d2]) rfl (by kernel_rfl) (by kernel_rfl) (by kernel_rfl) (fun _ _ _ h => h) (Or.inl ⟨by kernel_rfl, fun w hSw => by simp only [Held, List.forall_mem_cons, List.not_mem_nil, false_implies, implies_true, and_true] at hSw; go_simp⟩) (by assumption) ?_
 try simp only [Act.put, lA, lB, lC]
 refine wpAnyH_ready (rs := [15]) (by kernel_rfl) (by simp) ?_
 refine AllReadyH.cons rfl (fun K hK => ?_) AllReadyH.nil
 go_simp
 go_at_call 13; with_reducible refine (HFd.out _).mono ?_; rintro e w1 ⟨rfl, hb⟩
 refine hK.out _ _ (Held.keep hb (by assumption)) (fun hHeld => ?_)
 clear hK K hb
 try simp only [Act.put, lA, lB, lC]
 refine wpAnyH_take (i := 16) (v := .bool false) rfl (by kernel_rfl) (by kernel_rfl) (by kernel_rfl) (fun _ _ _ h => h) (Or.inl ⟨by kernel_rfl, fun w hSw => by (try dsimp only at hSw); go_simp⟩) (by assumption) ?_
 try simp only [Act.put, lA, lB, lC]
 refine wpAnyH_take (i := 17) (v := .bool false) rfl (by kernel_rfl) (by kernel_rfl) (by kernel_rfl) (fun _ _ _ h => h) (Or.inl ⟨by kernel_rfl, fun w hSw => by (try dsimp only at hSw); go_simp⟩) (by assumption) ?_
 try simp only [Act.put, lA, lB, lC]
 refine wpAnyH_take (i := 18) (v := .bool false) rfl (by kernel_rfl) (by kernel_rfl) (by kernel_rfl) (fun _ _ _ h => h) (Or.inl ⟨by kernel_rfl, fun w hSw => by (try dsimp only at hSw); go_simp⟩) (by assumption) ?_
 try simp only [Act.put, lA, lB, lC]
 refine wpAnyH_take (i := 19) (v := .agg #[.int .i64 i1, .int .i64 i2]) rfl (by kernel_rfl) (by kernel_rfl) (by kernel_rfl) (fun _ _ _ h => h) (Or.inl ⟨by kernel_rfl, fun w hSw => by simp only [Held, List.forall_mem_cons, List.not_mem_nil, false_implies, implies_true, and_true] at hSw; go_simp⟩) (by assumption) ?_
 try simp only [Act.put, lA, lB, lC]
 refine wpAnyH_take (i := 20) (v := .pointer (some ⟨w.heap.size + 1 + 1 + 1 + 1, 0, none⟩)) rfl (by kernel_rfl) (by kernel_rfl) (by kernel_rfl) (fun _ _ _ h => h) (Or.inl ⟨by kernel_rfl, fun w hSw => by (try dsimp only at hSw); go_simp⟩) (by assumption) ?_
 try simp only [Act.put, lA, lB, lC]
 refine wpAnyH_take (i := 21) (v := .int .i64 i1) rfl (by kernel_rfl) (by kernel_rfl) (by kernel_rfl) (fun _ _ _ h => h) (Or.inl ⟨by kernel_rfl, fun w hSw => by simp only [Held, List.forall_mem_cons, List.not_mem_nil, false_implies, implies_true, and_true] at hSw; go_simp⟩) (by assumption) ?_
 try simp only [Act.put, lA, lB, lC]
 refine wpAnyH_take (i := 22) (v := .pointer (some ⟨w.heap.size + 1 + 1 + 1 + 1, 1, none⟩)) rfl (by kernel_rfl) (by kernel_rfl) (by kernel_rfl) (fun _ _ _ h => h) (Or.inl ⟨by kernel_rfl, fun w hSw => by (try dsimp only at hSw); go_simp⟩) (by assumption) ?_
 try simp only [Act.put, lA, lB, lC]
 refine wpAnyH_take (i := 23) (v := .int .i64 i2) rfl (by kernel_rfl) (by kernel_rfl) (by kernel_rfl) (fun _ _ _ h => h) (Or.inl ⟨by kernel_rfl, fun w hSw => by simp only [Held, List.forall_mem_cons, List.not_mem_nil, false_implies, implies_true, and_true] at hSw; go_simp⟩) (by assumption) ?_
 try simp only [Act.put, lA, lB, lC]
 refine wpAnyH_ready (rs := [24]) (by kernel_rfl) (by simp) ?_
 refine AllReadyH.cons rfl (fun K hK => ?_) AllReadyH.nil
 go_simp
 go_at_call 23; with_reducible refine (HOi.out _).mono ?_; rintro e w1 ⟨rfl, hb⟩
 refine hK.out _ _ (Held.keep hb (by assumption)) (fun hHeld => ?_)
 clear hK K hb
 try simp only [Act.put, lA, lB, lC]
 refine wpAnyH_take (i := 25) (v := .bool false) rfl (by kernel_rfl) (by kernel_rfl) (by kernel_rfl) (fun _ _ _ h => h) (Or.inl ⟨by kernel_rfl, fun w hSw => by (try dsimp only at hSw); go_simp⟩) (by assumption) ?_
 try simp only [Act.put, lA, lB, lC]
 refine wpAnyH_take (i := 26) (v := .bool false) rfl (by kernel_rfl) (by kernel_rfl) (by kernel_rfl) (fun _ _ _ h => h) (Or.inl ⟨by kernel_rfl, fun w hSw => by (try dsimp only at hSw); go_simp⟩) (by assumption) ?_
 try simp only [Act.put, lA, lB, lC]
 refine wpAnyH_take (i := 27) (v := .bool false) rfl (by kernel_rfl) (by kernel_rfl) (by kernel_rfl) (fun _ _ _ h => h) (Or.inl ⟨by kernel_rfl, fun w hSw => by (try dsimp only at hSw); go_simp⟩) (by assumption) ?_
 try simp only [Act.put, lA, lB, lC]
 refine wpAnyH_take (i := 28) (v := .agg #[.int .i64 r1, .int .i64 r2]) rfl (by kernel_rfl) (by kernel_rfl) (by kernel_rfl) (fun _ _ _ h => h) (Or.inl ⟨by kernel_rfl, fun w hSw => by simp only [Held, List.forall_mem_cons, List.not_mem_nil, false_implies, implies_true, and_true] at hSw; go_simp⟩) (by assumption) ?_
 try simp only [Act.put, lA, lB, lC]
 refine wpAnyH_take (i := 29) (v := .pointer (some ⟨w.heap.size + 1 + 1 + 1 + 1 + 1, 0, none⟩)) rfl (by kernel_rfl) (by kernel_rfl) (by kernel_rfl) (fun _ _ _ h => h) (Or.inl ⟨by kernel_rfl, fun w hSw => by (try dsimp only at hSw); go_simp⟩) (by assumption) ?_
 try simp only [Act.put, lA, lB, lC]
 refine wpAnyH_take (i := 30) (v := .int .i64 r1) rfl (by kernel_rfl) (by kernel_rfl) (by kernel_rfl) (fun _ _ _ h => h) (Or.inl ⟨by kernel_rfl, fun w hSw => by simp only [Held, List.forall_mem_cons, List.not_mem_nil, false_implies, implies_true, and_true] at hSw; go_simp⟩) (by assumption) ?_
 try simp only [Act.put, lA, lB, lC]
 refine wpAnyH_take (i := 31) (v := .pointer (some ⟨w.heap.size + 1 + 1 + 1 + 1 + 1, 1, none⟩)) rfl (by kernel_rfl) (by kernel_rfl) (by kernel_rfl) (fun _ _ _ h => h) (Or.inl ⟨by kernel_rfl, fun w hSw => by (try dsimp only at hSw); go_simp⟩) (by assumption) ?_
 try simp only [Act.put, lA, lB, lC]
 refine wpAnyH_take (i := 32) (v := .int .i64 r2) rfl (by kernel_rfl) (by kernel_rfl) (by kernel_rfl) (fun _ _ _ h => h) (Or.inl ⟨by kernel_rfl, fun w hSw => by simp only [Held, List.forall_mem_cons, List.not_mem_nil, false_implies, implies_true, and_true] at hSw; go_simp⟩) (by assumption) ?_
 try simp only [Act.put, lA, lB, lC]
 refine wpAnyH_ready (rs := [33]) (by kernel_rfl) (by simp) ?_
 refine AllReadyH.cons rfl (fun K hK => ?_) AllReadyH.nil
 go_simp
 go_at_call 23; with_reducible refine (HOr.out _).mono ?_; rintro e w1 ⟨rfl, hb⟩
 refine hK.out _ _ (Held.keep hb (by assumption)) (fun hHeld => ?_)
 clear hK K hb
 try simp only [Act.put, lA, lB, lC]
 refine wpAnyH_take (i := 34) (v := .bool true) rfl (by kernel_rfl) (by kernel_rfl) (by kernel_rfl) (fun _ _ _ h => h) (Or.inl ⟨by kernel_rfl, fun w hSw => by (try dsimp only at hSw); go_simp⟩) (by assumption) ?_
 try simp only [Act.put, lA, lB, lC]
 refine wpAnyH_take (i := 35) (v := .bool true) rfl (by kernel_rfl) (by kernel_rfl) (by kernel_rfl) (fun _ _ _ h => h) (Or.inl ⟨by kernel_rfl, fun w hSw => by (try dsimp only at hSw); go_simp⟩) (by assumption) ?_
 try simp only [Act.put, lA, lB, lC]
 refine wpAnyH_done (by kernel_rfl) ?_ _
 simp only [Act.put, List.getElem_toArray, List.getElem_cons_succ, List.getElem_cons_zero, lA, lB, lC]
 have hS1 := hHeld
 clear hHeld
 go_wp2_with (first | (go_at_call 18; with_reducible refine (HAw.out _).mono ?_; rintro e w1 ⟨rfl, hb⟩; replace hS1 := Held.keep hb hS1))
 go_ret
 exact ⟨rfl, hS1.1⟩
end Go.Proofs.YtfmmjekhknaniaaDoor.Mn

