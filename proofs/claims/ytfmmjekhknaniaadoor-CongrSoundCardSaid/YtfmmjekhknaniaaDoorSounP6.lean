/- This claim's own texts, joined, with only what the claim uses: Hx54, Hx58, Hx59, Hx62, FnC, Hx18, Hx19, Hx20, Hx56. -/
import Derived.Test.YtfmmjekhknaniaaDoorSounP5
namespace Go.Proofs.YtfmmjekhknaniaaDoor.Pr
open Go.RowKit Go.Proofs.YtfmmjekhknaniaaDoor.Given Go.Proofs.YtfmmjekhknaniaaDoorW.PrintWords Go.Proofs.YtfmmjekhknaniaaDoorW.PrintLast Go.Proofs.YtfmmjekhknaniaaDoorW.PrintMore
attribute [local go_sem] max2_int min2_int max_two min_two max_three min_three max_four min_four   -- for this text's walks alone
set_option linter.unusedVariables false
set_option linter.unusedSimpArgs false

def congr_Sub.j0 : Nat → Bool → Bool → Int → Int → Bool → Int → Int → Option (Bool × Int × Int)
 | 0, _, _, _, _, _, _, _ => none
 | k + 1, x10, x489000, x489001, x489002, x490000, x490001, x490002 => if x10 = true then ((congr_none.f).bind fun bt491 => (some (bt491.1, bt491.2.1, bt491.2.2))) else ((congr_gcd_uint64.f k (IntKind.u64.wrap (x489001)) (IntKind.u64.wrap (x490001))).bind fun t494 => ((congr_by.f k t494 (wrap64 (x489002 - x490002))).bind fun bt495 => (some (bt495.1, bt495.2.1, bt495.2.2))))
def congr_Sub.f (k : Nat) (a0_0 : Bool) (a0_1 : Int) (a0_2 : Int) (a1_0 : Bool) (a1_1 : Int) (a1_2 : Int) : Option (Bool × Int × Int) := if a0_0 = true then (congr_Sub.j0 k true a0_0 a0_1 a0_2 a1_0 a1_1 a1_2) else (congr_Sub.j0 k a1_0 a0_0 a0_1 a0_2 a1_0 a1_1 a1_2)
def congr_Sub.T3 : Bool × List (List Nat × List Nat) := (true, [([], []), ([0], [0]), ([1], [1]), ([], []), ([3], [3]), ([4], [4]), ([2, 5], [2, 5]), ([], []), ([7], [7]), ([], []), ([9], [9]), ([8, 10], [8, 10]), ([6, 11, 6], [6, 11]), ([12, 12, 0, 1, 2, 3, 4, 5, 6, 7, 8, 9, 10, 11, 12], [12])])
def congr_Sub.B3 : List Nat := [0, 1, 3, 0, 8, 24, 63, 0, 128, 0, 512, 1920, 4095, 8191]
theorem congr_Sub.tab3 : rtab .any (opsOf Tryd.f37 3) = congr_Sub.T3 := by kernel_rfl
theorem congr_Sub.bits3 : waitsOk congr_Sub.T3.2 congr_Sub.B3 = true := by kernel_rfl
set_option maxHeartbeats 8000000 in
set_option maxRecDepth 100000 in
theorem congr_Sub.calls (k : Nat) (a0_0 : Bool) (a0_1 : Int) (a0_2 : Int) (a1_0 : Bool) (a1_1 : Int) (a1_2 : Int) (r1 : Bool) (r2 : Int) (r3 : Int) (w : World) (h : congr_Sub.f k a0_0 a0_1 a0_2 a1_0 a1_1 a1_2 = some (r1, r2, r3)) :
  Calls Tryd.prog 37 #[.agg #[.bool a0_0, .int .i64 a0_1, .int .i64 a0_2], .agg #[.bool a1_0, .int .i64 a1_1, .int .i64 a1_2]] w fun e w' => e = .returned (.agg #[.bool r1, .int .i64 r2, .int .i64 r3]) ∧ Below w.heap.size w w' := by
 have hu23 := Tryd.underlying23
 have HB := Aside0.mk (Below.refl w.heap.size w)
 have H : (if a0_0 = true then (congr_Sub.j0 k true a0_0 a0_1 a0_2 a1_0 a1_1 a1_2) else (congr_Sub.j0 k a1_0 a0_0 a0_1 a0_2 a1_0 a1_1 a1_2)) = some (r1, r2, r3) := h
 clear h
 have HC3 := Aside0.mk H
 clear H
 go_enter Tryd.func37, Tryd.ntmps37
 go_upto_region 1 with (first | ((with_reducible refine gate_dst (N := 2) rfl ?_); refine box_event ?hg (N := 2) ?hd (cs := #[.bool a0_0, .int .i64 a0_1, .int .i64 a0_2]) (t := 23) ?hr ?_; (case hd => rfl); (case hg => rfl); (case hr => first | (go_simp; done) | (go_simp; rfl)); intro gb488 hg w4 hbox hb; have n0_ := kW HB hb; have n1_ := Aside0.mk (hbox); have n2_ := Aside0.mk ((by rw [hg]; exact (below_size (bS HB)) : w.heap.size ≤ gb488)); have n3_ := Aside0.mk ((by rw [hg]; exact (below_size (bS HB)) : w.heap.size ≤ gb488)); clear HB; have HB := n0_; have BK488 := n1_; have GW488 := n2_; have GE488 := n3_; clear n0_ n1_ n2_ n3_; clear hb hbox hg) | ((with_reducible refine gate_dst (N := 3) rfl ?_); refine box_event ?hg (N := 3) ?hd (cs := #[.bool a1_0, .int .i64 a1_1, .int .i64 a1_2]) (t := 23) ?hr ?_; (case hd => rfl); (case hg => rfl); (case hr => first | (go_simp; done) | (go_simp; rfl)); intro gb489 hg w5 hbox hb; have n0_ := kB BK488 hb; have n1_ := kW HB hb; have n2_ := Aside0.mk (hbox); have n3_ := Aside0.mk ((by rw [hg]; exact (below_size (bS HB)) : w.heap.size ≤ gb489)); have n4_ := Aside0.mk ((by rw [hg]; exact (below_size (bS HB)) : w.heap.size ≤ gb489)); have n5_ := Aside0.mk ((by rw [hg]; exact Nat.ne_of_lt (blk_lt (bkS BK488)) : gb488 ≠ gb489)); have n6_ := Aside0.mk ((by rw [hg]; exact Nat.ne_of_gt (blk_lt (bkS BK488)) : gb489 ≠ gb488)); clear BK488; clear HB; have BK488 := n0_; have HB := n1_; have BK489 := n2_; have GW489 := n3_; have GE489 := n4_; have NB488_489 := n5_; have NB489_488 := n6_; clear n0_ n1_ n2_ n3_ n4_ n5_ n6_; clear hb hbox hg) | ((with_reducible refine gate_dst (N := 4) rfl ?_); refine box_event ?hg (N := 4) ?hd (cs := #[.bool false, .int .i64 0, .int .i64 0]) (t := 23) ?hr ?_; (case hd => rfl); (case hg => rfl); (case hr => first | (go_simp; done) | (go_simp; rfl)); intro gb490 hg w6 hbox hb; have n0_ := kB BK488 hb; have n1_ := kB BK489 hb; have n2_ := kW HB hb; have n3_ := Aside0.mk (hbox); have n4_ := Aside0.mk ((by rw [hg]; exact (below_size (bS HB)) : w.heap.size ≤ gb490)); have n5_ := Aside0.mk ((by rw [hg]; exact (below_size (bS HB)) : w.heap.size ≤ gb490)); have n6_ := Aside0.mk ((by rw [hg]; exact Nat.ne_of_lt (blk_lt (bkS BK488)) : gb488 ≠ gb490)); have n7_ := Aside0.mk ((by rw [hg]; exact Nat.ne_of_gt (blk_lt (bkS BK488)) : gb490 ≠ gb488)); have n8_ := Aside0.mk ((by rw [hg]; exact Nat.ne_of_lt (blk_lt (bkS BK489)) : gb489 ≠ gb490)); have n9_ := Aside0.mk ((by rw [hg]; exact Nat.ne_of_gt (blk_lt (bkS BK489)) : gb490 ≠ gb489)); clear BK488; clear BK489; clear HB; have BK488 := n0_; have BK489 := n1_; have HB := n2_; have BK490 := n3_; have GW490 := n4_; have GE490 := n5_; have NB488_490 := n6_; have NB490_488 := n7_; have NB489_490 := n8_; have NB490_489 := n9_; clear n0_ n1_ n2_ n3_ n4_ n5_ n6_ n7_ n8_ n9_; clear hb hbox hg))
 (try simp only [Act.put, lA, lB, lC])
 go_cut [10] (fun v10 wc => ∃ (kq : Nat) (x10_2 : Bool), v10 = .bool x10_2 ∧ Aside0 (congr_Sub.j0 kq x10_2 a0_0 a0_1 a0_2 a1_0 a1_1 a1_2 = some (r1, r2, r3)) ∧ Aside0 (kq ≤ k) ∧ Aside0 (wc.heap[gb488]? = some (.cells #[.bool a0_0, .int .i64 a0_1, .int .i64 a0_2] 23 (0, 0))) ∧ Aside0 (wc.heap[gb489]? = some (.cells #[.bool a1_0, .int .i64 a1_1, .int .i64 a1_2] 23 (0, 0))) ∧ Aside0 (wc.heap[gb490]? = some (.cells #[.bool false, .int .i64 0, .int .i64 0] 23 (0, 0))) ∧ Aside0 (Below w.heap.size w wc))
 case first =>
  have H := HC3.out
  clear HC3
  by_cases c7 : a0_0 = true
  ·
   subst c7
   have H1 : (congr_Sub.j0 k true true a0_1 a0_2 a1_0 a1_1 a1_2) = some (r1, r2, r3) := by rw [if_pos rfl] at H; exact H
   clear H
   have H := H1
   clear H1
   have H' := Aside0.mk H
   clear H
   have hnb8 := NB488_489.out
   have hnc8 := NB489_488.out
   have hnb9 := NB488_490.out
   have hnc9 := NB490_488.out
   have hcz10_0 := cz0 BK488
   have hcz10_1 := cz1 BK488
   have hcz10_2 := cz2 BK488
   have hfz10_0 := fz BK488 0
   have hfz10_1 := fz BK488 1
   have hfz10_2 := fz BK488 2
   go_wp2
   go_meet
   case rel => exact ⟨_, (true), (by first | rfl | (simp; done) | (simp [*]; done)), H', ⟨by first | omega | exact Nat.le_refl _⟩, ⟨bkS BK488⟩, ⟨bkS BK489⟩, ⟨bkS BK490⟩, ⟨bS HB⟩⟩
  ·
   replace c7 := Bool.eq_false_iff.mpr c7
   subst c7
   have H1 : (congr_Sub.j0 k a1_0 false a0_1 a0_2 a1_0 a1_1 a1_2) = some (r1, r2, r3) := by rw [if_neg (show ¬ (false = true) by decide)] at H; exact H
   clear H
   have H := H1
   clear H1
   have H' := Aside0.mk H
   clear H
   have hnb11 := NB488_489.out
   have hnc11 := NB489_488.out
   have hnb12 := NB488_490.out
   have hnc12 := NB490_488.out
   have hcz13_0 := cz0 BK488
   have hcz13_1 := cz1 BK488
   have hcz13_2 := cz2 BK488
   have hfz13_0 := fz BK488 0
   have hfz13_1 := fz BK488 1
   have hfz13_2 := fz BK488 2
   have hnb14 := NB489_490.out
   have hnc14 := NB490_489.out
   have hcz15_0 := cz0 BK489
   have hcz15_1 := cz1 BK489
   have hcz15_2 := cz2 BK489
   have hfz15_0 := fz BK489 0
   have hfz15_1 := fz BK489 1
   have hfz15_2 := fz BK489 2
   go_wp2
   go_meet
   case rel => exact ⟨_, (a1_0), (by first | rfl | (simp; done) | (simp [*]; done)), H', ⟨by first | omega | exact Nat.le_refl _⟩, ⟨bkS BK488⟩, ⟨bkS BK489⟩, ⟨bkS BK490⟩, ⟨bS HB⟩⟩
 case rest =>
  clear HC3
  try clear c1
  try clear p2
  try clear c3
  try clear c7
  try clear c8
  try clear c9
  try clear c11
  try clear c12
  try clear c14
  try clear hcz10_0
  try clear hcz10_1
  try clear hcz10_2
  try clear hcz13_0
  try clear hcz13_1
  try clear hcz13_2
  try clear hcz15_0
  try clear hcz15_1
  try clear hcz15_2
  try clear hfz10_0
  try clear hfz10_1
  try clear hfz10_2
  try clear hfz13_0
  try clear hfz13_1
  try clear hfz13_2
  try clear hfz15_0
  try clear hfz15_1
  try clear hfz15_2
  obtain ⟨kq, x10_2, rfl, HA, HJ2, BK488, BK489, BK490, HB⟩ := hcut
  cases kq with
  | zero => exact absurd HA.out (by simp [congr_Sub.j0])
  | succ kj2 =>
   have H := HA.out
   clear HA
   simp only [congr_Sub.j0] at H
   by_cases c16 : x10_2 = true
   ·
    subst c16
    have H1 : ((congr_none.f).bind fun bt491 => (some (bt491.1, bt491.2.1, bt491.2.2))) = some (r1, r2, r3) := by rw [if_pos rfl] at H; exact H
    clear H
    have H := H1
    clear H1
    replace H := Option.bind_eq_some_iff.mp H
    obtain ⟨⟨t491, t492, t493⟩, A170, H⟩ := H
    replace H : (some (t491, t492, t493)) = some (r1, r2, r3) := H
    have A17 := Aside0.mk A170
    clear A170
    simp only [Option.some.injEq, Prod.mk.injEq] at H
    obtain ⟨rfl, rfl, rfl⟩ := H
    go_wp2_with (first | ((with_reducible refine gate_callee (f := 56) rfl ?_); refine goesL_ (some 11) rfl rfl Tryd.func56 (by kernel_rfl) rfl #[] rfl mS ?_; (with_reducible refine (congr_none.calls  t491 t492 t493 _ A17.out).mono ?_); rintro e w18 ⟨rfl, hb⟩; refine ⟨_, rfl, ?_⟩; replace BK488 := kB BK488 hb; replace BK489 := kB BK489 hb; replace BK490 := kB BK490 hb; replace HB := kW HB hb; (try clear hb); (try clear hb2); (try clear hk); (try clear hi); have hnb19 := NB490_488.out; have hnc19 := NB488_490.out; have hnb20 := NB490_489.out; have hnc20 := NB489_490.out; have hcz21_0 := cz0 BK490; have hcz21_1 := cz1 BK490; have hcz21_2 := cz2 BK490; have hfz21_0 := fz BK490 0; have hfz21_1 := fz BK490 1; have hfz21_2 := fz BK490 2))
    refine bodyPost_ret (results_cell_row rfl _ _ gb490 23 #[.bool t491, .int .i64 t492, .int .i64 t493] (0, 0) _ rfl (by (with_reducible repeat (first | refine b1 ?_ _ | refine b2 ?_ | refine b3 ?_ _)); refine blk_put (cs := #[.bool t491, .int .i64 t492, .int .i64 0]) ?_ 2 _ rfl; (with_reducible repeat (first | refine b1 ?_ _ | refine b2 ?_ | refine b3 ?_ _)); refine blk_put (cs := #[.bool t491, .int .i64 0, .int .i64 0]) ?_ 1 _ rfl; (with_reducible repeat (first | refine b1 ?_ _ | refine b2 ?_ | refine b3 ?_ _)); refine blk_put (cs := #[.bool false, .int .i64 0, .int .i64 0]) ?_ 0 _ rfl; (with_reducible repeat (first | refine b1 ?_ _ | refine b2 ?_ | refine b3 ?_ _)); exact BK490.out) Tryd.underlying23 rfl (by kernel_rfl)) rfl ?_
    exact ⟨eS, bS HB⟩
   ·
    replace c16 := Bool.eq_false_iff.mpr c16
    subst c16
    have H1 : ((congr_gcd_uint64.f kj2 (IntKind.u64.wrap (a0_1)) (IntKind.u64.wrap (a1_1))).bind fun t494 => ((congr_by.f kj2 t494 (wrap64 (a0_2 - a1_2))).bind fun bt495 => (some (bt495.1, bt495.2.1, bt495.2.2)))) = some (r1, r2, r3) := by rw [if_neg (show ¬ (false = true) by decide)] at H; exact H
    clear H
    have H := H1
    clear H1
    replace H := Option.bind_eq_some_iff.mp H
    obtain ⟨t494, A220, H⟩ := H
    replace H : ((congr_by.f kj2 t494 (wrap64 (a0_2 - a1_2))).bind fun bt495 => (some (bt495.1, bt495.2.1, bt495.2.2))) = some (r1, r2, r3) := H
    have A22 := Aside0.mk A220
    clear A220
    replace H := Option.bind_eq_some_iff.mp H
    obtain ⟨⟨t495, t496, t497⟩, A230, H⟩ := H
    replace H : (some (t495, t496, t497)) = some (r1, r2, r3) := H
    have A23 := Aside0.mk A230
    clear A230
    simp only [Option.some.injEq, Prod.mk.injEq] at H
    obtain ⟨rfl, rfl, rfl⟩ := H
    try go_wp2
    replace BK488 := Aside0.mk (blk_drew BK488.out)
    replace BK489 := Aside0.mk (blk_drew BK489.out)
    replace BK490 := Aside0.mk (blk_drew BK490.out)
    replace HB := Aside0.mk (below_drew1 HB.out)
    refine start_ (n := 14) (S := fun w' => w'.cell? ⟨gb488, 0, none⟩ = some (.bool a0_0) ∧ w'.cell? ⟨gb488, 1, none⟩ = some (.int .i64 a0_1) ∧ w'.cell? ⟨gb488, 2, none⟩ = some (.int .i64 a0_2) ∧ w'.cell? ⟨gb489, 0, none⟩ = some (.bool a1_0) ∧ w'.cell? ⟨gb489, 1, none⟩ = some (.int .i64 a1_1) ∧ w'.cell? ⟨gb489, 2, none⟩ = some (.int .i64 a1_2)) (ds := []) #[false, false, false, false, false, false, false, false, false, false, false, false, false, false] (by kernel_rfl) rfl rfl ⟨cz0 BK488, cz1 BK488, cz2 BK488, cz0 BK489, cz1 BK489, cz2 BK489⟩ (fun hHeld => ?_); refine with_tabW congr_Sub.tab3 congr_Sub.bits3 (fun HT_ HW_ => ?_)
    generalize wc.drew = w24 at BK488 BK489 BK490 HB hHeld ⊢
    refine pure_ (i := 0) (N := some 12) (v := ?_) (a' := ?_) #[true, false, false, false, false, false, false, false, false, false, false, false, false, false] rfl rfl (any_of HT_.out (by kernel_rfl)) (fun _ _ _ h => h) (Or.inl ⟨by rfl, ?_⟩) ?_ ?_
    rotate_left
    ·
     intro w'
     go_simp
     with_reducible rfl
    rotate_left
    ·
     simp only [Act.put, lA, lB, lC, i64_w, i32_w]
     rfl
    refine pure_ (i := 3) (N := some 15) (v := ?_) (a' := ?_) #[true, false, false, true, false, false, false, false, false, false, false, false, false, false] rfl rfl (any_of HT_.out (by kernel_rfl)) (fun _ _ _ h => h) (Or.inl ⟨by rfl, ?_⟩) ?_ ?_
    rotate_left
    ·
     intro w'
     go_simp
     with_reducible rfl
    rotate_left
    ·
     simp only [Act.put, lA, lB, lC, i64_w, i32_w]
     rfl
    refine pure_ (i := 7) (N := some 19) (v := ?_) (a' := ?_) #[true, false, false, true, false, false, false, true, false, false, false, false, false, false] rfl rfl (any_of HT_.out (by kernel_rfl)) (fun _ _ _ h => h) (Or.inl ⟨by rfl, ?_⟩) ?_ ?_
    rotate_left
    ·
     intro w'
     go_simp
     with_reducible rfl
    rotate_left
    ·
     simp only [Act.put, lA, lB, lC, i64_w, i32_w]
     rfl
    refine pure_ (i := 9) (N := some 21) (v := ?_) (a' := ?_) #[true, false, false, true, false, false, false, true, false, true, false, false, false, false] rfl rfl (any_of HT_.out (by kernel_rfl)) (fun _ _ _ h => h) (Or.inl ⟨by rfl, ?_⟩) ?_ ?_
    rotate_left
    ·
     intro w'
     go_simp
     with_reducible rfl
    rotate_left
    ·
     simp only [Act.put, lA, lB, lC, i64_w, i32_w]
     rfl
    refine take_ (i := 1) (N := some 13) (v := ?_) (a' := ?_) #[true, true, false, true, false, false, false, true, false, true, false, false, false, false] rfl rfl (take_ofW HT_.out HW_.out (by kernel_rfl)) (fun _ _ _ h => h) (Or.inl ⟨by rfl, ?_⟩) hHeld ?_ ?_
    rotate_left
    ·
     rintro w' ⟨s0, s1, s2, s3, s4, s5⟩
     go_simp
     with_reducible rfl
    rotate_left
    ·
     simp only [Act.put, lA, lB, lC, i64_w, i32_w]
     rfl
    refine pure_ (i := 2) (N := some 14) (v := ?_) (a' := ?_) #[true, true, true, true, false, false, false, true, false, true, false, false, false, false] rfl rfl (any_of HT_.out (by kernel_rfl)) (fun _ _ _ h => h) (Or.inl ⟨by rfl, ?_⟩) ?_ ?_
    rotate_left
    ·
     intro w'
     go_simp
     with_reducible rfl
    rotate_left
    ·
     simp only [Act.put, lA, lB, lC, i64_w, i32_w]
     rfl
    refine take_ (i := 4) (N := some 16) (v := ?_) (a' := ?_) #[true, true, true, true, true, false, false, true, false, true, false, false, false, false] rfl rfl (take_ofW HT_.out HW_.out (by kernel_rfl)) (fun _ _ _ h => h) (Or.inl ⟨by rfl, ?_⟩) hHeld ?_ ?_
    rotate_left
    ·
     rintro w' ⟨s0, s1, s2, s3, s4, s5⟩
     go_simp
     with_reducible rfl
    rotate_left
    ·
     simp only [Act.put, lA, lB, lC, i64_w, i32_w]
     rfl
    refine pure_ (i := 5) (N := some 17) (v := ?_) (a' := ?_) #[true, true, true, true, true, true, false, true, false, true, false, false, false, false] rfl rfl (any_of HT_.out (by kernel_rfl)) (fun _ _ _ h => h) (Or.inl ⟨by rfl, ?_⟩) ?_ ?_
    rotate_left
    ·
     intro w'
     go_simp
     with_reducible rfl
    rotate_left
    ·
     simp only [Act.put, lA, lB, lC, i64_w, i32_w]
     rfl
    refine take_ (i := 8) (N := some 20) (v := ?_) (a' := ?_) #[true, true, true, true, true, true, false, true, true, true, false, false, false, false] rfl rfl (take_ofW HT_.out HW_.out (by kernel_rfl)) (fun _ _ _ h => h) (Or.inl ⟨by rfl, ?_⟩) hHeld ?_ ?_
    rotate_left
    ·
     rintro w' ⟨s0, s1, s2, s3, s4, s5⟩
     go_simp
     with_reducible rfl
    rotate_left
    ·
     simp only [Act.put, lA, lB, lC, i64_w, i32_w]
     rfl
    refine take_ (i := 10) (N := some 22) (v := ?_) (a' := ?_) #[true, true, true, true, true, true, false, true, true, true, true, false, false, false] rfl rfl (take_ofW HT_.out HW_.out (by kernel_rfl)) (fun _ _ _ h => h) (Or.inl ⟨by rfl, ?_⟩) hHeld ?_ ?_
    rotate_left
    ·
     rintro w' ⟨s0, s1, s2, s3, s4, s5⟩
     go_simp
     with_reducible rfl
    rotate_left
    ·
     simp only [Act.put, lA, lB, lC, i64_w, i32_w]
     rfl
    refine pure_ (i := 11) (N := some 23) (v := ?_) (a' := ?_) #[true, true, true, true, true, true, false, true, true, true, true, true, false, false] rfl rfl (any_of HT_.out (by kernel_rfl)) (fun _ _ _ h => h) (Or.inl ⟨by rfl, ?_⟩) ?_ ?_
    rotate_left
    ·
     intro w'
     go_simp
     with_reducible rfl
    rotate_left
    ·
     simp only [Act.put, lA, lB, lC, i64_w, i32_w]
     rfl
    refine one_ (i := 6) (N := some 18) #[true, true, true, true, true, true, true, true, true, true, true, true, false, false] rfl rfl (one_of HT_.out (by kernel_rfl)) (by decide) (fun K hK => ?_)
    refine goes_ Tryd.func62 (by kernel_rfl) rfl #[.int .u64 (IntKind.u64.wrap (a0_1)), .int .u64 (IntKind.u64.wrap (a1_1))] (by rfl) rfl rfl mS ?_
    with_reducible refine (congr_gcd_uint64.calls kj2 (IntKind.u64.wrap (a0_1)) (IntKind.u64.wrap (a1_1)) t494 _ A22.out).mono ?_
    rintro e w' ⟨rfl, ⟨nd, rfl⟩⟩
    refine ⟨_, rfl, ?_⟩
    refine hK.out _ _ ⟨cz0 BK488, cz1 BK488, cz2 BK488, cz0 BK489, cz1 BK489, cz2 BK489⟩ (fun hHeld => ?_)
    clear hK K
    refine norm_ (a' := ?_) ?_ ?_
    rotate_left
    ·
     show Act.put _ (some 18) _ = _
     simp only [Act.put, lA, lB, lC, i64_w, i32_w]
     rfl
    refine one_ (i := 12) (N := some 24) #[true, true, true, true, true, true, true, true, true, true, true, true, true, false] rfl rfl (one_of HT_.out (by kernel_rfl)) (by decide) (fun K hK => ?_)
    refine goes_ Tryd.func60 (by kernel_rfl) rfl #[.int .u64 t494, .int .i64 (wrap64 (a0_2 - a1_2))] (by rfl) rfl rfl mS ?_
    with_reducible refine (congr_by.calls kj2 t494 (wrap64 (a0_2 - a1_2)) t495 t496 t497 _ A23.out).mono ?_
    rintro e w25 ⟨rfl, hb⟩
    refine ⟨_, rfl, ?_⟩
    replace BK488 := kB BK488 hb
    replace BK489 := kB BK489 hb
    replace BK490 := kB BK490 hb
    replace HB := kW HB hb
    (try clear hb)
    (try clear hb2)
    (try clear hk)
    (try clear hi)
    refine hK.out _ _ ⟨cz0 BK488, cz1 BK488, cz2 BK488, cz0 BK489, cz1 BK489, cz2 BK489⟩ (fun hHeld => ?_)
    clear hK K
    refine norm_ (a' := ?_) ?_ ?_
    rotate_left
    ·
     show Act.put _ (some 24) _ = _
     simp only [Act.put, lA, lB, lC, i64_w, i32_w]
     rfl
    refine one_ (i := 13) (N := none) #[true, true, true, true, true, true, true, true, true, true, true, true, true, true] rfl rfl (one_of HT_.out (by kernel_rfl)) (by decide) (fun K hK => ?_)
    have hs26 : w25.cell? ⟨gb490, 0, none⟩ = some (.bool false) := cz0 BK490
    have hfs26 := fz BK490 0
    have hns26_0 := NB488_490.out
    have hns26_1 := NB489_490.out
    have hms26_0 := NB490_488.out
    have hms26_1 := NB490_489.out
    have hs27 : w25.cell? ⟨gb490, 1, none⟩ = some (.int .i64 0) := cz1 BK490
    have hfs27 := fz BK490 1
    have hns27_0 := NB488_490.out
    have hns27_1 := NB489_490.out
    have hms27_0 := NB490_488.out
    have hms27_1 := NB490_489.out
    have hs28 : w25.cell? ⟨gb490, 2, none⟩ = some (.int .i64 0) := cz2 BK490
    have hfs28 := fz BK490 2
    have hns28_0 := NB488_490.out
    have hns28_1 := NB489_490.out
    have hms28_0 := NB490_488.out
    have hms28_1 := NB490_489.out
    refine skip_ (w1 := ?_) (by rfl) rfl ?_ ?_
    rotate_left
    ·
     go_simp
     rfl
    refine hK.out _ _ ⟨((cell_far (p := ⟨gb490, _, none⟩) NB488_490.out _).trans (((cell_far (p := ⟨gb490, _, none⟩) NB488_490.out _).trans (((cell_far (p := ⟨gb490, _, none⟩) NB488_490.out _).trans (hHeld.1)))))), ((cell_far (p := ⟨gb490, _, none⟩) NB488_490.out _).trans (((cell_far (p := ⟨gb490, _, none⟩) NB488_490.out _).trans (((cell_far (p := ⟨gb490, _, none⟩) NB488_490.out _).trans (hHeld.2.1)))))), ((cell_far (p := ⟨gb490, _, none⟩) NB488_490.out _).trans (((cell_far (p := ⟨gb490, _, none⟩) NB488_490.out _).trans (((cell_far (p := ⟨gb490, _, none⟩) NB488_490.out _).trans (hHeld.2.2.1)))))), ((cell_far (p := ⟨gb490, _, none⟩) NB489_490.out _).trans (((cell_far (p := ⟨gb490, _, none⟩) NB489_490.out _).trans (((cell_far (p := ⟨gb490, _, none⟩) NB489_490.out _).trans (hHeld.2.2.2.1)))))), ((cell_far (p := ⟨gb490, _, none⟩) NB489_490.out _).trans (((cell_far (p := ⟨gb490, _, none⟩) NB489_490.out _).trans (((cell_far (p := ⟨gb490, _, none⟩) NB489_490.out _).trans (hHeld.2.2.2.2.1)))))), ((cell_far (p := ⟨gb490, _, none⟩) NB489_490.out _).trans (((cell_far (p := ⟨gb490, _, none⟩) NB489_490.out _).trans (((cell_far (p := ⟨gb490, _, none⟩) NB489_490.out _).trans (hHeld.2.2.2.2.2))))))⟩ (fun hHeld => ?_)
    clear hK K
    refine done_ (done_of HT_.out (by kernel_rfl)) ?_
    try go_wp2
    refine bodyPost_ret (results_cell_row rfl _ _ gb490 23 #[.bool t495, .int .i64 t496, .int .i64 t497] (0, 0) _ rfl (by (with_reducible repeat (first | refine b1 ?_ _ | refine b2 ?_ | refine b3 ?_ _)); refine blk_put (cs := #[.bool t495, .int .i64 t496, .int .i64 0]) ?_ 2 _ rfl; (with_reducible repeat (first | refine b1 ?_ _ | refine b2 ?_ | refine b3 ?_ _)); refine blk_put (cs := #[.bool t495, .int .i64 0, .int .i64 0]) ?_ 1 _ rfl; (with_reducible repeat (first | refine b1 ?_ _ | refine b2 ?_ | refine b3 ?_ _)); refine blk_put (cs := #[.bool false, .int .i64 0, .int .i64 0]) ?_ 0 _ rfl; (with_reducible repeat (first | refine b1 ?_ _ | refine b2 ?_ | refine b3 ?_ _)); exact BK490.out) Tryd.underlying23 rfl (by kernel_rfl)) rfl ?_
    exact ⟨eS, bS HB⟩

def congr_all.f  : Option (Bool × Int × Int) := some (false, 1, 0)
set_option maxHeartbeats 8000000 in
set_option maxRecDepth 100000 in
theorem congr_all.calls  (r1 : Bool) (r2 : Int) (r3 : Int) (w : World) (h : congr_all.f  = some (r1, r2, r3)) :
  Calls Tryd.prog 84 #[] w fun e w' => e = .returned (.agg #[.bool r1, .int .i64 r2, .int .i64 r3]) ∧ Below w.heap.size w w' := by
 have hu23 := Tryd.underlying23
 have HB := Aside0.mk (Below.refl w.heap.size w)
 have H : (some (false, 1, 0)) = some (r1, r2, r3) := h
 clear h
 simp only [Option.some.injEq, Prod.mk.injEq] at H
 obtain ⟨rfl, rfl, rfl⟩ := H
 go_enter Tryd.func84, Tryd.ntmps84
 go_wp2_with (first | ((with_reducible refine gate_dst (N := 0) rfl ?_); refine box_event ?hg (N := 0) ?hd (cs := #[.bool false, .int .i64 0, .int .i64 0]) (t := 23) ?hr ?_; (case hd => rfl); (case hg => rfl); (case hr => first | (go_simp; done) | (go_simp; rfl)); intro gb548 hg w1 hbox hb; have n0_ := kW HB hb; have n1_ := Aside0.mk (hbox); have n2_ := Aside0.mk ((by rw [hg]; exact (below_size (bS HB)) : w.heap.size ≤ gb548)); have n3_ := Aside0.mk ((by rw [hg]; exact (below_size (bS HB)) : w.heap.size ≤ gb548)); clear HB; have HB := n0_; have BK548 := n1_; have GW548 := n2_; have GE548 := n3_; clear n0_ n1_ n2_ n3_; clear hb hbox hg; have hcz2_0 := cz0 BK548; have hcz2_1 := cz1 BK548; have hcz2_2 := cz2 BK548; have hfz2_0 := fz BK548 0; have hfz2_1 := fz BK548 1; have hfz2_2 := fz BK548 2))
 refine bodyPost_ret (results_cell_row rfl _ _ gb548 23 #[.bool false, .int .i64 1, .int .i64 0] (0, 0) _ rfl (by (with_reducible repeat (first | refine b1 ?_ _ | refine b2 ?_ | refine b3 ?_ _)); refine blk_put (cs := #[.bool false, .int .i64 1, .int .i64 0]) ?_ 2 _ rfl; (with_reducible repeat (first | refine b1 ?_ _ | refine b2 ?_ | refine b3 ?_ _)); refine blk_put (cs := #[.bool false, .int .i64 0, .int .i64 0]) ?_ 1 _ rfl; (with_reducible repeat (first | refine b1 ?_ _ | refine b2 ?_ | refine b3 ?_ _)); refine blk_put (cs := #[.bool false, .int .i64 0, .int .i64 0]) ?_ 0 _ rfl; (with_reducible repeat (first | refine b1 ?_ _ | refine b2 ?_ | refine b3 ?_ _)); exact BK548.out) Tryd.underlying23 rfl (by kernel_rfl)) rfl ?_
 exact ⟨eS, bS HB⟩

end Go.Proofs.YtfmmjekhknaniaaDoor.Pr

namespace Go.Proofs.YtfmmjekhknaniaaDoor.Pr
open Go.RowKit Go.Proofs.YtfmmjekhknaniaaDoor.Given Go.Proofs.YtfmmjekhknaniaaDoorW.PrintWords Go.Proofs.YtfmmjekhknaniaaDoorW.PrintLast Go.Proofs.YtfmmjekhknaniaaDoorW.PrintMore
attribute [local go_sem] max2_int min2_int max_two min_two max_three min_three max_four min_four   -- for this text's walks alone
set_option linter.unusedVariables false
set_option linter.unusedSimpArgs false

attribute [local go_sem high] eqA23
mutual
def congr_Div.j0 : Nat → Int → Bool → Bool → Int → Int → Bool → Int → Int → Option (Bool × Int × Int)
 | 0, _, _, _, _, _, _, _, _ => none
 | k + 1, x5, x8, x550000, x550001, x550002, x551000, x551001, x551002 => if x8 = true then ((congr_none.f).bind fun bt552 => (some (bt552.1, bt552.2.1, bt552.2.2))) else (if x551001 = 0 then (if x550001 = 0 then (if x5 = 0 then (none) else ((congr_constant.f (wrap64 (Int.tdiv x550002 x5))).bind fun bt555 => (some (bt555.1, bt555.2.1, bt555.2.2)))) else (if x5 = 0 then (none) else (if (Int.tmod x550001 x5) = 0 then (congr_Div.j1 k x5 ((Int.tmod x550002 x5) == 0) x550000 x550001 x550002) else (congr_Div.j1 k x5 false x550000 x550001 x550002)))) else ((congr_all.f).bind fun bt564 => (some (bt564.1, bt564.2.1, bt564.2.2))))
def congr_Div.j1 : Nat → Int → Bool → Bool → Int → Int → Option (Bool × Int × Int)
 | 0, _, _, _, _, _ => none
 | k + 1, x5, x35, x550000, x550001, x550002 => if x35 = true then (if x5 = 0 then (none) else ((congr_Of.f k (wrap64 (Int.tdiv x550001 x5)) (wrap64 (Int.tdiv x550002 x5))).bind fun bt558 => (some (bt558.1, bt558.2.1, bt558.2.2)))) else ((congr_all.f).bind fun bt561 => (some (bt561.1, bt561.2.1, bt561.2.2)))
end
def congr_Div.f (k : Nat) (a0_0 : Bool) (a0_1 : Int) (a0_2 : Int) (a1_0 : Bool) (a1_1 : Int) (a1_2 : Int) : Option (Bool × Int × Int) := if a0_0 = true then (congr_Div.j0 k a1_2 true a0_0 a0_1 a0_2 a1_0 a1_1 a1_2) else (if a1_0 = true then (congr_Div.j0 k a1_2 true a0_0 a0_1 a0_2 a1_0 a1_1 a1_2) else (congr_Div.j0 k a1_2 (!a1_0 && (a1_1 == 0 && (a1_2 == 0))) a0_0 a0_1 a0_2 a1_0 a1_1 a1_2))
def congr_Div.T9 : Bool × List (List Nat × List Nat) := (true, [([], []), ([0], [0]), ([], []), ([1, 2], [1, 2]), ([], []), ([4], [4]), ([], []), ([5, 6], [5, 6]), ([3, 7], [3, 7]), ([8, 8, 0, 1, 2, 3, 4, 5, 6, 7, 8], [8])])
def congr_Div.B9 : List Nat := [0, 1, 0, 7, 0, 16, 0, 112, 255, 511]
theorem congr_Div.tab9 : rtab .any (opsOf Tryd.f41 9) = congr_Div.T9 := by kernel_rfl
theorem congr_Div.bits9 : waitsOk congr_Div.T9.2 congr_Div.B9 = true := by kernel_rfl
set_option maxHeartbeats 8000000 in
set_option maxRecDepth 100000 in
theorem congr_Div.calls (k : Nat) (a0_0 : Bool) (a0_1 : Int) (a0_2 : Int) (a1_0 : Bool) (a1_1 : Int) (a1_2 : Int) (r1 : Bool) (r2 : Int) (r3 : Int) (w : World) (h : congr_Div.f k a0_0 a0_1 a0_2 a1_0 a1_1 a1_2 = some (r1, r2, r3)) :
  Calls Tryd.prog 41 #[.agg #[.bool a0_0, .int .i64 a0_1, .int .i64 a0_2], .agg #[.bool a1_0, .int .i64 a1_1, .int .i64 a1_2]] w fun e w' => e = .returned (.agg #[.bool r1, .int .i64 r2, .int .i64 r3]) ∧ Below w.heap.size w w' := by
 have hu23 := Tryd.underlying23
 have HB := Aside0.mk (Below.refl w.heap.size w)
 have H : (if a0_0 = true then (congr_Div.j0 k a1_2 true a0_0 a0_1 a0_2 a1_0 a1_1 a1_2) else (if a1_0 = true then (congr_Div.j0 k a1_2 true a0_0 a0_1 a0_2 a1_0 a1_1 a1_2) else (congr_Div.j0 k a1_2 (!a1_0 && (a1_1 == 0 && (a1_2 == 0))) a0_0 a0_1 a0_2 a1_0 a1_1 a1_2))) = some (r1, r2, r3) := h
 clear h
 have HC3 := Aside0.mk H
 clear H
 go_enter Tryd.func41, Tryd.ntmps41
 go_upto_region 2 with (first | ((with_reducible refine gate_dst (N := 2) rfl ?_); refine box_event ?hg (N := 2) ?hd (cs := #[.bool a0_0, .int .i64 a0_1, .int .i64 a0_2]) (t := 23) ?hr ?_; (case hd => rfl); (case hg => rfl); (case hr => first | (go_simp; done) | (go_simp; rfl)); intro gb549 hg w4 hbox hb; have n0_ := kW HB hb; have n1_ := Aside0.mk (hbox); have n2_ := Aside0.mk ((by rw [hg]; exact (below_size (bS HB)) : w.heap.size ≤ gb549)); have n3_ := Aside0.mk ((by rw [hg]; exact (below_size (bS HB)) : w.heap.size ≤ gb549)); clear HB; have HB := n0_; have BK549 := n1_; have GW549 := n2_; have GE549 := n3_; clear n0_ n1_ n2_ n3_; clear hb hbox hg) | ((with_reducible refine gate_dst (N := 3) rfl ?_); refine box_event ?hg (N := 3) ?hd (cs := #[.bool a1_0, .int .i64 a1_1, .int .i64 a1_2]) (t := 23) ?hr ?_; (case hd => rfl); (case hg => rfl); (case hr => first | (go_simp; done) | (go_simp; rfl)); intro gb550 hg w5 hbox hb; have n0_ := kB BK549 hb; have n1_ := kW HB hb; have n2_ := Aside0.mk (hbox); have n3_ := Aside0.mk ((by rw [hg]; exact (below_size (bS HB)) : w.heap.size ≤ gb550)); have n4_ := Aside0.mk ((by rw [hg]; exact (below_size (bS HB)) : w.heap.size ≤ gb550)); have n5_ := Aside0.mk ((by rw [hg]; exact Nat.ne_of_lt (blk_lt (bkS BK549)) : gb549 ≠ gb550)); have n6_ := Aside0.mk ((by rw [hg]; exact Nat.ne_of_gt (blk_lt (bkS BK549)) : gb550 ≠ gb549)); clear BK549; clear HB; have BK549 := n0_; have HB := n1_; have BK550 := n2_; have GW550 := n3_; have GE550 := n4_; have NB549_550 := n5_; have NB550_549 := n6_; clear n0_ n1_ n2_ n3_ n4_ n5_ n6_; clear hb hbox hg) | ((with_reducible refine gate_dst (N := 4) rfl ?_); refine box_event ?hg (N := 4) ?hd (cs := #[.bool false, .int .i64 0, .int .i64 0]) (t := 23) ?hr ?_; (case hd => rfl); (case hg => rfl); (case hr => first | (go_simp; done) | (go_simp; rfl)); intro gb551 hg w6 hbox hb; have n0_ := kB BK549 hb; have n1_ := kB BK550 hb; have n2_ := kW HB hb; have n3_ := Aside0.mk (hbox); have n4_ := Aside0.mk ((by rw [hg]; exact (below_size (bS HB)) : w.heap.size ≤ gb551)); have n5_ := Aside0.mk ((by rw [hg]; exact (below_size (bS HB)) : w.heap.size ≤ gb551)); have n6_ := Aside0.mk ((by rw [hg]; exact Nat.ne_of_lt (blk_lt (bkS BK549)) : gb549 ≠ gb551)); have n7_ := Aside0.mk ((by rw [hg]; exact Nat.ne_of_gt (blk_lt (bkS BK549)) : gb551 ≠ gb549)); have n8_ := Aside0.mk ((by rw [hg]; exact Nat.ne_of_lt (blk_lt (bkS BK550)) : gb550 ≠ gb551)); have n9_ := Aside0.mk ((by rw [hg]; exact Nat.ne_of_gt (blk_lt (bkS BK550)) : gb551 ≠ gb550)); clear BK549; clear BK550; clear HB; have BK549 := n0_; have BK550 := n1_; have HB := n2_; have BK551 := n3_; have GW551 := n4_; have GE551 := n5_; have NB549_551 := n6_; have NB551_549 := n7_; have NB550_551 := n8_; have NB551_550 := n9_; clear n0_ n1_ n2_ n3_ n4_ n5_ n6_ n7_ n8_ n9_; clear hb hbox hg; have hnb7 := NB550_549.out; have hnc7 := NB549_550.out; have hnb8 := NB550_551.out; have hnc8 := NB551_550.out; have hcz9_0 := cz0 BK550; have hcz9_1 := cz1 BK550; have hcz9_2 := cz2 BK550; have hfz9_0 := fz BK550 0; have hfz9_1 := fz BK550 1; have hfz9_2 := fz BK550 2))
 (try simp only [Act.put, lA, lB, lC])
 go_cut [8] (fun v8 wc => ∃ (kq : Nat) (x8_2 : Bool), v8 = .bool x8_2 ∧ Aside0 (congr_Div.j0 kq a1_2 x8_2 a0_0 a0_1 a0_2 a1_0 a1_1 a1_2 = some (r1, r2, r3)) ∧ Aside0 (kq ≤ k) ∧ Aside0 (wc.heap[gb549]? = some (.cells #[.bool a0_0, .int .i64 a0_1, .int .i64 a0_2] 23 (0, 0))) ∧ Aside0 (wc.heap[gb550]? = some (.cells #[.bool a1_0, .int .i64 a1_1, .int .i64 a1_2] 23 (0, 0))) ∧ Aside0 (wc.heap[gb551]? = some (.cells #[.bool false, .int .i64 0, .int .i64 0] 23 (0, 0))) ∧ Aside0 (Below w.heap.size w wc))
 case first =>
  have H := HC3.out
  clear HC3
  by_cases c10 : a0_0 = true
  ·
   subst c10
   have H1 : (congr_Div.j0 k a1_2 true true a0_1 a0_2 a1_0 a1_1 a1_2) = some (r1, r2, r3) := by rw [if_pos rfl] at H; exact H
   clear H
   have H := H1
   clear H1
   have H' := Aside0.mk H
   clear H
   have hnb11 := NB549_550.out
   have hnc11 := NB550_549.out
   have hnb12 := NB549_551.out
   have hnc12 := NB551_549.out
   have hcz13_0 := cz0 BK549
   have hcz13_1 := cz1 BK549
   have hcz13_2 := cz2 BK549
   have hfz13_0 := fz BK549 0
   have hfz13_1 := fz BK549 1
   have hfz13_2 := fz BK549 2
   go_wp2
   go_meet
   case rel => exact ⟨_, (true), (by first | rfl | (simp; done) | (simp [*]; done)), H', ⟨by first | omega | exact Nat.le_refl _⟩, ⟨bkS BK549⟩, ⟨bkS BK550⟩, ⟨bkS BK551⟩, ⟨bS HB⟩⟩
  ·
   replace c10 := Bool.eq_false_iff.mpr c10
   subst c10
   have H1 : (if a1_0 = true then (congr_Div.j0 k a1_2 true false a0_1 a0_2 a1_0 a1_1 a1_2) else (congr_Div.j0 k a1_2 (!a1_0 && (a1_1 == 0 && (a1_2 == 0))) false a0_1 a0_2 a1_0 a1_1 a1_2)) = some (r1, r2, r3) := by rw [if_neg (show ¬ (false = true) by decide)] at H; exact H
   clear H
   have H := H1
   clear H1
   by_cases c14 : a1_0 = true
   ·
    subst c14
    have H1 : (congr_Div.j0 k a1_2 true false a0_1 a0_2 true a1_1 a1_2) = some (r1, r2, r3) := by rw [if_pos rfl] at H; exact H
    clear H
    have H := H1
    clear H1
    have H' := Aside0.mk H
    clear H
    have hnb15 := NB549_550.out
    have hnc15 := NB550_549.out
    have hnb16 := NB549_551.out
    have hnc16 := NB551_549.out
    have hcz17_0 := cz0 BK549
    have hcz17_1 := cz1 BK549
    have hcz17_2 := cz2 BK549
    have hfz17_0 := fz BK549 0
    have hfz17_1 := fz BK549 1
    have hfz17_2 := fz BK549 2
    have hnb18 := NB550_551.out
    have hnc18 := NB551_550.out
    have hcz19_0 := cz0 BK550
    have hcz19_1 := cz1 BK550
    have hcz19_2 := cz2 BK550
    have hfz19_0 := fz BK550 0
    have hfz19_1 := fz BK550 1
    have hfz19_2 := fz BK550 2
    go_wp2
    go_meet
    case rel => exact ⟨_, (true), (by first | rfl | (simp; done) | (simp [*]; done)), H', ⟨by first | omega | exact Nat.le_refl _⟩, ⟨bkS BK549⟩, ⟨bkS BK550⟩, ⟨bkS BK551⟩, ⟨bS HB⟩⟩
   ·
    replace c14 := Bool.eq_false_iff.mpr c14
    subst c14
    have H1 : (congr_Div.j0 k a1_2 (!false && (a1_1 == 0 && (a1_2 == 0))) false a0_1 a0_2 false a1_1 a1_2) = some (r1, r2, r3) := by rw [if_neg (show ¬ (false = true) by decide)] at H; exact H
    clear H
    have H := H1
    clear H1
    have H' := Aside0.mk H
    clear H
    have hnb20 := NB549_550.out
    have hnc20 := NB550_549.out
    have hnb21 := NB549_551.out
    have hnc21 := NB551_549.out
    have hcz22_0 := cz0 BK549
    have hcz22_1 := cz1 BK549
    have hcz22_2 := cz2 BK549
    have hfz22_0 := fz BK549 0
    have hfz22_1 := fz BK549 1
    have hfz22_2 := fz BK549 2
    have hnb23 := NB550_551.out
    have hnc23 := NB551_550.out
    have hcz24_0 := cz0 BK550
    have hcz24_1 := cz1 BK550
    have hcz24_2 := cz2 BK550
    have hfz24_0 := fz BK550 0
    have hfz24_1 := fz BK550 1
    have hfz24_2 := fz BK550 2
    go_wp2
    go_meet
    case rel => exact ⟨_, ((!false && (a1_1 == 0 && (a1_2 == 0)))), (by first | rfl | (simp; done) | (simp [*]; done)), H', ⟨by first | omega | exact Nat.le_refl _⟩, ⟨bkS BK549⟩, ⟨bkS BK550⟩, ⟨bkS BK551⟩, ⟨bS HB⟩⟩
 case rest =>
  clear HC3
  try clear c1
  try clear c2
  try clear p2
  try clear c4
  try clear c7
  try clear c8
  try clear c10
  try clear c11
  try clear c12
  try clear c14
  try clear c15
  try clear c16
  try clear c18
  try clear c20
  try clear c21
  try clear c23
  try clear hcz13_0
  try clear hcz13_1
  try clear hcz13_2
  try clear hcz17_0
  try clear hcz17_1
  try clear hcz17_2
  try clear hcz19_0
  try clear hcz19_1
  try clear hcz19_2
  try clear hcz22_0
  try clear hcz22_1
  try clear hcz22_2
  try clear hcz24_0
  try clear hcz24_1
  try clear hcz24_2
  try clear hcz9_0
  try clear hcz9_1
  try clear hcz9_2
  try clear hfz13_0
  try clear hfz13_1
  try clear hfz13_2
  try clear hfz17_0
  try clear hfz17_1
  try clear hfz17_2
  try clear hfz19_0
  try clear hfz19_1
  try clear hfz19_2
  try clear hfz22_0
  try clear hfz22_1
  try clear hfz22_2
  try clear hfz24_0
  try clear hfz24_1
  try clear hfz24_2
  try clear hfz9_0
  try clear hfz9_1
  try clear hfz9_2
  obtain ⟨kq, x8_2, rfl, HA, HJ2, BK549, BK550, BK551, HB⟩ := hcut
  cases kq with
  | zero => exact absurd HA.out (by simp [congr_Div.j0])
  | succ kj2 =>
   have H := HA.out
   clear HA
   simp only [congr_Div.j0] at H
   by_cases c25 : x8_2 = true
   ·
    subst c25
    have H1 : ((congr_none.f).bind fun bt552 => (some (bt552.1, bt552.2.1, bt552.2.2))) = some (r1, r2, r3) := by rw [if_pos rfl] at H; exact H
    clear H
    have H := H1
    clear H1
    replace H := Option.bind_eq_some_iff.mp H
    obtain ⟨⟨t552, t553, t554⟩, A260, H⟩ := H
    replace H : (some (t552, t553, t554)) = some (r1, r2, r3) := H
    have A26 := Aside0.mk A260
    clear A260
    simp only [Option.some.injEq, Prod.mk.injEq] at H
    obtain ⟨rfl, rfl, rfl⟩ := H
    go_wp2_with (first | ((with_reducible refine gate_callee (f := 56) rfl ?_); refine goesL_ (some 20) rfl rfl Tryd.func56 (by kernel_rfl) rfl #[] rfl mS ?_; (with_reducible refine (congr_none.calls  t552 t553 t554 _ A26.out).mono ?_); rintro e w27 ⟨rfl, hb⟩; refine ⟨_, rfl, ?_⟩; replace BK549 := kB BK549 hb; replace BK550 := kB BK550 hb; replace BK551 := kB BK551 hb; replace HB := kW HB hb; (try clear hb); (try clear hb2); (try clear hk); (try clear hi); have hnb28 := NB551_549.out; have hnc28 := NB549_551.out; have hnb29 := NB551_550.out; have hnc29 := NB550_551.out; have hcz30_0 := cz0 BK551; have hcz30_1 := cz1 BK551; have hcz30_2 := cz2 BK551; have hfz30_0 := fz BK551 0; have hfz30_1 := fz BK551 1; have hfz30_2 := fz BK551 2))
    refine bodyPost_ret (results_cell_row rfl _ _ gb551 23 #[.bool t552, .int .i64 t553, .int .i64 t554] (0, 0) _ rfl (by (with_reducible repeat (first | refine b1 ?_ _ | refine b2 ?_ | refine b3 ?_ _)); refine blk_put (cs := #[.bool t552, .int .i64 t553, .int .i64 0]) ?_ 2 _ rfl; (with_reducible repeat (first | refine b1 ?_ _ | refine b2 ?_ | refine b3 ?_ _)); refine blk_put (cs := #[.bool t552, .int .i64 0, .int .i64 0]) ?_ 1 _ rfl; (with_reducible repeat (first | refine b1 ?_ _ | refine b2 ?_ | refine b3 ?_ _)); refine blk_put (cs := #[.bool false, .int .i64 0, .int .i64 0]) ?_ 0 _ rfl; (with_reducible repeat (first | refine b1 ?_ _ | refine b2 ?_ | refine b3 ?_ _)); exact BK551.out) Tryd.underlying23 rfl (by kernel_rfl)) rfl ?_
    exact ⟨eS, bS HB⟩
   ·
    replace c25 := Bool.eq_false_iff.mpr c25
    subst c25
    have H1 : (if a1_1 = 0 then (if a0_1 = 0 then (if a1_2 = 0 then (none) else ((congr_constant.f (wrap64 (Int.tdiv a0_2 a1_2))).bind fun bt555 => (some (bt555.1, bt555.2.1, bt555.2.2)))) else (if a1_2 = 0 then (none) else (if (Int.tmod a0_1 a1_2) = 0 then (congr_Div.j1 kj2 a1_2 ((Int.tmod a0_2 a1_2) == 0) a0_0 a0_1 a0_2) else (congr_Div.j1 kj2 a1_2 false a0_0 a0_1 a0_2)))) else ((congr_all.f).bind fun bt564 => (some (bt564.1, bt564.2.1, bt564.2.2)))) = some (r1, r2, r3) := by rw [if_neg (show ¬ (false = true) by decide)] at H; exact H
    clear H
    have H := H1
    clear H1
    by_cases c31 : a1_1 = 0
    ·
     rw [if_pos c31] at H
     have c31b0 : (a1_1 == 0) = true := beq_iff_eq.mpr c31
     have c31b1 : (a1_1 != 0) = false := bne_eq_false_iff_eq.mpr c31
     clear c31
     by_cases c32 : a0_1 = 0
     ·
      rw [if_pos c32] at H
      have c32b0 : (a0_1 == 0) = true := beq_iff_eq.mpr c32
      have c32b1 : (a0_1 != 0) = false := bne_eq_false_iff_eq.mpr c32
      clear c32
      by_cases c33 : a1_2 = 0
      ·
       rw [if_pos c33] at H
       exact absurd H (by simp)
      ·
       rw [if_neg c33] at H
       have c33b0 : (a1_2 == 0) = false := beq_eq_false_iff_ne.mpr c33
       have c33b1 : (a1_2 != 0) = true := bne_iff_ne.mpr c33
       replace H := Option.bind_eq_some_iff.mp H
       obtain ⟨⟨t555, t556, t557⟩, A340, H⟩ := H
       replace H : (some (t555, t556, t557)) = some (r1, r2, r3) := H
       have A34 := Aside0.mk A340
       clear A340
       simp only [Option.some.injEq, Prod.mk.injEq] at H
       obtain ⟨rfl, rfl, rfl⟩ := H
       have hnb35 := NB550_549.out
       have hnc35 := NB549_550.out
       have hnb36 := NB550_551.out
       have hnc36 := NB551_550.out
       have hcz37_0 : wc.cell? ⟨gb550, 0, none⟩ = some (.bool a1_0) := cz0 BK550
       have hcz37_1 : wc.cell? ⟨gb550, 1, none⟩ = some (.int .i64 a1_1) := cz1 BK550
       have hcz37_2 : wc.cell? ⟨gb550, 2, none⟩ = some (.int .i64 a1_2) := cz2 BK550
       have hfz37_0 := fz BK550 0
       have hfz37_1 := fz BK550 1
       have hfz37_2 := fz BK550 2
       have hnb38 := NB549_551.out
       have hnc38 := NB551_549.out
       have hcz39_0 : wc.cell? ⟨gb549, 0, none⟩ = some (.bool a0_0) := cz0 BK549
       have hcz39_1 : wc.cell? ⟨gb549, 1, none⟩ = some (.int .i64 a0_1) := cz1 BK549
       have hcz39_2 : wc.cell? ⟨gb549, 2, none⟩ = some (.int .i64 a0_2) := cz2 BK549
       have hfz39_0 := fz BK549 0
       have hfz39_1 := fz BK549 1
       have hfz39_2 := fz BK549 2
       go_wp2_with (first | ((with_reducible refine gate_callee (f := 50) rfl ?_); refine goesL_ (some 34) rfl rfl Tryd.func50 (by kernel_rfl) rfl #[.int .i64 (wrap64 (Int.tdiv a0_2 a1_2))] rfl mS ?_; (with_reducible refine (congr_constant.calls (wrap64 (Int.tdiv a0_2 a1_2)) t555 t556 t557 _ A34.out).mono ?_); rintro e w40 ⟨rfl, hb⟩; refine ⟨_, rfl, ?_⟩; replace BK549 := kB BK549 hb; replace BK550 := kB BK550 hb; replace BK551 := kB BK551 hb; replace HB := kW HB hb; (try clear hb); (try clear hb2); (try clear hk); (try clear hi); have hcz41_0 := cz0 BK551; have hcz41_1 := cz1 BK551; have hcz41_2 := cz2 BK551; have hfz41_0 := fz BK551 0; have hfz41_1 := fz BK551 1; have hfz41_2 := fz BK551 2))
       refine bodyPost_ret (results_cell_row rfl _ _ gb551 23 #[.bool t555, .int .i64 t556, .int .i64 t557] (0, 0) _ rfl (by (with_reducible repeat (first | refine b1 ?_ _ | refine b2 ?_ | refine b3 ?_ _)); refine blk_put (cs := #[.bool t555, .int .i64 t556, .int .i64 0]) ?_ 2 _ rfl; (with_reducible repeat (first | refine b1 ?_ _ | refine b2 ?_ | refine b3 ?_ _)); refine blk_put (cs := #[.bool t555, .int .i64 0, .int .i64 0]) ?_ 1 _ rfl; (with_reducible repeat (first | refine b1 ?_ _ | refine b2 ?_ | refine b3 ?_ _)); refine blk_put (cs := #[.bool false, .int .i64 0, .int .i64 0]) ?_ 0 _ rfl; (with_reducible repeat (first | refine b1 ?_ _ | refine b2 ?_ | refine b3 ?_ _)); exact BK551.out) Tryd.underlying23 rfl (by kernel_rfl)) rfl ?_
       exact ⟨eS, bS HB⟩
     ·
      rw [if_neg c32] at H
      have c32b0 : (a0_1 == 0) = false := beq_eq_false_iff_ne.mpr c32
      have c32b1 : (a0_1 != 0) = true := bne_iff_ne.mpr c32
      have HC42 := Aside0.mk H
      clear H
      have hnb43 := NB550_549.out
      have hnc43 := NB549_550.out
      have hnb44 := NB550_551.out
      have hnc44 := NB551_550.out
      have hcz45_0 : wc.cell? ⟨gb550, 0, none⟩ = some (.bool a1_0) := cz0 BK550
      have hcz45_1 : wc.cell? ⟨gb550, 1, none⟩ = some (.int .i64 a1_1) := cz1 BK550
      have hcz45_2 : wc.cell? ⟨gb550, 2, none⟩ = some (.int .i64 a1_2) := cz2 BK550
      have hfz45_0 := fz BK550 0
      have hfz45_1 := fz BK550 1
      have hfz45_2 := fz BK550 2
      have hnb46 := NB549_551.out
      have hnc46 := NB551_549.out
      have hcz47_0 : wc.cell? ⟨gb549, 0, none⟩ = some (.bool a0_0) := cz0 BK549
      have hcz47_1 : wc.cell? ⟨gb549, 1, none⟩ = some (.int .i64 a0_1) := cz1 BK549
      have hcz47_2 : wc.cell? ⟨gb549, 2, none⟩ = some (.int .i64 a0_2) := cz2 BK549
      have hfz47_0 := fz BK549 0
      have hfz47_1 := fz BK549 1
      have hfz47_2 := fz BK549 2
      go_upto_region 8 with (fail)
      go_cut [35] (fun v35 wc => ∃ (kq : Nat) (x35_41 : Bool), v35 = .bool x35_41 ∧ Aside0 (congr_Div.j1 kq a1_2 x35_41 a0_0 a0_1 a0_2 = some (r1, r2, r3)) ∧ Aside0 (kq ≤ kj2) ∧ Aside0 (wc.heap[gb549]? = some (.cells #[.bool a0_0, .int .i64 a0_1, .int .i64 a0_2] 23 (0, 0))) ∧ Aside0 (wc.heap[gb550]? = some (.cells #[.bool a1_0, .int .i64 a1_1, .int .i64 a1_2] 23 (0, 0))) ∧ Aside0 (wc.heap[gb551]? = some (.cells #[.bool false, .int .i64 0, .int .i64 0] 23 (0, 0))) ∧ Aside0 (Below w.heap.size w wc))
      case first =>
       have H := HC42.out
       clear HC42
       by_cases c48 : a1_2 = 0
       ·
        rw [if_pos c48] at H
        exact absurd H (by simp)
       ·
        rw [if_neg c48] at H
        have c48b0 : (a1_2 == 0) = false := beq_eq_false_iff_ne.mpr c48
        have c48b1 : (a1_2 != 0) = true := bne_iff_ne.mpr c48
        (first | rw [c48b0] | (simp only [i64_w, i32_w]; rw [c48b0]) | skip)
        by_cases c49 : (Int.tmod a0_1 a1_2) = 0
        ·
         rw [if_pos c49] at H
         have c49b0 : ((Int.tmod a0_1 a1_2) == 0) = true := beq_iff_eq.mpr c49
         have c49b1 : ((Int.tmod a0_1 a1_2) != 0) = false := bne_eq_false_iff_eq.mpr c49
         clear c49
         have H' := Aside0.mk H
         clear H
         have hnb50 := NB549_550.out
         have hnc50 := NB550_549.out
         have hnb51 := NB549_551.out
         have hnc51 := NB551_549.out
         have hcz52_0 : wc.cell? ⟨gb549, 0, none⟩ = some (.bool a0_0) := cz0 BK549
         have hcz52_1 : wc.cell? ⟨gb549, 1, none⟩ = some (.int .i64 a0_1) := cz1 BK549
         have hcz52_2 : wc.cell? ⟨gb549, 2, none⟩ = some (.int .i64 a0_2) := cz2 BK549
         have hfz52_0 := fz BK549 0
         have hfz52_1 := fz BK549 1
         have hfz52_2 := fz BK549 2
         go_wp2
         go_meet
         case rel => exact ⟨_, (((Int.tmod a0_2 a1_2) == 0)), (by first | rfl | (simp; done) | (simp [*]; done)), H', ⟨by have := HJ2.out; first | omega | exact Nat.le_refl _⟩, ⟨bkS BK549⟩, ⟨bkS BK550⟩, ⟨bkS BK551⟩, ⟨bS HB⟩⟩
        ·
         rw [if_neg c49] at H
         have c49b0 : ((Int.tmod a0_1 a1_2) == 0) = false := beq_eq_false_iff_ne.mpr c49
         have c49b1 : ((Int.tmod a0_1 a1_2) != 0) = true := bne_iff_ne.mpr c49
         have H' := Aside0.mk H
         clear H
         have hnb53 := NB549_550.out
         have hnc53 := NB550_549.out
         have hnb54 := NB549_551.out
         have hnc54 := NB551_549.out
         have hcz55_0 : wc.cell? ⟨gb549, 0, none⟩ = some (.bool a0_0) := cz0 BK549
         have hcz55_1 : wc.cell? ⟨gb549, 1, none⟩ = some (.int .i64 a0_1) := cz1 BK549
         have hcz55_2 : wc.cell? ⟨gb549, 2, none⟩ = some (.int .i64 a0_2) := cz2 BK549
         have hfz55_0 := fz BK549 0
         have hfz55_1 := fz BK549 1
         have hfz55_2 := fz BK549 2
         go_wp2
         go_meet
         case rel => exact ⟨_, (false), (by first | rfl | (simp; done) | (simp [*]; done)), H', ⟨by have := HJ2.out; first | omega | exact Nat.le_refl _⟩, ⟨bkS BK549⟩, ⟨bkS BK550⟩, ⟨bkS BK551⟩, ⟨bS HB⟩⟩
      case rest =>
       clear HC42
       try clear c1
       try clear c2
       try clear p2
       try clear c3
       try clear c4
       try clear c5
       try clear p6
       try clear c7
       try clear c8
       try clear c10
       try clear c11
       try clear c12
       try clear c14
       try clear c15
       try clear c16
       try clear c18
       try clear c20
       try clear c21
       try clear c23
       try clear c25
       try clear c28
       try clear c29
       try clear c31
       try clear c31b0
       try clear c31b1
       try clear c32
       try clear c32b0
       try clear c32b1
       try clear c33
       try clear c33b0
       try clear c33b1
       try clear c35
       try clear c36
       try clear c38
       try clear c41
       try clear c43
       try clear c44
       try clear c46
       try clear c48
       try clear c48b0
       try clear c48b1
       try clear c49
       try clear c49b0
       try clear c49b1
       try clear c50
       try clear c51
       try clear c53
       try clear c54
       try clear hcz13_0
       try clear hcz13_1
       try clear hcz13_2
       try clear hcz17_0
       try clear hcz17_1
       try clear hcz17_2
       try clear hcz19_0
       try clear hcz19_1
       try clear hcz19_2
       try clear hcz22_0
       try clear hcz22_1
       try clear hcz22_2
       try clear hcz24_0
       try clear hcz24_1
       try clear hcz24_2
       try clear hcz30_0
       try clear hcz30_1
       try clear hcz30_2
       try clear hcz37_0
       try clear hcz37_1
       try clear hcz37_2
       try clear hcz39_0
       try clear hcz39_1
       try clear hcz39_2
       try clear hcz41_0
       try clear hcz41_1
       try clear hcz41_2
       try clear hcz45_0
       try clear hcz45_1
       try clear hcz45_2
       try clear hcz47_0
       try clear hcz47_1
       try clear hcz47_2
       try clear hcz52_0
       try clear hcz52_1
       try clear hcz52_2
       try clear hcz55_0
       try clear hcz55_1
       try clear hcz55_2
       try clear hcz9_0
       try clear hcz9_1
       try clear hcz9_2
       try clear hfz13_0
       try clear hfz13_1
       try clear hfz13_2
       try clear hfz17_0
       try clear hfz17_1
       try clear hfz17_2
       try clear hfz19_0
       try clear hfz19_1
       try clear hfz19_2
       try clear hfz22_0
       try clear hfz22_1
       try clear hfz22_2
       try clear hfz24_0
       try clear hfz24_1
       try clear hfz24_2
       try clear hfz30_0
       try clear hfz30_1
       try clear hfz30_2
       try clear hfz37_0
       try clear hfz37_1
       try clear hfz37_2
       try clear hfz39_0
       try clear hfz39_1
       try clear hfz39_2
       try clear hfz41_0
       try clear hfz41_1
       try clear hfz41_2
       try clear hfz45_0
       try clear hfz45_1
       try clear hfz45_2
       try clear hfz47_0
       try clear hfz47_1
       try clear hfz47_2
       try clear hfz52_0
       try clear hfz52_1
       try clear hfz52_2
       try clear hfz55_0
       try clear hfz55_1
       try clear hfz55_2
       try clear hfz9_0
       try clear hfz9_1
       try clear hfz9_2
       try clear p2
       obtain ⟨kq, x35_41, rfl, HA, HJ41, BK549, BK550, BK551, HB⟩ := hcut
       cases kq with
       | zero => exact absurd HA.out (by simp [congr_Div.j1])
       | succ kj41 =>
        have H := HA.out
        clear HA
        simp only [congr_Div.j1] at H
        by_cases c56 : x35_41 = true
        ·
         subst c56
         have H1 : (if a1_2 = 0 then (none) else ((congr_Of.f kj41 (wrap64 (Int.tdiv a0_1 a1_2)) (wrap64 (Int.tdiv a0_2 a1_2))).bind fun bt558 => (some (bt558.1, bt558.2.1, bt558.2.2)))) = some (r1, r2, r3) := by rw [if_pos rfl] at H; exact H
         clear H
         have H := H1
         clear H1
         by_cases c57 : a1_2 = 0
         ·
          rw [if_pos c57] at H
          exact absurd H (by simp)
         ·
          rw [if_neg c57] at H
          have c57b0 : (a1_2 == 0) = false := beq_eq_false_iff_ne.mpr c57
          have c57b1 : (a1_2 != 0) = true := bne_iff_ne.mpr c57
          replace H := Option.bind_eq_some_iff.mp H
          obtain ⟨⟨t558, t559, t560⟩, A580, H⟩ := H
          replace H : (some (t558, t559, t560)) = some (r1, r2, r3) := H
          have A58 := Aside0.mk A580
          clear A580
          simp only [Option.some.injEq, Prod.mk.injEq] at H
          obtain ⟨rfl, rfl, rfl⟩ := H
          try go_wp2
          replace BK549 := Aside0.mk (blk_drew BK549.out)
          replace BK550 := Aside0.mk (blk_drew BK550.out)
          replace BK551 := Aside0.mk (blk_drew BK551.out)
          replace HB := Aside0.mk (below_drew1 HB.out)
          refine start_ (n := 10) (S := fun w' => w'.cell? ⟨gb549, 0, none⟩ = some (.bool a0_0) ∧ w'.cell? ⟨gb549, 1, none⟩ = some (.int .i64 a0_1) ∧ w'.cell? ⟨gb549, 2, none⟩ = some (.int .i64 a0_2)) (ds := []) #[false, false, false, false, false, false, false, false, false, false] (by kernel_rfl) rfl rfl ⟨cz0 BK549, cz1 BK549, cz2 BK549⟩ (fun hHeld => ?_); refine with_tabW congr_Div.tab9 congr_Div.bits9 (fun HT_ HW_ => ?_)
          generalize wc.drew = w59 at BK549 BK550 BK551 HB hHeld ⊢
          refine pure_ (i := 0) (N := some 48) (v := ?_) (a' := ?_) #[true, false, false, false, false, false, false, false, false, false] rfl rfl (any_of HT_.out (by kernel_rfl)) (fun _ _ _ h => h) (Or.inl ⟨by rfl, ?_⟩) ?_ ?_
          rotate_left
          ·
           intro w'
           go_simp
           with_reducible rfl
          rotate_left
          ·
           simp only [Act.put, lA, lB, lC, i64_w, i32_w]
           rfl
          refine pure_ (i := 2) (N := some 50) (v := ?_) (a' := ?_) #[true, false, true, false, false, false, false, false, false, false] rfl rfl (any_of HT_.out (by kernel_rfl)) (fun _ _ _ h => h) (Or.inl ⟨by rfl, ?_⟩) ?_ ?_
          rotate_left
          ·
           intro w'
           go_simp
           with_reducible rfl
          rotate_left
          ·
           simp only [Act.put, lA, lB, lC, i64_w, i32_w]
           rfl
          refine pure_ (i := 4) (N := some 52) (v := ?_) (a' := ?_) #[true, false, true, false, true, false, false, false, false, false] rfl rfl (any_of HT_.out (by kernel_rfl)) (fun _ _ _ h => h) (Or.inl ⟨by rfl, ?_⟩) ?_ ?_
          rotate_left
          ·
           intro w'
           go_simp
           with_reducible rfl
          rotate_left
          ·
           simp only [Act.put, lA, lB, lC, i64_w, i32_w]
           rfl
          refine pure_ (i := 6) (N := some 54) (v := ?_) (a' := ?_) #[true, false, true, false, true, false, true, false, false, false] rfl rfl (any_of HT_.out (by kernel_rfl)) (fun _ _ _ h => h) (Or.inl ⟨by rfl, ?_⟩) ?_ ?_
          rotate_left
          ·
           intro w'
           go_simp
           with_reducible rfl
          rotate_left
          ·
           simp only [Act.put, lA, lB, lC, i64_w, i32_w]
           rfl
          refine take_ (i := 1) (N := some 49) (v := ?_) (a' := ?_) #[true, true, true, false, true, false, true, false, false, false] rfl rfl (take_ofW HT_.out HW_.out (by kernel_rfl)) (fun _ _ _ h => h) (Or.inl ⟨by rfl, ?_⟩) hHeld ?_ ?_
          rotate_left
          ·
           rintro w' ⟨s0, s1, s2⟩
           go_simp
           with_reducible rfl
          rotate_left
          ·
           simp only [Act.put, lA, lB, lC, i64_w, i32_w]
           rfl
          refine pure_ (i := 3) (N := some 51) (v := ?_) (a' := ?_) #[true, true, true, true, true, false, true, false, false, false] rfl rfl (any_of HT_.out (by kernel_rfl)) (fun _ _ _ h => h) (Or.inl ⟨by rfl, ?_⟩) ?_ ?_
          rotate_left
          ·
           intro w'
           go_simp
           with_reducible rfl
          rotate_left
          ·
           simp only [Act.put, lA, lB, lC, i64_w, i32_w]
           rfl
          refine take_ (i := 5) (N := some 53) (v := ?_) (a' := ?_) #[true, true, true, true, true, true, true, false, false, false] rfl rfl (take_ofW HT_.out HW_.out (by kernel_rfl)) (fun _ _ _ h => h) (Or.inl ⟨by rfl, ?_⟩) hHeld ?_ ?_
          rotate_left
          ·
           rintro w' ⟨s0, s1, s2⟩
           go_simp
           with_reducible rfl
          rotate_left
          ·
           simp only [Act.put, lA, lB, lC, i64_w, i32_w]
           rfl
          refine pure_ (i := 7) (N := some 55) (v := ?_) (a' := ?_) #[true, true, true, true, true, true, true, true, false, false] rfl rfl (any_of HT_.out (by kernel_rfl)) (fun _ _ _ h => h) (Or.inl ⟨by rfl, ?_⟩) ?_ ?_
          rotate_left
          ·
           intro w'
           go_simp
           with_reducible rfl
          rotate_left
          ·
           simp only [Act.put, lA, lB, lC, i64_w, i32_w]
           rfl
          refine one_ (i := 8) (N := some 56) #[true, true, true, true, true, true, true, true, true, false] rfl rfl (one_of HT_.out (by kernel_rfl)) (by decide) (fun K hK => ?_)
          refine goes_ Tryd.func10 (by kernel_rfl) rfl #[.int .i64 (wrap64 (Int.tdiv a0_1 a1_2)), .int .i64 (wrap64 (Int.tdiv a0_2 a1_2))] (by rfl) rfl rfl mS ?_
          with_reducible refine (congr_Of.calls kj41 (wrap64 (Int.tdiv a0_1 a1_2)) (wrap64 (Int.tdiv a0_2 a1_2)) t558 t559 t560 _ A58.out).mono ?_
          rintro e w60 ⟨rfl, hb⟩
          refine ⟨_, rfl, ?_⟩
          replace BK549 := kB BK549 hb
          replace BK550 := kB BK550 hb
          replace BK551 := kB BK551 hb
          replace HB := kW HB hb
          (try clear hb)
          (try clear hb2)
          (try clear hk)
          (try clear hi)
          refine hK.out _ _ ⟨cz0 BK549, cz1 BK549, cz2 BK549⟩ (fun hHeld => ?_)
          clear hK K
          refine norm_ (a' := ?_) ?_ ?_
          rotate_left
          ·
           show Act.put _ (some 56) _ = _
           simp only [Act.put, lA, lB, lC, i64_w, i32_w]
           rfl
          refine one_ (i := 9) (N := none) #[true, true, true, true, true, true, true, true, true, true] rfl rfl (one_of HT_.out (by kernel_rfl)) (by decide) (fun K hK => ?_)
          have hs61 : w60.cell? ⟨gb551, 0, none⟩ = some (.bool false) := cz0 BK551
          have hfs61 := fz BK551 0
          have hns61_0 := NB549_551.out
          have hns61_1 := NB550_551.out
          have hms61_0 := NB551_549.out
          have hms61_1 := NB551_550.out
          have hs62 : w60.cell? ⟨gb551, 1, none⟩ = some (.int .i64 0) := cz1 BK551
          have hfs62 := fz BK551 1
          have hns62_0 := NB549_551.out
          have hns62_1 := NB550_551.out
          have hms62_0 := NB551_549.out
          have hms62_1 := NB551_550.out
          have hs63 : w60.cell? ⟨gb551, 2, none⟩ = some (.int .i64 0) := cz2 BK551
          have hfs63 := fz BK551 2
          have hns63_0 := NB549_551.out
          have hns63_1 := NB550_551.out
          have hms63_0 := NB551_549.out
          have hms63_1 := NB551_550.out
          refine skip_ (w1 := ?_) (by rfl) rfl ?_ ?_
          rotate_left
          ·
           go_simp
           rfl
          refine hK.out _ _ ⟨((cell_far (p := ⟨gb551, _, none⟩) NB549_551.out _).trans (((cell_far (p := ⟨gb551, _, none⟩) NB549_551.out _).trans (((cell_far (p := ⟨gb551, _, none⟩) NB549_551.out _).trans (hHeld.1)))))), ((cell_far (p := ⟨gb551, _, none⟩) NB549_551.out _).trans (((cell_far (p := ⟨gb551, _, none⟩) NB549_551.out _).trans (((cell_far (p := ⟨gb551, _, none⟩) NB549_551.out _).trans (hHeld.2.1)))))), ((cell_far (p := ⟨gb551, _, none⟩) NB549_551.out _).trans (((cell_far (p := ⟨gb551, _, none⟩) NB549_551.out _).trans (((cell_far (p := ⟨gb551, _, none⟩) NB549_551.out _).trans (hHeld.2.2))))))⟩ (fun hHeld => ?_)
          clear hK K
          refine done_ (done_of HT_.out (by kernel_rfl)) ?_
          try go_wp2
          refine bodyPost_ret (results_cell_row rfl _ _ gb551 23 #[.bool t558, .int .i64 t559, .int .i64 t560] (0, 0) _ rfl (by (with_reducible repeat (first | refine b1 ?_ _ | refine b2 ?_ | refine b3 ?_ _)); refine blk_put (cs := #[.bool t558, .int .i64 t559, .int .i64 0]) ?_ 2 _ rfl; (with_reducible repeat (first | refine b1 ?_ _ | refine b2 ?_ | refine b3 ?_ _)); refine blk_put (cs := #[.bool t558, .int .i64 0, .int .i64 0]) ?_ 1 _ rfl; (with_reducible repeat (first | refine b1 ?_ _ | refine b2 ?_ | refine b3 ?_ _)); refine blk_put (cs := #[.bool false, .int .i64 0, .int .i64 0]) ?_ 0 _ rfl; (with_reducible repeat (first | refine b1 ?_ _ | refine b2 ?_ | refine b3 ?_ _)); exact BK551.out) Tryd.underlying23 rfl (by kernel_rfl)) rfl ?_
          exact ⟨eS, bS HB⟩
        ·
         replace c56 := Bool.eq_false_iff.mpr c56
         subst c56
         have H1 : ((congr_all.f).bind fun bt561 => (some (bt561.1, bt561.2.1, bt561.2.2))) = some (r1, r2, r3) := by rw [if_neg (show ¬ (false = true) by decide)] at H; exact H
         clear H
         have H := H1
         clear H1
         replace H := Option.bind_eq_some_iff.mp H
         obtain ⟨⟨t561, t562, t563⟩, A640, H⟩ := H
         replace H : (some (t561, t562, t563)) = some (r1, r2, r3) := H
         have A64 := Aside0.mk A640
         clear A640
         simp only [Option.some.injEq, Prod.mk.injEq] at H
         obtain ⟨rfl, rfl, rfl⟩ := H
         go_wp2_with (first | ((with_reducible refine gate_callee (f := 84) rfl ?_); refine goesL_ (some 57) rfl rfl Tryd.func84 (by kernel_rfl) rfl #[] rfl mS ?_; (with_reducible refine (congr_all.calls  t561 t562 t563 _ A64.out).mono ?_); rintro e w65 ⟨rfl, hb⟩; refine ⟨_, rfl, ?_⟩; replace BK549 := kB BK549 hb; replace BK550 := kB BK550 hb; replace BK551 := kB BK551 hb; replace HB := kW HB hb; (try clear hb); (try clear hb2); (try clear hk); (try clear hi); have hnb66 := NB551_549.out; have hnc66 := NB549_551.out; have hnb67 := NB551_550.out; have hnc67 := NB550_551.out; have hcz68_0 := cz0 BK551; have hcz68_1 := cz1 BK551; have hcz68_2 := cz2 BK551; have hfz68_0 := fz BK551 0; have hfz68_1 := fz BK551 1; have hfz68_2 := fz BK551 2))
         refine bodyPost_ret (results_cell_row rfl _ _ gb551 23 #[.bool t561, .int .i64 t562, .int .i64 t563] (0, 0) _ rfl (by (with_reducible repeat (first | refine b1 ?_ _ | refine b2 ?_ | refine b3 ?_ _)); refine blk_put (cs := #[.bool t561, .int .i64 t562, .int .i64 0]) ?_ 2 _ rfl; (with_reducible repeat (first | refine b1 ?_ _ | refine b2 ?_ | refine b3 ?_ _)); refine blk_put (cs := #[.bool t561, .int .i64 0, .int .i64 0]) ?_ 1 _ rfl; (with_reducible repeat (first | refine b1 ?_ _ | refine b2 ?_ | refine b3 ?_ _)); refine blk_put (cs := #[.bool false, .int .i64 0, .int .i64 0]) ?_ 0 _ rfl; (with_reducible repeat (first | refine b1 ?_ _ | refine b2 ?_ | refine b3 ?_ _)); exact BK551.out) Tryd.underlying23 rfl (by kernel_rfl)) rfl ?_
         exact ⟨eS, bS HB⟩
    ·
     rw [if_neg c31] at H
     have c31b0 : (a1_1 == 0) = false := beq_eq_false_iff_ne.mpr c31
     have c31b1 : (a1_1 != 0) = true := bne_iff_ne.mpr c31
     replace H := Option.bind_eq_some_iff.mp H
     obtain ⟨⟨t564, t565, t566⟩, A690, H⟩ := H
     replace H : (some (t564, t565, t566)) = some (r1, r2, r3) := H
     have A69 := Aside0.mk A690
     clear A690
     simp only [Option.some.injEq, Prod.mk.injEq] at H
     obtain ⟨rfl, rfl, rfl⟩ := H
     have hnb70 := NB550_549.out
     have hnc70 := NB549_550.out
     have hnb71 := NB550_551.out
     have hnc71 := NB551_550.out
     have hcz72_0 : wc.cell? ⟨gb550, 0, none⟩ = some (.bool a1_0) := cz0 BK550
     have hcz72_1 : wc.cell? ⟨gb550, 1, none⟩ = some (.int .i64 a1_1) := cz1 BK550
     have hcz72_2 : wc.cell? ⟨gb550, 2, none⟩ = some (.int .i64 a1_2) := cz2 BK550
     have hfz72_0 := fz BK550 0
     have hfz72_1 := fz BK550 1
     have hfz72_2 := fz BK550 2
     go_wp2_with (first | ((with_reducible refine gate_callee (f := 84) rfl ?_); refine goesL_ (some 25) rfl rfl Tryd.func84 (by kernel_rfl) rfl #[] rfl mS ?_; (with_reducible refine (congr_all.calls  t564 t565 t566 _ A69.out).mono ?_); rintro e w73 ⟨rfl, hb⟩; refine ⟨_, rfl, ?_⟩; replace BK549 := kB BK549 hb; replace BK550 := kB BK550 hb; replace BK551 := kB BK551 hb; replace HB := kW HB hb; (try clear hb); (try clear hb2); (try clear hk); (try clear hi); have hnb74 := NB551_549.out; have hnc74 := NB549_551.out; have hcz75_0 := cz0 BK551; have hcz75_1 := cz1 BK551; have hcz75_2 := cz2 BK551; have hfz75_0 := fz BK551 0; have hfz75_1 := fz BK551 1; have hfz75_2 := fz BK551 2))
     refine bodyPost_ret (results_cell_row rfl _ _ gb551 23 #[.bool t564, .int .i64 t565, .int .i64 t566] (0, 0) _ rfl (by (with_reducible repeat (first | refine b1 ?_ _ | refine b2 ?_ | refine b3 ?_ _)); refine blk_put (cs := #[.bool t564, .int .i64 t565, .int .i64 0]) ?_ 2 _ rfl; (with_reducible repeat (first | refine b1 ?_ _ | refine b2 ?_ | refine b3 ?_ _)); refine blk_put (cs := #[.bool t564, .int .i64 0, .int .i64 0]) ?_ 1 _ rfl; (with_reducible repeat (first | refine b1 ?_ _ | refine b2 ?_ | refine b3 ?_ _)); refine blk_put (cs := #[.bool false, .int .i64 0, .int .i64 0]) ?_ 0 _ rfl; (with_reducible repeat (first | refine b1 ?_ _ | refine b2 ?_ | refine b3 ?_ _)); exact BK551.out) Tryd.underlying23 rfl (by kernel_rfl)) rfl ?_
     exact ⟨eS, bS HB⟩

mutual
def congr_Mod.j1 : Nat → Bool → Int → Int → Bool → Int → Int → Option (Bool × Int × Int)
 | 0, _, _, _, _, _, _ => none
 | k + 1, x585000, x585001, x585002, x586000, x586001, x586002 => (congr_gcd_uint64.f k (IntKind.u64.wrap (x585001)) (IntKind.u64.wrap (x586001))).bind fun t593 => ((congr_size.f x586002).bind fun t594 => ((congr_gcd_uint64.f k t593 t594).bind fun t595 => ((congr_by.f k t595 x585002).bind fun bt596 => (some (bt596.1, bt596.2.1, bt596.2.2)))))
def congr_Mod.j0 : Nat → Bool → Bool → Int → Int → Bool → Int → Int → Option (Bool × Int × Int)
 | 0, _, _, _, _, _, _, _ => none
 | k + 1, x5, x585000, x585001, x585002, x586000, x586001, x586002 => if x5 = true then ((congr_none.f).bind fun bt587 => (some (bt587.1, bt587.2.1, bt587.2.2))) else (if x585001 = 0 then (if x586001 = 0 then (if x586002 = 0 then (none) else ((congr_constant.f (Int.tmod x585002 x586002)).bind fun bt590 => (some (bt590.1, bt590.2.1, bt590.2.2)))) else (congr_Mod.j1 k x585000 x585001 x585002 x586000 x586001 x586002)) else (congr_Mod.j1 k x585000 x585001 x585002 x586000 x586001 x586002))
end
def congr_Mod.f (k : Nat) (a0_0 : Bool) (a0_1 : Int) (a0_2 : Int) (a1_0 : Bool) (a1_1 : Int) (a1_2 : Int) : Option (Bool × Int × Int) := if a0_0 = true then (congr_Mod.j0 k true a0_0 a0_1 a0_2 a1_0 a1_1 a1_2) else (if a1_0 = true then (congr_Mod.j0 k true a0_0 a0_1 a0_2 a1_0 a1_1 a1_2) else (congr_Mod.j0 k (!a1_0 && (a1_1 == 0 && (a1_2 == 0))) a0_0 a0_1 a0_2 a1_0 a1_1 a1_2))
def congr_Mod.T5 : Bool × List (List Nat × List Nat) := (true, [([], []), ([0], [0]), ([1], [1]), ([], []), ([3], [3]), ([4], [4]), ([2, 5], [2, 5]), ([], []), ([7], [7]), ([8, 6], [8]), ([6, 9, 9], [6, 9]), ([], []), ([11], [11]), ([10, 12, 10], [10, 12]), ([13, 13, 0, 1, 2, 3, 4, 5, 6, 7, 8, 9, 10, 11, 12, 13], [13])])
def congr_Mod.B5 : List Nat := [0, 1, 3, 0, 8, 24, 63, 0, 128, 511, 1023, 0, 2048, 8191, 16383]
theorem congr_Mod.tab5 : rtab .any (opsOf Tryd.f43 5) = congr_Mod.T5 := by kernel_rfl
theorem congr_Mod.bits5 : waitsOk congr_Mod.T5.2 congr_Mod.B5 = true := by kernel_rfl
set_option maxHeartbeats 8000000 in
set_option maxRecDepth 100000 in
theorem congr_Mod.calls (k : Nat) (a0_0 : Bool) (a0_1 : Int) (a0_2 : Int) (a1_0 : Bool) (a1_1 : Int) (a1_2 : Int) (r1 : Bool) (r2 : Int) (r3 : Int) (w : World) (h : congr_Mod.f k a0_0 a0_1 a0_2 a1_0 a1_1 a1_2 = some (r1, r2, r3)) :
  Calls Tryd.prog 43 #[.agg #[.bool a0_0, .int .i64 a0_1, .int .i64 a0_2], .agg #[.bool a1_0, .int .i64 a1_1, .int .i64 a1_2]] w fun e w' => e = .returned (.agg #[.bool r1, .int .i64 r2, .int .i64 r3]) ∧ Below w.heap.size w w' := by
 have hu23 := Tryd.underlying23
 have HB := Aside0.mk (Below.refl w.heap.size w)
 have H : (if a0_0 = true then (congr_Mod.j0 k true a0_0 a0_1 a0_2 a1_0 a1_1 a1_2) else (if a1_0 = true then (congr_Mod.j0 k true a0_0 a0_1 a0_2 a1_0 a1_1 a1_2) else (congr_Mod.j0 k (!a1_0 && (a1_1 == 0 && (a1_2 == 0))) a0_0 a0_1 a0_2 a1_0 a1_1 a1_2))) = some (r1, r2, r3) := h
 clear h
 have HC3 := Aside0.mk H
 clear H
 go_enter Tryd.func43, Tryd.ntmps43
 go_upto_block 0 with (first | ((with_reducible refine gate_dst (N := 2) rfl ?_); refine box_event ?hg (N := 2) ?hd (cs := #[.bool a0_0, .int .i64 a0_1, .int .i64 a0_2]) (t := 23) ?hr ?_; (case hd => rfl); (case hg => rfl); (case hr => first | (go_simp; done) | (go_simp; rfl)); intro gb584 hg w4 hbox hb; have n0_ := kW HB hb; have n1_ := Aside0.mk (hbox); have n2_ := Aside0.mk ((by rw [hg]; exact (below_size (bS HB)) : w.heap.size ≤ gb584)); have n3_ := Aside0.mk ((by rw [hg]; exact (below_size (bS HB)) : w.heap.size ≤ gb584)); clear HB; have HB := n0_; have BK584 := n1_; have GW584 := n2_; have GE584 := n3_; clear n0_ n1_ n2_ n3_; clear hb hbox hg) | ((with_reducible refine gate_dst (N := 3) rfl ?_); refine box_event ?hg (N := 3) ?hd (cs := #[.bool a1_0, .int .i64 a1_1, .int .i64 a1_2]) (t := 23) ?hr ?_; (case hd => rfl); (case hg => rfl); (case hr => first | (go_simp; done) | (go_simp; rfl)); intro gb585 hg w5 hbox hb; have n0_ := kB BK584 hb; have n1_ := kW HB hb; have n2_ := Aside0.mk (hbox); have n3_ := Aside0.mk ((by rw [hg]; exact (below_size (bS HB)) : w.heap.size ≤ gb585)); have n4_ := Aside0.mk ((by rw [hg]; exact (below_size (bS HB)) : w.heap.size ≤ gb585)); have n5_ := Aside0.mk ((by rw [hg]; exact Nat.ne_of_lt (blk_lt (bkS BK584)) : gb584 ≠ gb585)); have n6_ := Aside0.mk ((by rw [hg]; exact Nat.ne_of_gt (blk_lt (bkS BK584)) : gb585 ≠ gb584)); clear BK584; clear HB; have BK584 := n0_; have HB := n1_; have BK585 := n2_; have GW585 := n3_; have GE585 := n4_; have NB584_585 := n5_; have NB585_584 := n6_; clear n0_ n1_ n2_ n3_ n4_ n5_ n6_; clear hb hbox hg) | ((with_reducible refine gate_dst (N := 4) rfl ?_); refine box_event ?hg (N := 4) ?hd (cs := #[.bool false, .int .i64 0, .int .i64 0]) (t := 23) ?hr ?_; (case hd => rfl); (case hg => rfl); (case hr => first | (go_simp; done) | (go_simp; rfl)); intro gb586 hg w6 hbox hb; have n0_ := kB BK584 hb; have n1_ := kB BK585 hb; have n2_ := kW HB hb; have n3_ := Aside0.mk (hbox); have n4_ := Aside0.mk ((by rw [hg]; exact (below_size (bS HB)) : w.heap.size ≤ gb586)); have n5_ := Aside0.mk ((by rw [hg]; exact (below_size (bS HB)) : w.heap.size ≤ gb586)); have n6_ := Aside0.mk ((by rw [hg]; exact Nat.ne_of_lt (blk_lt (bkS BK584)) : gb584 ≠ gb586)); have n7_ := Aside0.mk ((by rw [hg]; exact Nat.ne_of_gt (blk_lt (bkS BK584)) : gb586 ≠ gb584)); have n8_ := Aside0.mk ((by rw [hg]; exact Nat.ne_of_lt (blk_lt (bkS BK585)) : gb585 ≠ gb586)); have n9_ := Aside0.mk ((by rw [hg]; exact Nat.ne_of_gt (blk_lt (bkS BK585)) : gb586 ≠ gb585)); clear BK584; clear BK585; clear HB; have BK584 := n0_; have BK585 := n1_; have HB := n2_; have BK586 := n3_; have GW586 := n4_; have GE586 := n5_; have NB584_586 := n6_; have NB586_584 := n7_; have NB585_586 := n8_; have NB586_585 := n9_; clear n0_ n1_ n2_ n3_ n4_ n5_ n6_ n7_ n8_ n9_; clear hb hbox hg))
 (try simp only [Act.put, lA, lB, lC])
 go_cut [] (fun wc => ∃ (kq : Nat) (x587000_2 : Bool) (x587001_2 : Int) (x587002_2 : Int), Aside0 (congr_Mod.j1 kq a0_0 a0_1 a0_2 a1_0 a1_1 a1_2 = some (r1, r2, r3)) ∧ Aside0 (kq ≤ k) ∧ Aside0 (wc.heap[gb584]? = some (.cells #[.bool a0_0, .int .i64 a0_1, .int .i64 a0_2] 23 (0, 0))) ∧ Aside0 (wc.heap[gb585]? = some (.cells #[.bool a1_0, .int .i64 a1_1, .int .i64 a1_2] 23 (0, 0))) ∧ Aside0 (wc.heap[gb586]? = some (.cells #[.bool x587000_2, .int .i64 x587001_2, .int .i64 x587002_2] 23 (0, 0))) ∧ Aside0 (Below w.heap.size w wc))
 case first =>
  have H := HC3.out
  clear HC3
  have HC7 := Aside0.mk H
  clear H
  go_upto_region 1 with (fail)
  go_cut [5] (fun v5 wc => ∃ (kq : Nat) (x5_6 : Bool), v5 = .bool x5_6 ∧ Aside0 (congr_Mod.j0 kq x5_6 a0_0 a0_1 a0_2 a1_0 a1_1 a1_2 = some (r1, r2, r3)) ∧ Aside0 (kq ≤ k) ∧ Aside0 (wc.heap[gb584]? = some (.cells #[.bool a0_0, .int .i64 a0_1, .int .i64 a0_2] 23 (0, 0))) ∧ Aside0 (wc.heap[gb585]? = some (.cells #[.bool a1_0, .int .i64 a1_1, .int .i64 a1_2] 23 (0, 0))) ∧ Aside0 (wc.heap[gb586]? = some (.cells #[.bool false, .int .i64 0, .int .i64 0] 23 (0, 0))) ∧ Aside0 (Below w.heap.size w wc))
  case first =>
   have H := HC7.out
   clear HC7
   by_cases c8 : a0_0 = true
   ·
    subst c8
    have H1 : (congr_Mod.j0 k true true a0_1 a0_2 a1_0 a1_1 a1_2) = some (r1, r2, r3) := by rw [if_pos rfl] at H; exact H
    clear H
    have H := H1
    clear H1
    have H' := Aside0.mk H
    clear H
    have hnb9 := NB584_585.out
    have hnc9 := NB585_584.out
    have hnb10 := NB584_586.out
    have hnc10 := NB586_584.out
    have hcz11_0 := cz0 BK584
    have hcz11_1 := cz1 BK584
    have hcz11_2 := cz2 BK584
    have hfz11_0 := fz BK584 0
    have hfz11_1 := fz BK584 1
    have hfz11_2 := fz BK584 2
    go_wp2
    go_meet
    case rel => exact ⟨_, (true), (by first | rfl | (simp; done) | (simp [*]; done)), H', ⟨by first | omega | exact Nat.le_refl _⟩, ⟨bkS BK584⟩, ⟨bkS BK585⟩, ⟨bkS BK586⟩, ⟨bS HB⟩⟩
   ·
    replace c8 := Bool.eq_false_iff.mpr c8
    subst c8
    have H1 : (if a1_0 = true then (congr_Mod.j0 k true false a0_1 a0_2 a1_0 a1_1 a1_2) else (congr_Mod.j0 k (!a1_0 && (a1_1 == 0 && (a1_2 == 0))) false a0_1 a0_2 a1_0 a1_1 a1_2)) = some (r1, r2, r3) := by rw [if_neg (show ¬ (false = true) by decide)] at H; exact H
    clear H
    have H := H1
    clear H1
    by_cases c12 : a1_0 = true
    ·
     subst c12
     have H1 : (congr_Mod.j0 k true false a0_1 a0_2 true a1_1 a1_2) = some (r1, r2, r3) := by rw [if_pos rfl] at H; exact H
     clear H
     have H := H1
     clear H1
     have H' := Aside0.mk H
     clear H
     have hnb13 := NB584_585.out
     have hnc13 := NB585_584.out
     have hnb14 := NB584_586.out
     have hnc14 := NB586_584.out
     have hcz15_0 := cz0 BK584
     have hcz15_1 := cz1 BK584
     have hcz15_2 := cz2 BK584
     have hfz15_0 := fz BK584 0
     have hfz15_1 := fz BK584 1
     have hfz15_2 := fz BK584 2
     have hnb16 := NB585_586.out
     have hnc16 := NB586_585.out
     have hcz17_0 := cz0 BK585
     have hcz17_1 := cz1 BK585
     have hcz17_2 := cz2 BK585
     have hfz17_0 := fz BK585 0
     have hfz17_1 := fz BK585 1
     have hfz17_2 := fz BK585 2
     go_wp2
     go_meet
     case rel => exact ⟨_, (true), (by first | rfl | (simp; done) | (simp [*]; done)), H', ⟨by first | omega | exact Nat.le_refl _⟩, ⟨bkS BK584⟩, ⟨bkS BK585⟩, ⟨bkS BK586⟩, ⟨bS HB⟩⟩
    ·
     replace c12 := Bool.eq_false_iff.mpr c12
     subst c12
     have H1 : (congr_Mod.j0 k (!false && (a1_1 == 0 && (a1_2 == 0))) false a0_1 a0_2 false a1_1 a1_2) = some (r1, r2, r3) := by rw [if_neg (show ¬ (false = true) by decide)] at H; exact H
     clear H
     have H := H1
     clear H1
     have H' := Aside0.mk H
     clear H
     have hnb18 := NB584_585.out
     have hnc18 := NB585_584.out
     have hnb19 := NB584_586.out
     have hnc19 := NB586_584.out
     have hcz20_0 := cz0 BK584
     have hcz20_1 := cz1 BK584
     have hcz20_2 := cz2 BK584
     have hfz20_0 := fz BK584 0
     have hfz20_1 := fz BK584 1
     have hfz20_2 := fz BK584 2
     have hnb21 := NB585_586.out
     have hnc21 := NB586_585.out
     have hcz22_0 := cz0 BK585
     have hcz22_1 := cz1 BK585
     have hcz22_2 := cz2 BK585
     have hfz22_0 := fz BK585 0
     have hfz22_1 := fz BK585 1
     have hfz22_2 := fz BK585 2
     go_wp2
     go_meet
     case rel => exact ⟨_, ((!false && (a1_1 == 0 && (a1_2 == 0)))), (by first | rfl | (simp; done) | (simp [*]; done)), H', ⟨by first | omega | exact Nat.le_refl _⟩, ⟨bkS BK584⟩, ⟨bkS BK585⟩, ⟨bkS BK586⟩, ⟨bS HB⟩⟩
  case rest =>
   clear HC7
   try clear c1
   try clear c2
   try clear p2
   try clear c4
   try clear c8
   try clear c9
   try clear c10
   try clear c12
   try clear c13
   try clear c14
   try clear c16
   try clear c18
   try clear c19
   try clear c21
   try clear hcz11_0
   try clear hcz11_1
   try clear hcz11_2
   try clear hcz15_0
   try clear hcz15_1
   try clear hcz15_2
   try clear hcz17_0
   try clear hcz17_1
   try clear hcz17_2
   try clear hcz20_0
   try clear hcz20_1
   try clear hcz20_2
   try clear hcz22_0
   try clear hcz22_1
   try clear hcz22_2
   try clear hfz11_0
   try clear hfz11_1
   try clear hfz11_2
   try clear hfz15_0
   try clear hfz15_1
   try clear hfz15_2
   try clear hfz17_0
   try clear hfz17_1
   try clear hfz17_2
   try clear hfz20_0
   try clear hfz20_1
   try clear hfz20_2
   try clear hfz22_0
   try clear hfz22_1
   try clear hfz22_2
   obtain ⟨kq, x5_6, rfl, HA, HJ6, BK584, BK585, BK586, HB⟩ := hcut
   cases kq with
   | zero => exact absurd HA.out (by simp [congr_Mod.j0])
   | succ kj6 =>
    have H := HA.out
    clear HA
    simp only [congr_Mod.j0] at H
    by_cases c23 : x5_6 = true
    ·
     subst c23
     have H1 : ((congr_none.f).bind fun bt587 => (some (bt587.1, bt587.2.1, bt587.2.2))) = some (r1, r2, r3) := by rw [if_pos rfl] at H; exact H
     clear H
     have H := H1
     clear H1
     replace H := Option.bind_eq_some_iff.mp H
     obtain ⟨⟨t587, t588, t589⟩, A240, H⟩ := H
     replace H : (some (t587, t588, t589)) = some (r1, r2, r3) := H
     have A24 := Aside0.mk A240
     clear A240
     simp only [Option.some.injEq, Prod.mk.injEq] at H
     obtain ⟨rfl, rfl, rfl⟩ := H
     go_wp2_with (first | ((with_reducible refine gate_callee (f := 56) rfl ?_); refine goesL_ (some 17) rfl rfl Tryd.func56 (by kernel_rfl) rfl #[] rfl mS ?_; (with_reducible refine (congr_none.calls  t587 t588 t589 _ A24.out).mono ?_); rintro e w25 ⟨rfl, hb⟩; refine ⟨_, rfl, ?_⟩; replace BK584 := kB BK584 hb; replace BK585 := kB BK585 hb; replace BK586 := kB BK586 hb; replace HB := kW HB hb; (try clear hb); (try clear hb2); (try clear hk); (try clear hi); have hnb26 := NB586_584.out; have hnc26 := NB584_586.out; have hnb27 := NB586_585.out; have hnc27 := NB585_586.out; have hcz28_0 := cz0 BK586; have hcz28_1 := cz1 BK586; have hcz28_2 := cz2 BK586; have hfz28_0 := fz BK586 0; have hfz28_1 := fz BK586 1; have hfz28_2 := fz BK586 2))
     refine bodyPost_ret (results_cell_row rfl _ _ gb586 23 #[.bool t587, .int .i64 t588, .int .i64 t589] (0, 0) _ rfl (by (with_reducible repeat (first | refine b1 ?_ _ | refine b2 ?_ | refine b3 ?_ _)); refine blk_put (cs := #[.bool t587, .int .i64 t588, .int .i64 0]) ?_ 2 _ rfl; (with_reducible repeat (first | refine b1 ?_ _ | refine b2 ?_ | refine b3 ?_ _)); refine blk_put (cs := #[.bool t587, .int .i64 0, .int .i64 0]) ?_ 1 _ rfl; (with_reducible repeat (first | refine b1 ?_ _ | refine b2 ?_ | refine b3 ?_ _)); refine blk_put (cs := #[.bool false, .int .i64 0, .int .i64 0]) ?_ 0 _ rfl; (with_reducible repeat (first | refine b1 ?_ _ | refine b2 ?_ | refine b3 ?_ _)); exact BK586.out) Tryd.underlying23 rfl (by kernel_rfl)) rfl ?_
     exact ⟨eS, bS HB⟩
    ·
     replace c23 := Bool.eq_false_iff.mpr c23
     subst c23
     have H1 : (if a0_1 = 0 then (if a1_1 = 0 then (if a1_2 = 0 then (none) else ((congr_constant.f (Int.tmod a0_2 a1_2)).bind fun bt590 => (some (bt590.1, bt590.2.1, bt590.2.2)))) else (congr_Mod.j1 kj6 a0_0 a0_1 a0_2 a1_0 a1_1 a1_2)) else (congr_Mod.j1 kj6 a0_0 a0_1 a0_2 a1_0 a1_1 a1_2)) = some (r1, r2, r3) := by rw [if_neg (show ¬ (false = true) by decide)] at H; exact H
     clear H
     have H := H1
     clear H1
     by_cases c29 : a0_1 = 0
     ·
      rw [if_pos c29] at H
      have c29b0 : (a0_1 == 0) = true := beq_iff_eq.mpr c29
      have c29b1 : (a0_1 != 0) = false := bne_eq_false_iff_eq.mpr c29
      clear c29
      by_cases c30 : a1_1 = 0
      ·
       rw [if_pos c30] at H
       have c30b0 : (a1_1 == 0) = true := beq_iff_eq.mpr c30
       have c30b1 : (a1_1 != 0) = false := bne_eq_false_iff_eq.mpr c30
       clear c30
       by_cases c31 : a1_2 = 0
       ·
        rw [if_pos c31] at H
        exact absurd H (by simp)
       ·
        rw [if_neg c31] at H
        have c31b0 : (a1_2 == 0) = false := beq_eq_false_iff_ne.mpr c31
        have c31b1 : (a1_2 != 0) = true := bne_iff_ne.mpr c31
        replace H := Option.bind_eq_some_iff.mp H
        obtain ⟨⟨t590, t591, t592⟩, A320, H⟩ := H
        replace H : (some (t590, t591, t592)) = some (r1, r2, r3) := H
        have A32 := Aside0.mk A320
        clear A320
        simp only [Option.some.injEq, Prod.mk.injEq] at H
        obtain ⟨rfl, rfl, rfl⟩ := H
        have hnb33 := NB584_585.out
        have hnc33 := NB585_584.out
        have hnb34 := NB584_586.out
        have hnc34 := NB586_584.out
        have hcz35_0 : wc.cell? ⟨gb584, 0, none⟩ = some (.bool a0_0) := cz0 BK584
        have hcz35_1 : wc.cell? ⟨gb584, 1, none⟩ = some (.int .i64 a0_1) := cz1 BK584
        have hcz35_2 : wc.cell? ⟨gb584, 2, none⟩ = some (.int .i64 a0_2) := cz2 BK584
        have hfz35_0 := fz BK584 0
        have hfz35_1 := fz BK584 1
        have hfz35_2 := fz BK584 2
        have hnb36 := NB585_586.out
        have hnc36 := NB586_585.out
        have hcz37_0 : wc.cell? ⟨gb585, 0, none⟩ = some (.bool a1_0) := cz0 BK585
        have hcz37_1 : wc.cell? ⟨gb585, 1, none⟩ = some (.int .i64 a1_1) := cz1 BK585
        have hcz37_2 : wc.cell? ⟨gb585, 2, none⟩ = some (.int .i64 a1_2) := cz2 BK585
        have hfz37_0 := fz BK585 0
        have hfz37_1 := fz BK585 1
        have hfz37_2 := fz BK585 2
        go_wp2_with (first | ((with_reducible refine gate_callee (f := 50) rfl ?_); refine goesL_ (some 32) rfl rfl Tryd.func50 (by kernel_rfl) rfl #[.int .i64 (Int.tmod a0_2 a1_2)] rfl mS ?_; (with_reducible refine (congr_constant.calls (Int.tmod a0_2 a1_2) t590 t591 t592 _ A32.out).mono ?_); rintro e w38 ⟨rfl, hb⟩; refine ⟨_, rfl, ?_⟩; replace BK584 := kB BK584 hb; replace BK585 := kB BK585 hb; replace BK586 := kB BK586 hb; replace HB := kW HB hb; (try clear hb); (try clear hb2); (try clear hk); (try clear hi); have hcz39_0 := cz0 BK586; have hcz39_1 := cz1 BK586; have hcz39_2 := cz2 BK586; have hfz39_0 := fz BK586 0; have hfz39_1 := fz BK586 1; have hfz39_2 := fz BK586 2))
        refine bodyPost_ret (results_cell_row rfl _ _ gb586 23 #[.bool t590, .int .i64 t591, .int .i64 t592] (0, 0) _ rfl (by (with_reducible repeat (first | refine b1 ?_ _ | refine b2 ?_ | refine b3 ?_ _)); refine blk_put (cs := #[.bool t590, .int .i64 t591, .int .i64 0]) ?_ 2 _ rfl; (with_reducible repeat (first | refine b1 ?_ _ | refine b2 ?_ | refine b3 ?_ _)); refine blk_put (cs := #[.bool t590, .int .i64 0, .int .i64 0]) ?_ 1 _ rfl; (with_reducible repeat (first | refine b1 ?_ _ | refine b2 ?_ | refine b3 ?_ _)); refine blk_put (cs := #[.bool false, .int .i64 0, .int .i64 0]) ?_ 0 _ rfl; (with_reducible repeat (first | refine b1 ?_ _ | refine b2 ?_ | refine b3 ?_ _)); exact BK586.out) Tryd.underlying23 rfl (by kernel_rfl)) rfl ?_
        exact ⟨eS, bS HB⟩
      ·
       rw [if_neg c30] at H
       have c30b0 : (a1_1 == 0) = false := beq_eq_false_iff_ne.mpr c30
       have c30b1 : (a1_1 != 0) = true := bne_iff_ne.mpr c30
       have H' := Aside0.mk H
       clear H
       have hnb40 := NB584_585.out
       have hnc40 := NB585_584.out
       have hnb41 := NB584_586.out
       have hnc41 := NB586_584.out
       have hcz42_0 : wc.cell? ⟨gb584, 0, none⟩ = some (.bool a0_0) := cz0 BK584
       have hcz42_1 : wc.cell? ⟨gb584, 1, none⟩ = some (.int .i64 a0_1) := cz1 BK584
       have hcz42_2 : wc.cell? ⟨gb584, 2, none⟩ = some (.int .i64 a0_2) := cz2 BK584
       have hfz42_0 := fz BK584 0
       have hfz42_1 := fz BK584 1
       have hfz42_2 := fz BK584 2
       have hnb43 := NB585_586.out
       have hnc43 := NB586_585.out
       have hcz44_0 : wc.cell? ⟨gb585, 0, none⟩ = some (.bool a1_0) := cz0 BK585
       have hcz44_1 : wc.cell? ⟨gb585, 1, none⟩ = some (.int .i64 a1_1) := cz1 BK585
       have hcz44_2 : wc.cell? ⟨gb585, 2, none⟩ = some (.int .i64 a1_2) := cz2 BK585
       have hfz44_0 := fz BK585 0
       have hfz44_1 := fz BK585 1
       have hfz44_2 := fz BK585 2
       go_wp2
       go_meet
       case rel => exact ⟨_, (false), (0), (0), H', ⟨by have := HJ6.out; first | omega | exact Nat.le_refl _⟩, ⟨bkS BK584⟩, ⟨bkS BK585⟩, ⟨bkS BK586⟩, ⟨bS HB⟩⟩
     ·
      rw [if_neg c29] at H
      have c29b0 : (a0_1 == 0) = false := beq_eq_false_iff_ne.mpr c29
      have c29b1 : (a0_1 != 0) = true := bne_iff_ne.mpr c29
      have H' := Aside0.mk H
      clear H
      have hnb45 := NB584_585.out
      have hnc45 := NB585_584.out
      have hnb46 := NB584_586.out
      have hnc46 := NB586_584.out
      have hcz47_0 : wc.cell? ⟨gb584, 0, none⟩ = some (.bool a0_0) := cz0 BK584
      have hcz47_1 : wc.cell? ⟨gb584, 1, none⟩ = some (.int .i64 a0_1) := cz1 BK584
      have hcz47_2 : wc.cell? ⟨gb584, 2, none⟩ = some (.int .i64 a0_2) := cz2 BK584
      have hfz47_0 := fz BK584 0
      have hfz47_1 := fz BK584 1
      have hfz47_2 := fz BK584 2
      go_wp2
      go_meet
      case rel => exact ⟨_, (false), (0), (0), H', ⟨by have := HJ6.out; first | omega | exact Nat.le_refl _⟩, ⟨bkS BK584⟩, ⟨bkS BK585⟩, ⟨bkS BK586⟩, ⟨bS HB⟩⟩
 case rest =>
  clear HC3
  try clear c1
  try clear c2
  try clear p2
  try clear c3
  try clear c4
  try clear c5
  try clear c8
  try clear c9
  try clear c10
  try clear c12
  try clear c13
  try clear c14
  try clear c16
  try clear c18
  try clear c19
  try clear c21
  try clear c23
  try clear c26
  try clear c27
  try clear c29
  try clear c29b0
  try clear c29b1
  try clear c30
  try clear c30b0
  try clear c30b1
  try clear c31
  try clear c31b0
  try clear c31b1
  try clear c33
  try clear c34
  try clear c36
  try clear c40
  try clear c41
  try clear c43
  try clear c45
  try clear c46
  try clear hcz11_0
  try clear hcz11_1
  try clear hcz11_2
  try clear hcz15_0
  try clear hcz15_1
  try clear hcz15_2
  try clear hcz17_0
  try clear hcz17_1
  try clear hcz17_2
  try clear hcz20_0
  try clear hcz20_1
  try clear hcz20_2
  try clear hcz22_0
  try clear hcz22_1
  try clear hcz22_2
  try clear hcz28_0
  try clear hcz28_1
  try clear hcz28_2
  try clear hcz35_0
  try clear hcz35_1
  try clear hcz35_2
  try clear hcz37_0
  try clear hcz37_1
  try clear hcz37_2
  try clear hcz39_0
  try clear hcz39_1
  try clear hcz39_2
  try clear hcz42_0
  try clear hcz42_1
  try clear hcz42_2
  try clear hcz44_0
  try clear hcz44_1
  try clear hcz44_2
  try clear hcz47_0
  try clear hcz47_1
  try clear hcz47_2
  try clear hfz11_0
  try clear hfz11_1
  try clear hfz11_2
  try clear hfz15_0
  try clear hfz15_1
  try clear hfz15_2
  try clear hfz17_0
  try clear hfz17_1
  try clear hfz17_2
  try clear hfz20_0
  try clear hfz20_1
  try clear hfz20_2
  try clear hfz22_0
  try clear hfz22_1
  try clear hfz22_2
  try clear hfz28_0
  try clear hfz28_1
  try clear hfz28_2
  try clear hfz35_0
  try clear hfz35_1
  try clear hfz35_2
  try clear hfz37_0
  try clear hfz37_1
  try clear hfz37_2
  try clear hfz39_0
  try clear hfz39_1
  try clear hfz39_2
  try clear hfz42_0
  try clear hfz42_1
  try clear hfz42_2
  try clear hfz44_0
  try clear hfz44_1
  try clear hfz44_2
  try clear hfz47_0
  try clear hfz47_1
  try clear hfz47_2
  try clear p2
  obtain ⟨kq, x587000_2, x587001_2, x587002_2, HA, HJ2, BK584, BK585, BK586, HB⟩ := hcut
  cases kq with
  | zero => exact absurd HA.out (by simp [congr_Mod.j1])
  | succ kj2 =>
   have H := HA.out
   clear HA
   simp only [congr_Mod.j1] at H
   replace H := Option.bind_eq_some_iff.mp H
   obtain ⟨t593, A480, H⟩ := H
   replace H : ((congr_size.f a1_2).bind fun t594 => ((congr_gcd_uint64.f kj2 t593 t594).bind fun t595 => ((congr_by.f kj2 t595 a0_2).bind fun bt596 => (some (bt596.1, bt596.2.1, bt596.2.2))))) = some (r1, r2, r3) := H
   have A48 := Aside0.mk A480
   clear A480
   replace H := Option.bind_eq_some_iff.mp H
   obtain ⟨t594, A490, H⟩ := H
   replace H : ((congr_gcd_uint64.f kj2 t593 t594).bind fun t595 => ((congr_by.f kj2 t595 a0_2).bind fun bt596 => (some (bt596.1, bt596.2.1, bt596.2.2)))) = some (r1, r2, r3) := H
   have A49 := Aside0.mk A490
   clear A490
   replace H := Option.bind_eq_some_iff.mp H
   obtain ⟨t595, A500, H⟩ := H
   replace H : ((congr_by.f kj2 t595 a0_2).bind fun bt596 => (some (bt596.1, bt596.2.1, bt596.2.2))) = some (r1, r2, r3) := H
   have A50 := Aside0.mk A500
   clear A500
   replace H := Option.bind_eq_some_iff.mp H
   obtain ⟨⟨t596, t597, t598⟩, A510, H⟩ := H
   replace H : (some (t596, t597, t598)) = some (r1, r2, r3) := H
   have A51 := Aside0.mk A510
   clear A510
   simp only [Option.some.injEq, Prod.mk.injEq] at H
   obtain ⟨rfl, rfl, rfl⟩ := H
   try go_wp2
   replace BK584 := Aside0.mk (blk_drew BK584.out)
   replace BK585 := Aside0.mk (blk_drew BK585.out)
   replace BK586 := Aside0.mk (blk_drew BK586.out)
   replace HB := Aside0.mk (below_drew1 HB.out)
   refine start_ (n := 15) (S := fun w' => w'.cell? ⟨gb584, 0, none⟩ = some (.bool a0_0) ∧ w'.cell? ⟨gb584, 1, none⟩ = some (.int .i64 a0_1) ∧ w'.cell? ⟨gb584, 2, none⟩ = some (.int .i64 a0_2) ∧ w'.cell? ⟨gb585, 0, none⟩ = some (.bool a1_0) ∧ w'.cell? ⟨gb585, 1, none⟩ = some (.int .i64 a1_1) ∧ w'.cell? ⟨gb585, 2, none⟩ = some (.int .i64 a1_2)) (ds := []) #[false, false, false, false, false, false, false, false, false, false, false, false, false, false, false] (by kernel_rfl) rfl rfl ⟨cz0 BK584, cz1 BK584, cz2 BK584, cz0 BK585, cz1 BK585, cz2 BK585⟩ (fun hHeld => ?_); refine with_tabW congr_Mod.tab5 congr_Mod.bits5 (fun HT_ HW_ => ?_)
   generalize wc.drew = w52 at BK584 BK585 BK586 HB hHeld ⊢
   refine pure_ (i := 0) (N := some 33) (v := ?_) (a' := ?_) #[true, false, false, false, false, false, false, false, false, false, false, false, false, false, false] rfl rfl (any_of HT_.out (by kernel_rfl)) (fun _ _ _ h => h) (Or.inl ⟨by rfl, ?_⟩) ?_ ?_
   rotate_left
   ·
    intro w'
    go_simp
    with_reducible rfl
   rotate_left
   ·
    simp only [Act.put, lA, lB, lC, i64_w, i32_w]
    rfl
   refine pure_ (i := 3) (N := some 36) (v := ?_) (a' := ?_) #[true, false, false, true, false, false, false, false, false, false, false, false, false, false, false] rfl rfl (any_of HT_.out (by kernel_rfl)) (fun _ _ _ h => h) (Or.inl ⟨by rfl, ?_⟩) ?_ ?_
   rotate_left
   ·
    intro w'
    go_simp
    with_reducible rfl
   rotate_left
   ·
    simp only [Act.put, lA, lB, lC, i64_w, i32_w]
    rfl
   refine pure_ (i := 7) (N := some 40) (v := ?_) (a' := ?_) #[true, false, false, true, false, false, false, true, false, false, false, false, false, false, false] rfl rfl (any_of HT_.out (by kernel_rfl)) (fun _ _ _ h => h) (Or.inl ⟨by rfl, ?_⟩) ?_ ?_
   rotate_left
   ·
    intro w'
    go_simp
    with_reducible rfl
   rotate_left
   ·
    simp only [Act.put, lA, lB, lC, i64_w, i32_w]
    rfl
   refine pure_ (i := 11) (N := some 44) (v := ?_) (a' := ?_) #[true, false, false, true, false, false, false, true, false, false, false, true, false, false, false] rfl rfl (any_of HT_.out (by kernel_rfl)) (fun _ _ _ h => h) (Or.inl ⟨by rfl, ?_⟩) ?_ ?_
   rotate_left
   ·
    intro w'
    go_simp
    with_reducible rfl
   rotate_left
   ·
    simp only [Act.put, lA, lB, lC, i64_w, i32_w]
    rfl
   refine take_ (i := 1) (N := some 34) (v := ?_) (a' := ?_) #[true, true, false, true, false, false, false, true, false, false, false, true, false, false, false] rfl rfl (take_ofW HT_.out HW_.out (by kernel_rfl)) (fun _ _ _ h => h) (Or.inl ⟨by rfl, ?_⟩) hHeld ?_ ?_
   rotate_left
   ·
    rintro w' ⟨s0, s1, s2, s3, s4, s5⟩
    go_simp
    with_reducible rfl
   rotate_left
   ·
    simp only [Act.put, lA, lB, lC, i64_w, i32_w]
    rfl
   refine pure_ (i := 2) (N := some 35) (v := ?_) (a' := ?_) #[true, true, true, true, false, false, false, true, false, false, false, true, false, false, false] rfl rfl (any_of HT_.out (by kernel_rfl)) (fun _ _ _ h => h) (Or.inl ⟨by rfl, ?_⟩) ?_ ?_
   rotate_left
   ·
    intro w'
    go_simp
    with_reducible rfl
   rotate_left
   ·
    simp only [Act.put, lA, lB, lC, i64_w, i32_w]
    rfl
   refine take_ (i := 4) (N := some 37) (v := ?_) (a' := ?_) #[true, true, true, true, true, false, false, true, false, false, false, true, false, false, false] rfl rfl (take_ofW HT_.out HW_.out (by kernel_rfl)) (fun _ _ _ h => h) (Or.inl ⟨by rfl, ?_⟩) hHeld ?_ ?_
   rotate_left
   ·
    rintro w' ⟨s0, s1, s2, s3, s4, s5⟩
    go_simp
    with_reducible rfl
   rotate_left
   ·
    simp only [Act.put, lA, lB, lC, i64_w, i32_w]
    rfl
   refine pure_ (i := 5) (N := some 38) (v := ?_) (a' := ?_) #[true, true, true, true, true, true, false, true, false, false, false, true, false, false, false] rfl rfl (any_of HT_.out (by kernel_rfl)) (fun _ _ _ h => h) (Or.inl ⟨by rfl, ?_⟩) ?_ ?_
   rotate_left
   ·
    intro w'
    go_simp
    with_reducible rfl
   rotate_left
   ·
    simp only [Act.put, lA, lB, lC, i64_w, i32_w]
    rfl
   refine take_ (i := 8) (N := some 41) (v := ?_) (a' := ?_) #[true, true, true, true, true, true, false, true, true, false, false, true, false, false, false] rfl rfl (take_ofW HT_.out HW_.out (by kernel_rfl)) (fun _ _ _ h => h) (Or.inl ⟨by rfl, ?_⟩) hHeld ?_ ?_
   rotate_left
   ·
    rintro w' ⟨s0, s1, s2, s3, s4, s5⟩
    go_simp
    with_reducible rfl
   rotate_left
   ·
    simp only [Act.put, lA, lB, lC, i64_w, i32_w]
    rfl
   refine take_ (i := 12) (N := some 45) (v := ?_) (a' := ?_) #[true, true, true, true, true, true, false, true, true, false, false, true, true, false, false] rfl rfl (take_ofW HT_.out HW_.out (by kernel_rfl)) (fun _ _ _ h => h) (Or.inl ⟨by rfl, ?_⟩) hHeld ?_ ?_
   rotate_left
   ·
    rintro w' ⟨s0, s1, s2, s3, s4, s5⟩
    go_simp
    with_reducible rfl
   rotate_left
   ·
    simp only [Act.put, lA, lB, lC, i64_w, i32_w]
    rfl
   refine one_ (i := 6) (N := some 39) #[true, true, true, true, true, true, true, true, true, false, false, true, true, false, false] rfl rfl (one_of HT_.out (by kernel_rfl)) (by decide) (fun K hK => ?_)
   refine goes_ Tryd.func62 (by kernel_rfl) rfl #[.int .u64 (IntKind.u64.wrap (a0_1)), .int .u64 (IntKind.u64.wrap (a1_1))] (by rfl) rfl rfl mS ?_
   with_reducible refine (congr_gcd_uint64.calls kj2 (IntKind.u64.wrap (a0_1)) (IntKind.u64.wrap (a1_1)) t593 _ A48.out).mono ?_
   rintro e w' ⟨rfl, ⟨nd, rfl⟩⟩
   refine ⟨_, rfl, ?_⟩
   refine hK.out _ _ ⟨cz0 BK584, cz1 BK584, cz2 BK584, cz0 BK585, cz1 BK585, cz2 BK585⟩ (fun hHeld => ?_)
   clear hK K
   refine norm_ (a' := ?_) ?_ ?_
   rotate_left
   ·
    show Act.put _ (some 39) _ = _
    simp only [Act.put, lA, lB, lC, i64_w, i32_w]
    rfl
   refine one_ (i := 9) (N := some 42) #[true, true, true, true, true, true, true, true, true, true, false, true, true, false, false] rfl rfl (one_of HT_.out (by kernel_rfl)) (by decide) (fun K hK => ?_)
   refine goes_ Tryd.func52 (by kernel_rfl) rfl #[.int .i64 a1_2] (by rfl) rfl rfl mS ?_
   with_reducible refine (congr_size.calls a1_2 t594 _ A49.out).mono ?_
   rintro e w' ⟨rfl, ⟨nd, rfl⟩⟩
   refine ⟨_, rfl, ?_⟩
   refine hK.out _ _ ⟨cz0 BK584, cz1 BK584, cz2 BK584, cz0 BK585, cz1 BK585, cz2 BK585⟩ (fun hHeld => ?_)
   clear hK K
   refine norm_ (a' := ?_) ?_ ?_
   rotate_left
   ·
    show Act.put _ (some 42) _ = _
    simp only [Act.put, lA, lB, lC, i64_w, i32_w]
    rfl
   refine one_ (i := 10) (N := some 43) #[true, true, true, true, true, true, true, true, true, true, true, true, true, false, false] rfl rfl (one_of HT_.out (by kernel_rfl)) (by decide) (fun K hK => ?_)
   refine goes_ Tryd.func62 (by kernel_rfl) rfl #[.int .u64 t593, .int .u64 t594] (by rfl) rfl rfl mS ?_
   with_reducible refine (congr_gcd_uint64.calls kj2 t593 t594 t595 _ A50.out).mono ?_
   rintro e w' ⟨rfl, ⟨nd, rfl⟩⟩
   refine ⟨_, rfl, ?_⟩
   refine hK.out _ _ ⟨cz0 BK584, cz1 BK584, cz2 BK584, cz0 BK585, cz1 BK585, cz2 BK585⟩ (fun hHeld => ?_)
   clear hK K
   refine norm_ (a' := ?_) ?_ ?_
   rotate_left
   ·
    show Act.put _ (some 43) _ = _
    simp only [Act.put, lA, lB, lC, i64_w, i32_w]
    rfl
   refine one_ (i := 13) (N := some 46) #[true, true, true, true, true, true, true, true, true, true, true, true, true, true, false] rfl rfl (one_of HT_.out (by kernel_rfl)) (by decide) (fun K hK => ?_)
   refine goes_ Tryd.func60 (by kernel_rfl) rfl #[.int .u64 t595, .int .i64 a0_2] (by rfl) rfl rfl mS ?_
   with_reducible refine (congr_by.calls kj2 t595 a0_2 t596 t597 t598 _ A51.out).mono ?_
   rintro e w53 ⟨rfl, hb⟩
   refine ⟨_, rfl, ?_⟩
   replace BK584 := kB BK584 hb
   replace BK585 := kB BK585 hb
   replace BK586 := kB BK586 hb
   replace HB := kW HB hb
   (try clear hb)
   (try clear hb2)
   (try clear hk)
   (try clear hi)
   refine hK.out _ _ ⟨cz0 BK584, cz1 BK584, cz2 BK584, cz0 BK585, cz1 BK585, cz2 BK585⟩ (fun hHeld => ?_)
   clear hK K
   refine norm_ (a' := ?_) ?_ ?_
   rotate_left
   ·
    show Act.put _ (some 46) _ = _
    simp only [Act.put, lA, lB, lC, i64_w, i32_w]
    rfl
   refine one_ (i := 14) (N := none) #[true, true, true, true, true, true, true, true, true, true, true, true, true, true, true] rfl rfl (one_of HT_.out (by kernel_rfl)) (by decide) (fun K hK => ?_)
   have hs54 : w53.cell? ⟨gb586, 0, none⟩ = some (.bool x587000_2) := cz0 BK586
   have hfs54 := fz BK586 0
   have hns54_0 := NB584_586.out
   have hns54_1 := NB585_586.out
   have hms54_0 := NB586_584.out
   have hms54_1 := NB586_585.out
   have hs55 : w53.cell? ⟨gb586, 1, none⟩ = some (.int .i64 x587001_2) := cz1 BK586
   have hfs55 := fz BK586 1
   have hns55_0 := NB584_586.out
   have hns55_1 := NB585_586.out
   have hms55_0 := NB586_584.out
   have hms55_1 := NB586_585.out
   have hs56 : w53.cell? ⟨gb586, 2, none⟩ = some (.int .i64 x587002_2) := cz2 BK586
   have hfs56 := fz BK586 2
   have hns56_0 := NB584_586.out
   have hns56_1 := NB585_586.out
   have hms56_0 := NB586_584.out
   have hms56_1 := NB586_585.out
   refine skip_ (w1 := ?_) (by rfl) rfl ?_ ?_
   rotate_left
   ·
    go_simp
    rfl
   refine hK.out _ _ ⟨((cell_far (p := ⟨gb586, _, none⟩) NB584_586.out _).trans (((cell_far (p := ⟨gb586, _, none⟩) NB584_586.out _).trans (((cell_far (p := ⟨gb586, _, none⟩) NB584_586.out _).trans (hHeld.1)))))), ((cell_far (p := ⟨gb586, _, none⟩) NB584_586.out _).trans (((cell_far (p := ⟨gb586, _, none⟩) NB584_586.out _).trans (((cell_far (p := ⟨gb586, _, none⟩) NB584_586.out _).trans (hHeld.2.1)))))), ((cell_far (p := ⟨gb586, _, none⟩) NB584_586.out _).trans (((cell_far (p := ⟨gb586, _, none⟩) NB584_586.out _).trans (((cell_far (p := ⟨gb586, _, none⟩) NB584_586.out _).trans (hHeld.2.2.1)))))), ((cell_far (p := ⟨gb586, _, none⟩) NB585_586.out _).trans (((cell_far (p := ⟨gb586, _, none⟩) NB585_586.out _).trans (((cell_far (p := ⟨gb586, _, none⟩) NB585_586.out _).trans (hHeld.2.2.2.1)))))), ((cell_far (p := ⟨gb586, _, none⟩) NB585_586.out _).trans (((cell_far (p := ⟨gb586, _, none⟩) NB585_586.out _).trans (((cell_far (p := ⟨gb586, _, none⟩) NB585_586.out _).trans (hHeld.2.2.2.2.1)))))), ((cell_far (p := ⟨gb586, _, none⟩) NB585_586.out _).trans (((cell_far (p := ⟨gb586, _, none⟩) NB585_586.out _).trans (((cell_far (p := ⟨gb586, _, none⟩) NB585_586.out _).trans (hHeld.2.2.2.2.2))))))⟩ (fun hHeld => ?_)
   clear hK K
   refine done_ (done_of HT_.out (by kernel_rfl)) ?_
   try go_wp2
   refine bodyPost_ret (results_cell_row rfl _ _ gb586 23 #[.bool t596, .int .i64 t597, .int .i64 t598] (0, 0) _ rfl (by (with_reducible repeat (first | refine b1 ?_ _ | refine b2 ?_ | refine b3 ?_ _)); refine blk_put (cs := #[.bool t596, .int .i64 t597, .int .i64 x587002_2]) ?_ 2 _ rfl; (with_reducible repeat (first | refine b1 ?_ _ | refine b2 ?_ | refine b3 ?_ _)); refine blk_put (cs := #[.bool t596, .int .i64 x587001_2, .int .i64 x587002_2]) ?_ 1 _ rfl; (with_reducible repeat (first | refine b1 ?_ _ | refine b2 ?_ | refine b3 ?_ _)); refine blk_put (cs := #[.bool x587000_2, .int .i64 x587001_2, .int .i64 x587002_2]) ?_ 0 _ rfl; (with_reducible repeat (first | refine b1 ?_ _ | refine b2 ?_ | refine b3 ?_ _)); exact BK586.out) Tryd.underlying23 rfl (by kernel_rfl)) rfl ?_
   exact ⟨eS, bS HB⟩

end Go.Proofs.YtfmmjekhknaniaaDoor.Pr

namespace Go.Proofs.YtfmmjekhknaniaaDoor.Core
open Go.RowKit Go.Proofs.YtfmmjekhknaniaaDoor.Pr Go.Proofs.YtfmmjekhknaniaaDoorW.PrintWords

theorem rof_f {g r : Int} (h0 : 0 ≤ g) (h1 : g ≤ 18446744073709551615) (h2 : -9223372036854775808 ≤ r) (h3 : r ≤ 9223372036854775807) (k : Nat) :
    gimbalref31_of.f (k + 8) g r = some (norm g r) := by
  unfold gimbalref31_of.f
  rw [rsize_f h2 h3]
  simp only [Option.bind_some]
  rw [class_ab h0 h1 h2 h3]; rfl

theorem rJoin_f {a b : Cg} (ha : Fit a) (hb : Fit b) : Ev (fun k => gimbalref31_Join.f k a.1 a.2.1 a.2.2 b.1 b.2.1 b.2.2) (joinS a b) := by
  have ma := fit_mod ha
  have mb := fit_mod hb
  unfold gimbalref31_Join.f joinS
  by_cases h1 : a.1 = true
  · simp only [if_pos h1]; exact Ev.now _
  · simp only [if_neg h1]
    by_cases h2 : b.1 = true
    · simp only [if_pos h2]; exact Ev.now _
    · simp only [if_neg h2]
      rw [rsize_f (x := a.2.1) (by omega) (by omega), rsize_f (x := b.2.1) (by omega) (by omega), w64_id (n := a.2.2 - b.2.2) (by omega) (by omega), rsize_f (x := a.2.2 - b.2.2) (by omega) (by omega), ab_of_nonneg (x := a.2.1) (by omega), ab_of_nonneg (x := b.2.1) (by omega)]
      simp only [Option.bind_some]
      refine Ev.bind (rgcd_f (by omega) (by omega)) ?_
      have := rgcd_f (G_nonneg a.2.1 b.2.1) (ab_nonneg (a.2.2 - b.2.2))
      rw [G_ab] at this
      refine Ev.bind this ?_
      exact Ev.bind (ev_of 8 (rof_f (G_nonneg _ _) (apart_le ha hb) (by omega) (by omega))) (Ev.now _)

theorem Neg_f {a : Cg} (ha : Fit a) (k : Nat) : congr_Neg.f (k + 1) a.1 a.2.1 a.2.2 = some (negS a) := by
  have ma := fit_mod ha
  unfold congr_Neg.f negS
  by_cases h1 : a.1 = true
  · rw [if_pos h1, if_pos h1, eta3, fit_of_none ha h1]
  · rw [if_neg h1, if_neg h1, u64_id (by omega) (by omega), w64_id (by omega) (by omega), by_f (by omega) (by omega) (by omega) (by omega)]; rfl
theorem addsub_j {m n : Int} (hm : 0 ≤ m ∧ m ≤ 4294967295) (hn : 0 ≤ n ∧ n ≤ 4294967295) : G m n ≤ 18446744073709551615 :=
  G_le hm.1 hn.1 (by omega) (by omega)

theorem Add_f {a b : Cg} (ha : Fit a) (hb : Fit b) : Ev (fun k => congr_Add.f k a.1 a.2.1 a.2.2 b.1 b.2.1 b.2.2) (addS a b) := by
  have ma := fit_mod ha
  have mb := fit_mod hb
  obtain ⟨K, hK⟩ := gcd_f (a := a.2.1) (b := b.2.1) (by omega) (by omega)
  refine ⟨K + 5, fun k hk => ?_⟩
  obtain ⟨j, rfl⟩ : ∃ j, k = j + 2 := ⟨k - 2, by omega⟩
  dsimp only at hK ⊢
  unfold congr_Add.f addS
  by_cases h1 : a.1 = true
  · rw [if_pos h1, if_pos h1]; simp [congr_Add.j0, congr_none.f]
  · rw [if_neg h1, if_neg h1]
    simp only [congr_Add.j0]
    by_cases h2 : b.1 = true
    · rw [if_pos h2, if_pos h2]; rfl
    · rw [if_neg h2, if_neg h2, u64_id (n := a.2.1) (by omega) (by omega), u64_id (n := b.2.1) (by omega) (by omega), w64_id (by omega) (by omega), hK _ (by omega)]
      simp only [Option.bind_some]
      rw [by_f (G_nonneg _ _) (addsub_j (by omega) (by omega)) (by omega) (by omega)]; rfl
theorem Sub_f {a b : Cg} (ha : Fit a) (hb : Fit b) : Ev (fun k => congr_Sub.f k a.1 a.2.1 a.2.2 b.1 b.2.1 b.2.2) (subS a b) := by
  have ma := fit_mod ha
  have mb := fit_mod hb
  obtain ⟨K, hK⟩ := gcd_f (a := a.2.1) (b := b.2.1) (by omega) (by omega)
  refine ⟨K + 5, fun k hk => ?_⟩
  obtain ⟨j, rfl⟩ : ∃ j, k = j + 2 := ⟨k - 2, by omega⟩
  dsimp only at hK ⊢
  unfold congr_Sub.f subS
  by_cases h1 : a.1 = true
  · rw [if_pos h1, if_pos h1]; simp [congr_Sub.j0, congr_none.f]
  · rw [if_neg h1, if_neg h1]
    simp only [congr_Sub.j0]
    by_cases h2 : b.1 = true
    · rw [if_pos h2, if_pos h2]; rfl
    · rw [if_neg h2, if_neg h2, u64_id (n := a.2.1) (by omega) (by omega), u64_id (n := b.2.1) (by omega) (by omega), w64_id (by omega) (by omega), hK _ (by omega)]
      simp only [Option.bind_some]
      rw [by_f (G_nonneg _ _) (addsub_j (by omega) (by omega)) (by omega) (by omega)]; rfl
theorem zero_beq (b : Cg) : (!b.1 && (b.2.1 == 0 && (b.2.2 == 0))) = true ↔ b.1 = false ∧ b.2.1 = 0 ∧ b.2.2 = 0 := by simp

theorem tdiv_range {x d m : Int} (h : -m ≤ x) (h' : x ≤ m) : -m ≤ Int.tdiv x d ∧ Int.tdiv x d ≤ m := by
  have e : (Int.tdiv x d).natAbs ≤ x.natAbs := by rw [Int.natAbs_tdiv]; exact Nat.div_le_self _ _
  omega

theorem Div_f {a b : Cg} (ha : Fit a) (hb : Fit b) (k : Nat) : congr_Div.f (k + 9) a.1 a.2.1 a.2.2 b.1 b.2.1 b.2.2 = some (divS a b) := by
  have ma := fit_mod ha
  have mb := fit_mod hb
  unfold congr_Div.f divS
  by_cases h1 : a.1 = true
  · rw [if_pos h1, if_pos h1]; simp [congr_Div.j0, congr_none.f]
  rw [if_neg h1, if_neg h1]
  by_cases h2 : b.1 = true
  · rw [if_pos h2, if_pos h2]; simp [congr_Div.j0, congr_none.f]
  rw [if_neg h2, if_neg h2]
  by_cases h3 : b.2.1 = 0 ∧ b.2.2 = 0
  · rw [if_pos h3, (zero_beq b).mpr ⟨bfalse h2, h3⟩]; simp [congr_Div.j0, congr_none.f]
  rw [if_neg h3]
  have hz : (!b.1 && (b.2.1 == 0 && (b.2.2 == 0))) = false := by
    cases hq : (!b.1 && (b.2.1 == 0 && (b.2.2 == 0)))
    · rfl
    · exact absurd ((zero_beq b).mp hq).2 h3
  rw [hz]
  simp only [congr_Div.j0, Bool.false_eq_true, if_false]
  by_cases h4 : b.2.1 = 0
  · have hd : b.2.2 ≠ 0 := fun e => h3 ⟨h4, e⟩
    have t1 := tdiv_range (x := a.2.2) (d := b.2.2) (m := 4294967295) (by omega) (by omega)
    have t2 := tdiv_range (x := a.2.1) (d := b.2.2) (m := 4294967295) (by omega) (by omega)
    rw [if_pos h4, if_neg (show ¬ (b.2.1 ≠ 0) by omega)]
    by_cases h5 : a.2.1 = 0
    · rw [if_pos h5, if_neg hd, if_pos (Or.inl h5), w64_id (by omega) (by omega), constant_f, h5, Int.zero_tdiv]; rfl
    · rw [if_neg h5, if_neg hd]
      by_cases h6 : Int.tmod a.2.1 b.2.2 = 0
      · rw [if_pos h6]
        simp only [congr_Div.j1]
        rw [tmod_zero_iff] at h6
        by_cases h7 : Int.tmod a.2.2 b.2.2 = 0
        · rw [show (Int.tmod a.2.2 b.2.2 == 0) = true by simp [h7], if_pos rfl, if_neg hd, w64_id (by omega) (by omega), w64_id (by omega) (by omega), Of_f (by omega) (by omega) (by omega) (by omega)]
          rw [tmod_zero_iff] at h7
          rw [if_pos (Or.inr ⟨h6, h7⟩)]; rfl
        · rw [show (Int.tmod a.2.2 b.2.2 == 0) = false by simp [h7], if_neg (by simp)]
          rw [tmod_zero_iff] at h7
          rw [if_neg (by rintro (e | e); exact h5 e; exact h7 e.2)]; rfl
      · rw [if_neg h6]
        rw [tmod_zero_iff] at h6
        simp only [congr_Div.j1, Bool.false_eq_true, if_false]
        rw [if_neg (by rintro (e | e); exact h5 e; exact h6 e.1)]; rfl
  · rw [if_neg h4, if_pos h4]; rfl

theorem Mod_f {a b : Cg} (ha : Fit a) (hb : Fit b) : Ev (fun k => congr_Mod.f k a.1 a.2.1 a.2.2 b.1 b.2.1 b.2.2) (modS a b) := by
  have ma := fit_mod ha
  have mb := fit_mod hb
  obtain ⟨K, hK⟩ := gcd_f (a := a.2.1) (b := b.2.1) (by omega) (by omega)
  obtain ⟨L, hL⟩ := gcd_f (G_nonneg a.2.1 b.2.1) (ab_nonneg b.2.2)
  rw [G_ab] at hL
  refine ⟨K + L + 5, fun k hk => ?_⟩
  obtain ⟨j, rfl⟩ : ∃ j, k = j + 3 := ⟨k - 3, by omega⟩
  dsimp only at hK hL ⊢
  unfold congr_Mod.f modS
  by_cases h1 : a.1 = true
  · rw [if_pos h1, if_pos h1]; simp [congr_Mod.j0, congr_none.f]
  rw [if_neg h1, if_neg h1]
  by_cases h2 : b.1 = true
  · rw [if_pos h2, if_pos h2]; simp [congr_Mod.j0, congr_none.f]
  rw [if_neg h2, if_neg h2]
  by_cases h3 : b.2.1 = 0 ∧ b.2.2 = 0
  · rw [if_pos h3, (zero_beq b).mpr ⟨bfalse h2, h3⟩]; simp [congr_Mod.j0, congr_none.f]
  rw [if_neg h3]
  have hz : (!b.1 && (b.2.1 == 0 && (b.2.2 == 0))) = false := by
    cases hq : (!b.1 && (b.2.1 == 0 && (b.2.2 == 0)))
    · rfl
    · exact absurd ((zero_beq b).mp hq).2 h3
  rw [hz]
  have tail : congr_Mod.j1 (j + 2) a.1 a.2.1 a.2.2 b.1 b.2.1 b.2.2 = some (norm (G (G a.2.1 b.2.1) b.2.2) a.2.2) := by
    simp only [congr_Mod.j1]
    rw [u64_id (n := a.2.1) (by omega) (by omega), u64_id (n := b.2.1) (by omega) (by omega), hK _ (by omega)]
    simp only [Option.bind_some]
    rw [size_f (by omega) (by omega)]
    simp only [Option.bind_some]
    rw [hL _ (by omega)]
    simp only [Option.bind_some]
    rw [by_f (G_nonneg _ _) ?_ (by omega) (by omega)]; rfl
    rw [← G_ab]
    exact G_le (G_nonneg _ _) (ab_nonneg _) (addsub_j (by omega) (by omega)) (ab_le (by omega) (by omega))
  simp only [congr_Mod.j0, Bool.false_eq_true, if_false]
  by_cases h4 : a.2.1 = 0
  · rw [if_pos h4]
    by_cases h5 : b.2.1 = 0
    · rw [if_pos h5, if_neg (fun e => h3 ⟨h5, e⟩), if_pos ⟨h4, h5⟩, constant_f]; rfl
    · rw [if_neg h5, if_neg (fun e => h5 e.2), tail]
  · rw [if_neg h4, if_neg (fun e => h4 e.1), tail]

theorem Abs_f {a : Cg} (ha : Fit a) : Ev (fun k => congr_Abs.f k a.1 a.2.1 a.2.2) (absS a) := by
  have ma := fit_mod ha
  have mr := fit_rem ha
  obtain ⟨K, hK⟩ := Join_f ha (fit_neg ha)
  refine ⟨K + 5, fun k hk => ?_⟩
  obtain ⟨j, rfl⟩ : ∃ j, k = j + 3 := ⟨k - 3, by omega⟩
  dsimp only at hK ⊢
  unfold congr_Abs.f absS
  by_cases h1 : a.1 = true
  · have e := fit_of_none ha h1
    rw [if_pos h1, if_pos h1, e]; simp [congr_Abs.j0]
  rw [if_neg h1, if_neg h1]
  by_cases h2 : a.2.1 = 0
  · rw [if_pos h2, show (a.2.1 == 0) = true by simp [h2]]
    simp only [congr_Abs.j0, if_true]
    by_cases h3 : a.2.2 < 0
    · rw [if_pos h3, w64_id (by omega) (by omega), constant_f]
      unfold ab; rw [if_pos h3]; rfl
    · rw [if_neg h3, ab_of_nonneg (by omega)]
      have e := norm_self ha (bfalse h1)
      rw [h2] at e
      rw [e]
  · rw [if_neg h2, show (a.2.1 == 0) = false by simp [h2]]
    simp only [congr_Abs.j0, Bool.false_eq_true, if_false]
    rw [show j + 2 = (j + 1) + 1 by omega, Neg_f ha]
    simp only [Option.bind_some]
    rw [hK _ (by omega)]; rfl

end Go.Proofs.YtfmmjekhknaniaaDoor.Core

namespace Go.Proofs.YtfmmjekhknaniaaDoor.Pr
open Go.RowKit Go.Proofs.YtfmmjekhknaniaaDoor.Given Go.Proofs.YtfmmjekhknaniaaDoorW.PrintWords Go.Proofs.YtfmmjekhknaniaaDoorW.PrintLast Go.Proofs.YtfmmjekhknaniaaDoorW.PrintMore
attribute [local go_sem] max2_int min2_int max_two min_two max_three min_three max_four min_four   -- for this text's walks alone
set_option linter.unusedVariables false
set_option linter.unusedSimpArgs false

def bits_Mul64.f (a0 : Int) (a1 : Int) : Option (Int × Int) := some (IntKind.u64.wrap ((IntKind.u64.wrap ((IntKind.u64.wrap ((a0 / 4294967296) * (a1 / 4294967296))) + ((IntKind.u64.wrap ((IntKind.u64.wrap ((a0 / 4294967296) * (Go.bits .and .u64 a1 4294967295))) + ((IntKind.u64.wrap ((Go.bits .and .u64 a0 4294967295) * (Go.bits .and .u64 a1 4294967295))) / 4294967296))) / 4294967296))) + ((IntKind.u64.wrap ((Go.bits .and .u64 (IntKind.u64.wrap ((IntKind.u64.wrap ((a0 / 4294967296) * (Go.bits .and .u64 a1 4294967295))) + ((IntKind.u64.wrap ((Go.bits .and .u64 a0 4294967295) * (Go.bits .and .u64 a1 4294967295))) / 4294967296))) 4294967295) + (IntKind.u64.wrap ((Go.bits .and .u64 a0 4294967295) * (a1 / 4294967296))))) / 4294967296)), IntKind.u64.wrap (a0 * a1))
set_option maxHeartbeats 8000000 in
set_option maxRecDepth 100000 in
theorem bits_Mul64.calls (a0 : Int) (a1 : Int) (r1 : Int) (r2 : Int) (w : World) (h : bits_Mul64.f a0 a1 = some (r1, r2)) :
  Calls Tryd.prog 63 #[.int .u64 a0, .int .u64 a1] w fun e w' => e = .returned (.tuple #[.int .u64 r1, .int .u64 r2]) ∧ Drawn0 w w' := by
 have H : (some (IntKind.u64.wrap ((IntKind.u64.wrap ((IntKind.u64.wrap ((a0 / 4294967296) * (a1 / 4294967296))) + ((IntKind.u64.wrap ((IntKind.u64.wrap ((a0 / 4294967296) * (Go.bits .and .u64 a1 4294967295))) + ((IntKind.u64.wrap ((Go.bits .and .u64 a0 4294967295) * (Go.bits .and .u64 a1 4294967295))) / 4294967296))) / 4294967296))) + ((IntKind.u64.wrap ((Go.bits .and .u64 (IntKind.u64.wrap ((IntKind.u64.wrap ((a0 / 4294967296) * (Go.bits .and .u64 a1 4294967295))) + ((IntKind.u64.wrap ((Go.bits .and .u64 a0 4294967295) * (Go.bits .and .u64 a1 4294967295))) / 4294967296))) 4294967295) + (IntKind.u64.wrap ((Go.bits .and .u64 a0 4294967295) * (a1 / 4294967296))))) / 4294967296)), IntKind.u64.wrap (a0 * a1))) = some (r1, r2) := h
 clear h
 simp only [Option.some.injEq, Prod.mk.injEq] at H
 obtain ⟨rfl, rfl⟩ := H
 go_enter Tryd.func63, Tryd.ntmps63
 go_wp2
 go_ret2
 exact ⟨by first | rfl | (simp; done) | (simp [*]; done), by repeat (first | exact Drawn0.refl _ | apply Drawn0.step)⟩

def congr_inverse.l0 : Nat → Int → Int → Int → Int → Int → Option (Int)
 | 0, _, _, _, _, _ => none
 | k + 1, x1, x5, x6, x7, x8 => if x8 = 0 then ((congr_rest.f x5 x1).bind fun t196 => (some t196)) else (congr_inverse.l0 k x1 x6 (wrap64 (x5 - (wrap64 ((wrap64 (Int.tdiv x7 x8)) * x6)))) x8 (wrap64 (x7 - (wrap64 ((wrap64 (Int.tdiv x7 x8)) * x8)))))
def congr_inverse.f (k : Nat) (a0 : Int) (a1 : Int) : Option (Int) := congr_inverse.l0 k a1 1 0 (wrap64 (a0)) (wrap64 (a1))
set_option maxHeartbeats 8000000 in
set_option maxRecDepth 100000 in
theorem congr_inverse.calls (k : Nat) (a0 : Int) (a1 : Int) (r : Int) (w : World) (h : congr_inverse.f k a0 a1 = some r) :
  Calls Tryd.prog 64 #[.int .u64 a0, .int .u64 a1] w fun e w' => e = .returned (.int .u64 r) ∧ Drawn0 w w' := by
 have H : (congr_inverse.l0 k a1 1 0 (wrap64 (a0)) (wrap64 (a1))) = some r := h
 clear h
 have H' := Aside0.mk H
 clear H
 go_enter Tryd.func64, Tryd.ntmps64
 go_wp2
 go_loopg [5, 6, 7, 8] k (fun kq v5 v6 v7 v8 w' => ∃ (x5_1 : Int) (x6_1 : Int) (x7_1 : Int) (x8_1 : Int), v5 = .int .i64 x5_1 ∧ v6 = .int .i64 x6_1 ∧ v7 = .int .i64 x7_1 ∧ v8 = .int .i64 x8_1 ∧ Aside0 (congr_inverse.l0 kq a1 x5_1 x6_1 x7_1 x8_1 = some r) ∧ Aside0 (kq ≤ k) ∧ Drawn0 w w')
 case atStart => exact ⟨(1), (0), (wrap64 (a0)), (wrap64 (a1)), (by first | rfl | (simp; done) | (simp [*]; done)), (by first | rfl | (simp; done) | (simp [*]; done)), (by first | rfl | (simp; done) | (simp [*]; done)), (by first | rfl | (simp; done) | (simp [*]; done)), H', ⟨Nat.le_refl _⟩, by repeat (first | exact Drawn0.refl _ | apply Drawn0.step)⟩
 case round =>
  clear H'
  try clear p2
  obtain ⟨x5_1, x6_1, x7_1, x8_1, rfl, rfl, rfl, rfl, HA, HK1, ⟨m1, rfl⟩⟩ := hrel
  cases gk with
  | zero => exact absurd HA.out (by simp [congr_inverse.l0])
  | succ k1 =>
   have H := HA.out
   clear HA
   simp only [congr_inverse.l0] at H
   by_cases c3 : x8_1 = 0
   ·
    rw [if_pos c3] at H
    have c3b0 : (x8_1 == 0) = true := beq_iff_eq.mpr c3
    have c3b1 : (x8_1 != 0) = false := bne_eq_false_iff_eq.mpr c3
    clear c3
    replace H := Option.bind_eq_some_iff.mp H
    obtain ⟨t196, A40, H⟩ := H
    replace H : (some t196) = some r := H
    have A4 := Aside0.mk A40
    clear A40
    obtain rfl := Option.some.inj H
    go_wp2_with (first | ((with_reducible refine gate_callee (f := 53) rfl ?_); refine goesL_ (some 33) rfl rfl Tryd.func53 (by kernel_rfl) rfl #[.int .i64 x5_1, .int .u64 a1] rfl mS ?_; (with_reducible refine (congr_rest.calls x5_1 a1 t196 _ A4.out).mono ?_); rintro e w' ⟨rfl, ⟨nd, rfl⟩⟩; refine ⟨_, rfl, ?_⟩))
    go_ret
    exact ⟨by first | rfl | (simp; done) | (simp [*]; done), by repeat (first | exact Drawn0.refl _ | apply Drawn0.step)⟩
   ·
    rw [if_neg c3] at H
    have c3b0 : (x8_1 == 0) = false := beq_eq_false_iff_ne.mpr c3
    have c3b1 : (x8_1 != 0) = true := bne_iff_ne.mpr c3
    have H' := Aside0.mk H
    clear H
    go_wp2
    go_roundg k1
    case measure => have := HK1.out; omega
    case rel => exact ⟨(x6_1), (wrap64 (x5_1 - (wrap64 ((wrap64 (Int.tdiv x7_1 x8_1)) * x6_1)))), (x8_1), (wrap64 (x7_1 - (wrap64 ((wrap64 (Int.tdiv x7_1 x8_1)) * x8_1)))), (by first | rfl | (simp; done) | (simp [*]; done)), (by first | rfl | (simp; done) | (simp [*]; done)), (by first | rfl | (simp; done) | (simp [*]; done)), (by first | rfl | (simp; done) | (simp [*]; done)), H', ⟨by have := HK1.out; omega⟩, by repeat (first | exact Drawn0.refl _ | apply Drawn0.step)⟩

mutual
def congr_Meet.j0 : Nat → Bool → Bool → Int → Int → Bool → Int → Int → Option (Bool × Int × Int)
 | 0, _, _, _, _, _, _, _ => none
 | k + 1, x11, x198000, x198001, x198002, x199000, x199001, x199002 => if x11 = true then ((congr_none.f).bind fun bt200 => (some (bt200.1, bt200.2.1, bt200.2.2))) else (if x198001 = 0 then (congr_Meet.j1 k true x198000 x198001 x198002 x199000 x199001 x199002) else (congr_Meet.j1 k (x199001 == 0) x198000 x198001 x198002 x199000 x199001 x199002))
def congr_Meet.j1 : Nat → Bool → Bool → Int → Int → Bool → Int → Int → Option (Bool × Int × Int)
 | 0, _, _, _, _, _, _, _ => none
 | k + 1, x19, x198000, x198001, x198002, x199000, x199001, x199002 => if x19 = true then (if x198001 = 0 then (congr_Meet.j2 k x198000 x198001 x198002 x199000 x199001 x199002) else (congr_Meet.j2 k x199000 x199001 x199002 x198000 x198001 x198002)) else ((congr_gcd_uint64.f k (IntKind.u64.wrap (x198001)) (IntKind.u64.wrap (x199001))).bind fun t207 => ((congr_size.f (wrap64 (x198002 - x199002))).bind fun t208 => (if t207 = 0 then (none) else (if (Int.tmod t208 t207) = 0 then (if (IntKind.u64.wrap (Int.tdiv (IntKind.u64.wrap (x199001)) t207)) > 1 then (if (wrap64 (t207)) = 0 then (none) else ((congr_rest.f (wrap64 (Int.tdiv (wrap64 (x199002 - x198002)) (wrap64 (t207)))) (IntKind.u64.wrap (Int.tdiv (IntKind.u64.wrap (x199001)) t207))).bind fun t212 => (if (IntKind.u64.wrap (Int.tdiv (IntKind.u64.wrap (x199001)) t207)) = 0 then (none) else ((congr_inverse.f k (Int.tmod (IntKind.u64.wrap (Int.tdiv (IntKind.u64.wrap (x198001)) t207)) (IntKind.u64.wrap (Int.tdiv (IntKind.u64.wrap (x199001)) t207))) (IntKind.u64.wrap (Int.tdiv (IntKind.u64.wrap (x199001)) t207))).bind fun t213 => ((bits_Mul64.f t212 t213).bind fun bt214 => ((congr_words_rest.f bt214.1 bt214.2 (IntKind.u64.wrap (Int.tdiv (IntKind.u64.wrap (x199001)) t207))).bind fun t216 => ((congr_of.f k (IntKind.u64.wrap ((IntKind.u64.wrap (x198001)) * (IntKind.u64.wrap (Int.tdiv (IntKind.u64.wrap (x199001)) t207)))) (IntKind.u64.wrap ((IntKind.u64.wrap ((IntKind.u64.wrap (x198001)) * t216)) + (IntKind.u64.wrap (x198002))))).bind fun bt217 => (some (bt217.1, bt217.2.1, bt217.2.2))))))))) else ((congr_of.f k (IntKind.u64.wrap ((IntKind.u64.wrap (x198001)) * (IntKind.u64.wrap (Int.tdiv (IntKind.u64.wrap (x199001)) t207)))) (IntKind.u64.wrap ((IntKind.u64.wrap ((IntKind.u64.wrap (x198001)) * 0)) + (IntKind.u64.wrap (x198002))))).bind fun bt220 => (some (bt220.1, bt220.2.1, bt220.2.2)))) else ((congr_none.f).bind fun bt209 => (some (bt209.1, bt209.2.1, bt209.2.2)))))))
def congr_Meet.j2 : Nat → Bool → Int → Int → Bool → Int → Int → Option (Bool × Int × Int)
 | 0, _, _, _, _, _, _ => none
 | k + 1, x198000, x198001, x198002, x199000, x199001, x199002 => (congr_Has.f k x199000 x199001 x199002 x198002).bind fun t203 => (if t203 = true then (some (x198000, x198001, x198002)) else ((congr_none.f).bind fun bt204 => (some (bt204.1, bt204.2.1, bt204.2.2))))
end
def congr_Meet.f (k : Nat) (a0_0 : Bool) (a0_1 : Int) (a0_2 : Int) (a1_0 : Bool) (a1_1 : Int) (a1_2 : Int) : Option (Bool × Int × Int) := if a0_0 = true then (congr_Meet.j0 k true a0_0 a0_1 a0_2 a1_0 a1_1 a1_2) else (congr_Meet.j0 k a1_0 a0_0 a0_1 a0_2 a1_0 a1_1 a1_2)
def congr_Meet.T9 : Bool × List (List Nat × List Nat) := (true, [([], []), ([0], [0]), ([1], [1]), ([], []), ([3], [3]), ([4], [4]), ([2, 0, 1, 2], [2]), ([5, 6, 0, 1, 2, 3, 4, 5, 6], [5])])
def congr_Meet.B9 : List Nat := [0, 1, 3, 0, 8, 24, 7, 127]
theorem congr_Meet.tab9 : rtab .any (opsOf Tryd.f20 9) = congr_Meet.T9 := by kernel_rfl
theorem congr_Meet.bits9 : waitsOk congr_Meet.T9.2 congr_Meet.B9 = true := by kernel_rfl
def congr_Meet.T15 : Bool × List (List Nat × List Nat) := (true, [([], []), ([0], [0]), ([], []), ([2], [2]), ([1, 3], [1, 3]), ([], []), ([5], [5]), ([4, 6], [4, 6]), ([], []), ([], []), ([8, 9], [8, 9]), ([7, 10], [7, 10]), ([], []), ([], []), ([12, 13], [12, 13]), ([], []), ([], []), ([15, 16], [15, 16]), ([14, 17], [14, 17]), ([], []), ([], []), ([19, 20], [19, 20]), ([18, 21, 11], [18, 21]), ([11, 22, 22], [11, 22]), ([23], [23]), ([24], [24]), ([24], [24]), ([25, 23, 0, 1, 2, 3, 4, 5, 6, 7, 8, 9, 10, 11, 12, 13, 14, 15, 16, 17, 18, 19, 20, 21, 22, 23, 24, 25], [25]), ([26, 27, 0, 1, 2, 3, 4, 5, 6, 7, 8, 9, 10, 11, 12, 13, 14, 15, 16, 17, 18, 19, 20, 21, 22, 23, 24, 25, 26, 27], [26])])
def congr_Meet.B15 : List Nat := [0, 1, 0, 4, 15, 0, 32, 127, 0, 0, 768, 2047, 0, 0, 12288, 0, 0, 98304, 258048, 0, 0, 1572864, 4194303, 8388607, 16777215, 33554431, 33554431, 67108863, 268435455]
theorem congr_Meet.tab15 : rtab .any (opsOf Tryd.f20 15) = congr_Meet.T15 := by kernel_rfl
theorem congr_Meet.bits15 : waitsOk congr_Meet.T15.2 congr_Meet.B15 = true := by kernel_rfl
def congr_Meet.T17 : Bool × List (List Nat × List Nat) := (true, [([], []), ([], []), ([], []), ([1, 2], [1, 2]), ([0, 3], [0, 3]), ([], []), ([], []), ([5, 6], [5, 6]), ([], []), ([8], [8]), ([9], [9]), ([7, 10], [7, 10]), ([4, 11], [4, 11]), ([12, 12, 0, 1, 2, 3, 4, 5, 6, 7, 8, 9, 10, 11, 12], [12])])
def congr_Meet.B17 : List Nat := [0, 0, 0, 6, 15, 0, 0, 96, 0, 256, 768, 2016, 4095, 8191]
theorem congr_Meet.tab17 : rtab .any (opsOf Tryd.f20 17) = congr_Meet.T17 := by kernel_rfl
theorem congr_Meet.bits17 : waitsOk congr_Meet.T17.2 congr_Meet.B17 = true := by kernel_rfl
set_option maxHeartbeats 8000000 in
set_option maxRecDepth 100000 in
theorem congr_Meet.calls (k : Nat) (a0_0 : Bool) (a0_1 : Int) (a0_2 : Int) (a1_0 : Bool) (a1_1 : Int) (a1_2 : Int) (r1 : Bool) (r2 : Int) (r3 : Int) (w : World) (h : congr_Meet.f k a0_0 a0_1 a0_2 a1_0 a1_1 a1_2 = some (r1, r2, r3)) :
  Calls Tryd.prog 20 #[.agg #[.bool a0_0, .int .i64 a0_1, .int .i64 a0_2], .agg #[.bool a1_0, .int .i64 a1_1, .int .i64 a1_2]] w fun e w' => e = .returned (.agg #[.bool r1, .int .i64 r2, .int .i64 r3]) ∧ Below w.heap.size w w' := by
 have hu23 := Tryd.underlying23
 have hu67 := Tryd.underlying67
 have HB := Aside0.mk (Below.refl w.heap.size w)
 have H : (if a0_0 = true then (congr_Meet.j0 k true a0_0 a0_1 a0_2 a1_0 a1_1 a1_2) else (congr_Meet.j0 k a1_0 a0_0 a0_1 a0_2 a1_0 a1_1 a1_2)) = some (r1, r2, r3) := h
 clear h
 have HC3 := Aside0.mk H
 clear H
 go_enter Tryd.func20, Tryd.ntmps20
 go_upto_region 1 with (first | ((with_reducible refine gate_dst (N := 2) rfl ?_); refine box_event ?hg (N := 2) ?hd (cs := #[.bool a0_0, .int .i64 a0_1, .int .i64 a0_2]) (t := 23) ?hr ?_; (case hd => rfl); (case hg => rfl); (case hr => first | (go_simp; done) | (go_simp; rfl)); intro gb197 hg w4 hbox hb; have n0_ := kW HB hb; have n1_ := Aside0.mk (hbox); have n2_ := Aside0.mk ((by rw [hg]; exact (below_size (bS HB)) : w.heap.size ≤ gb197)); have n3_ := Aside0.mk ((by rw [hg]; exact (below_size (bS HB)) : w.heap.size ≤ gb197)); clear HB; have HB := n0_; have BK197 := n1_; have GW197 := n2_; have GE197 := n3_; clear n0_ n1_ n2_ n3_; clear hb hbox hg) | ((with_reducible refine gate_dst (N := 3) rfl ?_); refine box_event ?hg (N := 3) ?hd (cs := #[.bool a1_0, .int .i64 a1_1, .int .i64 a1_2]) (t := 23) ?hr ?_; (case hd => rfl); (case hg => rfl); (case hr => first | (go_simp; done) | (go_simp; rfl)); intro gb198 hg w5 hbox hb; have n0_ := kB BK197 hb; have n1_ := kW HB hb; have n2_ := Aside0.mk (hbox); have n3_ := Aside0.mk ((by rw [hg]; exact (below_size (bS HB)) : w.heap.size ≤ gb198)); have n4_ := Aside0.mk ((by rw [hg]; exact (below_size (bS HB)) : w.heap.size ≤ gb198)); have n5_ := Aside0.mk ((by rw [hg]; exact Nat.ne_of_lt (blk_lt (bkS BK197)) : gb197 ≠ gb198)); have n6_ := Aside0.mk ((by rw [hg]; exact Nat.ne_of_gt (blk_lt (bkS BK197)) : gb198 ≠ gb197)); clear BK197; clear HB; have BK197 := n0_; have HB := n1_; have BK198 := n2_; have GW198 := n3_; have GE198 := n4_; have NB197_198 := n5_; have NB198_197 := n6_; clear n0_ n1_ n2_ n3_ n4_ n5_ n6_; clear hb hbox hg) | ((with_reducible refine gate_dst (N := 4) rfl ?_); refine box_event ?hg (N := 4) ?hd (cs := #[.bool false, .int .i64 0, .int .i64 0]) (t := 23) ?hr ?_; (case hd => rfl); (case hg => rfl); (case hr => first | (go_simp; done) | (go_simp; rfl)); intro gb199 hg w6 hbox hb; have n0_ := kB BK197 hb; have n1_ := kB BK198 hb; have n2_ := kW HB hb; have n3_ := Aside0.mk (hbox); have n4_ := Aside0.mk ((by rw [hg]; exact (below_size (bS HB)) : w.heap.size ≤ gb199)); have n5_ := Aside0.mk ((by rw [hg]; exact (below_size (bS HB)) : w.heap.size ≤ gb199)); have n6_ := Aside0.mk ((by rw [hg]; exact Nat.ne_of_lt (blk_lt (bkS BK197)) : gb197 ≠ gb199)); have n7_ := Aside0.mk ((by rw [hg]; exact Nat.ne_of_gt (blk_lt (bkS BK197)) : gb199 ≠ gb197)); have n8_ := Aside0.mk ((by rw [hg]; exact Nat.ne_of_lt (blk_lt (bkS BK198)) : gb198 ≠ gb199)); have n9_ := Aside0.mk ((by rw [hg]; exact Nat.ne_of_gt (blk_lt (bkS BK198)) : gb199 ≠ gb198)); clear BK197; clear BK198; clear HB; have BK197 := n0_; have BK198 := n1_; have HB := n2_; have BK199 := n3_; have GW199 := n4_; have GE199 := n5_; have NB197_199 := n6_; have NB199_197 := n7_; have NB198_199 := n8_; have NB199_198 := n9_; clear n0_ n1_ n2_ n3_ n4_ n5_ n6_ n7_ n8_ n9_; clear hb hbox hg))
 (try simp only [Act.put, lA, lB, lC])
 go_cut [11] (fun v11 wc => ∃ (kq : Nat) (x11_2 : Bool), v11 = .bool x11_2 ∧ Aside0 (congr_Meet.j0 kq x11_2 a0_0 a0_1 a0_2 a1_0 a1_1 a1_2 = some (r1, r2, r3)) ∧ Aside0 (kq ≤ k) ∧ Aside0 (wc.heap[gb197]? = some (.cells #[.bool a0_0, .int .i64 a0_1, .int .i64 a0_2] 23 (0, 0))) ∧ Aside0 (wc.heap[gb198]? = some (.cells #[.bool a1_0, .int .i64 a1_1, .int .i64 a1_2] 23 (0, 0))) ∧ Aside0 (wc.heap[gb199]? = some (.cells #[.bool false, .int .i64 0, .int .i64 0] 23 (0, 0))) ∧ Aside0 (Below w.heap.size w wc))
 case first =>
  have H := HC3.out
  clear HC3
  by_cases c7 : a0_0 = true
  ·
   subst c7
   have H1 : (congr_Meet.j0 k true true a0_1 a0_2 a1_0 a1_1 a1_2) = some (r1, r2, r3) := by rw [if_pos rfl] at H; exact H
   clear H
   have H := H1
   clear H1
   have H' := Aside0.mk H
   clear H
   have hnb8 := NB197_198.out
   have hnc8 := NB198_197.out
   have hnb9 := NB197_199.out
   have hnc9 := NB199_197.out
   have hcz10_0 := cz0 BK197
   have hcz10_1 := cz1 BK197
   have hcz10_2 := cz2 BK197
   have hfz10_0 := fz BK197 0
   have hfz10_1 := fz BK197 1
   have hfz10_2 := fz BK197 2
   go_wp2
   go_meet
   case rel => exact ⟨_, (true), (by first | rfl | (simp; done) | (simp [*]; done)), H', ⟨by first | omega | exact Nat.le_refl _⟩, ⟨bkS BK197⟩, ⟨bkS BK198⟩, ⟨bkS BK199⟩, ⟨bS HB⟩⟩
  ·
   replace c7 := Bool.eq_false_iff.mpr c7
   subst c7
   have H1 : (congr_Meet.j0 k a1_0 false a0_1 a0_2 a1_0 a1_1 a1_2) = some (r1, r2, r3) := by rw [if_neg (show ¬ (false = true) by decide)] at H; exact H
   clear H
   have H := H1
   clear H1
   have H' := Aside0.mk H
   clear H
   have hnb11 := NB197_198.out
   have hnc11 := NB198_197.out
   have hnb12 := NB197_199.out
   have hnc12 := NB199_197.out
   have hcz13_0 := cz0 BK197
   have hcz13_1 := cz1 BK197
   have hcz13_2 := cz2 BK197
   have hfz13_0 := fz BK197 0
   have hfz13_1 := fz BK197 1
   have hfz13_2 := fz BK197 2
   have hnb14 := NB198_199.out
   have hnc14 := NB199_198.out
   have hcz15_0 := cz0 BK198
   have hcz15_1 := cz1 BK198
   have hcz15_2 := cz2 BK198
   have hfz15_0 := fz BK198 0
   have hfz15_1 := fz BK198 1
   have hfz15_2 := fz BK198 2
   go_wp2
   go_meet
   case rel => exact ⟨_, (a1_0), (by first | rfl | (simp; done) | (simp [*]; done)), H', ⟨by first | omega | exact Nat.le_refl _⟩, ⟨bkS BK197⟩, ⟨bkS BK198⟩, ⟨bkS BK199⟩, ⟨bS HB⟩⟩
 case rest =>
  clear HC3
  try clear c1
  try clear c2
  try clear p2
  try clear c7
  try clear c8
  try clear c9
  try clear c11
  try clear c12
  try clear c14
  try clear hcz10_0
  try clear hcz10_1
  try clear hcz10_2
  try clear hcz13_0
  try clear hcz13_1
  try clear hcz13_2
  try clear hcz15_0
  try clear hcz15_1
  try clear hcz15_2
  try clear hfz10_0
  try clear hfz10_1
  try clear hfz10_2
  try clear hfz13_0
  try clear hfz13_1
  try clear hfz13_2
  try clear hfz15_0
  try clear hfz15_1
  try clear hfz15_2
  obtain ⟨kq, x11_2, rfl, HA, HJ2, BK197, BK198, BK199, HB⟩ := hcut
  cases kq with
  | zero => exact absurd HA.out (by simp [congr_Meet.j0])
  | succ kj2 =>
   have H := HA.out
   clear HA
   simp only [congr_Meet.j0] at H
   by_cases c16 : x11_2 = true
   ·
    subst c16
    have H1 : ((congr_none.f).bind fun bt200 => (some (bt200.1, bt200.2.1, bt200.2.2))) = some (r1, r2, r3) := by rw [if_pos rfl] at H; exact H
    clear H
    have H := H1
    clear H1
    replace H := Option.bind_eq_some_iff.mp H
    obtain ⟨⟨t200, t201, t202⟩, A170, H⟩ := H
    replace H : (some (t200, t201, t202)) = some (r1, r2, r3) := H
    have A17 := Aside0.mk A170
    clear A170
    simp only [Option.some.injEq, Prod.mk.injEq] at H
    obtain ⟨rfl, rfl, rfl⟩ := H
    go_wp2_with (first | ((with_reducible refine gate_callee (f := 56) rfl ?_); refine goesL_ (some 18) rfl rfl Tryd.func56 (by kernel_rfl) rfl #[] rfl mS ?_; (with_reducible refine (congr_none.calls  t200 t201 t202 _ A17.out).mono ?_); rintro e w18 ⟨rfl, hb⟩; refine ⟨_, rfl, ?_⟩; replace BK197 := kB BK197 hb; replace BK198 := kB BK198 hb; replace BK199 := kB BK199 hb; replace HB := kW HB hb; (try clear hb); (try clear hb2); (try clear hk); (try clear hi); have hnb19 := NB199_197.out; have hnc19 := NB197_199.out; have hnb20 := NB199_198.out; have hnc20 := NB198_199.out; have hcz21_0 := cz0 BK199; have hcz21_1 := cz1 BK199; have hcz21_2 := cz2 BK199; have hfz21_0 := fz BK199 0; have hfz21_1 := fz BK199 1; have hfz21_2 := fz BK199 2))
    refine bodyPost_ret (results_cell_row rfl _ _ gb199 23 #[.bool t200, .int .i64 t201, .int .i64 t202] (0, 0) _ rfl (by (with_reducible repeat (first | refine b1 ?_ _ | refine b2 ?_ | refine b3 ?_ _)); refine blk_put (cs := #[.bool t200, .int .i64 t201, .int .i64 0]) ?_ 2 _ rfl; (with_reducible repeat (first | refine b1 ?_ _ | refine b2 ?_ | refine b3 ?_ _)); refine blk_put (cs := #[.bool t200, .int .i64 0, .int .i64 0]) ?_ 1 _ rfl; (with_reducible repeat (first | refine b1 ?_ _ | refine b2 ?_ | refine b3 ?_ _)); refine blk_put (cs := #[.bool false, .int .i64 0, .int .i64 0]) ?_ 0 _ rfl; (with_reducible repeat (first | refine b1 ?_ _ | refine b2 ?_ | refine b3 ?_ _)); exact BK199.out) Tryd.underlying23 rfl (by kernel_rfl)) rfl ?_
    exact ⟨eS, bS HB⟩
   ·
    replace c16 := Bool.eq_false_iff.mpr c16
    subst c16
    have H1 : (if a0_1 = 0 then (congr_Meet.j1 kj2 true a0_0 a0_1 a0_2 a1_0 a1_1 a1_2) else (congr_Meet.j1 kj2 (a1_1 == 0) a0_0 a0_1 a0_2 a1_0 a1_1 a1_2)) = some (r1, r2, r3) := by rw [if_neg (show ¬ (false = true) by decide)] at H; exact H
    clear H
    have H := H1
    clear H1
    have HC22 := Aside0.mk H
    clear H
    go_upto_region 3 with (fail)
    go_cut [19] (fun v19 wc => ∃ (kq : Nat) (x19_21 : Bool), v19 = .bool x19_21 ∧ Aside0 (congr_Meet.j1 kq x19_21 a0_0 a0_1 a0_2 a1_0 a1_1 a1_2 = some (r1, r2, r3)) ∧ Aside0 (kq ≤ kj2) ∧ Aside0 (wc.heap[gb197]? = some (.cells #[.bool a0_0, .int .i64 a0_1, .int .i64 a0_2] 23 (0, 0))) ∧ Aside0 (wc.heap[gb198]? = some (.cells #[.bool a1_0, .int .i64 a1_1, .int .i64 a1_2] 23 (0, 0))) ∧ Aside0 (wc.heap[gb199]? = some (.cells #[.bool false, .int .i64 0, .int .i64 0] 23 (0, 0))) ∧ Aside0 (Below w.heap.size w wc))
    case first =>
     have H := HC22.out
     clear HC22
     by_cases c23 : a0_1 = 0
     ·
      rw [if_pos c23] at H
      have c23b0 : (a0_1 == 0) = true := beq_iff_eq.mpr c23
      have c23b1 : (a0_1 != 0) = false := bne_eq_false_iff_eq.mpr c23
      clear c23
      (first | rw [c23b0] | (simp only [i64_w, i32_w]; rw [c23b0]) | skip)
      have H' := Aside0.mk H
      clear H
      have hnb24 := NB197_198.out
      have hnc24 := NB198_197.out
      have hnb25 := NB197_199.out
      have hnc25 := NB199_197.out
      have hcz26_0 : wc.cell? ⟨gb197, 0, none⟩ = some (.bool a0_0) := cz0 BK197
      have hcz26_1 : wc.cell? ⟨gb197, 1, none⟩ = some (.int .i64 a0_1) := cz1 BK197
      have hcz26_2 : wc.cell? ⟨gb197, 2, none⟩ = some (.int .i64 a0_2) := cz2 BK197
      have hfz26_0 := fz BK197 0
      have hfz26_1 := fz BK197 1
      have hfz26_2 := fz BK197 2
      go_wp2
      go_meet
      case rel => exact ⟨_, (true), (by first | rfl | (simp; done) | (simp [*]; done)), H', ⟨by have := HJ2.out; first | omega | exact Nat.le_refl _⟩, ⟨bkS BK197⟩, ⟨bkS BK198⟩, ⟨bkS BK199⟩, ⟨bS HB⟩⟩
     ·
      rw [if_neg c23] at H
      have c23b0 : (a0_1 == 0) = false := beq_eq_false_iff_ne.mpr c23
      have c23b1 : (a0_1 != 0) = true := bne_iff_ne.mpr c23
      (first | rw [c23b0] | (simp only [i64_w, i32_w]; rw [c23b0]) | skip)
      have H' := Aside0.mk H
      clear H
      have hnb27 := NB197_198.out
      have hnc27 := NB198_197.out
      have hnb28 := NB197_199.out
      have hnc28 := NB199_197.out
      have hcz29_0 : wc.cell? ⟨gb197, 0, none⟩ = some (.bool a0_0) := cz0 BK197
      have hcz29_1 : wc.cell? ⟨gb197, 1, none⟩ = some (.int .i64 a0_1) := cz1 BK197
      have hcz29_2 : wc.cell? ⟨gb197, 2, none⟩ = some (.int .i64 a0_2) := cz2 BK197
      have hfz29_0 := fz BK197 0
      have hfz29_1 := fz BK197 1
      have hfz29_2 := fz BK197 2
      have hnb30 := NB198_199.out
      have hnc30 := NB199_198.out
      have hcz31_0 : wc.cell? ⟨gb198, 0, none⟩ = some (.bool a1_0) := cz0 BK198
      have hcz31_1 : wc.cell? ⟨gb198, 1, none⟩ = some (.int .i64 a1_1) := cz1 BK198
      have hcz31_2 : wc.cell? ⟨gb198, 2, none⟩ = some (.int .i64 a1_2) := cz2 BK198
      have hfz31_0 := fz BK198 0
      have hfz31_1 := fz BK198 1
      have hfz31_2 := fz BK198 2
      go_wp2
      go_meet
      case rel => exact ⟨_, ((a1_1 == 0)), (by first | rfl | (simp; done) | (simp [*]; done)), H', ⟨by have := HJ2.out; first | omega | exact Nat.le_refl _⟩, ⟨bkS BK197⟩, ⟨bkS BK198⟩, ⟨bkS BK199⟩, ⟨bS HB⟩⟩
    case rest =>
     clear HC22
     try clear c1
     try clear c2
     try clear p2
     try clear c3
     try clear c5
     try clear c7
     try clear c8
     try clear c9
     try clear c11
     try clear c12
     try clear c14
     try clear c16
     try clear c19
     try clear c20
     try clear c23
     try clear c23b0
     try clear c23b1
     try clear c24
     try clear c25
     try clear c27
     try clear c28
     try clear c30
     try clear hcz10_0
     try clear hcz10_1
     try clear hcz10_2
     try clear hcz13_0
     try clear hcz13_1
     try clear hcz13_2
     try clear hcz15_0
     try clear hcz15_1
     try clear hcz15_2
     try clear hcz21_0
     try clear hcz21_1
     try clear hcz21_2
     try clear hcz26_0
     try clear hcz26_1
     try clear hcz26_2
     try clear hcz29_0
     try clear hcz29_1
     try clear hcz29_2
     try clear hcz31_0
     try clear hcz31_1
     try clear hcz31_2
     try clear hfz10_0
     try clear hfz10_1
     try clear hfz10_2
     try clear hfz13_0
     try clear hfz13_1
     try clear hfz13_2
     try clear hfz15_0
     try clear hfz15_1
     try clear hfz15_2
     try clear hfz21_0
     try clear hfz21_1
     try clear hfz21_2
     try clear hfz26_0
     try clear hfz26_1
     try clear hfz26_2
     try clear hfz29_0
     try clear hfz29_1
     try clear hfz29_2
     try clear hfz31_0
     try clear hfz31_1
     try clear hfz31_2
     try clear p2
     obtain ⟨kq, x19_21, rfl, HA, HJ21, BK197, BK198, BK199, HB⟩ := hcut
     cases kq with
     | zero => exact absurd HA.out (by simp [congr_Meet.j1])
     | succ kj21 =>
      have H := HA.out
      clear HA
      simp only [congr_Meet.j1] at H
      by_cases c32 : x19_21 = true
      ·
       subst c32
       have H1 : (if a0_1 = 0 then (congr_Meet.j2 kj21 a0_0 a0_1 a0_2 a1_0 a1_1 a1_2) else (congr_Meet.j2 kj21 a1_0 a1_1 a1_2 a0_0 a0_1 a0_2)) = some (r1, r2, r3) := by rw [if_pos rfl] at H; exact H
       clear H
       have H := H1
       clear H1
       have HC33 := Aside0.mk H
       clear H
       have hnb34 := NB197_198.out
       have hnc34 := NB198_197.out
       have hnb35 := NB197_199.out
       have hnc35 := NB199_197.out
       have hcz36_0 : wc.cell? ⟨gb197, 0, none⟩ = some (.bool a0_0) := cz0 BK197
       have hcz36_1 : wc.cell? ⟨gb197, 1, none⟩ = some (.int .i64 a0_1) := cz1 BK197
       have hcz36_2 : wc.cell? ⟨gb197, 2, none⟩ = some (.int .i64 a0_2) := cz2 BK197
       have hfz36_0 := fz BK197 0
       have hfz36_1 := fz BK197 1
       have hfz36_2 := fz BK197 2
       go_upto_if 30 with (fail)
       go_cut [] (fun wc => ∃ (kq : Nat) (x198000_32 : Bool) (x198001_32 : Int) (x198002_32 : Int) (x199000_32 : Bool) (x199001_32 : Int) (x199002_32 : Int), Aside0 (congr_Meet.j2 kq x198000_32 x198001_32 x198002_32 x199000_32 x199001_32 x199002_32 = some (r1, r2, r3)) ∧ Aside0 (kq ≤ kj21) ∧ Aside0 (wc.heap[gb197]? = some (.cells #[.bool x198000_32, .int .i64 x198001_32, .int .i64 x198002_32] 23 (0, 0))) ∧ Aside0 (wc.heap[gb198]? = some (.cells #[.bool x199000_32, .int .i64 x199001_32, .int .i64 x199002_32] 23 (0, 0))) ∧ Aside0 (wc.heap[gb199]? = some (.cells #[.bool false, .int .i64 0, .int .i64 0] 23 (0, 0))) ∧ Aside0 (Below w.heap.size w wc))
       case first =>
        have H := HC33.out
        clear HC33
        by_cases c37 : a0_1 = 0
        ·
         rw [if_pos c37] at H
         have c37b0 : (a0_1 == 0) = true := beq_iff_eq.mpr c37
         have c37b1 : (a0_1 != 0) = false := bne_eq_false_iff_eq.mpr c37
         clear c37
         (first | rw [c37b0] | (simp only [i64_w, i32_w]; rw [c37b0]) | skip)
         have H' := Aside0.mk H
         clear H
         go_wp2
         go_meet
         case rel => exact ⟨_, (a0_0), (a0_1), (a0_2), (a1_0), (a1_1), (a1_2), H', ⟨by have := HJ2.out; have := HJ21.out; first | omega | exact Nat.le_refl _⟩, ⟨bkS BK197⟩, ⟨bkS BK198⟩, ⟨bkS BK199⟩, ⟨bS HB⟩⟩
        ·
         rw [if_neg c37] at H
         have c37b0 : (a0_1 == 0) = false := beq_eq_false_iff_ne.mpr c37
         have c37b1 : (a0_1 != 0) = true := bne_iff_ne.mpr c37
         (first | rw [c37b0] | (simp only [i64_w, i32_w]; rw [c37b0]) | skip)
         have H' := Aside0.mk H
         clear H
         have hnb38 := NB198_197.out
         have hnc38 := NB197_198.out
         have hnb39 := NB198_199.out
         have hnc39 := NB199_198.out
         have hcz40_0 : wc.cell? ⟨gb198, 0, none⟩ = some (.bool a1_0) := cz0 BK198
         have hcz40_1 : wc.cell? ⟨gb198, 1, none⟩ = some (.int .i64 a1_1) := cz1 BK198
         have hcz40_2 : wc.cell? ⟨gb198, 2, none⟩ = some (.int .i64 a1_2) := cz2 BK198
         have hfz40_0 := fz BK198 0
         have hfz40_1 := fz BK198 1
         have hfz40_2 := fz BK198 2
         have hnb41 := NB197_199.out
         have hnc41 := NB199_197.out
         have hcz42_0 : wc.cell? ⟨gb197, 0, none⟩ = some (.bool a0_0) := cz0 BK197
         have hcz42_1 : wc.cell? ⟨gb197, 1, none⟩ = some (.int .i64 a0_1) := cz1 BK197
         have hcz42_2 : wc.cell? ⟨gb197, 2, none⟩ = some (.int .i64 a0_2) := cz2 BK197
         have hfz42_0 := fz BK197 0
         have hfz42_1 := fz BK197 1
         have hfz42_2 := fz BK197 2
         go_wp2
         go_meet
         case rel => exact ⟨_, (a1_0), (a1_1), (a1_2), (a0_0), (a0_1), (a0_2), H', ⟨by have := HJ2.out; have := HJ21.out; first | omega | exact Nat.le_refl _⟩, ⟨by (with_reducible repeat (first | refine b1 ?_ _ | refine b2 ?_ | refine b3 ?_ _)); refine blk_far ?_ NB197_198.out _; (with_reducible repeat (first | refine b1 ?_ _ | refine b2 ?_ | refine b3 ?_ _)); refine blk_far ?_ NB197_198.out _; (with_reducible repeat (first | refine b1 ?_ _ | refine b2 ?_ | refine b3 ?_ _)); refine blk_far ?_ NB197_198.out _; (with_reducible repeat (first | refine b1 ?_ _ | refine b2 ?_ | refine b3 ?_ _)); refine blk_put (cs := #[.bool a1_0, .int .i64 a1_1, .int .i64 a0_2]) ?_ 2 _ rfl; (with_reducible repeat (first | refine b1 ?_ _ | refine b2 ?_ | refine b3 ?_ _)); refine blk_put (cs := #[.bool a1_0, .int .i64 a0_1, .int .i64 a0_2]) ?_ 1 _ rfl; (with_reducible repeat (first | refine b1 ?_ _ | refine b2 ?_ | refine b3 ?_ _)); refine blk_put (cs := #[.bool a0_0, .int .i64 a0_1, .int .i64 a0_2]) ?_ 0 _ rfl; (with_reducible repeat (first | refine b1 ?_ _ | refine b2 ?_ | refine b3 ?_ _)); exact BK197.out⟩, ⟨by (with_reducible repeat (first | refine b1 ?_ _ | refine b2 ?_ | refine b3 ?_ _)); refine blk_put (cs := #[.bool a0_0, .int .i64 a0_1, .int .i64 a1_2]) ?_ 2 _ rfl; (with_reducible repeat (first | refine b1 ?_ _ | refine b2 ?_ | refine b3 ?_ _)); refine blk_put (cs := #[.bool a0_0, .int .i64 a1_1, .int .i64 a1_2]) ?_ 1 _ rfl; (with_reducible repeat (first | refine b1 ?_ _ | refine b2 ?_ | refine b3 ?_ _)); refine blk_put (cs := #[.bool a1_0, .int .i64 a1_1, .int .i64 a1_2]) ?_ 0 _ rfl; (with_reducible repeat (first | refine b1 ?_ _ | refine b2 ?_ | refine b3 ?_ _)); refine blk_far ?_ NB198_197.out _; (with_reducible repeat (first | refine b1 ?_ _ | refine b2 ?_ | refine b3 ?_ _)); refine blk_far ?_ NB198_197.out _; (with_reducible repeat (first | refine b1 ?_ _ | refine b2 ?_ | refine b3 ?_ _)); refine blk_far ?_ NB198_197.out _; (with_reducible repeat (first | refine b1 ?_ _ | refine b2 ?_ | refine b3 ?_ _)); exact BK198.out⟩, ⟨bkS BK199⟩, ⟨bS HB⟩⟩
       case rest =>
        clear HC33
        try clear c1
        try clear c2
        try clear p2
        try clear c3
        try clear c4
        try clear c5
        try clear c7
        try clear c8
        try clear c9
        try clear c11
        try clear c12
        try clear c14
        try clear c16
        try clear c19
        try clear c20
        try clear c23
        try clear c23b0
        try clear c23b1
        try clear c24
        try clear c25
        try clear c27
        try clear c28
        try clear c30
        try clear c32
        try clear c34
        try clear c35
        try clear c37
        try clear c37b0
        try clear c37b1
        try clear c38
        try clear c39
        try clear c41
        try clear hcz10_0
        try clear hcz10_1
        try clear hcz10_2
        try clear hcz13_0
        try clear hcz13_1
        try clear hcz13_2
        try clear hcz15_0
        try clear hcz15_1
        try clear hcz15_2
        try clear hcz21_0
        try clear hcz21_1
        try clear hcz21_2
        try clear hcz26_0
        try clear hcz26_1
        try clear hcz26_2
        try clear hcz29_0
        try clear hcz29_1
        try clear hcz29_2
        try clear hcz31_0
        try clear hcz31_1
        try clear hcz31_2
        try clear hcz36_0
        try clear hcz36_1
        try clear hcz36_2
        try clear hcz40_0
        try clear hcz40_1
        try clear hcz40_2
        try clear hcz42_0
        try clear hcz42_1
        try clear hcz42_2
        try clear hfz10_0
        try clear hfz10_1
        try clear hfz10_2
        try clear hfz13_0
        try clear hfz13_1
        try clear hfz13_2
        try clear hfz15_0
        try clear hfz15_1
        try clear hfz15_2
        try clear hfz21_0
        try clear hfz21_1
        try clear hfz21_2
        try clear hfz26_0
        try clear hfz26_1
        try clear hfz26_2
        try clear hfz29_0
        try clear hfz29_1
        try clear hfz29_2
        try clear hfz31_0
        try clear hfz31_1
        try clear hfz31_2
        try clear hfz36_0
        try clear hfz36_1
        try clear hfz36_2
        try clear hfz40_0
        try clear hfz40_1
        try clear hfz40_2
        try clear hfz42_0
        try clear hfz42_1
        try clear hfz42_2
        try clear p2
        obtain ⟨kq, x198000_32, x198001_32, x198002_32, x199000_32, x199001_32, x199002_32, HA, HJ32, BK197, BK198, BK199, HB⟩ := hcut
        cases kq with
        | zero => exact absurd HA.out (by simp [congr_Meet.j2])
        | succ kj32 =>
         have H := HA.out
         clear HA
         simp only [congr_Meet.j2] at H
         replace H := Option.bind_eq_some_iff.mp H
         obtain ⟨t203, A430, H⟩ := H
         replace H : (if t203 = true then (some (x198000_32, x198001_32, x198002_32)) else ((congr_none.f).bind fun bt204 => (some (bt204.1, bt204.2.1, bt204.2.2)))) = some (r1, r2, r3) := H
         have A43 := Aside0.mk A430
         clear A430
         by_cases c44 : t203 = true
         ·
          subst c44
          have H1 : (some (x198000_32, x198001_32, x198002_32)) = some (r1, r2, r3) := by rw [if_pos rfl] at H; exact H
          clear H
          have H := H1
          clear H1
          simp only [Option.some.injEq, Prod.mk.injEq] at H
          obtain ⟨rfl, rfl, rfl⟩ := H
          have hnb45 := NB198_197.out
          have hnc45 := NB197_198.out
          have hnb46 := NB198_199.out
          have hnc46 := NB199_198.out
          have hcz47_0 : wc.cell? ⟨gb198, 0, none⟩ = some (.bool x199000_32) := cz0 BK198
          have hcz47_1 : wc.cell? ⟨gb198, 1, none⟩ = some (.int .i64 x199001_32) := cz1 BK198
          have hcz47_2 : wc.cell? ⟨gb198, 2, none⟩ = some (.int .i64 x199002_32) := cz2 BK198
          have hfz47_0 := fz BK198 0
          have hfz47_1 := fz BK198 1
          have hfz47_2 := fz BK198 2
          have hnb48 := NB197_199.out
          have hnc48 := NB199_197.out
          have hcz49_0 : wc.cell? ⟨gb197, 0, none⟩ = some (.bool x198000_32) := cz0 BK197
          have hcz49_1 : wc.cell? ⟨gb197, 1, none⟩ = some (.int .i64 x198001_32) := cz1 BK197
          have hcz49_2 : wc.cell? ⟨gb197, 2, none⟩ = some (.int .i64 x198002_32) := cz2 BK197
          have hfz49_0 := fz BK197 0
          have hfz49_1 := fz BK197 1
          have hfz49_2 := fz BK197 2
          go_wp2_with (first | ((with_reducible refine gate_callee (f := 14) rfl ?_); refine goesL_ (some 36) rfl rfl Tryd.func14 (by kernel_rfl) rfl #[.agg #[.bool x199000_32, .int .i64 x199001_32, .int .i64 x199002_32], .int .i64 x198002_32] rfl mS ?_; (with_reducible refine (congr_Has.calls kj32 x199000_32 x199001_32 x199002_32 x198002_32 true _ A43.out).mono ?_); rintro e w50 ⟨rfl, hb⟩; refine ⟨_, rfl, ?_⟩; replace BK197 := kB BK197 hb; replace BK198 := kB BK198 hb; replace BK199 := kB BK199 hb; replace HB := kW HB hb; (try clear hb); (try clear hb2); (try clear hk); (try clear hi); have hcz51_0 := cz0 BK197; have hcz51_1 := cz1 BK197; have hcz51_2 := cz2 BK197; have hfz51_0 := fz BK197 0; have hfz51_1 := fz BK197 1; have hfz51_2 := fz BK197 2; have hcz52_0 := cz0 BK199; have hcz52_1 := cz1 BK199; have hcz52_2 := cz2 BK199; have hfz52_0 := fz BK199 0; have hfz52_1 := fz BK199 1; have hfz52_2 := fz BK199 2))
          refine bodyPost_ret (results_cell_row rfl _ _ gb199 23 #[.bool x198000_32, .int .i64 x198001_32, .int .i64 x198002_32] (0, 0) _ rfl (by (with_reducible repeat (first | refine b1 ?_ _ | refine b2 ?_ | refine b3 ?_ _)); refine blk_put (cs := #[.bool x198000_32, .int .i64 x198001_32, .int .i64 0]) ?_ 2 _ rfl; (with_reducible repeat (first | refine b1 ?_ _ | refine b2 ?_ | refine b3 ?_ _)); refine blk_put (cs := #[.bool x198000_32, .int .i64 0, .int .i64 0]) ?_ 1 _ rfl; (with_reducible repeat (first | refine b1 ?_ _ | refine b2 ?_ | refine b3 ?_ _)); refine blk_put (cs := #[.bool false, .int .i64 0, .int .i64 0]) ?_ 0 _ rfl; (with_reducible repeat (first | refine b1 ?_ _ | refine b2 ?_ | refine b3 ?_ _)); exact BK199.out) Tryd.underlying23 rfl (by kernel_rfl)) rfl ?_
          exact ⟨eS, bS HB⟩
         ·
          replace c44 := Bool.eq_false_iff.mpr c44
          subst c44
          have H1 : ((congr_none.f).bind fun bt204 => (some (bt204.1, bt204.2.1, bt204.2.2))) = some (r1, r2, r3) := by rw [if_neg (show ¬ (false = true) by decide)] at H; exact H
          clear H
          have H := H1
          clear H1
          replace H := Option.bind_eq_some_iff.mp H
          obtain ⟨⟨t204, t205, t206⟩, A530, H⟩ := H
          replace H : (some (t204, t205, t206)) = some (r1, r2, r3) := H
          have A53 := Aside0.mk A530
          clear A530
          simp only [Option.some.injEq, Prod.mk.injEq] at H
          obtain ⟨rfl, rfl, rfl⟩ := H
          have hnb54 := NB198_197.out
          have hnc54 := NB197_198.out
          have hnb55 := NB198_199.out
          have hnc55 := NB199_198.out
          have hcz56_0 : wc.cell? ⟨gb198, 0, none⟩ = some (.bool x199000_32) := cz0 BK198
          have hcz56_1 : wc.cell? ⟨gb198, 1, none⟩ = some (.int .i64 x199001_32) := cz1 BK198
          have hcz56_2 : wc.cell? ⟨gb198, 2, none⟩ = some (.int .i64 x199002_32) := cz2 BK198
          have hfz56_0 := fz BK198 0
          have hfz56_1 := fz BK198 1
          have hfz56_2 := fz BK198 2
          have hnb57 := NB197_199.out
          have hnc57 := NB199_197.out
          have hcz58_0 : wc.cell? ⟨gb197, 0, none⟩ = some (.bool x198000_32) := cz0 BK197
          have hcz58_1 : wc.cell? ⟨gb197, 1, none⟩ = some (.int .i64 x198001_32) := cz1 BK197
          have hcz58_2 : wc.cell? ⟨gb197, 2, none⟩ = some (.int .i64 x198002_32) := cz2 BK197
          have hfz58_0 := fz BK197 0
          have hfz58_1 := fz BK197 1
          have hfz58_2 := fz BK197 2
          go_wp2_with (first | ((with_reducible refine gate_callee (f := 14) rfl ?_); refine goesL_ (some 36) rfl rfl Tryd.func14 (by kernel_rfl) rfl #[.agg #[.bool x199000_32, .int .i64 x199001_32, .int .i64 x199002_32], .int .i64 x198002_32] rfl mS ?_; (with_reducible refine (congr_Has.calls kj32 x199000_32 x199001_32 x199002_32 x198002_32 false _ A43.out).mono ?_); rintro e w59 ⟨rfl, hb⟩; refine ⟨_, rfl, ?_⟩; replace BK197 := kB BK197 hb; replace BK198 := kB BK198 hb; replace BK199 := kB BK199 hb; replace HB := kW HB hb; (try clear hb); (try clear hb2); (try clear hk); (try clear hi)) | ((with_reducible refine gate_callee (f := 56) rfl ?_); refine goesL_ (some 38) rfl rfl Tryd.func56 (by kernel_rfl) rfl #[] rfl mS ?_; (with_reducible refine (congr_none.calls  t204 t205 t206 _ A53.out).mono ?_); rintro e w60 ⟨rfl, hb⟩; refine ⟨_, rfl, ?_⟩; replace BK197 := kB BK197 hb; replace BK198 := kB BK198 hb; replace BK199 := kB BK199 hb; replace HB := kW HB hb; (try clear hb); (try clear hb2); (try clear hk); (try clear hi); have hcz61_0 := cz0 BK199; have hcz61_1 := cz1 BK199; have hcz61_2 := cz2 BK199; have hfz61_0 := fz BK199 0; have hfz61_1 := fz BK199 1; have hfz61_2 := fz BK199 2))
          refine bodyPost_ret (results_cell_row rfl _ _ gb199 23 #[.bool t204, .int .i64 t205, .int .i64 t206] (0, 0) _ rfl (by (with_reducible repeat (first | refine b1 ?_ _ | refine b2 ?_ | refine b3 ?_ _)); refine blk_put (cs := #[.bool t204, .int .i64 t205, .int .i64 0]) ?_ 2 _ rfl; (with_reducible repeat (first | refine b1 ?_ _ | refine b2 ?_ | refine b3 ?_ _)); refine blk_put (cs := #[.bool t204, .int .i64 0, .int .i64 0]) ?_ 1 _ rfl; (with_reducible repeat (first | refine b1 ?_ _ | refine b2 ?_ | refine b3 ?_ _)); refine blk_put (cs := #[.bool false, .int .i64 0, .int .i64 0]) ?_ 0 _ rfl; (with_reducible repeat (first | refine b1 ?_ _ | refine b2 ?_ | refine b3 ?_ _)); exact BK199.out) Tryd.underlying23 rfl (by kernel_rfl)) rfl ?_
          exact ⟨eS, bS HB⟩
      ·
       replace c32 := Bool.eq_false_iff.mpr c32
       subst c32
       have H1 : ((congr_gcd_uint64.f kj21 (IntKind.u64.wrap (a0_1)) (IntKind.u64.wrap (a1_1))).bind fun t207 => ((congr_size.f (wrap64 (a0_2 - a1_2))).bind fun t208 => (if t207 = 0 then (none) else (if (Int.tmod t208 t207) = 0 then (if (IntKind.u64.wrap (Int.tdiv (IntKind.u64.wrap (a1_1)) t207)) > 1 then (if (wrap64 (t207)) = 0 then (none) else ((congr_rest.f (wrap64 (Int.tdiv (wrap64 (a1_2 - a0_2)) (wrap64 (t207)))) (IntKind.u64.wrap (Int.tdiv (IntKind.u64.wrap (a1_1)) t207))).bind fun t212 => (if (IntKind.u64.wrap (Int.tdiv (IntKind.u64.wrap (a1_1)) t207)) = 0 then (none) else ((congr_inverse.f kj21 (Int.tmod (IntKind.u64.wrap (Int.tdiv (IntKind.u64.wrap (a0_1)) t207)) (IntKind.u64.wrap (Int.tdiv (IntKind.u64.wrap (a1_1)) t207))) (IntKind.u64.wrap (Int.tdiv (IntKind.u64.wrap (a1_1)) t207))).bind fun t213 => ((bits_Mul64.f t212 t213).bind fun bt214 => ((congr_words_rest.f bt214.1 bt214.2 (IntKind.u64.wrap (Int.tdiv (IntKind.u64.wrap (a1_1)) t207))).bind fun t216 => ((congr_of.f kj21 (IntKind.u64.wrap ((IntKind.u64.wrap (a0_1)) * (IntKind.u64.wrap (Int.tdiv (IntKind.u64.wrap (a1_1)) t207)))) (IntKind.u64.wrap ((IntKind.u64.wrap ((IntKind.u64.wrap (a0_1)) * t216)) + (IntKind.u64.wrap (a0_2))))).bind fun bt217 => (some (bt217.1, bt217.2.1, bt217.2.2))))))))) else ((congr_of.f kj21 (IntKind.u64.wrap ((IntKind.u64.wrap (a0_1)) * (IntKind.u64.wrap (Int.tdiv (IntKind.u64.wrap (a1_1)) t207)))) (IntKind.u64.wrap ((IntKind.u64.wrap ((IntKind.u64.wrap (a0_1)) * 0)) + (IntKind.u64.wrap (a0_2))))).bind fun bt220 => (some (bt220.1, bt220.2.1, bt220.2.2)))) else ((congr_none.f).bind fun bt209 => (some (bt209.1, bt209.2.1, bt209.2.2))))))) = some (r1, r2, r3) := by rw [if_neg (show ¬ (false = true) by decide)] at H; exact H
       clear H
       have H := H1
       clear H1
       replace H := Option.bind_eq_some_iff.mp H
       obtain ⟨t207, A620, H⟩ := H
       replace H : ((congr_size.f (wrap64 (a0_2 - a1_2))).bind fun t208 => (if t207 = 0 then (none) else (if (Int.tmod t208 t207) = 0 then (if (IntKind.u64.wrap (Int.tdiv (IntKind.u64.wrap (a1_1)) t207)) > 1 then (if (wrap64 (t207)) = 0 then (none) else ((congr_rest.f (wrap64 (Int.tdiv (wrap64 (a1_2 - a0_2)) (wrap64 (t207)))) (IntKind.u64.wrap (Int.tdiv (IntKind.u64.wrap (a1_1)) t207))).bind fun t212 => (if (IntKind.u64.wrap (Int.tdiv (IntKind.u64.wrap (a1_1)) t207)) = 0 then (none) else ((congr_inverse.f kj21 (Int.tmod (IntKind.u64.wrap (Int.tdiv (IntKind.u64.wrap (a0_1)) t207)) (IntKind.u64.wrap (Int.tdiv (IntKind.u64.wrap (a1_1)) t207))) (IntKind.u64.wrap (Int.tdiv (IntKind.u64.wrap (a1_1)) t207))).bind fun t213 => ((bits_Mul64.f t212 t213).bind fun bt214 => ((congr_words_rest.f bt214.1 bt214.2 (IntKind.u64.wrap (Int.tdiv (IntKind.u64.wrap (a1_1)) t207))).bind fun t216 => ((congr_of.f kj21 (IntKind.u64.wrap ((IntKind.u64.wrap (a0_1)) * (IntKind.u64.wrap (Int.tdiv (IntKind.u64.wrap (a1_1)) t207)))) (IntKind.u64.wrap ((IntKind.u64.wrap ((IntKind.u64.wrap (a0_1)) * t216)) + (IntKind.u64.wrap (a0_2))))).bind fun bt217 => (some (bt217.1, bt217.2.1, bt217.2.2))))))))) else ((congr_of.f kj21 (IntKind.u64.wrap ((IntKind.u64.wrap (a0_1)) * (IntKind.u64.wrap (Int.tdiv (IntKind.u64.wrap (a1_1)) t207)))) (IntKind.u64.wrap ((IntKind.u64.wrap ((IntKind.u64.wrap (a0_1)) * 0)) + (IntKind.u64.wrap (a0_2))))).bind fun bt220 => (some (bt220.1, bt220.2.1, bt220.2.2)))) else ((congr_none.f).bind fun bt209 => (some (bt209.1, bt209.2.1, bt209.2.2)))))) = some (r1, r2, r3) := H
       have A62 := Aside0.mk A620
       clear A620
       replace H := Option.bind_eq_some_iff.mp H
       obtain ⟨t208, A630, H⟩ := H
       replace H : (if t207 = 0 then (none) else (if (Int.tmod t208 t207) = 0 then (if (IntKind.u64.wrap (Int.tdiv (IntKind.u64.wrap (a1_1)) t207)) > 1 then (if (wrap64 (t207)) = 0 then (none) else ((congr_rest.f (wrap64 (Int.tdiv (wrap64 (a1_2 - a0_2)) (wrap64 (t207)))) (IntKind.u64.wrap (Int.tdiv (IntKind.u64.wrap (a1_1)) t207))).bind fun t212 => (if (IntKind.u64.wrap (Int.tdiv (IntKind.u64.wrap (a1_1)) t207)) = 0 then (none) else ((congr_inverse.f kj21 (Int.tmod (IntKind.u64.wrap (Int.tdiv (IntKind.u64.wrap (a0_1)) t207)) (IntKind.u64.wrap (Int.tdiv (IntKind.u64.wrap (a1_1)) t207))) (IntKind.u64.wrap (Int.tdiv (IntKind.u64.wrap (a1_1)) t207))).bind fun t213 => ((bits_Mul64.f t212 t213).bind fun bt214 => ((congr_words_rest.f bt214.1 bt214.2 (IntKind.u64.wrap (Int.tdiv (IntKind.u64.wrap (a1_1)) t207))).bind fun t216 => ((congr_of.f kj21 (IntKind.u64.wrap ((IntKind.u64.wrap (a0_1)) * (IntKind.u64.wrap (Int.tdiv (IntKind.u64.wrap (a1_1)) t207)))) (IntKind.u64.wrap ((IntKind.u64.wrap ((IntKind.u64.wrap (a0_1)) * t216)) + (IntKind.u64.wrap (a0_2))))).bind fun bt217 => (some (bt217.1, bt217.2.1, bt217.2.2))))))))) else ((congr_of.f kj21 (IntKind.u64.wrap ((IntKind.u64.wrap (a0_1)) * (IntKind.u64.wrap (Int.tdiv (IntKind.u64.wrap (a1_1)) t207)))) (IntKind.u64.wrap ((IntKind.u64.wrap ((IntKind.u64.wrap (a0_1)) * 0)) + (IntKind.u64.wrap (a0_2))))).bind fun bt220 => (some (bt220.1, bt220.2.1, bt220.2.2)))) else ((congr_none.f).bind fun bt209 => (some (bt209.1, bt209.2.1, bt209.2.2))))) = some (r1, r2, r3) := H
       have A63 := Aside0.mk A630
       clear A630
       by_cases c64 : t207 = 0
       ·
        rw [if_pos c64] at H
        exact absurd H (by simp)
       ·
        rw [if_neg c64] at H
        have c64b0 : (t207 == 0) = false := beq_eq_false_iff_ne.mpr c64
        have c64b1 : (t207 != 0) = true := bne_iff_ne.mpr c64
        by_cases c65 : (Int.tmod t208 t207) = 0
        ·
         rw [if_pos c65] at H
         have c65b0 : ((Int.tmod t208 t207) == 0) = true := beq_iff_eq.mpr c65
         have c65b1 : ((Int.tmod t208 t207) != 0) = false := bne_eq_false_iff_eq.mpr c65
         clear c65
         by_cases c66 : (IntKind.u64.wrap (Int.tdiv (IntKind.u64.wrap (a1_1)) t207)) > 1
         ·
          rw [if_pos c66] at H
          have c66b0 : decide (1 < (IntKind.u64.wrap (Int.tdiv (IntKind.u64.wrap (a1_1)) t207))) = true := decide_eq_true c66
          clear c66
          by_cases c67 : (wrap64 (t207)) = 0
          ·
           rw [if_pos c67] at H
           exact absurd H (by simp)
          ·
           rw [if_neg c67] at H
           have c67b0 : ((wrap64 (t207)) == 0) = false := beq_eq_false_iff_ne.mpr c67
           have c67b1 : ((wrap64 (t207)) != 0) = true := bne_iff_ne.mpr c67
           replace H := Option.bind_eq_some_iff.mp H
           obtain ⟨t212, A680, H⟩ := H
           replace H : (if (IntKind.u64.wrap (Int.tdiv (IntKind.u64.wrap (a1_1)) t207)) = 0 then (none) else ((congr_inverse.f kj21 (Int.tmod (IntKind.u64.wrap (Int.tdiv (IntKind.u64.wrap (a0_1)) t207)) (IntKind.u64.wrap (Int.tdiv (IntKind.u64.wrap (a1_1)) t207))) (IntKind.u64.wrap (Int.tdiv (IntKind.u64.wrap (a1_1)) t207))).bind fun t213 => ((bits_Mul64.f t212 t213).bind fun bt214 => ((congr_words_rest.f bt214.1 bt214.2 (IntKind.u64.wrap (Int.tdiv (IntKind.u64.wrap (a1_1)) t207))).bind fun t216 => ((congr_of.f kj21 (IntKind.u64.wrap ((IntKind.u64.wrap (a0_1)) * (IntKind.u64.wrap (Int.tdiv (IntKind.u64.wrap (a1_1)) t207)))) (IntKind.u64.wrap ((IntKind.u64.wrap ((IntKind.u64.wrap (a0_1)) * t216)) + (IntKind.u64.wrap (a0_2))))).bind fun bt217 => (some (bt217.1, bt217.2.1, bt217.2.2))))))) = some (r1, r2, r3) := H
           have A68 := Aside0.mk A680
           clear A680
           by_cases c69 : (IntKind.u64.wrap (Int.tdiv (IntKind.u64.wrap (a1_1)) t207)) = 0
           ·
            rw [if_pos c69] at H
            exact absurd H (by simp)
           ·
            rw [if_neg c69] at H
            have c69b0 : ((IntKind.u64.wrap (Int.tdiv (IntKind.u64.wrap (a1_1)) t207)) == 0) = false := beq_eq_false_iff_ne.mpr c69
            have c69b1 : ((IntKind.u64.wrap (Int.tdiv (IntKind.u64.wrap (a1_1)) t207)) != 0) = true := bne_iff_ne.mpr c69
            replace H := Option.bind_eq_some_iff.mp H
            obtain ⟨t213, A700, H⟩ := H
            replace H : ((bits_Mul64.f t212 t213).bind fun bt214 => ((congr_words_rest.f bt214.1 bt214.2 (IntKind.u64.wrap (Int.tdiv (IntKind.u64.wrap (a1_1)) t207))).bind fun t216 => ((congr_of.f kj21 (IntKind.u64.wrap ((IntKind.u64.wrap (a0_1)) * (IntKind.u64.wrap (Int.tdiv (IntKind.u64.wrap (a1_1)) t207)))) (IntKind.u64.wrap ((IntKind.u64.wrap ((IntKind.u64.wrap (a0_1)) * t216)) + (IntKind.u64.wrap (a0_2))))).bind fun bt217 => (some (bt217.1, bt217.2.1, bt217.2.2))))) = some (r1, r2, r3) := H
            have A70 := Aside0.mk A700
            clear A700
            replace H := Option.bind_eq_some_iff.mp H
            obtain ⟨⟨t214, t215⟩, A710, H⟩ := H
            replace H : ((congr_words_rest.f t214 t215 (IntKind.u64.wrap (Int.tdiv (IntKind.u64.wrap (a1_1)) t207))).bind fun t216 => ((congr_of.f kj21 (IntKind.u64.wrap ((IntKind.u64.wrap (a0_1)) * (IntKind.u64.wrap (Int.tdiv (IntKind.u64.wrap (a1_1)) t207)))) (IntKind.u64.wrap ((IntKind.u64.wrap ((IntKind.u64.wrap (a0_1)) * t216)) + (IntKind.u64.wrap (a0_2))))).bind fun bt217 => (some (bt217.1, bt217.2.1, bt217.2.2)))) = some (r1, r2, r3) := H
            have A71 := Aside0.mk A710
            clear A710
            replace H := Option.bind_eq_some_iff.mp H
            obtain ⟨t216, A720, H⟩ := H
            replace H : ((congr_of.f kj21 (IntKind.u64.wrap ((IntKind.u64.wrap (a0_1)) * (IntKind.u64.wrap (Int.tdiv (IntKind.u64.wrap (a1_1)) t207)))) (IntKind.u64.wrap ((IntKind.u64.wrap ((IntKind.u64.wrap (a0_1)) * t216)) + (IntKind.u64.wrap (a0_2))))).bind fun bt217 => (some (bt217.1, bt217.2.1, bt217.2.2))) = some (r1, r2, r3) := H
            have A72 := Aside0.mk A720
            clear A720
            replace H := Option.bind_eq_some_iff.mp H
            obtain ⟨⟨t217, t218, t219⟩, A730, H⟩ := H
            replace H : (some (t217, t218, t219)) = some (r1, r2, r3) := H
            have A73 := Aside0.mk A730
            clear A730
            simp only [Option.some.injEq, Prod.mk.injEq] at H
            obtain ⟨rfl, rfl, rfl⟩ := H
            try go_wp2
            replace BK197 := Aside0.mk (blk_drew BK197.out)
            replace BK198 := Aside0.mk (blk_drew BK198.out)
            replace BK199 := Aside0.mk (blk_drew BK199.out)
            replace HB := Aside0.mk (below_drew1 HB.out)
            refine start_ (n := 8) (S := fun w' => w'.cell? ⟨gb197, 0, none⟩ = some (.bool a0_0) ∧ w'.cell? ⟨gb197, 1, none⟩ = some (.int .i64 a0_1) ∧ w'.cell? ⟨gb197, 2, none⟩ = some (.int .i64 a0_2) ∧ w'.cell? ⟨gb198, 0, none⟩ = some (.bool a1_0) ∧ w'.cell? ⟨gb198, 1, none⟩ = some (.int .i64 a1_1) ∧ w'.cell? ⟨gb198, 2, none⟩ = some (.int .i64 a1_2)) (ds := []) #[false, false, false, false, false, false, false, false] (by kernel_rfl) rfl rfl ⟨cz0 BK197, cz1 BK197, cz2 BK197, cz0 BK198, cz1 BK198, cz2 BK198⟩ (fun hHeld => ?_); refine with_tabW congr_Meet.tab9 congr_Meet.bits9 (fun HT_ HW_ => ?_)
            generalize wc.drew = w74 at BK197 BK198 BK199 HB hHeld ⊢
            refine pure_ (i := 0) (N := some 39) (v := ?_) (a' := ?_) #[true, false, false, false, false, false, false, false] rfl rfl (any_of HT_.out (by kernel_rfl)) (fun _ _ _ h => h) (Or.inl ⟨by rfl, ?_⟩) ?_ ?_
            rotate_left
            ·
             intro w'
             go_simp
             with_reducible rfl
            rotate_left
            ·
             simp only [Act.put, lA, lB, lC, i64_w, i32_w]
             rfl
            refine pure_ (i := 3) (N := some 42) (v := ?_) (a' := ?_) #[true, false, false, true, false, false, false, false] rfl rfl (any_of HT_.out (by kernel_rfl)) (fun _ _ _ h => h) (Or.inl ⟨by rfl, ?_⟩) ?_ ?_
            rotate_left
            ·
             intro w'
             go_simp
             with_reducible rfl
            rotate_left
            ·
             simp only [Act.put, lA, lB, lC, i64_w, i32_w]
             rfl
            refine take_ (i := 1) (N := some 40) (v := ?_) (a' := ?_) #[true, true, false, true, false, false, false, false] rfl rfl (take_ofW HT_.out HW_.out (by kernel_rfl)) (fun _ _ _ h => h) (Or.inl ⟨by rfl, ?_⟩) hHeld ?_ ?_
            rotate_left
            ·
             rintro w' ⟨s0, s1, s2, s3, s4, s5⟩
             go_simp
             with_reducible rfl
            rotate_left
            ·
             simp only [Act.put, lA, lB, lC, i64_w, i32_w]
             rfl
            refine pure_ (i := 2) (N := some 41) (v := ?_) (a' := ?_) #[true, true, true, true, false, false, false, false] rfl rfl (any_of HT_.out (by kernel_rfl)) (fun _ _ _ h => h) (Or.inl ⟨by rfl, ?_⟩) ?_ ?_
            rotate_left
            ·
             intro w'
             go_simp
             with_reducible rfl
            rotate_left
            ·
             simp only [Act.put, lA, lB, lC, i64_w, i32_w]
             rfl
            refine pure_ (i := 6) (N := some 5) (v := ?_) (a' := ?_) #[true, true, true, true, false, false, true, false] rfl rfl (any_of HT_.out (by kernel_rfl)) (fun _ _ _ h => h) (Or.inl ⟨by rfl, ?_⟩) ?_ ?_
            rotate_left
            ·
             intro w'
             go_simp
             with_reducible rfl
            rotate_left
            ·
             simp only [Act.put, lA, lB, lC, i64_w, i32_w]
             rfl
            refine take_ (i := 4) (N := some 43) (v := ?_) (a' := ?_) #[true, true, true, true, true, false, true, false] rfl rfl (take_ofW HT_.out HW_.out (by kernel_rfl)) (fun _ _ _ h => h) (Or.inl ⟨by rfl, ?_⟩) hHeld ?_ ?_
            rotate_left
            ·
             rintro w' ⟨s0, s1, s2, s3, s4, s5⟩
             go_simp
             with_reducible rfl
            rotate_left
            ·
             simp only [Act.put, lA, lB, lC, i64_w, i32_w]
             rfl
            refine pure_ (i := 5) (N := some 44) (v := ?_) (a' := ?_) #[true, true, true, true, true, true, true, false] rfl rfl (any_of HT_.out (by kernel_rfl)) (fun _ _ _ h => h) (Or.inl ⟨by rfl, ?_⟩) ?_ ?_
            rotate_left
            ·
             intro w'
             go_simp
             with_reducible rfl
            rotate_left
            ·
             simp only [Act.put, lA, lB, lC, i64_w, i32_w]
             rfl
            refine pure_ (i := 7) (N := some 6) (v := ?_) (a' := ?_) #[true, true, true, true, true, true, true, true] rfl rfl (any_of HT_.out (by kernel_rfl)) (fun _ _ _ h => h) (Or.inl ⟨by rfl, ?_⟩) ?_ ?_
            rotate_left
            ·
             intro w'
             go_simp
             with_reducible rfl
            rotate_left
            ·
             simp only [Act.put, lA, lB, lC, i64_w, i32_w]
             rfl
            refine done_ (done_of HT_.out (by kernel_rfl)) ?_
            try go_wp2_with (first | ((with_reducible refine gate_callee (f := 62) rfl ?_); refine goesL_ (some 47) rfl rfl Tryd.func62 (by kernel_rfl) rfl #[.int .u64 (IntKind.u64.wrap (a0_1)), .int .u64 (IntKind.u64.wrap (a1_1))] rfl mS ?_; (with_reducible refine (congr_gcd_uint64.calls kj21 (IntKind.u64.wrap (a0_1)) (IntKind.u64.wrap (a1_1)) t207 _ A62.out).mono ?_); rintro e w' ⟨rfl, ⟨nd, rfl⟩⟩; refine ⟨_, rfl, ?_⟩; (try (rw [drewN_self w74]; generalize hq_ : World.drewN w74 _ = w74; have n0_ : Aside0 (w74.heap[gb197]? = some (.cells #[.bool a0_0, .int .i64 a0_1, .int .i64 a0_2] 23 (0, 0))) := ⟨by rw [← hq_]; exact (bkS BK197)⟩; have n1_ : Aside0 (w74.heap[gb198]? = some (.cells #[.bool a1_0, .int .i64 a1_1, .int .i64 a1_2] 23 (0, 0))) := ⟨by rw [← hq_]; exact (bkS BK198)⟩; have n2_ : Aside0 (w74.heap[gb199]? = some (.cells #[.bool false, .int .i64 0, .int .i64 0] 23 (0, 0))) := ⟨by rw [← hq_]; exact (bkS BK199)⟩; have n3_ : Aside0 (Below w.heap.size w w74) := ⟨by rw [← hq_]; exact (bS HB)⟩; clear BK197 BK198 BK199 HB hq_; have BK197 := n0_; have BK198 := n1_; have BK199 := n2_; have HB := n3_; clear n0_ n1_ n2_ n3_)); have hnb75 := NB197_198.out; have hnc75 := NB198_197.out; have hnb76 := NB197_199.out; have hnc76 := NB199_197.out; have hcz77_0 := cz0 BK197; have hcz77_1 := cz1 BK197; have hcz77_2 := cz2 BK197; have hfz77_0 := fz BK197 0; have hfz77_1 := fz BK197 1; have hfz77_2 := fz BK197 2; have hnb78 := NB198_199.out; have hnc78 := NB199_198.out; have hcz79_0 := cz0 BK198; have hcz79_1 := cz1 BK198; have hcz79_2 := cz2 BK198; have hfz79_0 := fz BK198 0; have hfz79_1 := fz BK198 1; have hfz79_2 := fz BK198 2) | ((with_reducible refine gate_callee (f := 52) rfl ?_); refine goesL_ (some 53) rfl rfl Tryd.func52 (by kernel_rfl) rfl #[.int .i64 (wrap64 (a0_2 - a1_2))] rfl mS ?_; (with_reducible refine (congr_size.calls (wrap64 (a0_2 - a1_2)) t208 _ A63.out).mono ?_); rintro e w' ⟨rfl, ⟨nd, rfl⟩⟩; refine ⟨_, rfl, ?_⟩; (try (rw [drewN_self w74]; generalize hq_ : World.drewN w74 _ = w74; have n0_ : Aside0 (w74.heap[gb197]? = some (.cells #[.bool a0_0, .int .i64 a0_1, .int .i64 a0_2] 23 (0, 0))) := ⟨by rw [← hq_]; exact (bkS BK197)⟩; have n1_ : Aside0 (w74.heap[gb198]? = some (.cells #[.bool a1_0, .int .i64 a1_1, .int .i64 a1_2] 23 (0, 0))) := ⟨by rw [← hq_]; exact (bkS BK198)⟩; have n2_ : Aside0 (w74.heap[gb199]? = some (.cells #[.bool false, .int .i64 0, .int .i64 0] 23 (0, 0))) := ⟨by rw [← hq_]; exact (bkS BK199)⟩; have n3_ : Aside0 (Below w.heap.size w w74) := ⟨by rw [← hq_]; exact (bS HB)⟩; clear BK197 BK198 BK199 HB hq_; have BK197 := n0_; have BK198 := n1_; have BK199 := n2_; have HB := n3_; clear n0_ n1_ n2_ n3_))))
            replace BK197 := Aside0.mk (blk_drew BK197.out)
            replace BK198 := Aside0.mk (blk_drew BK198.out)
            replace BK199 := Aside0.mk (blk_drew BK199.out)
            replace HB := Aside0.mk (below_drew1 HB.out)
            refine start_ (n := 29) (S := fun w' => w'.cell? ⟨gb198, 0, none⟩ = some (.bool a1_0) ∧ w'.cell? ⟨gb198, 1, none⟩ = some (.int .i64 a1_1) ∧ w'.cell? ⟨gb198, 2, none⟩ = some (.int .i64 a1_2) ∧ w'.cell? ⟨gb197, 0, none⟩ = some (.bool a0_0) ∧ w'.cell? ⟨gb197, 1, none⟩ = some (.int .i64 a0_1) ∧ w'.cell? ⟨gb197, 2, none⟩ = some (.int .i64 a0_2)) (ds := []) #[false, false, false, false, false, false, false, false, false, false, false, false, false, false, false, false, false, false, false, false, false, false, false, false, false, false, false, false, false] (by kernel_rfl) rfl rfl ⟨cz0 BK198, cz1 BK198, cz2 BK198, cz0 BK197, cz1 BK197, cz2 BK197⟩ (fun hHeld => ?_); refine with_tabW congr_Meet.tab15 congr_Meet.bits15 (fun HT_ HW_ => ?_)
            generalize w74.drew = w80 at BK197 BK198 BK199 HB hHeld ⊢
            refine pure_ (i := 0) (N := some 63) (v := ?_) (a' := ?_) #[true, false, false, false, false, false, false, false, false, false, false, false, false, false, false, false, false, false, false, false, false, false, false, false, false, false, false, false, false] rfl rfl (any_of HT_.out (by kernel_rfl)) (fun _ _ _ h => h) (Or.inl ⟨by rfl, ?_⟩) ?_ ?_
            rotate_left
            ·
             intro w'
             go_simp
             with_reducible rfl
            rotate_left
            ·
             simp only [Act.put, lA, lB, lC, i64_w, i32_w]
             rfl
            refine pure_ (i := 2) (N := some 65) (v := ?_) (a' := ?_) #[true, false, true, false, false, false, false, false, false, false, false, false, false, false, false, false, false, false, false, false, false, false, false, false, false, false, false, false, false] rfl rfl (any_of HT_.out (by kernel_rfl)) (fun _ _ _ h => h) (Or.inl ⟨by rfl, ?_⟩) ?_ ?_
            rotate_left
            ·
             intro w'
             go_simp
             with_reducible rfl
            rotate_left
            ·
             simp only [Act.put, lA, lB, lC, i64_w, i32_w]
             rfl
            refine pure_ (i := 5) (N := some 68) (v := ?_) (a' := ?_) #[true, false, true, false, false, true, false, false, false, false, false, false, false, false, false, false, false, false, false, false, false, false, false, false, false, false, false, false, false] rfl rfl (any_of HT_.out (by kernel_rfl)) (fun _ _ _ h => h) (Or.inl ⟨by rfl, ?_⟩) ?_ ?_
            rotate_left
            ·
             intro w'
             go_simp
             with_reducible rfl
            rotate_left
            ·
             simp only [Act.put, lA, lB, lC, i64_w, i32_w]
             rfl
            refine pure_ (i := 6) (N := some 69) (v := ?_) (a' := ?_) #[true, false, true, false, false, true, true, false, false, false, false, false, false, false, false, false, false, false, false, false, false, false, false, false, false, false, false, false, false] rfl rfl (any_of HT_.out (by kernel_rfl)) (fun _ _ _ h => h) (Or.inl ⟨by rfl, ?_⟩) ?_ ?_
            rotate_left
            ·
             intro w'
             go_simp
             with_reducible rfl
            rotate_left
            ·
             simp only [Act.put, lA, lB, lC, i64_w, i32_w]
             rfl
            refine pure_ (i := 8) (N := some 71) (v := ?_) (a' := ?_) #[true, false, true, false, false, true, true, false, true, false, false, false, false, false, false, false, false, false, false, false, false, false, false, false, false, false, false, false, false] rfl rfl (any_of HT_.out (by kernel_rfl)) (fun _ _ _ h => h) (Or.inl ⟨by rfl, ?_⟩) ?_ ?_
            rotate_left
            ·
             intro w'
             go_simp
             with_reducible rfl
            rotate_left
            ·
             simp only [Act.put, lA, lB, lC, i64_w, i32_w]
             rfl
            refine pure_ (i := 9) (N := some 72) (v := ?_) (a' := ?_) #[true, false, true, false, false, true, true, false, true, true, false, false, false, false, false, false, false, false, false, false, false, false, false, false, false, false, false, false, false] rfl rfl (any_of HT_.out (by kernel_rfl)) (fun _ _ _ h => h) (Or.inl ⟨by rfl, ?_⟩) ?_ ?_
            rotate_left
            ·
             intro w'
             go_simp
             with_reducible rfl
            rotate_left
            ·
             simp only [Act.put, lA, lB, lC, i64_w, i32_w]
             rfl
            refine pure_ (i := 10) (N := some 73) (v := ?_) (a' := ?_) #[true, false, true, false, false, true, true, false, true, true, true, false, false, false, false, false, false, false, false, false, false, false, false, false, false, false, false, false, false] rfl rfl (any_of HT_.out (by kernel_rfl)) (fun _ _ _ h => h) (Or.inl ⟨by rfl, ?_⟩) ?_ ?_
            rotate_left
            ·
             intro w'
             go_simp
             with_reducible rfl
            rotate_left
            ·
             simp only [Act.put, lA, lB, lC, i64_w, i32_w]
             rfl
            refine pure_ (i := 12) (N := some 75) (v := ?_) (a' := ?_) #[true, false, true, false, false, true, true, false, true, true, true, false, true, false, false, false, false, false, false, false, false, false, false, false, false, false, false, false, false] rfl rfl (any_of HT_.out (by kernel_rfl)) (fun _ _ _ h => h) (Or.inl ⟨by rfl, ?_⟩) ?_ ?_
            rotate_left
            ·
             intro w'
             go_simp
             with_reducible rfl
            rotate_left
            ·
             simp only [Act.put, lA, lB, lC, i64_w, i32_w]
             rfl
            refine pure_ (i := 13) (N := some 76) (v := ?_) (a' := ?_) #[true, false, true, false, false, true, true, false, true, true, true, false, true, true, false, false, false, false, false, false, false, false, false, false, false, false, false, false, false] rfl rfl (any_of HT_.out (by kernel_rfl)) (fun _ _ _ h => h) (Or.inl ⟨by rfl, ?_⟩) ?_ ?_
            rotate_left
            ·
             intro w'
             go_simp
             with_reducible rfl
            rotate_left
            ·
             simp only [Act.put, lA, lB, lC, i64_w, i32_w]
             rfl
            refine pure_ (i := 14) (N := some 77) (v := ?_) (a' := ?_) #[true, false, true, false, false, true, true, false, true, true, true, false, true, true, true, false, false, false, false, false, false, false, false, false, false, false, false, false, false] rfl rfl (any_of HT_.out (by kernel_rfl)) (fun _ _ _ h => h) (Or.inl ⟨by rfl, ?_⟩) ?_ ?_
            rotate_left
            ·
             intro w'
             go_simp
             with_reducible rfl
            rotate_left
            ·
             simp only [Act.put, lA, lB, lC, i64_w, i32_w]
             rfl
            refine pure_ (i := 15) (N := some 78) (v := ?_) (a' := ?_) #[true, false, true, false, false, true, true, false, true, true, true, false, true, true, true, true, false, false, false, false, false, false, false, false, false, false, false, false, false] rfl rfl (any_of HT_.out (by kernel_rfl)) (fun _ _ _ h => h) (Or.inl ⟨by rfl, ?_⟩) ?_ ?_
            rotate_left
            ·
             intro w'
             go_simp
             with_reducible rfl
            rotate_left
            ·
             simp only [Act.put, lA, lB, lC, i64_w, i32_w]
             rfl
            refine pure_ (i := 16) (N := some 79) (v := ?_) (a' := ?_) #[true, false, true, false, false, true, true, false, true, true, true, false, true, true, true, true, true, false, false, false, false, false, false, false, false, false, false, false, false] rfl rfl (any_of HT_.out (by kernel_rfl)) (fun _ _ _ h => h) (Or.inl ⟨by rfl, ?_⟩) ?_ ?_
            rotate_left
            ·
             intro w'
             go_simp
             with_reducible rfl
            rotate_left
            ·
             simp only [Act.put, lA, lB, lC, i64_w, i32_w]
             rfl
            refine pure_ (i := 17) (N := some 80) (v := ?_) (a' := ?_) #[true, false, true, false, false, true, true, false, true, true, true, false, true, true, true, true, true, true, false, false, false, false, false, false, false, false, false, false, false] rfl rfl (any_of HT_.out (by kernel_rfl)) (fun _ _ _ h => h) (Or.inl ⟨by rfl, ?_⟩) ?_ ?_
            rotate_left
            ·
             intro w'
             go_simp
             with_reducible rfl
            rotate_left
            ·
             simp only [Act.put, lA, lB, lC, i64_w, i32_w]
             rfl
            refine pure_ (i := 18) (N := some 81) (v := ?_) (a' := ?_) #[true, false, true, false, false, true, true, false, true, true, true, false, true, true, true, true, true, true, true, false, false, false, false, false, false, false, false, false, false] rfl rfl (any_of HT_.out (by kernel_rfl)) (fun _ _ _ h => h) (Or.inl ⟨by rfl, ?_⟩) ?_ ?_
            rotate_left
            ·
             intro w'
             go_simp
             with_reducible rfl
            rotate_left
            ·
             simp only [Act.put, lA, lB, lC, i64_w, i32_w]
             rfl
            refine pure_ (i := 19) (N := some 82) (v := ?_) (a' := ?_) #[true, false, true, false, false, true, true, false, true, true, true, false, true, true, true, true, true, true, true, true, false, false, false, false, false, false, false, false, false] rfl rfl (any_of HT_.out (by kernel_rfl)) (fun _ _ _ h => h) (Or.inl ⟨by rfl, ?_⟩) ?_ ?_
            rotate_left
            ·
             intro w'
             go_simp
             with_reducible rfl
            rotate_left
            ·
             simp only [Act.put, lA, lB, lC, i64_w, i32_w]
             rfl
            refine pure_ (i := 20) (N := some 83) (v := ?_) (a' := ?_) #[true, false, true, false, false, true, true, false, true, true, true, false, true, true, true, true, true, true, true, true, true, false, false, false, false, false, false, false, false] rfl rfl (any_of HT_.out (by kernel_rfl)) (fun _ _ _ h => h) (Or.inl ⟨by rfl, ?_⟩) ?_ ?_
            rotate_left
            ·
             intro w'
             go_simp
             with_reducible rfl
            rotate_left
            ·
             simp only [Act.put, lA, lB, lC, i64_w, i32_w]
             rfl
            refine pure_ (i := 21) (N := some 84) (v := ?_) (a' := ?_) #[true, false, true, false, false, true, true, false, true, true, true, false, true, true, true, true, true, true, true, true, true, true, false, false, false, false, false, false, false] rfl rfl (any_of HT_.out (by kernel_rfl)) (fun _ _ _ h => h) (Or.inl ⟨by rfl, ?_⟩) ?_ ?_
            rotate_left
            ·
             intro w'
             go_simp
             with_reducible rfl
            rotate_left
            ·
             simp only [Act.put, lA, lB, lC, i64_w, i32_w]
             rfl
            refine take_ (i := 1) (N := some 64) (v := ?_) (a' := ?_) #[true, true, true, false, false, true, true, false, true, true, true, false, true, true, true, true, true, true, true, true, true, true, false, false, false, false, false, false, false] rfl rfl (take_ofW HT_.out HW_.out (by kernel_rfl)) (fun _ _ _ h => h) (Or.inl ⟨by rfl, ?_⟩) hHeld ?_ ?_
            rotate_left
            ·
             rintro w' ⟨s0, s1, s2, s3, s4, s5⟩
             go_simp
             with_reducible rfl
            rotate_left
            ·
             simp only [Act.put, lA, lB, lC, i64_w, i32_w]
             rfl
            refine take_ (i := 3) (N := some 66) (v := ?_) (a' := ?_) #[true, true, true, true, false, true, true, false, true, true, true, false, true, true, true, true, true, true, true, true, true, true, false, false, false, false, false, false, false] rfl rfl (take_ofW HT_.out HW_.out (by kernel_rfl)) (fun _ _ _ h => h) (Or.inl ⟨by rfl, ?_⟩) hHeld ?_ ?_
            rotate_left
            ·
             rintro w' ⟨s0, s1, s2, s3, s4, s5⟩
             go_simp
             with_reducible rfl
            rotate_left
            ·
             simp only [Act.put, lA, lB, lC, i64_w, i32_w]
             rfl
            refine pure_ (i := 4) (N := some 67) (v := ?_) (a' := ?_) #[true, true, true, true, true, true, true, false, true, true, true, false, true, true, true, true, true, true, true, true, true, true, false, false, false, false, false, false, false] rfl rfl (any_of HT_.out (by kernel_rfl)) (fun _ _ _ h => h) (Or.inl ⟨by rfl, ?_⟩) ?_ ?_
            rotate_left
            ·
             intro w'
             go_simp
             with_reducible rfl
            rotate_left
            ·
             simp only [Act.put, lA, lB, lC, i64_w, i32_w]
             rfl
            refine pure_ (i := 7) (N := some 70) (v := ?_) (a' := ?_) #[true, true, true, true, true, true, true, true, true, true, true, false, true, true, true, true, true, true, true, true, true, true, false, false, false, false, false, false, false] rfl rfl (any_of HT_.out (by kernel_rfl)) (fun _ _ _ h => h) (Or.inl ⟨by rfl, ?_⟩) ?_ ?_
            rotate_left
            ·
             intro w'
             go_simp
             with_reducible rfl
            rotate_left
            ·
             simp only [Act.put, lA, lB, lC, i64_w, i32_w]
             rfl
            refine one_ (i := 11) (N := some 74) #[true, true, true, true, true, true, true, true, true, true, true, true, true, true, true, true, true, true, true, true, true, true, false, false, false, false, false, false, false] rfl rfl (one_of HT_.out (by kernel_rfl)) (by decide) (fun K hK => ?_)
            refine goes_ Tryd.func53 (by kernel_rfl) rfl #[.int .i64 (wrap64 (Int.tdiv (wrap64 (a1_2 - a0_2)) (wrap64 (t207)))), .int .u64 (IntKind.u64.wrap (Int.tdiv (IntKind.u64.wrap (a1_1)) t207))] (by rfl) rfl rfl mS ?_
            with_reducible refine (congr_rest.calls (wrap64 (Int.tdiv (wrap64 (a1_2 - a0_2)) (wrap64 (t207)))) (IntKind.u64.wrap (Int.tdiv (IntKind.u64.wrap (a1_1)) t207)) t212 _ A68.out).mono ?_
            rintro e w' ⟨rfl, ⟨nd, rfl⟩⟩
            refine ⟨_, rfl, ?_⟩
            refine hK.out _ _ ⟨cz0 BK198, cz1 BK198, cz2 BK198, cz0 BK197, cz1 BK197, cz2 BK197⟩ (fun hHeld => ?_)
            clear hK K
            refine norm_ (a' := ?_) ?_ ?_
            rotate_left
            ·
             show Act.put _ (some 74) _ = _
             simp only [Act.put, lA, lB, lC, i64_w, i32_w]
             rfl
            refine one_ (i := 22) (N := some 85) #[true, true, true, true, true, true, true, true, true, true, true, true, true, true, true, true, true, true, true, true, true, true, true, false, false, false, false, false, false] rfl rfl (one_of HT_.out (by kernel_rfl)) (by decide) (fun K hK => ?_)
            refine goes_ Tryd.func64 (by kernel_rfl) rfl #[.int .u64 (Int.tmod (IntKind.u64.wrap (Int.tdiv (IntKind.u64.wrap (a0_1)) t207)) (IntKind.u64.wrap (Int.tdiv (IntKind.u64.wrap (a1_1)) t207))), .int .u64 (IntKind.u64.wrap (Int.tdiv (IntKind.u64.wrap (a1_1)) t207))] (by rfl) rfl rfl mS ?_
            with_reducible refine (congr_inverse.calls kj21 (Int.tmod (IntKind.u64.wrap (Int.tdiv (IntKind.u64.wrap (a0_1)) t207)) (IntKind.u64.wrap (Int.tdiv (IntKind.u64.wrap (a1_1)) t207))) (IntKind.u64.wrap (Int.tdiv (IntKind.u64.wrap (a1_1)) t207)) t213 _ A70.out).mono ?_
            rintro e w' ⟨rfl, ⟨nd, rfl⟩⟩
            refine ⟨_, rfl, ?_⟩
            refine hK.out _ _ ⟨cz0 BK198, cz1 BK198, cz2 BK198, cz0 BK197, cz1 BK197, cz2 BK197⟩ (fun hHeld => ?_)
            clear hK K
            refine norm_ (a' := ?_) ?_ ?_
            rotate_left
            ·
             show Act.put _ (some 85) _ = _
             simp only [Act.put, lA, lB, lC, i64_w, i32_w]
             rfl
            refine one_ (i := 23) (N := some 86) #[true, true, true, true, true, true, true, true, true, true, true, true, true, true, true, true, true, true, true, true, true, true, true, true, false, false, false, false, false] rfl rfl (one_of HT_.out (by kernel_rfl)) (by decide) (fun K hK => ?_)
            refine goes_ Tryd.func63 (by kernel_rfl) rfl #[.int .u64 t212, .int .u64 t213] (by rfl) rfl rfl mS ?_
            with_reducible refine (bits_Mul64.calls t212 t213 t214 t215 _ A71.out).mono ?_
            rintro e w' ⟨rfl, ⟨nd, rfl⟩⟩
            refine ⟨_, rfl, ?_⟩
            refine hK.out _ _ ⟨cz0 BK198, cz1 BK198, cz2 BK198, cz0 BK197, cz1 BK197, cz2 BK197⟩ (fun hHeld => ?_)
            clear hK K
            refine norm_ (a' := ?_) ?_ ?_
            rotate_left
            ·
             show Act.put _ (some 86) _ = _
             simp only [Act.put, lA, lB, lC, i64_w, i32_w]
             rfl
            refine pure_ (i := 24) (N := some 62) (v := ?_) (a' := ?_) #[true, true, true, true, true, true, true, true, true, true, true, true, true, true, true, true, true, true, true, true, true, true, true, true, true, false, false, false, false] rfl rfl (any_of HT_.out (by kernel_rfl)) (fun _ _ _ h => h) (Or.inl ⟨by rfl, ?_⟩) ?_ ?_
            rotate_left
            ·
             intro w'
             go_simp
             with_reducible rfl
            rotate_left
            ·
             simp only [Act.put, lA, lB, lC, i64_w, i32_w]
             rfl
            refine pure_ (i := 25) (N := some 87) (v := ?_) (a' := ?_) #[true, true, true, true, true, true, true, true, true, true, true, true, true, true, true, true, true, true, true, true, true, true, true, true, true, true, false, false, false] rfl rfl (any_of HT_.out (by kernel_rfl)) (fun _ _ _ h => h) (Or.inl ⟨by rfl, ?_⟩) ?_ ?_
            rotate_left
            ·
             intro w'
             go_simp
             with_reducible rfl
            rotate_left
            ·
             simp only [Act.put, lA, lB, lC, i64_w, i32_w]
             rfl
            refine pure_ (i := 26) (N := some 88) (v := ?_) (a' := ?_) #[true, true, true, true, true, true, true, true, true, true, true, true, true, true, true, true, true, true, true, true, true, true, true, true, true, true, true, false, false] rfl rfl (any_of HT_.out (by kernel_rfl)) (fun _ _ _ h => h) (Or.inl ⟨by rfl, ?_⟩) ?_ ?_
            rotate_left
            ·
             intro w'
             go_simp
             with_reducible rfl
            rotate_left
            ·
             simp only [Act.put, lA, lB, lC, i64_w, i32_w]
             rfl
            refine pure_ (i := 27) (N := some 9) (v := ?_) (a' := ?_) #[true, true, true, true, true, true, true, true, true, true, true, true, true, true, true, true, true, true, true, true, true, true, true, true, true, true, true, true, false] rfl rfl (any_of HT_.out (by kernel_rfl)) (fun _ _ _ h => h) (Or.inl ⟨by rfl, ?_⟩) ?_ ?_
            rotate_left
            ·
             intro w'
             go_simp
             with_reducible rfl
            rotate_left
            ·
             simp only [Act.put, lA, lB, lC, i64_w, i32_w]
             rfl
            refine pure_ (i := 28) (N := some 10) (v := ?_) (a' := ?_) #[true, true, true, true, true, true, true, true, true, true, true, true, true, true, true, true, true, true, true, true, true, true, true, true, true, true, true, true, true] rfl rfl (any_of HT_.out (by kernel_rfl)) (fun _ _ _ h => h) (Or.inl ⟨by rfl, ?_⟩) ?_ ?_
            rotate_left
            ·
             intro w'
             go_simp
             with_reducible rfl
            rotate_left
            ·
             simp only [Act.put, lA, lB, lC, i64_w, i32_w]
             rfl
            refine done_ (done_of HT_.out (by kernel_rfl)) ?_
            try go_wp2_with (first | ((with_reducible refine gate_callee (f := 65) rfl ?_); refine goesL_ (some 95) rfl rfl Tryd.func65 (by kernel_rfl) rfl #[.agg #[.int .u64 t214, .int .u64 t215], .int .u64 (IntKind.u64.wrap (Int.tdiv (IntKind.u64.wrap (a1_1)) t207))] rfl mS ?_; (with_reducible refine (congr_words_rest.calls t214 t215 (IntKind.u64.wrap (Int.tdiv (IntKind.u64.wrap (a1_1)) t207)) t216 _ A72.out).mono ?_); rintro e w81 ⟨rfl, hb⟩; refine ⟨_, rfl, ?_⟩; replace BK197 := kB BK197 hb; replace BK198 := kB BK198 hb; replace BK199 := kB BK199 hb; replace HB := kW HB hb; (try clear hb); (try clear hb2); (try clear hk); (try clear hi)))
            replace BK197 := Aside0.mk (blk_drew BK197.out)
            replace BK198 := Aside0.mk (blk_drew BK198.out)
            replace BK199 := Aside0.mk (blk_drew BK199.out)
            replace HB := Aside0.mk (below_drew1 HB.out)
            refine start_ (n := 14) (S := fun w' => w'.cell? ⟨gb197, 0, none⟩ = some (.bool a0_0) ∧ w'.cell? ⟨gb197, 1, none⟩ = some (.int .i64 a0_1) ∧ w'.cell? ⟨gb197, 2, none⟩ = some (.int .i64 a0_2)) (ds := []) #[false, false, false, false, false, false, false, false, false, false, false, false, false, false] (by kernel_rfl) rfl rfl ⟨cz0 BK197, cz1 BK197, cz2 BK197⟩ (fun hHeld => ?_); refine with_tabW congr_Meet.tab17 congr_Meet.bits17 (fun HT_ HW_ => ?_)
            generalize w81.drew = w82 at BK197 BK198 BK199 HB hHeld ⊢
            refine pure_ (i := 0) (N := some 96) (v := ?_) (a' := ?_) #[true, false, false, false, false, false, false, false, false, false, false, false, false, false] rfl rfl (any_of HT_.out (by kernel_rfl)) (fun _ _ _ h => h) (Or.inl ⟨by rfl, ?_⟩) ?_ ?_
            rotate_left
            ·
             intro w'
             go_simp
             with_reducible rfl
            rotate_left
            ·
             simp only [Act.put, lA, lB, lC, i64_w, i32_w]
             rfl
            refine pure_ (i := 1) (N := some 97) (v := ?_) (a' := ?_) #[true, true, false, false, false, false, false, false, false, false, false, false, false, false] rfl rfl (any_of HT_.out (by kernel_rfl)) (fun _ _ _ h => h) (Or.inl ⟨by rfl, ?_⟩) ?_ ?_
            rotate_left
            ·
             intro w'
             go_simp
             with_reducible rfl
            rotate_left
            ·
             simp only [Act.put, lA, lB, lC, i64_w, i32_w]
             rfl
            refine pure_ (i := 2) (N := some 98) (v := ?_) (a' := ?_) #[true, true, true, false, false, false, false, false, false, false, false, false, false, false] rfl rfl (any_of HT_.out (by kernel_rfl)) (fun _ _ _ h => h) (Or.inl ⟨by rfl, ?_⟩) ?_ ?_
            rotate_left
            ·
             intro w'
             go_simp
             with_reducible rfl
            rotate_left
            ·
             simp only [Act.put, lA, lB, lC, i64_w, i32_w]
             rfl
            refine pure_ (i := 3) (N := some 99) (v := ?_) (a' := ?_) #[true, true, true, true, false, false, false, false, false, false, false, false, false, false] rfl rfl (any_of HT_.out (by kernel_rfl)) (fun _ _ _ h => h) (Or.inl ⟨by rfl, ?_⟩) ?_ ?_
            rotate_left
            ·
             intro w'
             go_simp
             with_reducible rfl
            rotate_left
            ·
             simp only [Act.put, lA, lB, lC, i64_w, i32_w]
             rfl
            refine pure_ (i := 4) (N := some 100) (v := ?_) (a' := ?_) #[true, true, true, true, true, false, false, false, false, false, false, false, false, false] rfl rfl (any_of HT_.out (by kernel_rfl)) (fun _ _ _ h => h) (Or.inl ⟨by rfl, ?_⟩) ?_ ?_
            rotate_left
            ·
             intro w'
             go_simp
             with_reducible rfl
            rotate_left
            ·
             simp only [Act.put, lA, lB, lC, i64_w, i32_w]
             rfl
            refine pure_ (i := 5) (N := some 101) (v := ?_) (a' := ?_) #[true, true, true, true, true, true, false, false, false, false, false, false, false, false] rfl rfl (any_of HT_.out (by kernel_rfl)) (fun _ _ _ h => h) (Or.inl ⟨by rfl, ?_⟩) ?_ ?_
            rotate_left
            ·
             intro w'
             go_simp
             with_reducible rfl
            rotate_left
            ·
             simp only [Act.put, lA, lB, lC, i64_w, i32_w]
             rfl
            refine pure_ (i := 6) (N := some 102) (v := ?_) (a' := ?_) #[true, true, true, true, true, true, true, false, false, false, false, false, false, false] rfl rfl (any_of HT_.out (by kernel_rfl)) (fun _ _ _ h => h) (Or.inl ⟨by rfl, ?_⟩) ?_ ?_
            rotate_left
            ·
             intro w'
             go_simp
             with_reducible rfl
            rotate_left
            ·
             simp only [Act.put, lA, lB, lC, i64_w, i32_w]
             rfl
            refine pure_ (i := 7) (N := some 103) (v := ?_) (a' := ?_) #[true, true, true, true, true, true, true, true, false, false, false, false, false, false] rfl rfl (any_of HT_.out (by kernel_rfl)) (fun _ _ _ h => h) (Or.inl ⟨by rfl, ?_⟩) ?_ ?_
            rotate_left
            ·
             intro w'
             go_simp
             with_reducible rfl
            rotate_left
            ·
             simp only [Act.put, lA, lB, lC, i64_w, i32_w]
             rfl
            refine pure_ (i := 8) (N := some 104) (v := ?_) (a' := ?_) #[true, true, true, true, true, true, true, true, true, false, false, false, false, false] rfl rfl (any_of HT_.out (by kernel_rfl)) (fun _ _ _ h => h) (Or.inl ⟨by rfl, ?_⟩) ?_ ?_
            rotate_left
            ·
             intro w'
             go_simp
             with_reducible rfl
            rotate_left
            ·
             simp only [Act.put, lA, lB, lC, i64_w, i32_w]
             rfl
            refine take_ (i := 9) (N := some 105) (v := ?_) (a' := ?_) #[true, true, true, true, true, true, true, true, true, true, false, false, false, false] rfl rfl (take_ofW HT_.out HW_.out (by kernel_rfl)) (fun _ _ _ h => h) (Or.inl ⟨by rfl, ?_⟩) hHeld ?_ ?_
            rotate_left
            ·
             rintro w' ⟨s0, s1, s2⟩
             go_simp
             with_reducible rfl
            rotate_left
            ·
             simp only [Act.put, lA, lB, lC, i64_w, i32_w]
             rfl
            refine pure_ (i := 10) (N := some 106) (v := ?_) (a' := ?_) #[true, true, true, true, true, true, true, true, true, true, true, false, false, false] rfl rfl (any_of HT_.out (by kernel_rfl)) (fun _ _ _ h => h) (Or.inl ⟨by rfl, ?_⟩) ?_ ?_
            rotate_left
            ·
             intro w'
             go_simp
             with_reducible rfl
            rotate_left
            ·
             simp only [Act.put, lA, lB, lC, i64_w, i32_w]
             rfl
            refine pure_ (i := 11) (N := some 107) (v := ?_) (a' := ?_) #[true, true, true, true, true, true, true, true, true, true, true, true, false, false] rfl rfl (any_of HT_.out (by kernel_rfl)) (fun _ _ _ h => h) (Or.inl ⟨by rfl, ?_⟩) ?_ ?_
            rotate_left
            ·
             intro w'
             go_simp
             with_reducible rfl
            rotate_left
            ·
             simp only [Act.put, lA, lB, lC, i64_w, i32_w]
             rfl
            refine one_ (i := 12) (N := some 108) #[true, true, true, true, true, true, true, true, true, true, true, true, true, false] rfl rfl (one_of HT_.out (by kernel_rfl)) (by decide) (fun K hK => ?_)
            refine goes_ Tryd.func51 (by kernel_rfl) rfl #[.int .u64 (IntKind.u64.wrap ((IntKind.u64.wrap (a0_1)) * (IntKind.u64.wrap (Int.tdiv (IntKind.u64.wrap (a1_1)) t207)))), .int .u64 (IntKind.u64.wrap ((IntKind.u64.wrap ((IntKind.u64.wrap (a0_1)) * t216)) + (IntKind.u64.wrap (a0_2))))] (by rfl) rfl rfl mS ?_
            with_reducible refine (congr_of.calls kj21 (IntKind.u64.wrap ((IntKind.u64.wrap (a0_1)) * (IntKind.u64.wrap (Int.tdiv (IntKind.u64.wrap (a1_1)) t207)))) (IntKind.u64.wrap ((IntKind.u64.wrap ((IntKind.u64.wrap (a0_1)) * t216)) + (IntKind.u64.wrap (a0_2)))) t217 t218 t219 _ A73.out).mono ?_
            rintro e w83 ⟨rfl, hb⟩
            refine ⟨_, rfl, ?_⟩
            replace BK197 := kB BK197 hb
            replace BK198 := kB BK198 hb
            replace BK199 := kB BK199 hb
            replace HB := kW HB hb
            (try clear hb)
            (try clear hb2)
            (try clear hk)
            (try clear hi)
            refine hK.out _ _ ⟨cz0 BK197, cz1 BK197, cz2 BK197⟩ (fun hHeld => ?_)
            clear hK K
            refine norm_ (a' := ?_) ?_ ?_
            rotate_left
            ·
             show Act.put _ (some 108) _ = _
             simp only [Act.put, lA, lB, lC, i64_w, i32_w]
             rfl
            refine one_ (i := 13) (N := none) #[true, true, true, true, true, true, true, true, true, true, true, true, true, true] rfl rfl (one_of HT_.out (by kernel_rfl)) (by decide) (fun K hK => ?_)
            have hs84 : w83.cell? ⟨gb199, 0, none⟩ = some (.bool false) := cz0 BK199
            have hfs84 := fz BK199 0
            have hns84_0 := NB197_199.out
            have hns84_1 := NB198_199.out
            have hms84_0 := NB199_197.out
            have hms84_1 := NB199_198.out
            have hs85 : w83.cell? ⟨gb199, 1, none⟩ = some (.int .i64 0) := cz1 BK199
            have hfs85 := fz BK199 1
            have hns85_0 := NB197_199.out
            have hns85_1 := NB198_199.out
            have hms85_0 := NB199_197.out
            have hms85_1 := NB199_198.out
            have hs86 : w83.cell? ⟨gb199, 2, none⟩ = some (.int .i64 0) := cz2 BK199
            have hfs86 := fz BK199 2
            have hns86_0 := NB197_199.out
            have hns86_1 := NB198_199.out
            have hms86_0 := NB199_197.out
            have hms86_1 := NB199_198.out
            refine skip_ (w1 := ?_) (by rfl) rfl ?_ ?_
            rotate_left
            ·
             go_simp
             rfl
            refine hK.out _ _ ⟨((cell_far (p := ⟨gb199, _, none⟩) NB197_199.out _).trans (((cell_far (p := ⟨gb199, _, none⟩) NB197_199.out _).trans (((cell_far (p := ⟨gb199, _, none⟩) NB197_199.out _).trans (hHeld.1)))))), ((cell_far (p := ⟨gb199, _, none⟩) NB197_199.out _).trans (((cell_far (p := ⟨gb199, _, none⟩) NB197_199.out _).trans (((cell_far (p := ⟨gb199, _, none⟩) NB197_199.out _).trans (hHeld.2.1)))))), ((cell_far (p := ⟨gb199, _, none⟩) NB197_199.out _).trans (((cell_far (p := ⟨gb199, _, none⟩) NB197_199.out _).trans (((cell_far (p := ⟨gb199, _, none⟩) NB197_199.out _).trans (hHeld.2.2))))))⟩ (fun hHeld => ?_)
            clear hK K
            refine done_ (done_of HT_.out (by kernel_rfl)) ?_
            try go_wp2
            refine bodyPost_ret (results_cell_row rfl _ _ gb199 23 #[.bool t217, .int .i64 t218, .int .i64 t219] (0, 0) _ rfl (by (with_reducible repeat (first | refine b1 ?_ _ | refine b2 ?_ | refine b3 ?_ _)); refine blk_put (cs := #[.bool t217, .int .i64 t218, .int .i64 0]) ?_ 2 _ rfl; (with_reducible repeat (first | refine b1 ?_ _ | refine b2 ?_ | refine b3 ?_ _)); refine blk_put (cs := #[.bool t217, .int .i64 0, .int .i64 0]) ?_ 1 _ rfl; (with_reducible repeat (first | refine b1 ?_ _ | refine b2 ?_ | refine b3 ?_ _)); refine blk_put (cs := #[.bool false, .int .i64 0, .int .i64 0]) ?_ 0 _ rfl; (with_reducible repeat (first | refine b1 ?_ _ | refine b2 ?_ | refine b3 ?_ _)); exact BK199.out) Tryd.underlying23 rfl (by kernel_rfl)) rfl ?_
            exact ⟨eS, bS HB⟩
         ·
          rw [if_neg c66] at H
          have c66b0 : decide (1 < (IntKind.u64.wrap (Int.tdiv (IntKind.u64.wrap (a1_1)) t207))) = false := decide_eq_false c66
          clear c66
          replace H := Option.bind_eq_some_iff.mp H
          obtain ⟨⟨t220, t221, t222⟩, A870, H⟩ := H
          replace H : (some (t220, t221, t222)) = some (r1, r2, r3) := H
          have A87 := Aside0.mk A870
          clear A870
          simp only [Option.some.injEq, Prod.mk.injEq] at H
          obtain ⟨rfl, rfl, rfl⟩ := H
          try go_wp2
          replace BK197 := Aside0.mk (blk_drew BK197.out)
          replace BK198 := Aside0.mk (blk_drew BK198.out)
          replace BK199 := Aside0.mk (blk_drew BK199.out)
          replace HB := Aside0.mk (below_drew1 HB.out)
          refine start_ (n := 8) (S := fun w' => w'.cell? ⟨gb197, 0, none⟩ = some (.bool a0_0) ∧ w'.cell? ⟨gb197, 1, none⟩ = some (.int .i64 a0_1) ∧ w'.cell? ⟨gb197, 2, none⟩ = some (.int .i64 a0_2) ∧ w'.cell? ⟨gb198, 0, none⟩ = some (.bool a1_0) ∧ w'.cell? ⟨gb198, 1, none⟩ = some (.int .i64 a1_1) ∧ w'.cell? ⟨gb198, 2, none⟩ = some (.int .i64 a1_2)) (ds := []) #[false, false, false, false, false, false, false, false] (by kernel_rfl) rfl rfl ⟨cz0 BK197, cz1 BK197, cz2 BK197, cz0 BK198, cz1 BK198, cz2 BK198⟩ (fun hHeld => ?_); refine with_tabW congr_Meet.tab9 congr_Meet.bits9 (fun HT_ HW_ => ?_)
          generalize wc.drew = w88 at BK197 BK198 BK199 HB hHeld ⊢
          refine pure_ (i := 0) (N := some 39) (v := ?_) (a' := ?_) #[true, false, false, false, false, false, false, false] rfl rfl (any_of HT_.out (by kernel_rfl)) (fun _ _ _ h => h) (Or.inl ⟨by rfl, ?_⟩) ?_ ?_
          rotate_left
          ·
           intro w'
           go_simp
           with_reducible rfl
          rotate_left
          ·
           simp only [Act.put, lA, lB, lC, i64_w, i32_w]
           rfl
          refine pure_ (i := 3) (N := some 42) (v := ?_) (a' := ?_) #[true, false, false, true, false, false, false, false] rfl rfl (any_of HT_.out (by kernel_rfl)) (fun _ _ _ h => h) (Or.inl ⟨by rfl, ?_⟩) ?_ ?_
          rotate_left
          ·
           intro w'
           go_simp
           with_reducible rfl
          rotate_left
          ·
           simp only [Act.put, lA, lB, lC, i64_w, i32_w]
           rfl
          refine take_ (i := 1) (N := some 40) (v := ?_) (a' := ?_) #[true, true, false, true, false, false, false, false] rfl rfl (take_ofW HT_.out HW_.out (by kernel_rfl)) (fun _ _ _ h => h) (Or.inl ⟨by rfl, ?_⟩) hHeld ?_ ?_
          rotate_left
          ·
           rintro w' ⟨s0, s1, s2, s3, s4, s5⟩
           go_simp
           with_reducible rfl
          rotate_left
          ·
           simp only [Act.put, lA, lB, lC, i64_w, i32_w]
           rfl
          refine pure_ (i := 2) (N := some 41) (v := ?_) (a' := ?_) #[true, true, true, true, false, false, false, false] rfl rfl (any_of HT_.out (by kernel_rfl)) (fun _ _ _ h => h) (Or.inl ⟨by rfl, ?_⟩) ?_ ?_
          rotate_left
          ·
           intro w'
           go_simp
           with_reducible rfl
          rotate_left
          ·
           simp only [Act.put, lA, lB, lC, i64_w, i32_w]
           rfl
          refine pure_ (i := 6) (N := some 5) (v := ?_) (a' := ?_) #[true, true, true, true, false, false, true, false] rfl rfl (any_of HT_.out (by kernel_rfl)) (fun _ _ _ h => h) (Or.inl ⟨by rfl, ?_⟩) ?_ ?_
          rotate_left
          ·
           intro w'
           go_simp
           with_reducible rfl
          rotate_left
          ·
           simp only [Act.put, lA, lB, lC, i64_w, i32_w]
           rfl
          refine take_ (i := 4) (N := some 43) (v := ?_) (a' := ?_) #[true, true, true, true, true, false, true, false] rfl rfl (take_ofW HT_.out HW_.out (by kernel_rfl)) (fun _ _ _ h => h) (Or.inl ⟨by rfl, ?_⟩) hHeld ?_ ?_
          rotate_left
          ·
           rintro w' ⟨s0, s1, s2, s3, s4, s5⟩
           go_simp
           with_reducible rfl
          rotate_left
          ·
           simp only [Act.put, lA, lB, lC, i64_w, i32_w]
           rfl
          refine pure_ (i := 5) (N := some 44) (v := ?_) (a' := ?_) #[true, true, true, true, true, true, true, false] rfl rfl (any_of HT_.out (by kernel_rfl)) (fun _ _ _ h => h) (Or.inl ⟨by rfl, ?_⟩) ?_ ?_
          rotate_left
          ·
           intro w'
           go_simp
           with_reducible rfl
          rotate_left
          ·
           simp only [Act.put, lA, lB, lC, i64_w, i32_w]
           rfl
          refine pure_ (i := 7) (N := some 6) (v := ?_) (a' := ?_) #[true, true, true, true, true, true, true, true] rfl rfl (any_of HT_.out (by kernel_rfl)) (fun _ _ _ h => h) (Or.inl ⟨by rfl, ?_⟩) ?_ ?_
          rotate_left
          ·
           intro w'
           go_simp
           with_reducible rfl
          rotate_left
          ·
           simp only [Act.put, lA, lB, lC, i64_w, i32_w]
           rfl
          refine done_ (done_of HT_.out (by kernel_rfl)) ?_
          try go_wp2_with (first | ((with_reducible refine gate_callee (f := 62) rfl ?_); refine goesL_ (some 47) rfl rfl Tryd.func62 (by kernel_rfl) rfl #[.int .u64 (IntKind.u64.wrap (a0_1)), .int .u64 (IntKind.u64.wrap (a1_1))] rfl mS ?_; (with_reducible refine (congr_gcd_uint64.calls kj21 (IntKind.u64.wrap (a0_1)) (IntKind.u64.wrap (a1_1)) t207 _ A62.out).mono ?_); rintro e w' ⟨rfl, ⟨nd, rfl⟩⟩; refine ⟨_, rfl, ?_⟩; (try (rw [drewN_self w88]; generalize hq_ : World.drewN w88 _ = w88; have n0_ : Aside0 (w88.heap[gb197]? = some (.cells #[.bool a0_0, .int .i64 a0_1, .int .i64 a0_2] 23 (0, 0))) := ⟨by rw [← hq_]; exact (bkS BK197)⟩; have n1_ : Aside0 (w88.heap[gb198]? = some (.cells #[.bool a1_0, .int .i64 a1_1, .int .i64 a1_2] 23 (0, 0))) := ⟨by rw [← hq_]; exact (bkS BK198)⟩; have n2_ : Aside0 (w88.heap[gb199]? = some (.cells #[.bool false, .int .i64 0, .int .i64 0] 23 (0, 0))) := ⟨by rw [← hq_]; exact (bkS BK199)⟩; have n3_ : Aside0 (Below w.heap.size w w88) := ⟨by rw [← hq_]; exact (bS HB)⟩; clear BK197 BK198 BK199 HB hq_; have BK197 := n0_; have BK198 := n1_; have BK199 := n2_; have HB := n3_; clear n0_ n1_ n2_ n3_)); have hnb89 := NB197_198.out; have hnc89 := NB198_197.out; have hnb90 := NB197_199.out; have hnc90 := NB199_197.out; have hcz91_0 := cz0 BK197; have hcz91_1 := cz1 BK197; have hcz91_2 := cz2 BK197; have hfz91_0 := fz BK197 0; have hfz91_1 := fz BK197 1; have hfz91_2 := fz BK197 2; have hnb92 := NB198_199.out; have hnc92 := NB199_198.out; have hcz93_0 := cz0 BK198; have hcz93_1 := cz1 BK198; have hcz93_2 := cz2 BK198; have hfz93_0 := fz BK198 0; have hfz93_1 := fz BK198 1; have hfz93_2 := fz BK198 2) | ((with_reducible refine gate_callee (f := 52) rfl ?_); refine goesL_ (some 53) rfl rfl Tryd.func52 (by kernel_rfl) rfl #[.int .i64 (wrap64 (a0_2 - a1_2))] rfl mS ?_; (with_reducible refine (congr_size.calls (wrap64 (a0_2 - a1_2)) t208 _ A63.out).mono ?_); rintro e w' ⟨rfl, ⟨nd, rfl⟩⟩; refine ⟨_, rfl, ?_⟩; (try (rw [drewN_self w88]; generalize hq_ : World.drewN w88 _ = w88; have n0_ : Aside0 (w88.heap[gb197]? = some (.cells #[.bool a0_0, .int .i64 a0_1, .int .i64 a0_2] 23 (0, 0))) := ⟨by rw [← hq_]; exact (bkS BK197)⟩; have n1_ : Aside0 (w88.heap[gb198]? = some (.cells #[.bool a1_0, .int .i64 a1_1, .int .i64 a1_2] 23 (0, 0))) := ⟨by rw [← hq_]; exact (bkS BK198)⟩; have n2_ : Aside0 (w88.heap[gb199]? = some (.cells #[.bool false, .int .i64 0, .int .i64 0] 23 (0, 0))) := ⟨by rw [← hq_]; exact (bkS BK199)⟩; have n3_ : Aside0 (Below w.heap.size w w88) := ⟨by rw [← hq_]; exact (bS HB)⟩; clear BK197 BK198 BK199 HB hq_; have BK197 := n0_; have BK198 := n1_; have BK199 := n2_; have HB := n3_; clear n0_ n1_ n2_ n3_))))
          replace BK197 := Aside0.mk (blk_drew BK197.out)
          replace BK198 := Aside0.mk (blk_drew BK198.out)
          replace BK199 := Aside0.mk (blk_drew BK199.out)
          replace HB := Aside0.mk (below_drew1 HB.out)
          refine start_ (n := 14) (S := fun w' => w'.cell? ⟨gb197, 0, none⟩ = some (.bool a0_0) ∧ w'.cell? ⟨gb197, 1, none⟩ = some (.int .i64 a0_1) ∧ w'.cell? ⟨gb197, 2, none⟩ = some (.int .i64 a0_2)) (ds := []) #[false, false, false, false, false, false, false, false, false, false, false, false, false, false] (by kernel_rfl) rfl rfl ⟨cz0 BK197, cz1 BK197, cz2 BK197⟩ (fun hHeld => ?_); refine with_tabW congr_Meet.tab17 congr_Meet.bits17 (fun HT_ HW_ => ?_)
          generalize w88.drew = w94 at BK197 BK198 BK199 HB hHeld ⊢
          refine pure_ (i := 0) (N := some 96) (v := ?_) (a' := ?_) #[true, false, false, false, false, false, false, false, false, false, false, false, false, false] rfl rfl (any_of HT_.out (by kernel_rfl)) (fun _ _ _ h => h) (Or.inl ⟨by rfl, ?_⟩) ?_ ?_
          rotate_left
          ·
           intro w'
           go_simp
           with_reducible rfl
          rotate_left
          ·
           simp only [Act.put, lA, lB, lC, i64_w, i32_w]
           rfl
          refine pure_ (i := 1) (N := some 97) (v := ?_) (a' := ?_) #[true, true, false, false, false, false, false, false, false, false, false, false, false, false] rfl rfl (any_of HT_.out (by kernel_rfl)) (fun _ _ _ h => h) (Or.inl ⟨by rfl, ?_⟩) ?_ ?_
          rotate_left
          ·
           intro w'
           go_simp
           with_reducible rfl
          rotate_left
          ·
           simp only [Act.put, lA, lB, lC, i64_w, i32_w]
           rfl
          refine pure_ (i := 2) (N := some 98) (v := ?_) (a' := ?_) #[true, true, true, false, false, false, false, false, false, false, false, false, false, false] rfl rfl (any_of HT_.out (by kernel_rfl)) (fun _ _ _ h => h) (Or.inl ⟨by rfl, ?_⟩) ?_ ?_
          rotate_left
          ·
           intro w'
           go_simp
           with_reducible rfl
          rotate_left
          ·
           simp only [Act.put, lA, lB, lC, i64_w, i32_w]
           rfl
          refine pure_ (i := 3) (N := some 99) (v := ?_) (a' := ?_) #[true, true, true, true, false, false, false, false, false, false, false, false, false, false] rfl rfl (any_of HT_.out (by kernel_rfl)) (fun _ _ _ h => h) (Or.inl ⟨by rfl, ?_⟩) ?_ ?_
          rotate_left
          ·
           intro w'
           go_simp
           with_reducible rfl
          rotate_left
          ·
           simp only [Act.put, lA, lB, lC, i64_w, i32_w]
           rfl
          refine pure_ (i := 4) (N := some 100) (v := ?_) (a' := ?_) #[true, true, true, true, true, false, false, false, false, false, false, false, false, false] rfl rfl (any_of HT_.out (by kernel_rfl)) (fun _ _ _ h => h) (Or.inl ⟨by rfl, ?_⟩) ?_ ?_
          rotate_left
          ·
           intro w'
           go_simp
           with_reducible rfl
          rotate_left
          ·
           simp only [Act.put, lA, lB, lC, i64_w, i32_w]
           rfl
          refine pure_ (i := 5) (N := some 101) (v := ?_) (a' := ?_) #[true, true, true, true, true, true, false, false, false, false, false, false, false, false] rfl rfl (any_of HT_.out (by kernel_rfl)) (fun _ _ _ h => h) (Or.inl ⟨by rfl, ?_⟩) ?_ ?_
          rotate_left
          ·
           intro w'
           go_simp
           with_reducible rfl
          rotate_left
          ·
           simp only [Act.put, lA, lB, lC, i64_w, i32_w]
           rfl
          refine pure_ (i := 6) (N := some 102) (v := ?_) (a' := ?_) #[true, true, true, true, true, true, true, false, false, false, false, false, false, false] rfl rfl (any_of HT_.out (by kernel_rfl)) (fun _ _ _ h => h) (Or.inl ⟨by rfl, ?_⟩) ?_ ?_
          rotate_left
          ·
           intro w'
           go_simp
           with_reducible rfl
          rotate_left
          ·
           simp only [Act.put, lA, lB, lC, i64_w, i32_w]
           rfl
          refine pure_ (i := 7) (N := some 103) (v := ?_) (a' := ?_) #[true, true, true, true, true, true, true, true, false, false, false, false, false, false] rfl rfl (any_of HT_.out (by kernel_rfl)) (fun _ _ _ h => h) (Or.inl ⟨by rfl, ?_⟩) ?_ ?_
          rotate_left
          ·
           intro w'
           go_simp
           with_reducible rfl
          rotate_left
          ·
           simp only [Act.put, lA, lB, lC, i64_w, i32_w]
           rfl
          refine pure_ (i := 8) (N := some 104) (v := ?_) (a' := ?_) #[true, true, true, true, true, true, true, true, true, false, false, false, false, false] rfl rfl (any_of HT_.out (by kernel_rfl)) (fun _ _ _ h => h) (Or.inl ⟨by rfl, ?_⟩) ?_ ?_
          rotate_left
          ·
           intro w'
           go_simp
           with_reducible rfl
          rotate_left
          ·
           simp only [Act.put, lA, lB, lC, i64_w, i32_w]
           rfl
          refine take_ (i := 9) (N := some 105) (v := ?_) (a' := ?_) #[true, true, true, true, true, true, true, true, true, true, false, false, false, false] rfl rfl (take_ofW HT_.out HW_.out (by kernel_rfl)) (fun _ _ _ h => h) (Or.inl ⟨by rfl, ?_⟩) hHeld ?_ ?_
          rotate_left
          ·
           rintro w' ⟨s0, s1, s2⟩
           go_simp
           with_reducible rfl
          rotate_left
          ·
           simp only [Act.put, lA, lB, lC, i64_w, i32_w]
           rfl
          refine pure_ (i := 10) (N := some 106) (v := ?_) (a' := ?_) #[true, true, true, true, true, true, true, true, true, true, true, false, false, false] rfl rfl (any_of HT_.out (by kernel_rfl)) (fun _ _ _ h => h) (Or.inl ⟨by rfl, ?_⟩) ?_ ?_
          rotate_left
          ·
           intro w'
           go_simp
           with_reducible rfl
          rotate_left
          ·
           simp only [Act.put, lA, lB, lC, i64_w, i32_w]
           rfl
          refine pure_ (i := 11) (N := some 107) (v := ?_) (a' := ?_) #[true, true, true, true, true, true, true, true, true, true, true, true, false, false] rfl rfl (any_of HT_.out (by kernel_rfl)) (fun _ _ _ h => h) (Or.inl ⟨by rfl, ?_⟩) ?_ ?_
          rotate_left
          ·
           intro w'
           go_simp
           with_reducible rfl
          rotate_left
          ·
           simp only [Act.put, lA, lB, lC, i64_w, i32_w]
           rfl
          refine one_ (i := 12) (N := some 108) #[true, true, true, true, true, true, true, true, true, true, true, true, true, false] rfl rfl (one_of HT_.out (by kernel_rfl)) (by decide) (fun K hK => ?_)
          refine goes_ Tryd.func51 (by kernel_rfl) rfl #[.int .u64 (IntKind.u64.wrap ((IntKind.u64.wrap (a0_1)) * (IntKind.u64.wrap (Int.tdiv (IntKind.u64.wrap (a1_1)) t207)))), .int .u64 (IntKind.u64.wrap ((IntKind.u64.wrap ((IntKind.u64.wrap (a0_1)) * 0)) + (IntKind.u64.wrap (a0_2))))] (by rfl) rfl rfl (by (try simp only [List.map_toArray, List.map_cons, List.map_nil]); first | done | rfl | (go_simp; done) | (simp [go_sem]; done) | (simp [go_sem, IntKind.wrap_u64]; done) | (simp only [List.length_drop, List.length_take]; rfl)) ?_
          with_reducible refine (congr_of.calls kj21 (IntKind.u64.wrap ((IntKind.u64.wrap (a0_1)) * (IntKind.u64.wrap (Int.tdiv (IntKind.u64.wrap (a1_1)) t207)))) (IntKind.u64.wrap ((IntKind.u64.wrap ((IntKind.u64.wrap (a0_1)) * 0)) + (IntKind.u64.wrap (a0_2)))) t220 t221 t222 _ A87.out).mono ?_
          rintro e w95 ⟨rfl, hb⟩
          refine ⟨_, rfl, ?_⟩
          replace BK197 := kB BK197 hb
          replace BK198 := kB BK198 hb
          replace BK199 := kB BK199 hb
          replace HB := kW HB hb
          (try clear hb)
          (try clear hb2)
          (try clear hk)
          (try clear hi)
          refine hK.out _ _ ⟨cz0 BK197, cz1 BK197, cz2 BK197⟩ (fun hHeld => ?_)
          clear hK K
          refine norm_ (a' := ?_) ?_ ?_
          rotate_left
          ·
           show Act.put _ (some 108) _ = _
           simp only [Act.put, lA, lB, lC, i64_w, i32_w]
           rfl
          refine one_ (i := 13) (N := none) #[true, true, true, true, true, true, true, true, true, true, true, true, true, true] rfl rfl (one_of HT_.out (by kernel_rfl)) (by decide) (fun K hK => ?_)
          have hs96 : w95.cell? ⟨gb199, 0, none⟩ = some (.bool false) := cz0 BK199
          have hfs96 := fz BK199 0
          have hns96_0 := NB197_199.out
          have hns96_1 := NB198_199.out
          have hms96_0 := NB199_197.out
          have hms96_1 := NB199_198.out
          have hs97 : w95.cell? ⟨gb199, 1, none⟩ = some (.int .i64 0) := cz1 BK199
          have hfs97 := fz BK199 1
          have hns97_0 := NB197_199.out
          have hns97_1 := NB198_199.out
          have hms97_0 := NB199_197.out
          have hms97_1 := NB199_198.out
          have hs98 : w95.cell? ⟨gb199, 2, none⟩ = some (.int .i64 0) := cz2 BK199
          have hfs98 := fz BK199 2
          have hns98_0 := NB197_199.out
          have hns98_1 := NB198_199.out
          have hms98_0 := NB199_197.out
          have hms98_1 := NB199_198.out
          refine skip_ (w1 := ?_) (by rfl) rfl ?_ ?_
          rotate_left
          ·
           go_simp
           rfl
          refine hK.out _ _ ⟨((cell_far (p := ⟨gb199, _, none⟩) NB197_199.out _).trans (((cell_far (p := ⟨gb199, _, none⟩) NB197_199.out _).trans (((cell_far (p := ⟨gb199, _, none⟩) NB197_199.out _).trans (hHeld.1)))))), ((cell_far (p := ⟨gb199, _, none⟩) NB197_199.out _).trans (((cell_far (p := ⟨gb199, _, none⟩) NB197_199.out _).trans (((cell_far (p := ⟨gb199, _, none⟩) NB197_199.out _).trans (hHeld.2.1)))))), ((cell_far (p := ⟨gb199, _, none⟩) NB197_199.out _).trans (((cell_far (p := ⟨gb199, _, none⟩) NB197_199.out _).trans (((cell_far (p := ⟨gb199, _, none⟩) NB197_199.out _).trans (hHeld.2.2))))))⟩ (fun hHeld => ?_)
          clear hK K
          refine done_ (done_of HT_.out (by kernel_rfl)) ?_
          try go_wp2
          refine bodyPost_ret (results_cell_row rfl _ _ gb199 23 #[.bool t220, .int .i64 t221, .int .i64 t222] (0, 0) _ rfl (by (with_reducible repeat (first | refine b1 ?_ _ | refine b2 ?_ | refine b3 ?_ _)); refine blk_put (cs := #[.bool t220, .int .i64 t221, .int .i64 0]) ?_ 2 _ rfl; (with_reducible repeat (first | refine b1 ?_ _ | refine b2 ?_ | refine b3 ?_ _)); refine blk_put (cs := #[.bool t220, .int .i64 0, .int .i64 0]) ?_ 1 _ rfl; (with_reducible repeat (first | refine b1 ?_ _ | refine b2 ?_ | refine b3 ?_ _)); refine blk_put (cs := #[.bool false, .int .i64 0, .int .i64 0]) ?_ 0 _ rfl; (with_reducible repeat (first | refine b1 ?_ _ | refine b2 ?_ | refine b3 ?_ _)); exact BK199.out) Tryd.underlying23 rfl (by kernel_rfl)) rfl ?_
          exact ⟨eS, bS HB⟩
        ·
         rw [if_neg c65] at H
         have c65b0 : ((Int.tmod t208 t207) == 0) = false := beq_eq_false_iff_ne.mpr c65
         have c65b1 : ((Int.tmod t208 t207) != 0) = true := bne_iff_ne.mpr c65
         replace H := Option.bind_eq_some_iff.mp H
         obtain ⟨⟨t209, t210, t211⟩, A990, H⟩ := H
         replace H : (some (t209, t210, t211)) = some (r1, r2, r3) := H
         have A99 := Aside0.mk A990
         clear A990
         simp only [Option.some.injEq, Prod.mk.injEq] at H
         obtain ⟨rfl, rfl, rfl⟩ := H
         try go_wp2
         replace BK197 := Aside0.mk (blk_drew BK197.out)
         replace BK198 := Aside0.mk (blk_drew BK198.out)
         replace BK199 := Aside0.mk (blk_drew BK199.out)
         replace HB := Aside0.mk (below_drew1 HB.out)
         refine start_ (n := 8) (S := fun w' => w'.cell? ⟨gb197, 0, none⟩ = some (.bool a0_0) ∧ w'.cell? ⟨gb197, 1, none⟩ = some (.int .i64 a0_1) ∧ w'.cell? ⟨gb197, 2, none⟩ = some (.int .i64 a0_2) ∧ w'.cell? ⟨gb198, 0, none⟩ = some (.bool a1_0) ∧ w'.cell? ⟨gb198, 1, none⟩ = some (.int .i64 a1_1) ∧ w'.cell? ⟨gb198, 2, none⟩ = some (.int .i64 a1_2)) (ds := []) #[false, false, false, false, false, false, false, false] (by kernel_rfl) rfl rfl ⟨cz0 BK197, cz1 BK197, cz2 BK197, cz0 BK198, cz1 BK198, cz2 BK198⟩ (fun hHeld => ?_); refine with_tabW congr_Meet.tab9 congr_Meet.bits9 (fun HT_ HW_ => ?_)
         generalize wc.drew = w100 at BK197 BK198 BK199 HB hHeld ⊢
         refine pure_ (i := 0) (N := some 39) (v := ?_) (a' := ?_) #[true, false, false, false, false, false, false, false] rfl rfl (any_of HT_.out (by kernel_rfl)) (fun _ _ _ h => h) (Or.inl ⟨by rfl, ?_⟩) ?_ ?_
         rotate_left
         ·
          intro w'
          go_simp
          with_reducible rfl
         rotate_left
         ·
          simp only [Act.put, lA, lB, lC, i64_w, i32_w]
          rfl
         refine pure_ (i := 3) (N := some 42) (v := ?_) (a' := ?_) #[true, false, false, true, false, false, false, false] rfl rfl (any_of HT_.out (by kernel_rfl)) (fun _ _ _ h => h) (Or.inl ⟨by rfl, ?_⟩) ?_ ?_
         rotate_left
         ·
          intro w'
          go_simp
          with_reducible rfl
         rotate_left
         ·
          simp only [Act.put, lA, lB, lC, i64_w, i32_w]
          rfl
         refine take_ (i := 1) (N := some 40) (v := ?_) (a' := ?_) #[true, true, false, true, false, false, false, false] rfl rfl (take_ofW HT_.out HW_.out (by kernel_rfl)) (fun _ _ _ h => h) (Or.inl ⟨by rfl, ?_⟩) hHeld ?_ ?_
         rotate_left
         ·
          rintro w' ⟨s0, s1, s2, s3, s4, s5⟩
          go_simp
          with_reducible rfl
         rotate_left
         ·
          simp only [Act.put, lA, lB, lC, i64_w, i32_w]
          rfl
         refine pure_ (i := 2) (N := some 41) (v := ?_) (a' := ?_) #[true, true, true, true, false, false, false, false] rfl rfl (any_of HT_.out (by kernel_rfl)) (fun _ _ _ h => h) (Or.inl ⟨by rfl, ?_⟩) ?_ ?_
         rotate_left
         ·
          intro w'
          go_simp
          with_reducible rfl
         rotate_left
         ·
          simp only [Act.put, lA, lB, lC, i64_w, i32_w]
          rfl
         refine pure_ (i := 6) (N := some 5) (v := ?_) (a' := ?_) #[true, true, true, true, false, false, true, false] rfl rfl (any_of HT_.out (by kernel_rfl)) (fun _ _ _ h => h) (Or.inl ⟨by rfl, ?_⟩) ?_ ?_
         rotate_left
         ·
          intro w'
          go_simp
          with_reducible rfl
         rotate_left
         ·
          simp only [Act.put, lA, lB, lC, i64_w, i32_w]
          rfl
         refine take_ (i := 4) (N := some 43) (v := ?_) (a' := ?_) #[true, true, true, true, true, false, true, false] rfl rfl (take_ofW HT_.out HW_.out (by kernel_rfl)) (fun _ _ _ h => h) (Or.inl ⟨by rfl, ?_⟩) hHeld ?_ ?_
         rotate_left
         ·
          rintro w' ⟨s0, s1, s2, s3, s4, s5⟩
          go_simp
          with_reducible rfl
         rotate_left
         ·
          simp only [Act.put, lA, lB, lC, i64_w, i32_w]
          rfl
         refine pure_ (i := 5) (N := some 44) (v := ?_) (a' := ?_) #[true, true, true, true, true, true, true, false] rfl rfl (any_of HT_.out (by kernel_rfl)) (fun _ _ _ h => h) (Or.inl ⟨by rfl, ?_⟩) ?_ ?_
         rotate_left
         ·
          intro w'
          go_simp
          with_reducible rfl
         rotate_left
         ·
          simp only [Act.put, lA, lB, lC, i64_w, i32_w]
          rfl
         refine pure_ (i := 7) (N := some 6) (v := ?_) (a' := ?_) #[true, true, true, true, true, true, true, true] rfl rfl (any_of HT_.out (by kernel_rfl)) (fun _ _ _ h => h) (Or.inl ⟨by rfl, ?_⟩) ?_ ?_
         rotate_left
         ·
          intro w'
          go_simp
          with_reducible rfl
         rotate_left
         ·
          simp only [Act.put, lA, lB, lC, i64_w, i32_w]
          rfl
         refine done_ (done_of HT_.out (by kernel_rfl)) ?_
         try go_wp2_with (first | ((with_reducible refine gate_callee (f := 62) rfl ?_); refine goesL_ (some 47) rfl rfl Tryd.func62 (by kernel_rfl) rfl #[.int .u64 (IntKind.u64.wrap (a0_1)), .int .u64 (IntKind.u64.wrap (a1_1))] rfl mS ?_; (with_reducible refine (congr_gcd_uint64.calls kj21 (IntKind.u64.wrap (a0_1)) (IntKind.u64.wrap (a1_1)) t207 _ A62.out).mono ?_); rintro e w' ⟨rfl, ⟨nd, rfl⟩⟩; refine ⟨_, rfl, ?_⟩; (try (rw [drewN_self w100]; generalize hq_ : World.drewN w100 _ = w100; have n0_ : Aside0 (w100.heap[gb197]? = some (.cells #[.bool a0_0, .int .i64 a0_1, .int .i64 a0_2] 23 (0, 0))) := ⟨by rw [← hq_]; exact (bkS BK197)⟩; have n1_ : Aside0 (w100.heap[gb198]? = some (.cells #[.bool a1_0, .int .i64 a1_1, .int .i64 a1_2] 23 (0, 0))) := ⟨by rw [← hq_]; exact (bkS BK198)⟩; have n2_ : Aside0 (w100.heap[gb199]? = some (.cells #[.bool false, .int .i64 0, .int .i64 0] 23 (0, 0))) := ⟨by rw [← hq_]; exact (bkS BK199)⟩; have n3_ : Aside0 (Below w.heap.size w w100) := ⟨by rw [← hq_]; exact (bS HB)⟩; clear BK197 BK198 BK199 HB hq_; have BK197 := n0_; have BK198 := n1_; have BK199 := n2_; have HB := n3_; clear n0_ n1_ n2_ n3_)); have hnb101 := NB197_198.out; have hnc101 := NB198_197.out; have hnb102 := NB197_199.out; have hnc102 := NB199_197.out; have hcz103_0 := cz0 BK197; have hcz103_1 := cz1 BK197; have hcz103_2 := cz2 BK197; have hfz103_0 := fz BK197 0; have hfz103_1 := fz BK197 1; have hfz103_2 := fz BK197 2; have hnb104 := NB198_199.out; have hnc104 := NB199_198.out; have hcz105_0 := cz0 BK198; have hcz105_1 := cz1 BK198; have hcz105_2 := cz2 BK198; have hfz105_0 := fz BK198 0; have hfz105_1 := fz BK198 1; have hfz105_2 := fz BK198 2) | ((with_reducible refine gate_callee (f := 52) rfl ?_); refine goesL_ (some 53) rfl rfl Tryd.func52 (by kernel_rfl) rfl #[.int .i64 (wrap64 (a0_2 - a1_2))] rfl mS ?_; (with_reducible refine (congr_size.calls (wrap64 (a0_2 - a1_2)) t208 _ A63.out).mono ?_); rintro e w' ⟨rfl, ⟨nd, rfl⟩⟩; refine ⟨_, rfl, ?_⟩; (try (rw [drewN_self w100]; generalize hq_ : World.drewN w100 _ = w100; have n0_ : Aside0 (w100.heap[gb197]? = some (.cells #[.bool a0_0, .int .i64 a0_1, .int .i64 a0_2] 23 (0, 0))) := ⟨by rw [← hq_]; exact (bkS BK197)⟩; have n1_ : Aside0 (w100.heap[gb198]? = some (.cells #[.bool a1_0, .int .i64 a1_1, .int .i64 a1_2] 23 (0, 0))) := ⟨by rw [← hq_]; exact (bkS BK198)⟩; have n2_ : Aside0 (w100.heap[gb199]? = some (.cells #[.bool false, .int .i64 0, .int .i64 0] 23 (0, 0))) := ⟨by rw [← hq_]; exact (bkS BK199)⟩; have n3_ : Aside0 (Below w.heap.size w w100) := ⟨by rw [← hq_]; exact (bS HB)⟩; clear BK197 BK198 BK199 HB hq_; have BK197 := n0_; have BK198 := n1_; have BK199 := n2_; have HB := n3_; clear n0_ n1_ n2_ n3_))) | ((with_reducible refine gate_callee (f := 56) rfl ?_); refine goesL_ (some 57) rfl rfl Tryd.func56 (by kernel_rfl) rfl #[] rfl mS ?_; (with_reducible refine (congr_none.calls  t209 t210 t211 _ A99.out).mono ?_); rintro e w106 ⟨rfl, hb⟩; refine ⟨_, rfl, ?_⟩; replace BK197 := kB BK197 hb; replace BK198 := kB BK198 hb; replace BK199 := kB BK199 hb; replace HB := kW HB hb; (try clear hb); (try clear hb2); (try clear hk); (try clear hi); have hcz107_0 := cz0 BK199; have hcz107_1 := cz1 BK199; have hcz107_2 := cz2 BK199; have hfz107_0 := fz BK199 0; have hfz107_1 := fz BK199 1; have hfz107_2 := fz BK199 2))
         refine bodyPost_ret (results_cell_row rfl _ _ gb199 23 #[.bool t209, .int .i64 t210, .int .i64 t211] (0, 0) _ rfl (by (with_reducible repeat (first | refine b1 ?_ _ | refine b2 ?_ | refine b3 ?_ _)); refine blk_put (cs := #[.bool t209, .int .i64 t210, .int .i64 0]) ?_ 2 _ rfl; (with_reducible repeat (first | refine b1 ?_ _ | refine b2 ?_ | refine b3 ?_ _)); refine blk_put (cs := #[.bool t209, .int .i64 0, .int .i64 0]) ?_ 1 _ rfl; (with_reducible repeat (first | refine b1 ?_ _ | refine b2 ?_ | refine b3 ?_ _)); refine blk_put (cs := #[.bool false, .int .i64 0, .int .i64 0]) ?_ 0 _ rfl; (with_reducible repeat (first | refine b1 ?_ _ | refine b2 ?_ | refine b3 ?_ _)); exact BK199.out) Tryd.underlying23 rfl (by kernel_rfl)) rfl ?_
         exact ⟨eS, bS HB⟩

def congr_times.f (a0 : Int) (a1 : Int) : Option (Int × Int × Bool) := (congr_size.f a0).bind fun t511 => ((congr_size.f a1).bind fun t512 => ((bits_Mul64.f t511 t512).bind fun bt513 => (some (bt513.1, bt513.2, ((decide (a0 < 0)) != (decide (a1 < 0)))))))
set_option maxHeartbeats 8000000 in
set_option maxRecDepth 100000 in
theorem congr_times.calls (a0 : Int) (a1 : Int) (r1 : Int) (r2 : Int) (r3 : Bool) (w : World) (h : congr_times.f a0 a1 = some (r1, r2, r3)) :
  Calls Tryd.prog 83 #[.int .i64 a0, .int .i64 a1] w fun e w' => e = .returned (.agg #[.int .u64 r1, .int .u64 r2, .bool r3]) ∧ Below w.heap.size w w' := by
 have hu74 := Tryd.underlying74
 have hu67 := Tryd.underlying67
 have HB := Aside0.mk (Below.refl w.heap.size w)
 have H : ((congr_size.f a0).bind fun t511 => ((congr_size.f a1).bind fun t512 => ((bits_Mul64.f t511 t512).bind fun bt513 => (some (bt513.1, bt513.2, ((decide (a0 < 0)) != (decide (a1 < 0)))))))) = some (r1, r2, r3) := h
 clear h
 replace H := Option.bind_eq_some_iff.mp H
 obtain ⟨t511, A30, H⟩ := H
 replace H : ((congr_size.f a1).bind fun t512 => ((bits_Mul64.f t511 t512).bind fun bt513 => (some (bt513.1, bt513.2, ((decide (a0 < 0)) != (decide (a1 < 0))))))) = some (r1, r2, r3) := H
 have A3 := Aside0.mk A30
 clear A30
 replace H := Option.bind_eq_some_iff.mp H
 obtain ⟨t512, A40, H⟩ := H
 replace H : ((bits_Mul64.f t511 t512).bind fun bt513 => (some (bt513.1, bt513.2, ((decide (a0 < 0)) != (decide (a1 < 0)))))) = some (r1, r2, r3) := H
 have A4 := Aside0.mk A40
 clear A40
 replace H := Option.bind_eq_some_iff.mp H
 obtain ⟨⟨t513, t514⟩, A50, H⟩ := H
 replace H : (some (t513, t514, ((decide (a0 < 0)) != (decide (a1 < 0))))) = some (r1, r2, r3) := H
 have A5 := Aside0.mk A50
 clear A50
 simp only [Option.some.injEq, Prod.mk.injEq] at H
 obtain ⟨rfl, rfl, rfl⟩ := H
 go_enter Tryd.func83, Tryd.ntmps83
 go_wp2_with (first | ((with_reducible refine gate_dst (N := 4) rfl ?_); refine box_event ?hg (N := 4) ?hd (cs := #[.int .u64 0, .int .u64 0, .bool false]) (t := 74) ?hr ?_; (case hd => rfl); (case hg => rfl); (case hr => first | (go_simp; done) | (go_simp; rfl)); intro gb510 hg w6 hbox hb; have n0_ := kW HB hb; have n1_ := Aside0.mk (hbox); have n2_ := Aside0.mk ((by rw [hg]; exact (below_size (bS HB)) : w.heap.size ≤ gb510)); have n3_ := Aside0.mk ((by rw [hg]; exact (below_size (bS HB)) : w.heap.size ≤ gb510)); clear HB; have HB := n0_; have BK510 := n1_; have GW510 := n2_; have GE510 := n3_; clear n0_ n1_ n2_ n3_; clear hb hbox hg) | ((with_reducible refine gate_callee (f := 52) rfl ?_); refine goesL_ (some 9) rfl rfl Tryd.func52 (by kernel_rfl) rfl #[.int .i64 a0] rfl mS ?_; (with_reducible refine (congr_size.calls a0 t511 _ A3.out).mono ?_); rintro e w' ⟨rfl, ⟨nd, rfl⟩⟩; refine ⟨_, rfl, ?_⟩; (try (rw [drewN_self w6]; generalize hq_ : World.drewN w6 _ = w6; have n0_ : Aside0 (w6.heap[gb510]? = some (.cells #[.int .u64 0, .int .u64 0, .bool false] 74 (0, 0))) := ⟨by rw [← hq_]; exact (bkS BK510)⟩; have n1_ : Aside0 (Below w.heap.size w w6) := ⟨by rw [← hq_]; exact (bS HB)⟩; clear BK510 HB hq_; have BK510 := n0_; have HB := n1_; clear n0_ n1_))) | ((with_reducible refine gate_callee (f := 52) rfl ?_); refine goesL_ (some 11) rfl rfl Tryd.func52 (by kernel_rfl) rfl #[.int .i64 a1] rfl mS ?_; (with_reducible refine (congr_size.calls a1 t512 _ A4.out).mono ?_); rintro e w' ⟨rfl, ⟨nd, rfl⟩⟩; refine ⟨_, rfl, ?_⟩; (try (rw [drewN_self w6]; generalize hq_ : World.drewN w6 _ = w6; have n0_ : Aside0 (w6.heap[gb510]? = some (.cells #[.int .u64 0, .int .u64 0, .bool false] 74 (0, 0))) := ⟨by rw [← hq_]; exact (bkS BK510)⟩; have n1_ : Aside0 (Below w.heap.size w w6) := ⟨by rw [← hq_]; exact (bS HB)⟩; clear BK510 HB hq_; have BK510 := n0_; have HB := n1_; clear n0_ n1_))) | ((with_reducible refine gate_callee (f := 63) rfl ?_); refine goesL_ (some 12) rfl rfl Tryd.func63 (by kernel_rfl) rfl #[.int .u64 t511, .int .u64 t512] rfl mS ?_; (with_reducible refine (bits_Mul64.calls t511 t512 t513 t514 _ A5.out).mono ?_); rintro e w' ⟨rfl, ⟨nd, rfl⟩⟩; refine ⟨_, rfl, ?_⟩; (try (rw [drewN_self w6]; generalize hq_ : World.drewN w6 _ = w6; have n0_ : Aside0 (w6.heap[gb510]? = some (.cells #[.int .u64 0, .int .u64 0, .bool false] 74 (0, 0))) := ⟨by rw [← hq_]; exact (bkS BK510)⟩; have n1_ : Aside0 (Below w.heap.size w w6) := ⟨by rw [← hq_]; exact (bS HB)⟩; clear BK510 HB hq_; have BK510 := n0_; have HB := n1_; clear n0_ n1_)); have hcz7_0 := cz0 BK510; have hcz7_1 := cz1 BK510; have hcz7_2 := cz2 BK510; have hfz7_0 := fz BK510 0; have hfz7_1 := fz BK510 1; have hfz7_2 := fz BK510 2))
 refine bodyPost_ret (results_cell_row rfl _ _ gb510 74 #[.int .u64 t513, .int .u64 t514, .bool ((decide (a0 < 0)) != (decide (a1 < 0)))] (0, 0) _ rfl (by (with_reducible repeat (first | refine b1 ?_ _ | refine b2 ?_ | refine b3 ?_ _)); refine blk_put (cs := #[.int .u64 t513, .int .u64 t514, .bool false]) ?_ 2 _ rfl; (with_reducible repeat (first | refine b1 ?_ _ | refine b2 ?_ | refine b3 ?_ _)); refine blk_put (cs := #[.int .u64 t513, .int .u64 0, .bool false]) ?_ 1 _ rfl; (with_reducible repeat (first | refine b1 ?_ _ | refine b2 ?_ | refine b3 ?_ _)); refine blk_put (cs := #[.int .u64 0, .int .u64 0, .bool false]) ?_ 0 _ rfl; (with_reducible repeat (first | refine b1 ?_ _ | refine b2 ?_ | refine b3 ?_ _)); exact BK510.out) Tryd.underlying74 rfl (by kernel_rfl)) rfl ?_
 exact ⟨eS, bS HB⟩

end Go.Proofs.YtfmmjekhknaniaaDoor.Pr

