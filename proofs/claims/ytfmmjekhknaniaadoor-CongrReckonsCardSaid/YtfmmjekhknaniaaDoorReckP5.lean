/- This claim's own texts, joined, with only what the claim uses: Hx46, Hx47, Hx48, Hx49, Hx50, Hx51, Hx52, Hx53, Hx54, Hx55, Hx58, Hx59, Hx60, Hx61. -/
import Derived.Test.YtfmmjekhknaniaaDoorReckP4
namespace Go.Proofs.YtfmmjekhknaniaaDoor.Pr
open Go.RowKit Go.Proofs.YtfmmjekhknaniaaDoor.Given Go.Proofs.YtfmmjekhknaniaaDoorW.PrintWords Go.Proofs.YtfmmjekhknaniaaDoorW.PrintLast Go.Proofs.YtfmmjekhknaniaaDoorW.PrintMore
attribute [local go_sem] max2_int min2_int max_two min_two max_three min_three max_four min_four   -- for this text's walks alone
set_option linter.unusedVariables false
set_option linter.unusedSimpArgs false

def gimbalref31_of.f (k : Nat) (a0 : Int) (a1 : Int) : Option (Bool × Int × Int) := (gimbalref31_size.f a1).bind fun t412 => ((gimbalref31_class.f k a0 t412 (decide (a1 < 0))).bind fun bt413 => (some (bt413.1, bt413.2.1, bt413.2.2)))
set_option maxHeartbeats 8000000 in
set_option maxRecDepth 100000 in
theorem gimbalref31_of.calls (k : Nat) (a0 : Int) (a1 : Int) (r1 : Bool) (r2 : Int) (r3 : Int) (w : World) (h : gimbalref31_of.f k a0 a1 = some (r1, r2, r3)) :
  Calls Tryd.prog 79 #[.int .u64 a0, .int .i64 a1] w fun e w' => e = .returned (.agg #[.bool r1, .int .i64 r2, .int .i64 r3]) ∧ Below w.heap.size w w' := by
 have hu23 := Tryd.underlying23
 have HB := Aside0.mk (Below.refl w.heap.size w)
 have H : ((gimbalref31_size.f a1).bind fun t412 => ((gimbalref31_class.f k a0 t412 (decide (a1 < 0))).bind fun bt413 => (some (bt413.1, bt413.2.1, bt413.2.2)))) = some (r1, r2, r3) := h
 clear h
 replace H := Option.bind_eq_some_iff.mp H
 obtain ⟨t412, A30, H⟩ := H
 replace H : ((gimbalref31_class.f k a0 t412 (decide (a1 < 0))).bind fun bt413 => (some (bt413.1, bt413.2.1, bt413.2.2))) = some (r1, r2, r3) := H
 have A3 := Aside0.mk A30
 clear A30
 replace H := Option.bind_eq_some_iff.mp H
 obtain ⟨⟨t413, t414, t415⟩, A40, H⟩ := H
 replace H : (some (t413, t414, t415)) = some (r1, r2, r3) := H
 have A4 := Aside0.mk A40
 clear A40
 simp only [Option.some.injEq, Prod.mk.injEq] at H
 obtain ⟨rfl, rfl, rfl⟩ := H
 go_enter Tryd.func79, Tryd.ntmps79
 go_wp2_with (first | ((with_reducible refine gate_dst (N := 4) rfl ?_); refine box_event ?hg (N := 4) ?hd (cs := #[.bool false, .int .i64 0, .int .i64 0]) (t := 23) ?hr ?_; (case hd => rfl); (case hg => rfl); (case hr => first | (go_simp; done) | (go_simp; rfl)); intro gb411 hg w5 hbox hb; have n0_ := kW HB hb; have n1_ := Aside0.mk (hbox); have n2_ := Aside0.mk ((by rw [hg]; exact (below_size (bS HB)) : w.heap.size ≤ gb411)); have n3_ := Aside0.mk ((by rw [hg]; exact (below_size (bS HB)) : w.heap.size ≤ gb411)); clear HB; have HB := n0_; have BK411 := n1_; have GW411 := n2_; have GE411 := n3_; clear n0_ n1_ n2_ n3_; clear hb hbox hg) | ((with_reducible refine gate_callee (f := 55) rfl ?_); refine goesL_ (some 7) rfl rfl Tryd.func55 (by kernel_rfl) rfl #[.int .i64 a1] rfl mS ?_; (with_reducible refine (gimbalref31_size.calls a1 t412 _ A3.out).mono ?_); rintro e w' ⟨rfl, ⟨nd, rfl⟩⟩; refine ⟨_, rfl, ?_⟩; (try (rw [drewN_self w5]; generalize hq_ : World.drewN w5 _ = w5; have n0_ : Aside0 (w5.heap[gb411]? = some (.cells #[.bool false, .int .i64 0, .int .i64 0] 23 (0, 0))) := ⟨by rw [← hq_]; exact (bkS BK411)⟩; have n1_ : Aside0 (Below w.heap.size w w5) := ⟨by rw [← hq_]; exact (bS HB)⟩; clear BK411 HB hq_; have BK411 := n0_; have HB := n1_; clear n0_ n1_))) | ((with_reducible refine gate_callee (f := 54) rfl ?_); refine goesL_ (some 10) rfl rfl Tryd.func54 (by kernel_rfl) rfl #[.int .u64 a0, .int .u64 t412, .bool (decide (a1 < 0))] rfl mS ?_; (with_reducible refine (gimbalref31_class.calls k a0 t412 (decide (a1 < 0)) t413 t414 t415 _ A4.out).mono ?_); rintro e w6 ⟨rfl, hb⟩; refine ⟨_, rfl, ?_⟩; replace BK411 := kB BK411 hb; replace HB := kW HB hb; (try clear hb); (try clear hb2); (try clear hk); (try clear hi); have hcz7_0 := cz0 BK411; have hcz7_1 := cz1 BK411; have hcz7_2 := cz2 BK411; have hfz7_0 := fz BK411 0; have hfz7_1 := fz BK411 1; have hfz7_2 := fz BK411 2))
 refine bodyPost_ret (results_cell_row rfl _ _ gb411 23 #[.bool t413, .int .i64 t414, .int .i64 t415] (0, 0) _ rfl (by (with_reducible repeat (first | refine b1 ?_ _ | refine b2 ?_ | refine b3 ?_ _)); refine blk_put (cs := #[.bool t413, .int .i64 t414, .int .i64 0]) ?_ 2 _ rfl; (with_reducible repeat (first | refine b1 ?_ _ | refine b2 ?_ | refine b3 ?_ _)); refine blk_put (cs := #[.bool t413, .int .i64 0, .int .i64 0]) ?_ 1 _ rfl; (with_reducible repeat (first | refine b1 ?_ _ | refine b2 ?_ | refine b3 ?_ _)); refine blk_put (cs := #[.bool false, .int .i64 0, .int .i64 0]) ?_ 0 _ rfl; (with_reducible repeat (first | refine b1 ?_ _ | refine b2 ?_ | refine b3 ?_ _)); exact BK411.out) Tryd.underlying23 rfl (by kernel_rfl)) rfl ?_
 exact ⟨eS, bS HB⟩

def gimbalref31_Join.f (k : Nat) (a0_0 : Bool) (a0_1 : Int) (a0_2 : Int) (a1_0 : Bool) (a1_1 : Int) (a1_2 : Int) : Option (Bool × Int × Int) := if a0_0 = true then (some (a1_0, a1_1, a1_2)) else (if a1_0 = true then (some (a0_0, a0_1, a0_2)) else ((gimbalref31_size.f a0_1).bind fun t419 => ((gimbalref31_size.f a1_1).bind fun t420 => ((gimbalref31_gcd.f k t419 t420).bind fun t421 => ((gimbalref31_size.f (wrap64 (a0_2 - a1_2))).bind fun t422 => ((gimbalref31_gcd.f k t421 t422).bind fun t423 => ((gimbalref31_of.f k t423 a0_2).bind fun bt424 => (some (bt424.1, bt424.2.1, bt424.2.2)))))))))
def gimbalref31_Join.T5 : Bool × List (List Nat × List Nat) := (true, [([], []), ([0], [0]), ([1], [1]), ([], []), ([3], [3]), ([4, 2], [4]), ([2, 5, 5], [2, 5]), ([], []), ([7], [7]), ([], []), ([9], [9]), ([8, 10], [8, 10]), ([11, 6], [11]), ([6, 12, 12], [6, 12]), ([], []), ([14], [14]), ([13, 15, 13], [13, 15]), ([16, 16, 0, 1, 2, 3, 4, 5, 6, 7, 8, 9, 10, 11, 12, 13, 14, 15, 16], [16])])
def gimbalref31_Join.B5 : List Nat := [0, 1, 3, 0, 8, 31, 63, 0, 128, 0, 512, 1920, 4095, 8191, 0, 16384, 65535, 131071]
theorem gimbalref31_Join.tab5 : rtab .any (opsOf Tryd.f29 5) = gimbalref31_Join.T5 := by kernel_rfl
theorem gimbalref31_Join.bits5 : waitsOk gimbalref31_Join.T5.2 gimbalref31_Join.B5 = true := by kernel_rfl
set_option maxHeartbeats 8000000 in
set_option maxRecDepth 100000 in
theorem gimbalref31_Join.calls (k : Nat) (a0_0 : Bool) (a0_1 : Int) (a0_2 : Int) (a1_0 : Bool) (a1_1 : Int) (a1_2 : Int) (r1 : Bool) (r2 : Int) (r3 : Int) (w : World) (h : gimbalref31_Join.f k a0_0 a0_1 a0_2 a1_0 a1_1 a1_2 = some (r1, r2, r3)) :
  Calls Tryd.prog 29 #[.agg #[.bool a0_0, .int .i64 a0_1, .int .i64 a0_2], .agg #[.bool a1_0, .int .i64 a1_1, .int .i64 a1_2]] w fun e w' => e = .returned (.agg #[.bool r1, .int .i64 r2, .int .i64 r3]) ∧ Below w.heap.size w w' := by
 have hu23 := Tryd.underlying23
 have HB := Aside0.mk (Below.refl w.heap.size w)
 have H : (if a0_0 = true then (some (a1_0, a1_1, a1_2)) else (if a1_0 = true then (some (a0_0, a0_1, a0_2)) else ((gimbalref31_size.f a0_1).bind fun t419 => ((gimbalref31_size.f a1_1).bind fun t420 => ((gimbalref31_gcd.f k t419 t420).bind fun t421 => ((gimbalref31_size.f (wrap64 (a0_2 - a1_2))).bind fun t422 => ((gimbalref31_gcd.f k t421 t422).bind fun t423 => ((gimbalref31_of.f k t423 a0_2).bind fun bt424 => (some (bt424.1, bt424.2.1, bt424.2.2)))))))))) = some (r1, r2, r3) := h
 clear h
 by_cases c3 : a0_0 = true
 ·
  subst c3
  have H1 : (some (a1_0, a1_1, a1_2)) = some (r1, r2, r3) := by rw [if_pos rfl] at H; exact H
  clear H
  have H := H1
  clear H1
  simp only [Option.some.injEq, Prod.mk.injEq] at H
  obtain ⟨rfl, rfl, rfl⟩ := H
  go_enter Tryd.func29, Tryd.ntmps29
  go_wp2_with (first | ((with_reducible refine gate_dst (N := 2) rfl ?_); refine box_event ?hg (N := 2) ?hd (cs := #[.bool true, .int .i64 a0_1, .int .i64 a0_2]) (t := 23) ?hr ?_; (case hd => rfl); (case hg => rfl); (case hr => first | (go_simp; done) | (go_simp; rfl)); intro gb416 hg w4 hbox hb; have n0_ := kW HB hb; have n1_ := Aside0.mk (hbox); have n2_ := Aside0.mk ((by rw [hg]; exact (below_size (bS HB)) : w.heap.size ≤ gb416)); have n3_ := Aside0.mk ((by rw [hg]; exact (below_size (bS HB)) : w.heap.size ≤ gb416)); clear HB; have HB := n0_; have BK416 := n1_; have GW416 := n2_; have GE416 := n3_; clear n0_ n1_ n2_ n3_; clear hb hbox hg) | ((with_reducible refine gate_dst (N := 3) rfl ?_); refine box_event ?hg (N := 3) ?hd (cs := #[.bool a1_0, .int .i64 a1_1, .int .i64 a1_2]) (t := 23) ?hr ?_; (case hd => rfl); (case hg => rfl); (case hr => first | (go_simp; done) | (go_simp; rfl)); intro gb417 hg w5 hbox hb; have n0_ := kB BK416 hb; have n1_ := kW HB hb; have n2_ := Aside0.mk (hbox); have n3_ := Aside0.mk ((by rw [hg]; exact (below_size (bS HB)) : w.heap.size ≤ gb417)); have n4_ := Aside0.mk ((by rw [hg]; exact (below_size (bS HB)) : w.heap.size ≤ gb417)); have n5_ := Aside0.mk ((by rw [hg]; exact Nat.ne_of_lt (blk_lt (bkS BK416)) : gb416 ≠ gb417)); have n6_ := Aside0.mk ((by rw [hg]; exact Nat.ne_of_gt (blk_lt (bkS BK416)) : gb417 ≠ gb416)); clear BK416; clear HB; have BK416 := n0_; have HB := n1_; have BK417 := n2_; have GW417 := n3_; have GE417 := n4_; have NB416_417 := n5_; have NB417_416 := n6_; clear n0_ n1_ n2_ n3_ n4_ n5_ n6_; clear hb hbox hg) | ((with_reducible refine gate_dst (N := 4) rfl ?_); refine box_event ?hg (N := 4) ?hd (cs := #[.bool false, .int .i64 0, .int .i64 0]) (t := 23) ?hr ?_; (case hd => rfl); (case hg => rfl); (case hr => first | (go_simp; done) | (go_simp; rfl)); intro gb418 hg w6 hbox hb; have n0_ := kB BK416 hb; have n1_ := kB BK417 hb; have n2_ := kW HB hb; have n3_ := Aside0.mk (hbox); have n4_ := Aside0.mk ((by rw [hg]; exact (below_size (bS HB)) : w.heap.size ≤ gb418)); have n5_ := Aside0.mk ((by rw [hg]; exact (below_size (bS HB)) : w.heap.size ≤ gb418)); have n6_ := Aside0.mk ((by rw [hg]; exact Nat.ne_of_lt (blk_lt (bkS BK416)) : gb416 ≠ gb418)); have n7_ := Aside0.mk ((by rw [hg]; exact Nat.ne_of_gt (blk_lt (bkS BK416)) : gb418 ≠ gb416)); have n8_ := Aside0.mk ((by rw [hg]; exact Nat.ne_of_lt (blk_lt (bkS BK417)) : gb417 ≠ gb418)); have n9_ := Aside0.mk ((by rw [hg]; exact Nat.ne_of_gt (blk_lt (bkS BK417)) : gb418 ≠ gb417)); clear BK416; clear BK417; clear HB; have BK416 := n0_; have BK417 := n1_; have HB := n2_; have BK418 := n3_; have GW418 := n4_; have GE418 := n5_; have NB416_418 := n6_; have NB418_416 := n7_; have NB417_418 := n8_; have NB418_417 := n9_; clear n0_ n1_ n2_ n3_ n4_ n5_ n6_ n7_ n8_ n9_; clear hb hbox hg; have hnb7 := NB416_417.out; have hnc7 := NB417_416.out; have hnb8 := NB416_418.out; have hnc8 := NB418_416.out; have hcz9_0 := cz0 BK416; have hcz9_1 := cz1 BK416; have hcz9_2 := cz2 BK416; have hfz9_0 := fz BK416 0; have hfz9_1 := fz BK416 1; have hfz9_2 := fz BK416 2; have hnb10 := NB417_418.out; have hnc10 := NB418_417.out; have hcz11_0 := cz0 BK417; have hcz11_1 := cz1 BK417; have hcz11_2 := cz2 BK417; have hfz11_0 := fz BK417 0; have hfz11_1 := fz BK417 1; have hfz11_2 := fz BK417 2; have hcz12_0 := cz0 BK418; have hcz12_1 := cz1 BK418; have hcz12_2 := cz2 BK418; have hfz12_0 := fz BK418 0; have hfz12_1 := fz BK418 1; have hfz12_2 := fz BK418 2))
  refine bodyPost_ret (results_cell_row rfl _ _ gb418 23 #[.bool a1_0, .int .i64 a1_1, .int .i64 a1_2] (0, 0) _ rfl (by (with_reducible repeat (first | refine b1 ?_ _ | refine b2 ?_ | refine b3 ?_ _)); refine blk_put (cs := #[.bool a1_0, .int .i64 a1_1, .int .i64 0]) ?_ 2 _ rfl; (with_reducible repeat (first | refine b1 ?_ _ | refine b2 ?_ | refine b3 ?_ _)); refine blk_put (cs := #[.bool a1_0, .int .i64 0, .int .i64 0]) ?_ 1 _ rfl; (with_reducible repeat (first | refine b1 ?_ _ | refine b2 ?_ | refine b3 ?_ _)); refine blk_put (cs := #[.bool false, .int .i64 0, .int .i64 0]) ?_ 0 _ rfl; (with_reducible repeat (first | refine b1 ?_ _ | refine b2 ?_ | refine b3 ?_ _)); exact BK418.out) Tryd.underlying23 rfl (by kernel_rfl)) rfl ?_
  exact ⟨eS, bS HB⟩
 ·
  replace c3 := Bool.eq_false_iff.mpr c3
  subst c3
  have H1 : (if a1_0 = true then (some (false, a0_1, a0_2)) else ((gimbalref31_size.f a0_1).bind fun t419 => ((gimbalref31_size.f a1_1).bind fun t420 => ((gimbalref31_gcd.f k t419 t420).bind fun t421 => ((gimbalref31_size.f (wrap64 (a0_2 - a1_2))).bind fun t422 => ((gimbalref31_gcd.f k t421 t422).bind fun t423 => ((gimbalref31_of.f k t423 a0_2).bind fun bt424 => (some (bt424.1, bt424.2.1, bt424.2.2))))))))) = some (r1, r2, r3) := by rw [if_neg (show ¬ (false = true) by decide)] at H; exact H
  clear H
  have H := H1
  clear H1
  by_cases c13 : a1_0 = true
  ·
   subst c13
   have H1 : (some (false, a0_1, a0_2)) = some (r1, r2, r3) := by rw [if_pos rfl] at H; exact H
   clear H
   have H := H1
   clear H1
   simp only [Option.some.injEq, Prod.mk.injEq] at H
   obtain ⟨rfl, rfl, rfl⟩ := H
   go_enter Tryd.func29, Tryd.ntmps29
   go_wp2_with (first | ((with_reducible refine gate_dst (N := 2) rfl ?_); refine box_event ?hg (N := 2) ?hd (cs := #[.bool false, .int .i64 a0_1, .int .i64 a0_2]) (t := 23) ?hr ?_; (case hd => rfl); (case hg => rfl); (case hr => first | (go_simp; done) | (go_simp; rfl)); intro gb416 hg w14 hbox hb; have n0_ := kW HB hb; have n1_ := Aside0.mk (hbox); have n2_ := Aside0.mk ((by rw [hg]; exact (below_size (bS HB)) : w.heap.size ≤ gb416)); have n3_ := Aside0.mk ((by rw [hg]; exact (below_size (bS HB)) : w.heap.size ≤ gb416)); clear HB; have HB := n0_; have BK416 := n1_; have GW416 := n2_; have GE416 := n3_; clear n0_ n1_ n2_ n3_; clear hb hbox hg) | ((with_reducible refine gate_dst (N := 3) rfl ?_); refine box_event ?hg (N := 3) ?hd (cs := #[.bool true, .int .i64 a1_1, .int .i64 a1_2]) (t := 23) ?hr ?_; (case hd => rfl); (case hg => rfl); (case hr => first | (go_simp; done) | (go_simp; rfl)); intro gb417 hg w15 hbox hb; have n0_ := kB BK416 hb; have n1_ := kW HB hb; have n2_ := Aside0.mk (hbox); have n3_ := Aside0.mk ((by rw [hg]; exact (below_size (bS HB)) : w.heap.size ≤ gb417)); have n4_ := Aside0.mk ((by rw [hg]; exact (below_size (bS HB)) : w.heap.size ≤ gb417)); have n5_ := Aside0.mk ((by rw [hg]; exact Nat.ne_of_lt (blk_lt (bkS BK416)) : gb416 ≠ gb417)); have n6_ := Aside0.mk ((by rw [hg]; exact Nat.ne_of_gt (blk_lt (bkS BK416)) : gb417 ≠ gb416)); clear BK416; clear HB; have BK416 := n0_; have HB := n1_; have BK417 := n2_; have GW417 := n3_; have GE417 := n4_; have NB416_417 := n5_; have NB417_416 := n6_; clear n0_ n1_ n2_ n3_ n4_ n5_ n6_; clear hb hbox hg) | ((with_reducible refine gate_dst (N := 4) rfl ?_); refine box_event ?hg (N := 4) ?hd (cs := #[.bool false, .int .i64 0, .int .i64 0]) (t := 23) ?hr ?_; (case hd => rfl); (case hg => rfl); (case hr => first | (go_simp; done) | (go_simp; rfl)); intro gb418 hg w16 hbox hb; have n0_ := kB BK416 hb; have n1_ := kB BK417 hb; have n2_ := kW HB hb; have n3_ := Aside0.mk (hbox); have n4_ := Aside0.mk ((by rw [hg]; exact (below_size (bS HB)) : w.heap.size ≤ gb418)); have n5_ := Aside0.mk ((by rw [hg]; exact (below_size (bS HB)) : w.heap.size ≤ gb418)); have n6_ := Aside0.mk ((by rw [hg]; exact Nat.ne_of_lt (blk_lt (bkS BK416)) : gb416 ≠ gb418)); have n7_ := Aside0.mk ((by rw [hg]; exact Nat.ne_of_gt (blk_lt (bkS BK416)) : gb418 ≠ gb416)); have n8_ := Aside0.mk ((by rw [hg]; exact Nat.ne_of_lt (blk_lt (bkS BK417)) : gb417 ≠ gb418)); have n9_ := Aside0.mk ((by rw [hg]; exact Nat.ne_of_gt (blk_lt (bkS BK417)) : gb418 ≠ gb417)); clear BK416; clear BK417; clear HB; have BK416 := n0_; have BK417 := n1_; have HB := n2_; have BK418 := n3_; have GW418 := n4_; have GE418 := n5_; have NB416_418 := n6_; have NB418_416 := n7_; have NB417_418 := n8_; have NB418_417 := n9_; clear n0_ n1_ n2_ n3_ n4_ n5_ n6_ n7_ n8_ n9_; clear hb hbox hg; have hnb17 := NB416_417.out; have hnc17 := NB417_416.out; have hnb18 := NB416_418.out; have hnc18 := NB418_416.out; have hcz19_0 := cz0 BK416; have hcz19_1 := cz1 BK416; have hcz19_2 := cz2 BK416; have hfz19_0 := fz BK416 0; have hfz19_1 := fz BK416 1; have hfz19_2 := fz BK416 2; have hnb20 := NB417_418.out; have hnc20 := NB418_417.out; have hcz21_0 := cz0 BK417; have hcz21_1 := cz1 BK417; have hcz21_2 := cz2 BK417; have hfz21_0 := fz BK417 0; have hfz21_1 := fz BK417 1; have hfz21_2 := fz BK417 2; have hcz22_0 := cz0 BK418; have hcz22_1 := cz1 BK418; have hcz22_2 := cz2 BK418; have hfz22_0 := fz BK418 0; have hfz22_1 := fz BK418 1; have hfz22_2 := fz BK418 2))
   refine bodyPost_ret (results_cell_row rfl _ _ gb418 23 #[.bool false, .int .i64 a0_1, .int .i64 a0_2] (0, 0) _ rfl (by (with_reducible repeat (first | refine b1 ?_ _ | refine b2 ?_ | refine b3 ?_ _)); refine blk_put (cs := #[.bool false, .int .i64 a0_1, .int .i64 0]) ?_ 2 _ rfl; (with_reducible repeat (first | refine b1 ?_ _ | refine b2 ?_ | refine b3 ?_ _)); refine blk_put (cs := #[.bool false, .int .i64 0, .int .i64 0]) ?_ 1 _ rfl; (with_reducible repeat (first | refine b1 ?_ _ | refine b2 ?_ | refine b3 ?_ _)); refine blk_put (cs := #[.bool false, .int .i64 0, .int .i64 0]) ?_ 0 _ rfl; (with_reducible repeat (first | refine b1 ?_ _ | refine b2 ?_ | refine b3 ?_ _)); exact BK418.out) Tryd.underlying23 rfl (by kernel_rfl)) rfl ?_
   exact ⟨eS, bS HB⟩
  ·
   replace c13 := Bool.eq_false_iff.mpr c13
   subst c13
   have H1 : ((gimbalref31_size.f a0_1).bind fun t419 => ((gimbalref31_size.f a1_1).bind fun t420 => ((gimbalref31_gcd.f k t419 t420).bind fun t421 => ((gimbalref31_size.f (wrap64 (a0_2 - a1_2))).bind fun t422 => ((gimbalref31_gcd.f k t421 t422).bind fun t423 => ((gimbalref31_of.f k t423 a0_2).bind fun bt424 => (some (bt424.1, bt424.2.1, bt424.2.2)))))))) = some (r1, r2, r3) := by rw [if_neg (show ¬ (false = true) by decide)] at H; exact H
   clear H
   have H := H1
   clear H1
   replace H := Option.bind_eq_some_iff.mp H
   obtain ⟨t419, A230, H⟩ := H
   replace H : ((gimbalref31_size.f a1_1).bind fun t420 => ((gimbalref31_gcd.f k t419 t420).bind fun t421 => ((gimbalref31_size.f (wrap64 (a0_2 - a1_2))).bind fun t422 => ((gimbalref31_gcd.f k t421 t422).bind fun t423 => ((gimbalref31_of.f k t423 a0_2).bind fun bt424 => (some (bt424.1, bt424.2.1, bt424.2.2))))))) = some (r1, r2, r3) := H
   have A23 := Aside0.mk A230
   clear A230
   replace H := Option.bind_eq_some_iff.mp H
   obtain ⟨t420, A240, H⟩ := H
   replace H : ((gimbalref31_gcd.f k t419 t420).bind fun t421 => ((gimbalref31_size.f (wrap64 (a0_2 - a1_2))).bind fun t422 => ((gimbalref31_gcd.f k t421 t422).bind fun t423 => ((gimbalref31_of.f k t423 a0_2).bind fun bt424 => (some (bt424.1, bt424.2.1, bt424.2.2)))))) = some (r1, r2, r3) := H
   have A24 := Aside0.mk A240
   clear A240
   replace H := Option.bind_eq_some_iff.mp H
   obtain ⟨t421, A250, H⟩ := H
   replace H : ((gimbalref31_size.f (wrap64 (a0_2 - a1_2))).bind fun t422 => ((gimbalref31_gcd.f k t421 t422).bind fun t423 => ((gimbalref31_of.f k t423 a0_2).bind fun bt424 => (some (bt424.1, bt424.2.1, bt424.2.2))))) = some (r1, r2, r3) := H
   have A25 := Aside0.mk A250
   clear A250
   replace H := Option.bind_eq_some_iff.mp H
   obtain ⟨t422, A260, H⟩ := H
   replace H : ((gimbalref31_gcd.f k t421 t422).bind fun t423 => ((gimbalref31_of.f k t423 a0_2).bind fun bt424 => (some (bt424.1, bt424.2.1, bt424.2.2)))) = some (r1, r2, r3) := H
   have A26 := Aside0.mk A260
   clear A260
   replace H := Option.bind_eq_some_iff.mp H
   obtain ⟨t423, A270, H⟩ := H
   replace H : ((gimbalref31_of.f k t423 a0_2).bind fun bt424 => (some (bt424.1, bt424.2.1, bt424.2.2))) = some (r1, r2, r3) := H
   have A27 := Aside0.mk A270
   clear A270
   replace H := Option.bind_eq_some_iff.mp H
   obtain ⟨⟨t424, t425, t426⟩, A280, H⟩ := H
   replace H : (some (t424, t425, t426)) = some (r1, r2, r3) := H
   have A28 := Aside0.mk A280
   clear A280
   simp only [Option.some.injEq, Prod.mk.injEq] at H
   obtain ⟨rfl, rfl, rfl⟩ := H
   go_enter Tryd.func29, Tryd.ntmps29
   try go_wp2_with (first | ((with_reducible refine gate_dst (N := 2) rfl ?_); refine box_event ?hg (N := 2) ?hd (cs := #[.bool false, .int .i64 a0_1, .int .i64 a0_2]) (t := 23) ?hr ?_; (case hd => rfl); (case hg => rfl); (case hr => first | (go_simp; done) | (go_simp; rfl)); intro gb416 hg w29 hbox hb; have n0_ := kW HB hb; have n1_ := Aside0.mk (hbox); have n2_ := Aside0.mk ((by rw [hg]; exact (below_size (bS HB)) : w.heap.size ≤ gb416)); have n3_ := Aside0.mk ((by rw [hg]; exact (below_size (bS HB)) : w.heap.size ≤ gb416)); clear HB; have HB := n0_; have BK416 := n1_; have GW416 := n2_; have GE416 := n3_; clear n0_ n1_ n2_ n3_; clear hb hbox hg) | ((with_reducible refine gate_dst (N := 3) rfl ?_); refine box_event ?hg (N := 3) ?hd (cs := #[.bool false, .int .i64 a1_1, .int .i64 a1_2]) (t := 23) ?hr ?_; (case hd => rfl); (case hg => rfl); (case hr => first | (go_simp; done) | (go_simp; rfl)); intro gb417 hg w30 hbox hb; have n0_ := kB BK416 hb; have n1_ := kW HB hb; have n2_ := Aside0.mk (hbox); have n3_ := Aside0.mk ((by rw [hg]; exact (below_size (bS HB)) : w.heap.size ≤ gb417)); have n4_ := Aside0.mk ((by rw [hg]; exact (below_size (bS HB)) : w.heap.size ≤ gb417)); have n5_ := Aside0.mk ((by rw [hg]; exact Nat.ne_of_lt (blk_lt (bkS BK416)) : gb416 ≠ gb417)); have n6_ := Aside0.mk ((by rw [hg]; exact Nat.ne_of_gt (blk_lt (bkS BK416)) : gb417 ≠ gb416)); clear BK416; clear HB; have BK416 := n0_; have HB := n1_; have BK417 := n2_; have GW417 := n3_; have GE417 := n4_; have NB416_417 := n5_; have NB417_416 := n6_; clear n0_ n1_ n2_ n3_ n4_ n5_ n6_; clear hb hbox hg) | ((with_reducible refine gate_dst (N := 4) rfl ?_); refine box_event ?hg (N := 4) ?hd (cs := #[.bool false, .int .i64 0, .int .i64 0]) (t := 23) ?hr ?_; (case hd => rfl); (case hg => rfl); (case hr => first | (go_simp; done) | (go_simp; rfl)); intro gb418 hg w31 hbox hb; have n0_ := kB BK416 hb; have n1_ := kB BK417 hb; have n2_ := kW HB hb; have n3_ := Aside0.mk (hbox); have n4_ := Aside0.mk ((by rw [hg]; exact (below_size (bS HB)) : w.heap.size ≤ gb418)); have n5_ := Aside0.mk ((by rw [hg]; exact (below_size (bS HB)) : w.heap.size ≤ gb418)); have n6_ := Aside0.mk ((by rw [hg]; exact Nat.ne_of_lt (blk_lt (bkS BK416)) : gb416 ≠ gb418)); have n7_ := Aside0.mk ((by rw [hg]; exact Nat.ne_of_gt (blk_lt (bkS BK416)) : gb418 ≠ gb416)); have n8_ := Aside0.mk ((by rw [hg]; exact Nat.ne_of_lt (blk_lt (bkS BK417)) : gb417 ≠ gb418)); have n9_ := Aside0.mk ((by rw [hg]; exact Nat.ne_of_gt (blk_lt (bkS BK417)) : gb418 ≠ gb417)); clear BK416; clear BK417; clear HB; have BK416 := n0_; have BK417 := n1_; have HB := n2_; have BK418 := n3_; have GW418 := n4_; have GE418 := n5_; have NB416_418 := n6_; have NB418_416 := n7_; have NB417_418 := n8_; have NB418_417 := n9_; clear n0_ n1_ n2_ n3_ n4_ n5_ n6_ n7_ n8_ n9_; clear hb hbox hg; have hnb32 := NB416_417.out; have hnc32 := NB417_416.out; have hnb33 := NB416_418.out; have hnc33 := NB418_416.out; have hcz34_0 := cz0 BK416; have hcz34_1 := cz1 BK416; have hcz34_2 := cz2 BK416; have hfz34_0 := fz BK416 0; have hfz34_1 := fz BK416 1; have hfz34_2 := fz BK416 2; have hnb35 := NB417_418.out; have hnc35 := NB418_417.out; have hcz36_0 := cz0 BK417; have hcz36_1 := cz1 BK417; have hcz36_2 := cz2 BK417; have hfz36_0 := fz BK417 0; have hfz36_1 := fz BK417 1; have hfz36_2 := fz BK417 2))
   replace BK416 := Aside0.mk (blk_drew BK416.out)
   replace BK417 := Aside0.mk (blk_drew BK417.out)
   replace BK418 := Aside0.mk (blk_drew BK418.out)
   replace HB := Aside0.mk (below_drew1 HB.out)
   refine start_ (n := 18) (S := fun w' => w'.cell? ⟨gb416, 0, none⟩ = some (.bool false) ∧ w'.cell? ⟨gb416, 1, none⟩ = some (.int .i64 a0_1) ∧ w'.cell? ⟨gb416, 2, none⟩ = some (.int .i64 a0_2) ∧ w'.cell? ⟨gb417, 0, none⟩ = some (.bool false) ∧ w'.cell? ⟨gb417, 1, none⟩ = some (.int .i64 a1_1) ∧ w'.cell? ⟨gb417, 2, none⟩ = some (.int .i64 a1_2)) (ds := []) #[false, false, false, false, false, false, false, false, false, false, false, false, false, false, false, false, false, false] (by kernel_rfl) rfl rfl ⟨cz0 BK416, cz1 BK416, cz2 BK416, cz0 BK417, cz1 BK417, cz2 BK417⟩ (fun hHeld => ?_); refine with_tabW gimbalref31_Join.tab5 gimbalref31_Join.bits5 (fun HT_ HW_ => ?_)
   generalize w31.drew = w37 at BK416 BK417 BK418 HB hHeld ⊢
   refine pure_ (i := 0) (N := some 11) (v := ?_) (a' := ?_) #[true, false, false, false, false, false, false, false, false, false, false, false, false, false, false, false, false, false] rfl rfl (any_of HT_.out (by kernel_rfl)) (fun _ _ _ h => h) (Or.inl ⟨by rfl, ?_⟩) ?_ ?_
   rotate_left
   ·
    intro w'
    go_simp
    with_reducible rfl
   rotate_left
   ·
    simp only [Act.put, lA, lB, lC, i64_w, i32_w]
    rfl
   refine pure_ (i := 3) (N := some 14) (v := ?_) (a' := ?_) #[true, false, false, true, false, false, false, false, false, false, false, false, false, false, false, false, false, false] rfl rfl (any_of HT_.out (by kernel_rfl)) (fun _ _ _ h => h) (Or.inl ⟨by rfl, ?_⟩) ?_ ?_
   rotate_left
   ·
    intro w'
    go_simp
    with_reducible rfl
   rotate_left
   ·
    simp only [Act.put, lA, lB, lC, i64_w, i32_w]
    rfl
   refine pure_ (i := 7) (N := some 18) (v := ?_) (a' := ?_) #[true, false, false, true, false, false, false, true, false, false, false, false, false, false, false, false, false, false] rfl rfl (any_of HT_.out (by kernel_rfl)) (fun _ _ _ h => h) (Or.inl ⟨by rfl, ?_⟩) ?_ ?_
   rotate_left
   ·
    intro w'
    go_simp
    with_reducible rfl
   rotate_left
   ·
    simp only [Act.put, lA, lB, lC, i64_w, i32_w]
    rfl
   refine pure_ (i := 9) (N := some 20) (v := ?_) (a' := ?_) #[true, false, false, true, false, false, false, true, false, true, false, false, false, false, false, false, false, false] rfl rfl (any_of HT_.out (by kernel_rfl)) (fun _ _ _ h => h) (Or.inl ⟨by rfl, ?_⟩) ?_ ?_
   rotate_left
   ·
    intro w'
    go_simp
    with_reducible rfl
   rotate_left
   ·
    simp only [Act.put, lA, lB, lC, i64_w, i32_w]
    rfl
   refine pure_ (i := 14) (N := some 25) (v := ?_) (a' := ?_) #[true, false, false, true, false, false, false, true, false, true, false, false, false, false, true, false, false, false] rfl rfl (any_of HT_.out (by kernel_rfl)) (fun _ _ _ h => h) (Or.inl ⟨by rfl, ?_⟩) ?_ ?_
   rotate_left
   ·
    intro w'
    go_simp
    with_reducible rfl
   rotate_left
   ·
    simp only [Act.put, lA, lB, lC, i64_w, i32_w]
    rfl
   refine take_ (i := 1) (N := some 12) (v := ?_) (a' := ?_) #[true, true, false, true, false, false, false, true, false, true, false, false, false, false, true, false, false, false] rfl rfl (take_ofW HT_.out HW_.out (by kernel_rfl)) (fun _ _ _ h => h) (Or.inl ⟨by rfl, ?_⟩) hHeld ?_ ?_
   rotate_left
   ·
    rintro w' ⟨s0, s1, s2, s3, s4, s5⟩
    go_simp
    with_reducible rfl
   rotate_left
   ·
    simp only [Act.put, lA, lB, lC, i64_w, i32_w]
    rfl
   refine take_ (i := 4) (N := some 15) (v := ?_) (a' := ?_) #[true, true, false, true, true, false, false, true, false, true, false, false, false, false, true, false, false, false] rfl rfl (take_ofW HT_.out HW_.out (by kernel_rfl)) (fun _ _ _ h => h) (Or.inl ⟨by rfl, ?_⟩) hHeld ?_ ?_
   rotate_left
   ·
    rintro w' ⟨s0, s1, s2, s3, s4, s5⟩
    go_simp
    with_reducible rfl
   rotate_left
   ·
    simp only [Act.put, lA, lB, lC, i64_w, i32_w]
    rfl
   refine take_ (i := 8) (N := some 19) (v := ?_) (a' := ?_) #[true, true, false, true, true, false, false, true, true, true, false, false, false, false, true, false, false, false] rfl rfl (take_ofW HT_.out HW_.out (by kernel_rfl)) (fun _ _ _ h => h) (Or.inl ⟨by rfl, ?_⟩) hHeld ?_ ?_
   rotate_left
   ·
    rintro w' ⟨s0, s1, s2, s3, s4, s5⟩
    go_simp
    with_reducible rfl
   rotate_left
   ·
    simp only [Act.put, lA, lB, lC, i64_w, i32_w]
    rfl
   refine take_ (i := 10) (N := some 21) (v := ?_) (a' := ?_) #[true, true, false, true, true, false, false, true, true, true, true, false, false, false, true, false, false, false] rfl rfl (take_ofW HT_.out HW_.out (by kernel_rfl)) (fun _ _ _ h => h) (Or.inl ⟨by rfl, ?_⟩) hHeld ?_ ?_
   rotate_left
   ·
    rintro w' ⟨s0, s1, s2, s3, s4, s5⟩
    go_simp
    with_reducible rfl
   rotate_left
   ·
    simp only [Act.put, lA, lB, lC, i64_w, i32_w]
    rfl
   refine pure_ (i := 11) (N := some 22) (v := ?_) (a' := ?_) #[true, true, false, true, true, false, false, true, true, true, true, true, false, false, true, false, false, false] rfl rfl (any_of HT_.out (by kernel_rfl)) (fun _ _ _ h => h) (Or.inl ⟨by rfl, ?_⟩) ?_ ?_
   rotate_left
   ·
    intro w'
    go_simp
    with_reducible rfl
   rotate_left
   ·
    simp only [Act.put, lA, lB, lC, i64_w, i32_w]
    rfl
   refine take_ (i := 15) (N := some 26) (v := ?_) (a' := ?_) #[true, true, false, true, true, false, false, true, true, true, true, true, false, false, true, true, false, false] rfl rfl (take_ofW HT_.out HW_.out (by kernel_rfl)) (fun _ _ _ h => h) (Or.inl ⟨by rfl, ?_⟩) hHeld ?_ ?_
   rotate_left
   ·
    rintro w' ⟨s0, s1, s2, s3, s4, s5⟩
    go_simp
    with_reducible rfl
   rotate_left
   ·
    simp only [Act.put, lA, lB, lC, i64_w, i32_w]
    rfl
   refine one_ (i := 2) (N := some 13) #[true, true, true, true, true, false, false, true, true, true, true, true, false, false, true, true, false, false] rfl rfl (one_of HT_.out (by kernel_rfl)) (by decide) (fun K hK => ?_)
   refine goes_ Tryd.func55 (by kernel_rfl) rfl #[.int .i64 a0_1] (by rfl) rfl rfl mS ?_
   with_reducible refine (gimbalref31_size.calls a0_1 t419 _ A23.out).mono ?_
   rintro e w' ⟨rfl, ⟨nd, rfl⟩⟩
   refine ⟨_, rfl, ?_⟩
   refine hK.out _ _ ⟨cz0 BK416, cz1 BK416, cz2 BK416, cz0 BK417, cz1 BK417, cz2 BK417⟩ (fun hHeld => ?_)
   clear hK K
   refine norm_ (a' := ?_) ?_ ?_
   rotate_left
   ·
    show Act.put _ (some 13) _ = _
    simp only [Act.put, lA, lB, lC, i64_w, i32_w]
    rfl
   refine one_ (i := 5) (N := some 16) #[true, true, true, true, true, true, false, true, true, true, true, true, false, false, true, true, false, false] rfl rfl (one_of HT_.out (by kernel_rfl)) (by decide) (fun K hK => ?_)
   refine goes_ Tryd.func55 (by kernel_rfl) rfl #[.int .i64 a1_1] (by rfl) rfl rfl mS ?_
   with_reducible refine (gimbalref31_size.calls a1_1 t420 _ A24.out).mono ?_
   rintro e w' ⟨rfl, ⟨nd, rfl⟩⟩
   refine ⟨_, rfl, ?_⟩
   refine hK.out _ _ ⟨cz0 BK416, cz1 BK416, cz2 BK416, cz0 BK417, cz1 BK417, cz2 BK417⟩ (fun hHeld => ?_)
   clear hK K
   refine norm_ (a' := ?_) ?_ ?_
   rotate_left
   ·
    show Act.put _ (some 16) _ = _
    simp only [Act.put, lA, lB, lC, i64_w, i32_w]
    rfl
   refine one_ (i := 6) (N := some 17) #[true, true, true, true, true, true, true, true, true, true, true, true, false, false, true, true, false, false] rfl rfl (one_of HT_.out (by kernel_rfl)) (by decide) (fun K hK => ?_)
   refine goes_ Tryd.func80 (by kernel_rfl) rfl #[.int .u64 t419, .int .u64 t420] (by rfl) rfl rfl mS ?_
   with_reducible refine (gimbalref31_gcd.calls k t419 t420 t421 _ A25.out).mono ?_
   rintro e w' ⟨rfl, ⟨nd, rfl⟩⟩
   refine ⟨_, rfl, ?_⟩
   refine hK.out _ _ ⟨cz0 BK416, cz1 BK416, cz2 BK416, cz0 BK417, cz1 BK417, cz2 BK417⟩ (fun hHeld => ?_)
   clear hK K
   refine norm_ (a' := ?_) ?_ ?_
   rotate_left
   ·
    show Act.put _ (some 17) _ = _
    simp only [Act.put, lA, lB, lC, i64_w, i32_w]
    rfl
   refine one_ (i := 12) (N := some 23) #[true, true, true, true, true, true, true, true, true, true, true, true, true, false, true, true, false, false] rfl rfl (one_of HT_.out (by kernel_rfl)) (by decide) (fun K hK => ?_)
   refine goes_ Tryd.func55 (by kernel_rfl) rfl #[.int .i64 (wrap64 (a0_2 - a1_2))] (by rfl) rfl rfl mS ?_
   with_reducible refine (gimbalref31_size.calls (wrap64 (a0_2 - a1_2)) t422 _ A26.out).mono ?_
   rintro e w' ⟨rfl, ⟨nd, rfl⟩⟩
   refine ⟨_, rfl, ?_⟩
   refine hK.out _ _ ⟨cz0 BK416, cz1 BK416, cz2 BK416, cz0 BK417, cz1 BK417, cz2 BK417⟩ (fun hHeld => ?_)
   clear hK K
   refine norm_ (a' := ?_) ?_ ?_
   rotate_left
   ·
    show Act.put _ (some 23) _ = _
    simp only [Act.put, lA, lB, lC, i64_w, i32_w]
    rfl
   refine one_ (i := 13) (N := some 24) #[true, true, true, true, true, true, true, true, true, true, true, true, true, true, true, true, false, false] rfl rfl (one_of HT_.out (by kernel_rfl)) (by decide) (fun K hK => ?_)
   refine goes_ Tryd.func80 (by kernel_rfl) rfl #[.int .u64 t421, .int .u64 t422] (by rfl) rfl rfl mS ?_
   with_reducible refine (gimbalref31_gcd.calls k t421 t422 t423 _ A27.out).mono ?_
   rintro e w' ⟨rfl, ⟨nd, rfl⟩⟩
   refine ⟨_, rfl, ?_⟩
   refine hK.out _ _ ⟨cz0 BK416, cz1 BK416, cz2 BK416, cz0 BK417, cz1 BK417, cz2 BK417⟩ (fun hHeld => ?_)
   clear hK K
   refine norm_ (a' := ?_) ?_ ?_
   rotate_left
   ·
    show Act.put _ (some 24) _ = _
    simp only [Act.put, lA, lB, lC, i64_w, i32_w]
    rfl
   refine one_ (i := 16) (N := some 27) #[true, true, true, true, true, true, true, true, true, true, true, true, true, true, true, true, true, false] rfl rfl (one_of HT_.out (by kernel_rfl)) (by decide) (fun K hK => ?_)
   refine goes_ Tryd.func79 (by kernel_rfl) rfl #[.int .u64 t423, .int .i64 a0_2] (by rfl) rfl rfl mS ?_
   with_reducible refine (gimbalref31_of.calls k t423 a0_2 t424 t425 t426 _ A28.out).mono ?_
   rintro e w38 ⟨rfl, hb⟩
   refine ⟨_, rfl, ?_⟩
   replace BK416 := kB BK416 hb
   replace BK417 := kB BK417 hb
   replace BK418 := kB BK418 hb
   replace HB := kW HB hb
   (try clear hb)
   (try clear hb2)
   (try clear hk)
   (try clear hi)
   refine hK.out _ _ ⟨cz0 BK416, cz1 BK416, cz2 BK416, cz0 BK417, cz1 BK417, cz2 BK417⟩ (fun hHeld => ?_)
   clear hK K
   refine norm_ (a' := ?_) ?_ ?_
   rotate_left
   ·
    show Act.put _ (some 27) _ = _
    simp only [Act.put, lA, lB, lC, i64_w, i32_w]
    rfl
   refine one_ (i := 17) (N := none) #[true, true, true, true, true, true, true, true, true, true, true, true, true, true, true, true, true, true] rfl rfl (one_of HT_.out (by kernel_rfl)) (by decide) (fun K hK => ?_)
   have hs39 : w38.cell? ⟨gb418, 0, none⟩ = some (.bool false) := cz0 BK418
   have hfs39 := fz BK418 0
   have hns39_0 := NB416_418.out
   have hns39_1 := NB417_418.out
   have hms39_0 := NB418_416.out
   have hms39_1 := NB418_417.out
   have hs40 : w38.cell? ⟨gb418, 1, none⟩ = some (.int .i64 0) := cz1 BK418
   have hfs40 := fz BK418 1
   have hns40_0 := NB416_418.out
   have hns40_1 := NB417_418.out
   have hms40_0 := NB418_416.out
   have hms40_1 := NB418_417.out
   have hs41 : w38.cell? ⟨gb418, 2, none⟩ = some (.int .i64 0) := cz2 BK418
   have hfs41 := fz BK418 2
   have hns41_0 := NB416_418.out
   have hns41_1 := NB417_418.out
   have hms41_0 := NB418_416.out
   have hms41_1 := NB418_417.out
   refine skip_ (w1 := ?_) (by rfl) rfl ?_ ?_
   rotate_left
   ·
    go_simp
    rfl
   refine hK.out _ _ ⟨((cell_far (p := ⟨gb418, _, none⟩) NB416_418.out _).trans (((cell_far (p := ⟨gb418, _, none⟩) NB416_418.out _).trans (((cell_far (p := ⟨gb418, _, none⟩) NB416_418.out _).trans (hHeld.1)))))), ((cell_far (p := ⟨gb418, _, none⟩) NB416_418.out _).trans (((cell_far (p := ⟨gb418, _, none⟩) NB416_418.out _).trans (((cell_far (p := ⟨gb418, _, none⟩) NB416_418.out _).trans (hHeld.2.1)))))), ((cell_far (p := ⟨gb418, _, none⟩) NB416_418.out _).trans (((cell_far (p := ⟨gb418, _, none⟩) NB416_418.out _).trans (((cell_far (p := ⟨gb418, _, none⟩) NB416_418.out _).trans (hHeld.2.2.1)))))), ((cell_far (p := ⟨gb418, _, none⟩) NB417_418.out _).trans (((cell_far (p := ⟨gb418, _, none⟩) NB417_418.out _).trans (((cell_far (p := ⟨gb418, _, none⟩) NB417_418.out _).trans (hHeld.2.2.2.1)))))), ((cell_far (p := ⟨gb418, _, none⟩) NB417_418.out _).trans (((cell_far (p := ⟨gb418, _, none⟩) NB417_418.out _).trans (((cell_far (p := ⟨gb418, _, none⟩) NB417_418.out _).trans (hHeld.2.2.2.2.1)))))), ((cell_far (p := ⟨gb418, _, none⟩) NB417_418.out _).trans (((cell_far (p := ⟨gb418, _, none⟩) NB417_418.out _).trans (((cell_far (p := ⟨gb418, _, none⟩) NB417_418.out _).trans (hHeld.2.2.2.2.2))))))⟩ (fun hHeld => ?_)
   clear hK K
   refine done_ (done_of HT_.out (by kernel_rfl)) ?_
   try go_wp2
   refine bodyPost_ret (results_cell_row rfl _ _ gb418 23 #[.bool t424, .int .i64 t425, .int .i64 t426] (0, 0) _ rfl (by (with_reducible repeat (first | refine b1 ?_ _ | refine b2 ?_ | refine b3 ?_ _)); refine blk_put (cs := #[.bool t424, .int .i64 t425, .int .i64 0]) ?_ 2 _ rfl; (with_reducible repeat (first | refine b1 ?_ _ | refine b2 ?_ | refine b3 ?_ _)); refine blk_put (cs := #[.bool t424, .int .i64 0, .int .i64 0]) ?_ 1 _ rfl; (with_reducible repeat (first | refine b1 ?_ _ | refine b2 ?_ | refine b3 ?_ _)); refine blk_put (cs := #[.bool false, .int .i64 0, .int .i64 0]) ?_ 0 _ rfl; (with_reducible repeat (first | refine b1 ?_ _ | refine b2 ?_ | refine b3 ?_ _)); exact BK418.out) Tryd.underlying23 rfl (by kernel_rfl)) rfl ?_
   exact ⟨eS, bS HB⟩

def congr_Neg.f (k : Nat) (a0_0 : Bool) (a0_1 : Int) (a0_2 : Int) : Option (Bool × Int × Int) := if a0_0 = true then (some (a0_0, a0_1, a0_2)) else ((congr_by.f k (IntKind.u64.wrap (a0_1)) (wrap64 (-a0_2))).bind fun bt429 => (some (bt429.1, bt429.2.1, bt429.2.2)))
set_option maxHeartbeats 8000000 in
set_option maxRecDepth 100000 in
theorem congr_Neg.calls (k : Nat) (a0_0 : Bool) (a0_1 : Int) (a0_2 : Int) (r1 : Bool) (r2 : Int) (r3 : Int) (w : World) (h : congr_Neg.f k a0_0 a0_1 a0_2 = some (r1, r2, r3)) :
  Calls Tryd.prog 31 #[.agg #[.bool a0_0, .int .i64 a0_1, .int .i64 a0_2]] w fun e w' => e = .returned (.agg #[.bool r1, .int .i64 r2, .int .i64 r3]) ∧ Below w.heap.size w w' := by
 have hu23 := Tryd.underlying23
 have HB := Aside0.mk (Below.refl w.heap.size w)
 have H : (if a0_0 = true then (some (a0_0, a0_1, a0_2)) else ((congr_by.f k (IntKind.u64.wrap (a0_1)) (wrap64 (-a0_2))).bind fun bt429 => (some (bt429.1, bt429.2.1, bt429.2.2)))) = some (r1, r2, r3) := h
 clear h
 by_cases c2 : a0_0 = true
 ·
  subst c2
  have H1 : (some (true, a0_1, a0_2)) = some (r1, r2, r3) := by rw [if_pos rfl] at H; exact H
  clear H
  have H := H1
  clear H1
  simp only [Option.some.injEq, Prod.mk.injEq] at H
  obtain ⟨rfl, rfl, rfl⟩ := H
  go_enter Tryd.func31, Tryd.ntmps31
  go_wp2_with (first | ((with_reducible refine gate_dst (N := 1) rfl ?_); refine box_event ?hg (N := 1) ?hd (cs := #[.bool true, .int .i64 a0_1, .int .i64 a0_2]) (t := 23) ?hr ?_; (case hd => rfl); (case hg => rfl); (case hr => first | (go_simp; done) | (go_simp; rfl)); intro gb427 hg w3 hbox hb; have n0_ := kW HB hb; have n1_ := Aside0.mk (hbox); have n2_ := Aside0.mk ((by rw [hg]; exact (below_size (bS HB)) : w.heap.size ≤ gb427)); have n3_ := Aside0.mk ((by rw [hg]; exact (below_size (bS HB)) : w.heap.size ≤ gb427)); clear HB; have HB := n0_; have BK427 := n1_; have GW427 := n2_; have GE427 := n3_; clear n0_ n1_ n2_ n3_; clear hb hbox hg) | ((with_reducible refine gate_dst (N := 2) rfl ?_); refine box_event ?hg (N := 2) ?hd (cs := #[.bool false, .int .i64 0, .int .i64 0]) (t := 23) ?hr ?_; (case hd => rfl); (case hg => rfl); (case hr => first | (go_simp; done) | (go_simp; rfl)); intro gb428 hg w4 hbox hb; have n0_ := kB BK427 hb; have n1_ := kW HB hb; have n2_ := Aside0.mk (hbox); have n3_ := Aside0.mk ((by rw [hg]; exact (below_size (bS HB)) : w.heap.size ≤ gb428)); have n4_ := Aside0.mk ((by rw [hg]; exact (below_size (bS HB)) : w.heap.size ≤ gb428)); have n5_ := Aside0.mk ((by rw [hg]; exact Nat.ne_of_lt (blk_lt (bkS BK427)) : gb427 ≠ gb428)); have n6_ := Aside0.mk ((by rw [hg]; exact Nat.ne_of_gt (blk_lt (bkS BK427)) : gb428 ≠ gb427)); clear BK427; clear HB; have BK427 := n0_; have HB := n1_; have BK428 := n2_; have GW428 := n3_; have GE428 := n4_; have NB427_428 := n5_; have NB428_427 := n6_; clear n0_ n1_ n2_ n3_ n4_ n5_ n6_; clear hb hbox hg; have hnb5 := NB427_428.out; have hnc5 := NB428_427.out; have hcz6_0 := cz0 BK427; have hcz6_1 := cz1 BK427; have hcz6_2 := cz2 BK427; have hfz6_0 := fz BK427 0; have hfz6_1 := fz BK427 1; have hfz6_2 := fz BK427 2; have hcz7_0 := cz0 BK428; have hcz7_1 := cz1 BK428; have hcz7_2 := cz2 BK428; have hfz7_0 := fz BK428 0; have hfz7_1 := fz BK428 1; have hfz7_2 := fz BK428 2))
  refine bodyPost_ret (results_cell_row rfl _ _ gb428 23 #[.bool true, .int .i64 a0_1, .int .i64 a0_2] (0, 0) _ rfl (by (with_reducible repeat (first | refine b1 ?_ _ | refine b2 ?_ | refine b3 ?_ _)); refine blk_put (cs := #[.bool true, .int .i64 a0_1, .int .i64 0]) ?_ 2 _ rfl; (with_reducible repeat (first | refine b1 ?_ _ | refine b2 ?_ | refine b3 ?_ _)); refine blk_put (cs := #[.bool true, .int .i64 0, .int .i64 0]) ?_ 1 _ rfl; (with_reducible repeat (first | refine b1 ?_ _ | refine b2 ?_ | refine b3 ?_ _)); refine blk_put (cs := #[.bool false, .int .i64 0, .int .i64 0]) ?_ 0 _ rfl; (with_reducible repeat (first | refine b1 ?_ _ | refine b2 ?_ | refine b3 ?_ _)); exact BK428.out) Tryd.underlying23 rfl (by kernel_rfl)) rfl ?_
  exact ⟨eS, bS HB⟩
 ·
  replace c2 := Bool.eq_false_iff.mpr c2
  subst c2
  have H1 : ((congr_by.f k (IntKind.u64.wrap (a0_1)) (wrap64 (-a0_2))).bind fun bt429 => (some (bt429.1, bt429.2.1, bt429.2.2))) = some (r1, r2, r3) := by rw [if_neg (show ¬ (false = true) by decide)] at H; exact H
  clear H
  have H := H1
  clear H1
  replace H := Option.bind_eq_some_iff.mp H
  obtain ⟨⟨t429, t430, t431⟩, A80, H⟩ := H
  replace H : (some (t429, t430, t431)) = some (r1, r2, r3) := H
  have A8 := Aside0.mk A80
  clear A80
  simp only [Option.some.injEq, Prod.mk.injEq] at H
  obtain ⟨rfl, rfl, rfl⟩ := H
  go_enter Tryd.func31, Tryd.ntmps31
  go_wp2_with (first | ((with_reducible refine gate_dst (N := 1) rfl ?_); refine box_event ?hg (N := 1) ?hd (cs := #[.bool false, .int .i64 a0_1, .int .i64 a0_2]) (t := 23) ?hr ?_; (case hd => rfl); (case hg => rfl); (case hr => first | (go_simp; done) | (go_simp; rfl)); intro gb427 hg w9 hbox hb; have n0_ := kW HB hb; have n1_ := Aside0.mk (hbox); have n2_ := Aside0.mk ((by rw [hg]; exact (below_size (bS HB)) : w.heap.size ≤ gb427)); have n3_ := Aside0.mk ((by rw [hg]; exact (below_size (bS HB)) : w.heap.size ≤ gb427)); clear HB; have HB := n0_; have BK427 := n1_; have GW427 := n2_; have GE427 := n3_; clear n0_ n1_ n2_ n3_; clear hb hbox hg) | ((with_reducible refine gate_dst (N := 2) rfl ?_); refine box_event ?hg (N := 2) ?hd (cs := #[.bool false, .int .i64 0, .int .i64 0]) (t := 23) ?hr ?_; (case hd => rfl); (case hg => rfl); (case hr => first | (go_simp; done) | (go_simp; rfl)); intro gb428 hg w10 hbox hb; have n0_ := kB BK427 hb; have n1_ := kW HB hb; have n2_ := Aside0.mk (hbox); have n3_ := Aside0.mk ((by rw [hg]; exact (below_size (bS HB)) : w.heap.size ≤ gb428)); have n4_ := Aside0.mk ((by rw [hg]; exact (below_size (bS HB)) : w.heap.size ≤ gb428)); have n5_ := Aside0.mk ((by rw [hg]; exact Nat.ne_of_lt (blk_lt (bkS BK427)) : gb427 ≠ gb428)); have n6_ := Aside0.mk ((by rw [hg]; exact Nat.ne_of_gt (blk_lt (bkS BK427)) : gb428 ≠ gb427)); clear BK427; clear HB; have BK427 := n0_; have HB := n1_; have BK428 := n2_; have GW428 := n3_; have GE428 := n4_; have NB427_428 := n5_; have NB428_427 := n6_; clear n0_ n1_ n2_ n3_ n4_ n5_ n6_; clear hb hbox hg; have hnb11 := NB427_428.out; have hnc11 := NB428_427.out; have hcz12_0 := cz0 BK427; have hcz12_1 := cz1 BK427; have hcz12_2 := cz2 BK427; have hfz12_0 := fz BK427 0; have hfz12_1 := fz BK427 1; have hfz12_2 := fz BK427 2) | ((with_reducible refine gate_callee (f := 60) rfl ?_); refine goesL_ (some 12) rfl rfl Tryd.func60 (by kernel_rfl) rfl #[.int .u64 (IntKind.u64.wrap (a0_1)), .int .i64 (wrap64 (-a0_2))] rfl mS ?_; (with_reducible refine (congr_by.calls k (IntKind.u64.wrap (a0_1)) (wrap64 (-a0_2)) t429 t430 t431 _ A8.out).mono ?_); rintro e w13 ⟨rfl, hb⟩; refine ⟨_, rfl, ?_⟩; replace BK427 := kB BK427 hb; replace BK428 := kB BK428 hb; replace HB := kW HB hb; (try clear hb); (try clear hb2); (try clear hk); (try clear hi); have hcz14_0 := cz0 BK428; have hcz14_1 := cz1 BK428; have hcz14_2 := cz2 BK428; have hfz14_0 := fz BK428 0; have hfz14_1 := fz BK428 1; have hfz14_2 := fz BK428 2))
  refine bodyPost_ret (results_cell_row rfl _ _ gb428 23 #[.bool t429, .int .i64 t430, .int .i64 t431] (0, 0) _ rfl (by (with_reducible repeat (first | refine b1 ?_ _ | refine b2 ?_ | refine b3 ?_ _)); refine blk_put (cs := #[.bool t429, .int .i64 t430, .int .i64 0]) ?_ 2 _ rfl; (with_reducible repeat (first | refine b1 ?_ _ | refine b2 ?_ | refine b3 ?_ _)); refine blk_put (cs := #[.bool t429, .int .i64 0, .int .i64 0]) ?_ 1 _ rfl; (with_reducible repeat (first | refine b1 ?_ _ | refine b2 ?_ | refine b3 ?_ _)); refine blk_put (cs := #[.bool false, .int .i64 0, .int .i64 0]) ?_ 0 _ rfl; (with_reducible repeat (first | refine b1 ?_ _ | refine b2 ?_ | refine b3 ?_ _)); exact BK428.out) Tryd.underlying23 rfl (by kernel_rfl)) rfl ?_
  exact ⟨eS, bS HB⟩

def gimbalref31_Neg.f (k : Nat) (a0_0 : Bool) (a0_1 : Int) (a0_2 : Int) : Option (Bool × Int × Int) := if a0_0 = true then ((gimbalref31_None.f).bind fun bt434 => (some (bt434.1, bt434.2.1, bt434.2.2))) else ((gimbalref31_size.f a0_1).bind fun t437 => ((gimbalref31_of.f k t437 (wrap64 (-a0_2))).bind fun bt438 => (some (bt438.1, bt438.2.1, bt438.2.2))))
def gimbalref31_Neg.T3 : Bool × List (List Nat × List Nat) := (true, [([], []), ([0], [0]), ([1], [1]), ([], []), ([3], [3]), ([4], [4]), ([2, 5, 2], [2, 5]), ([6, 6, 0, 1, 2, 3, 4, 5, 6], [6])])
def gimbalref31_Neg.B3 : List Nat := [0, 1, 3, 0, 8, 24, 63, 127]
theorem gimbalref31_Neg.tab3 : rtab .any (opsOf Tryd.f32 3) = gimbalref31_Neg.T3 := by kernel_rfl
theorem gimbalref31_Neg.bits3 : waitsOk gimbalref31_Neg.T3.2 gimbalref31_Neg.B3 = true := by kernel_rfl
set_option maxHeartbeats 8000000 in
set_option maxRecDepth 100000 in
theorem gimbalref31_Neg.calls (k : Nat) (a0_0 : Bool) (a0_1 : Int) (a0_2 : Int) (r1 : Bool) (r2 : Int) (r3 : Int) (w : World) (h : gimbalref31_Neg.f k a0_0 a0_1 a0_2 = some (r1, r2, r3)) :
  Calls Tryd.prog 32 #[.agg #[.bool a0_0, .int .i64 a0_1, .int .i64 a0_2]] w fun e w' => e = .returned (.agg #[.bool r1, .int .i64 r2, .int .i64 r3]) ∧ Below w.heap.size w w' := by
 have hu23 := Tryd.underlying23
 have HB := Aside0.mk (Below.refl w.heap.size w)
 have H : (if a0_0 = true then ((gimbalref31_None.f).bind fun bt434 => (some (bt434.1, bt434.2.1, bt434.2.2))) else ((gimbalref31_size.f a0_1).bind fun t437 => ((gimbalref31_of.f k t437 (wrap64 (-a0_2))).bind fun bt438 => (some (bt438.1, bt438.2.1, bt438.2.2))))) = some (r1, r2, r3) := h
 clear h
 by_cases c2 : a0_0 = true
 ·
  subst c2
  have H1 : ((gimbalref31_None.f).bind fun bt434 => (some (bt434.1, bt434.2.1, bt434.2.2))) = some (r1, r2, r3) := by rw [if_pos rfl] at H; exact H
  clear H
  have H := H1
  clear H1
  replace H := Option.bind_eq_some_iff.mp H
  obtain ⟨⟨t434, t435, t436⟩, A30, H⟩ := H
  replace H : (some (t434, t435, t436)) = some (r1, r2, r3) := H
  have A3 := Aside0.mk A30
  clear A30
  simp only [Option.some.injEq, Prod.mk.injEq] at H
  obtain ⟨rfl, rfl, rfl⟩ := H
  go_enter Tryd.func32, Tryd.ntmps32
  go_wp2_with (first | ((with_reducible refine gate_dst (N := 1) rfl ?_); refine box_event ?hg (N := 1) ?hd (cs := #[.bool true, .int .i64 a0_1, .int .i64 a0_2]) (t := 23) ?hr ?_; (case hd => rfl); (case hg => rfl); (case hr => first | (go_simp; done) | (go_simp; rfl)); intro gb432 hg w4 hbox hb; have n0_ := kW HB hb; have n1_ := Aside0.mk (hbox); have n2_ := Aside0.mk ((by rw [hg]; exact (below_size (bS HB)) : w.heap.size ≤ gb432)); have n3_ := Aside0.mk ((by rw [hg]; exact (below_size (bS HB)) : w.heap.size ≤ gb432)); clear HB; have HB := n0_; have BK432 := n1_; have GW432 := n2_; have GE432 := n3_; clear n0_ n1_ n2_ n3_; clear hb hbox hg) | ((with_reducible refine gate_dst (N := 2) rfl ?_); refine box_event ?hg (N := 2) ?hd (cs := #[.bool false, .int .i64 0, .int .i64 0]) (t := 23) ?hr ?_; (case hd => rfl); (case hg => rfl); (case hr => first | (go_simp; done) | (go_simp; rfl)); intro gb433 hg w5 hbox hb; have n0_ := kB BK432 hb; have n1_ := kW HB hb; have n2_ := Aside0.mk (hbox); have n3_ := Aside0.mk ((by rw [hg]; exact (below_size (bS HB)) : w.heap.size ≤ gb433)); have n4_ := Aside0.mk ((by rw [hg]; exact (below_size (bS HB)) : w.heap.size ≤ gb433)); have n5_ := Aside0.mk ((by rw [hg]; exact Nat.ne_of_lt (blk_lt (bkS BK432)) : gb432 ≠ gb433)); have n6_ := Aside0.mk ((by rw [hg]; exact Nat.ne_of_gt (blk_lt (bkS BK432)) : gb433 ≠ gb432)); clear BK432; clear HB; have BK432 := n0_; have HB := n1_; have BK433 := n2_; have GW433 := n3_; have GE433 := n4_; have NB432_433 := n5_; have NB433_432 := n6_; clear n0_ n1_ n2_ n3_ n4_ n5_ n6_; clear hb hbox hg; have hnb6 := NB432_433.out; have hnc6 := NB433_432.out; have hcz7_0 := cz0 BK432; have hcz7_1 := cz1 BK432; have hcz7_2 := cz2 BK432; have hfz7_0 := fz BK432 0; have hfz7_1 := fz BK432 1; have hfz7_2 := fz BK432 2) | ((with_reducible refine gate_callee (f := 69) rfl ?_); refine goesL_ (some 5) rfl rfl Tryd.func69 (by kernel_rfl) rfl #[] rfl mS ?_; (with_reducible refine (gimbalref31_None.calls  t434 t435 t436 _ A3.out).mono ?_); rintro e w8 ⟨rfl, hb⟩; refine ⟨_, rfl, ?_⟩; replace BK432 := kB BK432 hb; replace BK433 := kB BK433 hb; replace HB := kW HB hb; (try clear hb); (try clear hb2); (try clear hk); (try clear hi); have hcz9_0 := cz0 BK433; have hcz9_1 := cz1 BK433; have hcz9_2 := cz2 BK433; have hfz9_0 := fz BK433 0; have hfz9_1 := fz BK433 1; have hfz9_2 := fz BK433 2))
  refine bodyPost_ret (results_cell_row rfl _ _ gb433 23 #[.bool t434, .int .i64 t435, .int .i64 t436] (0, 0) _ rfl (by (with_reducible repeat (first | refine b1 ?_ _ | refine b2 ?_ | refine b3 ?_ _)); refine blk_put (cs := #[.bool t434, .int .i64 t435, .int .i64 0]) ?_ 2 _ rfl; (with_reducible repeat (first | refine b1 ?_ _ | refine b2 ?_ | refine b3 ?_ _)); refine blk_put (cs := #[.bool t434, .int .i64 0, .int .i64 0]) ?_ 1 _ rfl; (with_reducible repeat (first | refine b1 ?_ _ | refine b2 ?_ | refine b3 ?_ _)); refine blk_put (cs := #[.bool false, .int .i64 0, .int .i64 0]) ?_ 0 _ rfl; (with_reducible repeat (first | refine b1 ?_ _ | refine b2 ?_ | refine b3 ?_ _)); exact BK433.out) Tryd.underlying23 rfl (by kernel_rfl)) rfl ?_
  exact ⟨eS, bS HB⟩
 ·
  replace c2 := Bool.eq_false_iff.mpr c2
  subst c2
  have H1 : ((gimbalref31_size.f a0_1).bind fun t437 => ((gimbalref31_of.f k t437 (wrap64 (-a0_2))).bind fun bt438 => (some (bt438.1, bt438.2.1, bt438.2.2)))) = some (r1, r2, r3) := by rw [if_neg (show ¬ (false = true) by decide)] at H; exact H
  clear H
  have H := H1
  clear H1
  replace H := Option.bind_eq_some_iff.mp H
  obtain ⟨t437, A100, H⟩ := H
  replace H : ((gimbalref31_of.f k t437 (wrap64 (-a0_2))).bind fun bt438 => (some (bt438.1, bt438.2.1, bt438.2.2))) = some (r1, r2, r3) := H
  have A10 := Aside0.mk A100
  clear A100
  replace H := Option.bind_eq_some_iff.mp H
  obtain ⟨⟨t438, t439, t440⟩, A110, H⟩ := H
  replace H : (some (t438, t439, t440)) = some (r1, r2, r3) := H
  have A11 := Aside0.mk A110
  clear A110
  simp only [Option.some.injEq, Prod.mk.injEq] at H
  obtain ⟨rfl, rfl, rfl⟩ := H
  go_enter Tryd.func32, Tryd.ntmps32
  try go_wp2_with (first | ((with_reducible refine gate_dst (N := 1) rfl ?_); refine box_event ?hg (N := 1) ?hd (cs := #[.bool false, .int .i64 a0_1, .int .i64 a0_2]) (t := 23) ?hr ?_; (case hd => rfl); (case hg => rfl); (case hr => first | (go_simp; done) | (go_simp; rfl)); intro gb432 hg w12 hbox hb; have n0_ := kW HB hb; have n1_ := Aside0.mk (hbox); have n2_ := Aside0.mk ((by rw [hg]; exact (below_size (bS HB)) : w.heap.size ≤ gb432)); have n3_ := Aside0.mk ((by rw [hg]; exact (below_size (bS HB)) : w.heap.size ≤ gb432)); clear HB; have HB := n0_; have BK432 := n1_; have GW432 := n2_; have GE432 := n3_; clear n0_ n1_ n2_ n3_; clear hb hbox hg) | ((with_reducible refine gate_dst (N := 2) rfl ?_); refine box_event ?hg (N := 2) ?hd (cs := #[.bool false, .int .i64 0, .int .i64 0]) (t := 23) ?hr ?_; (case hd => rfl); (case hg => rfl); (case hr => first | (go_simp; done) | (go_simp; rfl)); intro gb433 hg w13 hbox hb; have n0_ := kB BK432 hb; have n1_ := kW HB hb; have n2_ := Aside0.mk (hbox); have n3_ := Aside0.mk ((by rw [hg]; exact (below_size (bS HB)) : w.heap.size ≤ gb433)); have n4_ := Aside0.mk ((by rw [hg]; exact (below_size (bS HB)) : w.heap.size ≤ gb433)); have n5_ := Aside0.mk ((by rw [hg]; exact Nat.ne_of_lt (blk_lt (bkS BK432)) : gb432 ≠ gb433)); have n6_ := Aside0.mk ((by rw [hg]; exact Nat.ne_of_gt (blk_lt (bkS BK432)) : gb433 ≠ gb432)); clear BK432; clear HB; have BK432 := n0_; have HB := n1_; have BK433 := n2_; have GW433 := n3_; have GE433 := n4_; have NB432_433 := n5_; have NB433_432 := n6_; clear n0_ n1_ n2_ n3_ n4_ n5_ n6_; clear hb hbox hg; have hnb14 := NB432_433.out; have hnc14 := NB433_432.out; have hcz15_0 := cz0 BK432; have hcz15_1 := cz1 BK432; have hcz15_2 := cz2 BK432; have hfz15_0 := fz BK432 0; have hfz15_1 := fz BK432 1; have hfz15_2 := fz BK432 2))
  replace BK432 := Aside0.mk (blk_drew BK432.out)
  replace BK433 := Aside0.mk (blk_drew BK433.out)
  replace HB := Aside0.mk (below_drew1 HB.out)
  refine start_ (n := 8) (S := fun w' => w'.cell? ⟨gb432, 0, none⟩ = some (.bool false) ∧ w'.cell? ⟨gb432, 1, none⟩ = some (.int .i64 a0_1) ∧ w'.cell? ⟨gb432, 2, none⟩ = some (.int .i64 a0_2)) (ds := []) #[false, false, false, false, false, false, false, false] (by kernel_rfl) rfl rfl ⟨cz0 BK432, cz1 BK432, cz2 BK432⟩ (fun hHeld => ?_); refine with_tabW gimbalref31_Neg.tab3 gimbalref31_Neg.bits3 (fun HT_ HW_ => ?_)
  generalize w13.drew = w16 at BK432 BK433 HB hHeld ⊢
  refine pure_ (i := 0) (N := some 6) (v := ?_) (a' := ?_) #[true, false, false, false, false, false, false, false] rfl rfl (any_of HT_.out (by kernel_rfl)) (fun _ _ _ h => h) (Or.inl ⟨by rfl, ?_⟩) ?_ ?_
  rotate_left
  ·
   intro w'
   go_simp
   with_reducible rfl
  rotate_left
  ·
   simp only [Act.put, lA, lB, lC, i64_w, i32_w]
   rfl
  refine pure_ (i := 3) (N := some 9) (v := ?_) (a' := ?_) #[true, false, false, true, false, false, false, false] rfl rfl (any_of HT_.out (by kernel_rfl)) (fun _ _ _ h => h) (Or.inl ⟨by rfl, ?_⟩) ?_ ?_
  rotate_left
  ·
   intro w'
   go_simp
   with_reducible rfl
  rotate_left
  ·
   simp only [Act.put, lA, lB, lC, i64_w, i32_w]
   rfl
  refine take_ (i := 1) (N := some 7) (v := ?_) (a' := ?_) #[true, true, false, true, false, false, false, false] rfl rfl (take_ofW HT_.out HW_.out (by kernel_rfl)) (fun _ _ _ h => h) (Or.inl ⟨by rfl, ?_⟩) hHeld ?_ ?_
  rotate_left
  ·
   rintro w' ⟨s0, s1, s2⟩
   go_simp
   with_reducible rfl
  rotate_left
  ·
   simp only [Act.put, lA, lB, lC, i64_w, i32_w]
   rfl
  refine take_ (i := 4) (N := some 10) (v := ?_) (a' := ?_) #[true, true, false, true, true, false, false, false] rfl rfl (take_ofW HT_.out HW_.out (by kernel_rfl)) (fun _ _ _ h => h) (Or.inl ⟨by rfl, ?_⟩) hHeld ?_ ?_
  rotate_left
  ·
   rintro w' ⟨s0, s1, s2⟩
   go_simp
   with_reducible rfl
  rotate_left
  ·
   simp only [Act.put, lA, lB, lC, i64_w, i32_w]
   rfl
  refine pure_ (i := 5) (N := some 11) (v := ?_) (a' := ?_) #[true, true, false, true, true, true, false, false] rfl rfl (any_of HT_.out (by kernel_rfl)) (fun _ _ _ h => h) (Or.inl ⟨by rfl, ?_⟩) ?_ ?_
  rotate_left
  ·
   intro w'
   go_simp
   with_reducible rfl
  rotate_left
  ·
   simp only [Act.put, lA, lB, lC, i64_w, i32_w]
   rfl
  refine one_ (i := 2) (N := some 8) #[true, true, true, true, true, true, false, false] rfl rfl (one_of HT_.out (by kernel_rfl)) (by decide) (fun K hK => ?_)
  refine goes_ Tryd.func55 (by kernel_rfl) rfl #[.int .i64 a0_1] (by rfl) rfl rfl mS ?_
  with_reducible refine (gimbalref31_size.calls a0_1 t437 _ A10.out).mono ?_
  rintro e w' ⟨rfl, ⟨nd, rfl⟩⟩
  refine ⟨_, rfl, ?_⟩
  refine hK.out _ _ ⟨cz0 BK432, cz1 BK432, cz2 BK432⟩ (fun hHeld => ?_)
  clear hK K
  refine norm_ (a' := ?_) ?_ ?_
  rotate_left
  ·
   show Act.put _ (some 8) _ = _
   simp only [Act.put, lA, lB, lC, i64_w, i32_w]
   rfl
  refine one_ (i := 6) (N := some 12) #[true, true, true, true, true, true, true, false] rfl rfl (one_of HT_.out (by kernel_rfl)) (by decide) (fun K hK => ?_)
  refine goes_ Tryd.func79 (by kernel_rfl) rfl #[.int .u64 t437, .int .i64 (wrap64 (-a0_2))] (by rfl) rfl rfl mS ?_
  with_reducible refine (gimbalref31_of.calls k t437 (wrap64 (-a0_2)) t438 t439 t440 _ A11.out).mono ?_
  rintro e w17 ⟨rfl, hb⟩
  refine ⟨_, rfl, ?_⟩
  replace BK432 := kB BK432 hb
  replace BK433 := kB BK433 hb
  replace HB := kW HB hb
  (try clear hb)
  (try clear hb2)
  (try clear hk)
  (try clear hi)
  refine hK.out _ _ ⟨cz0 BK432, cz1 BK432, cz2 BK432⟩ (fun hHeld => ?_)
  clear hK K
  refine norm_ (a' := ?_) ?_ ?_
  rotate_left
  ·
   show Act.put _ (some 12) _ = _
   simp only [Act.put, lA, lB, lC, i64_w, i32_w]
   rfl
  refine one_ (i := 7) (N := none) #[true, true, true, true, true, true, true, true] rfl rfl (one_of HT_.out (by kernel_rfl)) (by decide) (fun K hK => ?_)
  have hs18 : w17.cell? ⟨gb433, 0, none⟩ = some (.bool false) := cz0 BK433
  have hfs18 := fz BK433 0
  have hns18_0 := NB432_433.out
  have hms18_0 := NB433_432.out
  have hs19 : w17.cell? ⟨gb433, 1, none⟩ = some (.int .i64 0) := cz1 BK433
  have hfs19 := fz BK433 1
  have hns19_0 := NB432_433.out
  have hms19_0 := NB433_432.out
  have hs20 : w17.cell? ⟨gb433, 2, none⟩ = some (.int .i64 0) := cz2 BK433
  have hfs20 := fz BK433 2
  have hns20_0 := NB432_433.out
  have hms20_0 := NB433_432.out
  refine skip_ (w1 := ?_) (by rfl) rfl ?_ ?_
  rotate_left
  ·
   go_simp
   rfl
  refine hK.out _ _ ⟨((cell_far (p := ⟨gb433, _, none⟩) NB432_433.out _).trans (((cell_far (p := ⟨gb433, _, none⟩) NB432_433.out _).trans (((cell_far (p := ⟨gb433, _, none⟩) NB432_433.out _).trans (hHeld.1)))))), ((cell_far (p := ⟨gb433, _, none⟩) NB432_433.out _).trans (((cell_far (p := ⟨gb433, _, none⟩) NB432_433.out _).trans (((cell_far (p := ⟨gb433, _, none⟩) NB432_433.out _).trans (hHeld.2.1)))))), ((cell_far (p := ⟨gb433, _, none⟩) NB432_433.out _).trans (((cell_far (p := ⟨gb433, _, none⟩) NB432_433.out _).trans (((cell_far (p := ⟨gb433, _, none⟩) NB432_433.out _).trans (hHeld.2.2))))))⟩ (fun hHeld => ?_)
  clear hK K
  refine done_ (done_of HT_.out (by kernel_rfl)) ?_
  try go_wp2
  refine bodyPost_ret (results_cell_row rfl _ _ gb433 23 #[.bool t438, .int .i64 t439, .int .i64 t440] (0, 0) _ rfl (by (with_reducible repeat (first | refine b1 ?_ _ | refine b2 ?_ | refine b3 ?_ _)); refine blk_put (cs := #[.bool t438, .int .i64 t439, .int .i64 0]) ?_ 2 _ rfl; (with_reducible repeat (first | refine b1 ?_ _ | refine b2 ?_ | refine b3 ?_ _)); refine blk_put (cs := #[.bool t438, .int .i64 0, .int .i64 0]) ?_ 1 _ rfl; (with_reducible repeat (first | refine b1 ?_ _ | refine b2 ?_ | refine b3 ?_ _)); refine blk_put (cs := #[.bool false, .int .i64 0, .int .i64 0]) ?_ 0 _ rfl; (with_reducible repeat (first | refine b1 ?_ _ | refine b2 ?_ | refine b3 ?_ _)); exact BK433.out) Tryd.underlying23 rfl (by kernel_rfl)) rfl ?_
  exact ⟨eS, bS HB⟩

def congr_Abs.j0 : Nat → Bool → Bool → Int → Int → Option (Bool × Int × Int)
 | 0, _, _, _, _ => none
 | k + 1, x9, x442000, x442001, x442002 => if x9 = true then (if x442002 < 0 then ((congr_constant.f (wrap64 (-x442002))).bind fun bt443 => (some (bt443.1, bt443.2.1, bt443.2.2))) else (some (x442000, x442001, x442002))) else ((congr_Neg.f k x442000 x442001 x442002).bind fun bt446 => ((congr_Join.f k x442000 x442001 x442002 bt446.1 bt446.2.1 bt446.2.2).bind fun bt449 => (some (bt449.1, bt449.2.1, bt449.2.2))))
def congr_Abs.f (k : Nat) (a0_0 : Bool) (a0_1 : Int) (a0_2 : Int) : Option (Bool × Int × Int) := if a0_0 = true then (congr_Abs.j0 k true a0_0 a0_1 a0_2) else (congr_Abs.j0 k (a0_1 == 0) a0_0 a0_1 a0_2)
set_option maxHeartbeats 8000000 in
set_option maxRecDepth 100000 in
theorem congr_Abs.calls (k : Nat) (a0_0 : Bool) (a0_1 : Int) (a0_2 : Int) (r1 : Bool) (r2 : Int) (r3 : Int) (w : World) (h : congr_Abs.f k a0_0 a0_1 a0_2 = some (r1, r2, r3)) :
  Calls Tryd.prog 33 #[.agg #[.bool a0_0, .int .i64 a0_1, .int .i64 a0_2]] w fun e w' => e = .returned (.agg #[.bool r1, .int .i64 r2, .int .i64 r3]) ∧ Below w.heap.size w w' := by
 have hu23 := Tryd.underlying23
 have HB := Aside0.mk (Below.refl w.heap.size w)
 have H : (if a0_0 = true then (congr_Abs.j0 k true a0_0 a0_1 a0_2) else (congr_Abs.j0 k (a0_1 == 0) a0_0 a0_1 a0_2)) = some (r1, r2, r3) := h
 clear h
 have HC2 := Aside0.mk H
 clear H
 go_enter Tryd.func33, Tryd.ntmps33
 go_upto_region 1 with (first | ((with_reducible refine gate_dst (N := 1) rfl ?_); refine box_event ?hg (N := 1) ?hd (cs := #[.bool a0_0, .int .i64 a0_1, .int .i64 a0_2]) (t := 23) ?hr ?_; (case hd => rfl); (case hg => rfl); (case hr => first | (go_simp; done) | (go_simp; rfl)); intro gb441 hg w3 hbox hb; have n0_ := kW HB hb; have n1_ := Aside0.mk (hbox); have n2_ := Aside0.mk ((by rw [hg]; exact (below_size (bS HB)) : w.heap.size ≤ gb441)); have n3_ := Aside0.mk ((by rw [hg]; exact (below_size (bS HB)) : w.heap.size ≤ gb441)); clear HB; have HB := n0_; have BK441 := n1_; have GW441 := n2_; have GE441 := n3_; clear n0_ n1_ n2_ n3_; clear hb hbox hg) | ((with_reducible refine gate_dst (N := 2) rfl ?_); refine box_event ?hg (N := 2) ?hd (cs := #[.bool false, .int .i64 0, .int .i64 0]) (t := 23) ?hr ?_; (case hd => rfl); (case hg => rfl); (case hr => first | (go_simp; done) | (go_simp; rfl)); intro gb442 hg w4 hbox hb; have n0_ := kB BK441 hb; have n1_ := kW HB hb; have n2_ := Aside0.mk (hbox); have n3_ := Aside0.mk ((by rw [hg]; exact (below_size (bS HB)) : w.heap.size ≤ gb442)); have n4_ := Aside0.mk ((by rw [hg]; exact (below_size (bS HB)) : w.heap.size ≤ gb442)); have n5_ := Aside0.mk ((by rw [hg]; exact Nat.ne_of_lt (blk_lt (bkS BK441)) : gb441 ≠ gb442)); have n6_ := Aside0.mk ((by rw [hg]; exact Nat.ne_of_gt (blk_lt (bkS BK441)) : gb442 ≠ gb441)); clear BK441; clear HB; have BK441 := n0_; have HB := n1_; have BK442 := n2_; have GW442 := n3_; have GE442 := n4_; have NB441_442 := n5_; have NB442_441 := n6_; clear n0_ n1_ n2_ n3_ n4_ n5_ n6_; clear hb hbox hg))
 (try simp only [Act.put, lA, lB, lC])
 go_cut [9] (fun v9 wc => ∃ (kq : Nat) (x9_1 : Bool), v9 = .bool x9_1 ∧ Aside0 (congr_Abs.j0 kq x9_1 a0_0 a0_1 a0_2 = some (r1, r2, r3)) ∧ Aside0 (kq ≤ k) ∧ Aside0 (wc.heap[gb441]? = some (.cells #[.bool a0_0, .int .i64 a0_1, .int .i64 a0_2] 23 (0, 0))) ∧ Aside0 (wc.heap[gb442]? = some (.cells #[.bool false, .int .i64 0, .int .i64 0] 23 (0, 0))) ∧ Aside0 (Below w.heap.size w wc))
 case first =>
  have H := HC2.out
  clear HC2
  by_cases c5 : a0_0 = true
  ·
   subst c5
   have H1 : (congr_Abs.j0 k true true a0_1 a0_2) = some (r1, r2, r3) := by rw [if_pos rfl] at H; exact H
   clear H
   have H := H1
   clear H1
   have H' := Aside0.mk H
   clear H
   have hnb6 := NB441_442.out
   have hnc6 := NB442_441.out
   have hcz7_0 := cz0 BK441
   have hcz7_1 := cz1 BK441
   have hcz7_2 := cz2 BK441
   have hfz7_0 := fz BK441 0
   have hfz7_1 := fz BK441 1
   have hfz7_2 := fz BK441 2
   go_wp2
   go_meet
   case rel => exact ⟨_, (true), (by first | rfl | (simp; done) | (simp [*]; done)), H', ⟨by first | omega | exact Nat.le_refl _⟩, ⟨bkS BK441⟩, ⟨bkS BK442⟩, ⟨bS HB⟩⟩
  ·
   replace c5 := Bool.eq_false_iff.mpr c5
   subst c5
   have H1 : (congr_Abs.j0 k (a0_1 == 0) false a0_1 a0_2) = some (r1, r2, r3) := by rw [if_neg (show ¬ (false = true) by decide)] at H; exact H
   clear H
   have H := H1
   clear H1
   have H' := Aside0.mk H
   clear H
   have hnb8 := NB441_442.out
   have hnc8 := NB442_441.out
   have hcz9_0 := cz0 BK441
   have hcz9_1 := cz1 BK441
   have hcz9_2 := cz2 BK441
   have hfz9_0 := fz BK441 0
   have hfz9_1 := fz BK441 1
   have hfz9_2 := fz BK441 2
   go_wp2
   go_meet
   case rel => exact ⟨_, ((a0_1 == 0)), (by first | rfl | (simp; done) | (simp [*]; done)), H', ⟨by first | omega | exact Nat.le_refl _⟩, ⟨bkS BK441⟩, ⟨bkS BK442⟩, ⟨bS HB⟩⟩
 case rest =>
  clear HC2
  try clear p2
  try clear c3
  try clear c5
  try clear c6
  try clear c8
  try clear hcz7_0
  try clear hcz7_1
  try clear hcz7_2
  try clear hcz9_0
  try clear hcz9_1
  try clear hcz9_2
  try clear hfz7_0
  try clear hfz7_1
  try clear hfz7_2
  try clear hfz9_0
  try clear hfz9_1
  try clear hfz9_2
  obtain ⟨kq, x9_1, rfl, HA, HJ1, BK441, BK442, HB⟩ := hcut
  cases kq with
  | zero => exact absurd HA.out (by simp [congr_Abs.j0])
  | succ kj1 =>
   have H := HA.out
   clear HA
   simp only [congr_Abs.j0] at H
   by_cases c10 : x9_1 = true
   ·
    subst c10
    have H1 : (if a0_2 < 0 then ((congr_constant.f (wrap64 (-a0_2))).bind fun bt443 => (some (bt443.1, bt443.2.1, bt443.2.2))) else (some (a0_0, a0_1, a0_2))) = some (r1, r2, r3) := by rw [if_pos rfl] at H; exact H
    clear H
    have H := H1
    clear H1
    by_cases c11 : a0_2 < 0
    ·
     rw [if_pos c11] at H
     have c11b0 : decide (a0_2 < 0) = true := decide_eq_true c11
     clear c11
     replace H := Option.bind_eq_some_iff.mp H
     obtain ⟨⟨t443, t444, t445⟩, A120, H⟩ := H
     replace H : (some (t443, t444, t445)) = some (r1, r2, r3) := H
     have A12 := Aside0.mk A120
     clear A120
     simp only [Option.some.injEq, Prod.mk.injEq] at H
     obtain ⟨rfl, rfl, rfl⟩ := H
     have hnb13 := NB441_442.out
     have hnc13 := NB442_441.out
     have hcz14_0 : wc.cell? ⟨gb441, 0, none⟩ = some (.bool a0_0) := cz0 BK441
     have hcz14_1 : wc.cell? ⟨gb441, 1, none⟩ = some (.int .i64 a0_1) := cz1 BK441
     have hcz14_2 : wc.cell? ⟨gb441, 2, none⟩ = some (.int .i64 a0_2) := cz2 BK441
     have hfz14_0 := fz BK441 0
     have hfz14_1 := fz BK441 1
     have hfz14_2 := fz BK441 2
     go_wp2_with (first | ((with_reducible refine gate_callee (f := 50) rfl ?_); refine goesL_ (some 16) rfl rfl Tryd.func50 (by kernel_rfl) rfl #[.int .i64 (wrap64 (-a0_2))] rfl mS ?_; (with_reducible refine (congr_constant.calls (wrap64 (-a0_2)) t443 t444 t445 _ A12.out).mono ?_); rintro e w15 ⟨rfl, hb⟩; refine ⟨_, rfl, ?_⟩; replace BK441 := kB BK441 hb; replace BK442 := kB BK442 hb; replace HB := kW HB hb; (try clear hb); (try clear hb2); (try clear hk); (try clear hi); have hcz16_0 := cz0 BK442; have hcz16_1 := cz1 BK442; have hcz16_2 := cz2 BK442; have hfz16_0 := fz BK442 0; have hfz16_1 := fz BK442 1; have hfz16_2 := fz BK442 2))
     refine bodyPost_ret (results_cell_row rfl _ _ gb442 23 #[.bool t443, .int .i64 t444, .int .i64 t445] (0, 0) _ rfl (by (with_reducible repeat (first | refine b1 ?_ _ | refine b2 ?_ | refine b3 ?_ _)); refine blk_put (cs := #[.bool t443, .int .i64 t444, .int .i64 0]) ?_ 2 _ rfl; (with_reducible repeat (first | refine b1 ?_ _ | refine b2 ?_ | refine b3 ?_ _)); refine blk_put (cs := #[.bool t443, .int .i64 0, .int .i64 0]) ?_ 1 _ rfl; (with_reducible repeat (first | refine b1 ?_ _ | refine b2 ?_ | refine b3 ?_ _)); refine blk_put (cs := #[.bool false, .int .i64 0, .int .i64 0]) ?_ 0 _ rfl; (with_reducible repeat (first | refine b1 ?_ _ | refine b2 ?_ | refine b3 ?_ _)); exact BK442.out) Tryd.underlying23 rfl (by kernel_rfl)) rfl ?_
     exact ⟨eS, bS HB⟩
    ·
     rw [if_neg c11] at H
     have c11b0 : decide (a0_2 < 0) = false := decide_eq_false c11
     clear c11
     simp only [Option.some.injEq, Prod.mk.injEq] at H
     obtain ⟨rfl, rfl, rfl⟩ := H
     have hnb17 := NB441_442.out
     have hnc17 := NB442_441.out
     have hcz18_0 : wc.cell? ⟨gb441, 0, none⟩ = some (.bool a0_0) := cz0 BK441
     have hcz18_1 : wc.cell? ⟨gb441, 1, none⟩ = some (.int .i64 a0_1) := cz1 BK441
     have hcz18_2 : wc.cell? ⟨gb441, 2, none⟩ = some (.int .i64 a0_2) := cz2 BK441
     have hfz18_0 := fz BK441 0
     have hfz18_1 := fz BK441 1
     have hfz18_2 := fz BK441 2
     have hcz19_0 : wc.cell? ⟨gb442, 0, none⟩ = some (.bool false) := cz0 BK442
     have hcz19_1 : wc.cell? ⟨gb442, 1, none⟩ = some (.int .i64 0) := cz1 BK442
     have hcz19_2 : wc.cell? ⟨gb442, 2, none⟩ = some (.int .i64 0) := cz2 BK442
     have hfz19_0 := fz BK442 0
     have hfz19_1 := fz BK442 1
     have hfz19_2 := fz BK442 2
     go_wp2
     refine bodyPost_ret (results_cell_row rfl _ _ gb442 23 #[.bool a0_0, .int .i64 a0_1, .int .i64 a0_2] (0, 0) _ rfl (by (with_reducible repeat (first | refine b1 ?_ _ | refine b2 ?_ | refine b3 ?_ _)); refine blk_put (cs := #[.bool a0_0, .int .i64 a0_1, .int .i64 0]) ?_ 2 _ rfl; (with_reducible repeat (first | refine b1 ?_ _ | refine b2 ?_ | refine b3 ?_ _)); refine blk_put (cs := #[.bool a0_0, .int .i64 0, .int .i64 0]) ?_ 1 _ rfl; (with_reducible repeat (first | refine b1 ?_ _ | refine b2 ?_ | refine b3 ?_ _)); refine blk_put (cs := #[.bool false, .int .i64 0, .int .i64 0]) ?_ 0 _ rfl; (with_reducible repeat (first | refine b1 ?_ _ | refine b2 ?_ | refine b3 ?_ _)); exact BK442.out) Tryd.underlying23 rfl (by kernel_rfl)) rfl ?_
     exact ⟨eS, bS HB⟩
   ·
    replace c10 := Bool.eq_false_iff.mpr c10
    subst c10
    have H1 : ((congr_Neg.f kj1 a0_0 a0_1 a0_2).bind fun bt446 => ((congr_Join.f kj1 a0_0 a0_1 a0_2 bt446.1 bt446.2.1 bt446.2.2).bind fun bt449 => (some (bt449.1, bt449.2.1, bt449.2.2)))) = some (r1, r2, r3) := by rw [if_neg (show ¬ (false = true) by decide)] at H; exact H
    clear H
    have H := H1
    clear H1
    replace H := Option.bind_eq_some_iff.mp H
    obtain ⟨⟨t446, t447, t448⟩, A200, H⟩ := H
    replace H : ((congr_Join.f kj1 a0_0 a0_1 a0_2 t446 t447 t448).bind fun bt449 => (some (bt449.1, bt449.2.1, bt449.2.2))) = some (r1, r2, r3) := H
    have A20 := Aside0.mk A200
    clear A200
    replace H := Option.bind_eq_some_iff.mp H
    obtain ⟨⟨t449, t450, t451⟩, A210, H⟩ := H
    replace H : (some (t449, t450, t451)) = some (r1, r2, r3) := H
    have A21 := Aside0.mk A210
    clear A210
    simp only [Option.some.injEq, Prod.mk.injEq] at H
    obtain ⟨rfl, rfl, rfl⟩ := H
    try go_wp2
    replace BK441 := Aside0.mk (blk_drew BK441.out)
    replace BK442 := Aside0.mk (blk_drew BK442.out)
    replace HB := Aside0.mk (below_drew1 HB.out)
    refine start_ (n := 5) (S := fun w' => w'.cell? ⟨gb441, 0, none⟩ = some (.bool a0_0) ∧ w'.cell? ⟨gb441, 1, none⟩ = some (.int .i64 a0_1) ∧ w'.cell? ⟨gb441, 2, none⟩ = some (.int .i64 a0_2)) (ds := []) #[false, false, false, false, false] (by kernel_rfl) rfl rfl ⟨cz0 BK441, cz1 BK441, cz2 BK441⟩ (fun hHeld => ?_)
    generalize wc.drew = w22 at BK441 BK442 HB hHeld ⊢
    refine take_ (i := 0) (N := some 18) (v := ?_) (a' := ?_) #[true, false, false, false, false] rfl rfl (by kernel_rfl) (fun _ _ _ h => h) (Or.inl ⟨by rfl, ?_⟩) hHeld ?_ ?_
    rotate_left
    ·
     rintro w' ⟨s0, s1, s2⟩
     go_simp
     with_reducible rfl
    rotate_left
    ·
     simp only [Act.put, lA, lB, lC, i64_w, i32_w]
     rfl
    refine take_ (i := 1) (N := some 19) (v := ?_) (a' := ?_) #[true, true, false, false, false] rfl rfl (by kernel_rfl) (fun _ _ _ h => h) (Or.inl ⟨by rfl, ?_⟩) hHeld ?_ ?_
    rotate_left
    ·
     rintro w' ⟨s0, s1, s2⟩
     go_simp
     with_reducible rfl
    rotate_left
    ·
     simp only [Act.put, lA, lB, lC, i64_w, i32_w]
     rfl
    refine one_ (i := 2) (N := some 20) #[true, true, true, false, false] rfl rfl (by kernel_rfl) (by decide) (fun K hK => ?_)
    refine goes_ Tryd.func31 (by kernel_rfl) rfl #[.agg #[.bool a0_0, .int .i64 a0_1, .int .i64 a0_2]] (by rfl) rfl rfl mS ?_
    with_reducible refine (congr_Neg.calls kj1 a0_0 a0_1 a0_2 t446 t447 t448 _ A20.out).mono ?_
    rintro e w23 ⟨rfl, hb⟩
    refine ⟨_, rfl, ?_⟩
    replace BK441 := kB BK441 hb
    replace BK442 := kB BK442 hb
    replace HB := kW HB hb
    (try clear hb)
    (try clear hb2)
    (try clear hk)
    (try clear hi)
    refine hK.out _ _ ⟨cz0 BK441, cz1 BK441, cz2 BK441⟩ (fun hHeld => ?_)
    clear hK K
    refine norm_ (a' := ?_) ?_ ?_
    rotate_left
    ·
     show Act.put _ (some 20) _ = _
     simp only [Act.put, lA, lB, lC, i64_w, i32_w]
     rfl
    refine one_ (i := 3) (N := some 21) #[true, true, true, true, false] rfl rfl (by kernel_rfl) (by decide) (fun K hK => ?_)
    refine goes_ Tryd.func19 (by kernel_rfl) rfl #[.agg #[.bool a0_0, .int .i64 a0_1, .int .i64 a0_2], .agg #[.bool t446, .int .i64 t447, .int .i64 t448]] (by rfl) rfl rfl mS ?_
    with_reducible refine (congr_Join.calls kj1 a0_0 a0_1 a0_2 t446 t447 t448 t449 t450 t451 _ A21.out).mono ?_
    rintro e w24 ⟨rfl, hb⟩
    refine ⟨_, rfl, ?_⟩
    replace BK441 := kB BK441 hb
    replace BK442 := kB BK442 hb
    replace HB := kW HB hb
    (try clear hb)
    (try clear hb2)
    (try clear hk)
    (try clear hi)
    refine hK.out _ _ ⟨cz0 BK441, cz1 BK441, cz2 BK441⟩ (fun hHeld => ?_)
    clear hK K
    refine norm_ (a' := ?_) ?_ ?_
    rotate_left
    ·
     show Act.put _ (some 21) _ = _
     simp only [Act.put, lA, lB, lC, i64_w, i32_w]
     rfl
    refine one_ (i := 4) (N := none) #[true, true, true, true, true] rfl rfl (by kernel_rfl) (by decide) (fun K hK => ?_)
    have hs25 : w24.cell? ⟨gb442, 0, none⟩ = some (.bool false) := cz0 BK442
    have hfs25 := fz BK442 0
    have hns25_0 := NB441_442.out
    have hms25_0 := NB442_441.out
    have hs26 : w24.cell? ⟨gb442, 1, none⟩ = some (.int .i64 0) := cz1 BK442
    have hfs26 := fz BK442 1
    have hns26_0 := NB441_442.out
    have hms26_0 := NB442_441.out
    have hs27 : w24.cell? ⟨gb442, 2, none⟩ = some (.int .i64 0) := cz2 BK442
    have hfs27 := fz BK442 2
    have hns27_0 := NB441_442.out
    have hms27_0 := NB442_441.out
    refine skip_ (w1 := ?_) (by rfl) rfl ?_ ?_
    rotate_left
    ·
     go_simp
     rfl
    refine hK.out _ _ ⟨((cell_far (p := ⟨gb442, _, none⟩) NB441_442.out _).trans (((cell_far (p := ⟨gb442, _, none⟩) NB441_442.out _).trans (((cell_far (p := ⟨gb442, _, none⟩) NB441_442.out _).trans (hHeld.1)))))), ((cell_far (p := ⟨gb442, _, none⟩) NB441_442.out _).trans (((cell_far (p := ⟨gb442, _, none⟩) NB441_442.out _).trans (((cell_far (p := ⟨gb442, _, none⟩) NB441_442.out _).trans (hHeld.2.1)))))), ((cell_far (p := ⟨gb442, _, none⟩) NB441_442.out _).trans (((cell_far (p := ⟨gb442, _, none⟩) NB441_442.out _).trans (((cell_far (p := ⟨gb442, _, none⟩) NB441_442.out _).trans (hHeld.2.2))))))⟩ (fun hHeld => ?_)
    clear hK K
    refine done_ (by kernel_rfl) ?_
    try go_wp2
    refine bodyPost_ret (results_cell_row rfl _ _ gb442 23 #[.bool t449, .int .i64 t450, .int .i64 t451] (0, 0) _ rfl (by (with_reducible repeat (first | refine b1 ?_ _ | refine b2 ?_ | refine b3 ?_ _)); refine blk_put (cs := #[.bool t449, .int .i64 t450, .int .i64 0]) ?_ 2 _ rfl; (with_reducible repeat (first | refine b1 ?_ _ | refine b2 ?_ | refine b3 ?_ _)); refine blk_put (cs := #[.bool t449, .int .i64 0, .int .i64 0]) ?_ 1 _ rfl; (with_reducible repeat (first | refine b1 ?_ _ | refine b2 ?_ | refine b3 ?_ _)); refine blk_put (cs := #[.bool false, .int .i64 0, .int .i64 0]) ?_ 0 _ rfl; (with_reducible repeat (first | refine b1 ?_ _ | refine b2 ?_ | refine b3 ?_ _)); exact BK442.out) Tryd.underlying23 rfl (by kernel_rfl)) rfl ?_
    exact ⟨eS, bS HB⟩

def gimbalref31_Abs.f (k : Nat) (a0_0 : Bool) (a0_1 : Int) (a0_2 : Int) : Option (Bool × Int × Int) := if a0_0 = true then ((gimbalref31_None.f).bind fun bt454 => (some (bt454.1, bt454.2.1, bt454.2.2))) else (if a0_1 = 0 then ((gimbalref31_Of.f k 0 (mx a0_2 (wrap64 (-a0_2)))).bind fun bt457 => (some (bt457.1, bt457.2.1, bt457.2.2))) else ((gimbalref31_Neg.f k a0_0 a0_1 a0_2).bind fun bt460 => ((gimbalref31_Join.f k a0_0 a0_1 a0_2 bt460.1 bt460.2.1 bt460.2.2).bind fun bt463 => (some (bt463.1, bt463.2.1, bt463.2.2)))))
set_option maxHeartbeats 8000000 in
set_option maxRecDepth 100000 in
theorem gimbalref31_Abs.calls (k : Nat) (a0_0 : Bool) (a0_1 : Int) (a0_2 : Int) (r1 : Bool) (r2 : Int) (r3 : Int) (w : World) (h : gimbalref31_Abs.f k a0_0 a0_1 a0_2 = some (r1, r2, r3)) :
  Calls Tryd.prog 34 #[.agg #[.bool a0_0, .int .i64 a0_1, .int .i64 a0_2]] w fun e w' => e = .returned (.agg #[.bool r1, .int .i64 r2, .int .i64 r3]) ∧ Below w.heap.size w w' := by
 have hu23 := Tryd.underlying23
 have HB := Aside0.mk (Below.refl w.heap.size w)
 have H : (if a0_0 = true then ((gimbalref31_None.f).bind fun bt454 => (some (bt454.1, bt454.2.1, bt454.2.2))) else (if a0_1 = 0 then ((gimbalref31_Of.f k 0 (mx a0_2 (wrap64 (-a0_2)))).bind fun bt457 => (some (bt457.1, bt457.2.1, bt457.2.2))) else ((gimbalref31_Neg.f k a0_0 a0_1 a0_2).bind fun bt460 => ((gimbalref31_Join.f k a0_0 a0_1 a0_2 bt460.1 bt460.2.1 bt460.2.2).bind fun bt463 => (some (bt463.1, bt463.2.1, bt463.2.2)))))) = some (r1, r2, r3) := h
 clear h
 by_cases c2 : a0_0 = true
 ·
  subst c2
  have H1 : ((gimbalref31_None.f).bind fun bt454 => (some (bt454.1, bt454.2.1, bt454.2.2))) = some (r1, r2, r3) := by rw [if_pos rfl] at H; exact H
  clear H
  have H := H1
  clear H1
  replace H := Option.bind_eq_some_iff.mp H
  obtain ⟨⟨t454, t455, t456⟩, A30, H⟩ := H
  replace H : (some (t454, t455, t456)) = some (r1, r2, r3) := H
  have A3 := Aside0.mk A30
  clear A30
  simp only [Option.some.injEq, Prod.mk.injEq] at H
  obtain ⟨rfl, rfl, rfl⟩ := H
  go_enter Tryd.func34, Tryd.ntmps34
  go_wp2_with (first | ((with_reducible refine gate_dst (N := 1) rfl ?_); refine box_event ?hg (N := 1) ?hd (cs := #[.bool true, .int .i64 a0_1, .int .i64 a0_2]) (t := 23) ?hr ?_; (case hd => rfl); (case hg => rfl); (case hr => first | (go_simp; done) | (go_simp; rfl)); intro gb452 hg w4 hbox hb; have n0_ := kW HB hb; have n1_ := Aside0.mk (hbox); have n2_ := Aside0.mk ((by rw [hg]; exact (below_size (bS HB)) : w.heap.size ≤ gb452)); have n3_ := Aside0.mk ((by rw [hg]; exact (below_size (bS HB)) : w.heap.size ≤ gb452)); clear HB; have HB := n0_; have BK452 := n1_; have GW452 := n2_; have GE452 := n3_; clear n0_ n1_ n2_ n3_; clear hb hbox hg) | ((with_reducible refine gate_dst (N := 2) rfl ?_); refine box_event ?hg (N := 2) ?hd (cs := #[.bool false, .int .i64 0, .int .i64 0]) (t := 23) ?hr ?_; (case hd => rfl); (case hg => rfl); (case hr => first | (go_simp; done) | (go_simp; rfl)); intro gb453 hg w5 hbox hb; have n0_ := kB BK452 hb; have n1_ := kW HB hb; have n2_ := Aside0.mk (hbox); have n3_ := Aside0.mk ((by rw [hg]; exact (below_size (bS HB)) : w.heap.size ≤ gb453)); have n4_ := Aside0.mk ((by rw [hg]; exact (below_size (bS HB)) : w.heap.size ≤ gb453)); have n5_ := Aside0.mk ((by rw [hg]; exact Nat.ne_of_lt (blk_lt (bkS BK452)) : gb452 ≠ gb453)); have n6_ := Aside0.mk ((by rw [hg]; exact Nat.ne_of_gt (blk_lt (bkS BK452)) : gb453 ≠ gb452)); clear BK452; clear HB; have BK452 := n0_; have HB := n1_; have BK453 := n2_; have GW453 := n3_; have GE453 := n4_; have NB452_453 := n5_; have NB453_452 := n6_; clear n0_ n1_ n2_ n3_ n4_ n5_ n6_; clear hb hbox hg; have hnb6 := NB452_453.out; have hnc6 := NB453_452.out; have hcz7_0 := cz0 BK452; have hcz7_1 := cz1 BK452; have hcz7_2 := cz2 BK452; have hfz7_0 := fz BK452 0; have hfz7_1 := fz BK452 1; have hfz7_2 := fz BK452 2) | ((with_reducible refine gate_callee (f := 69) rfl ?_); refine goesL_ (some 5) rfl rfl Tryd.func69 (by kernel_rfl) rfl #[] rfl mS ?_; (with_reducible refine (gimbalref31_None.calls  t454 t455 t456 _ A3.out).mono ?_); rintro e w8 ⟨rfl, hb⟩; refine ⟨_, rfl, ?_⟩; replace BK452 := kB BK452 hb; replace BK453 := kB BK453 hb; replace HB := kW HB hb; (try clear hb); (try clear hb2); (try clear hk); (try clear hi); have hcz9_0 := cz0 BK453; have hcz9_1 := cz1 BK453; have hcz9_2 := cz2 BK453; have hfz9_0 := fz BK453 0; have hfz9_1 := fz BK453 1; have hfz9_2 := fz BK453 2))
  refine bodyPost_ret (results_cell_row rfl _ _ gb453 23 #[.bool t454, .int .i64 t455, .int .i64 t456] (0, 0) _ rfl (by (with_reducible repeat (first | refine b1 ?_ _ | refine b2 ?_ | refine b3 ?_ _)); refine blk_put (cs := #[.bool t454, .int .i64 t455, .int .i64 0]) ?_ 2 _ rfl; (with_reducible repeat (first | refine b1 ?_ _ | refine b2 ?_ | refine b3 ?_ _)); refine blk_put (cs := #[.bool t454, .int .i64 0, .int .i64 0]) ?_ 1 _ rfl; (with_reducible repeat (first | refine b1 ?_ _ | refine b2 ?_ | refine b3 ?_ _)); refine blk_put (cs := #[.bool false, .int .i64 0, .int .i64 0]) ?_ 0 _ rfl; (with_reducible repeat (first | refine b1 ?_ _ | refine b2 ?_ | refine b3 ?_ _)); exact BK453.out) Tryd.underlying23 rfl (by kernel_rfl)) rfl ?_
  exact ⟨eS, bS HB⟩
 ·
  replace c2 := Bool.eq_false_iff.mpr c2
  subst c2
  have H1 : (if a0_1 = 0 then ((gimbalref31_Of.f k 0 (mx a0_2 (wrap64 (-a0_2)))).bind fun bt457 => (some (bt457.1, bt457.2.1, bt457.2.2))) else ((gimbalref31_Neg.f k false a0_1 a0_2).bind fun bt460 => ((gimbalref31_Join.f k false a0_1 a0_2 bt460.1 bt460.2.1 bt460.2.2).bind fun bt463 => (some (bt463.1, bt463.2.1, bt463.2.2))))) = some (r1, r2, r3) := by rw [if_neg (show ¬ (false = true) by decide)] at H; exact H
  clear H
  have H := H1
  clear H1
  by_cases c10 : a0_1 = 0
  ·
   rw [if_pos c10] at H
   have c10b0 : (a0_1 == 0) = true := beq_iff_eq.mpr c10
   have c10b1 : (a0_1 != 0) = false := bne_eq_false_iff_eq.mpr c10
   clear c10
   obtain ⟨ji11, hji11⟩ : ∃ j_ : Int, (mx a0_2 (wrap64 (-a0_2))) = j_ := ⟨_, rfl⟩
   replace H : ((gimbalref31_Of.f k 0 (ji11)).bind fun bt457 => (some (bt457.1, bt457.2.1, bt457.2.2))) = some (r1, r2, r3) := by first | (rw [hji11] at H; exact H) | (simp only [hji11] at H ⊢; exact H)
   have hji11_ : (if a0_2 < (wrap64 (-a0_2)) then (wrap64 (-a0_2)) else a0_2) = ji11 := hji11
   replace H := Option.bind_eq_some_iff.mp H
   obtain ⟨⟨t457, t458, t459⟩, A120, H⟩ := H
   replace H : (some (t457, t458, t459)) = some (r1, r2, r3) := H
   have A12 := Aside0.mk A120
   clear A120
   simp only [Option.some.injEq, Prod.mk.injEq] at H
   obtain ⟨rfl, rfl, rfl⟩ := H
   go_enter Tryd.func34, Tryd.ntmps34
   go_wp2_with (first | ((with_reducible refine gate_dst (N := 1) rfl ?_); refine box_event ?hg (N := 1) ?hd (cs := #[.bool false, .int .i64 a0_1, .int .i64 a0_2]) (t := 23) ?hr ?_; (case hd => rfl); (case hg => rfl); (case hr => first | (go_simp; done) | (go_simp; rfl)); intro gb452 hg w13 hbox hb; have n0_ := kW HB hb; have n1_ := Aside0.mk (hbox); have n2_ := Aside0.mk ((by rw [hg]; exact (below_size (bS HB)) : w.heap.size ≤ gb452)); have n3_ := Aside0.mk ((by rw [hg]; exact (below_size (bS HB)) : w.heap.size ≤ gb452)); clear HB; have HB := n0_; have BK452 := n1_; have GW452 := n2_; have GE452 := n3_; clear n0_ n1_ n2_ n3_; clear hb hbox hg) | ((with_reducible refine gate_dst (N := 2) rfl ?_); refine box_event ?hg (N := 2) ?hd (cs := #[.bool false, .int .i64 0, .int .i64 0]) (t := 23) ?hr ?_; (case hd => rfl); (case hg => rfl); (case hr => first | (go_simp; done) | (go_simp; rfl)); intro gb453 hg w14 hbox hb; have n0_ := kB BK452 hb; have n1_ := kW HB hb; have n2_ := Aside0.mk (hbox); have n3_ := Aside0.mk ((by rw [hg]; exact (below_size (bS HB)) : w.heap.size ≤ gb453)); have n4_ := Aside0.mk ((by rw [hg]; exact (below_size (bS HB)) : w.heap.size ≤ gb453)); have n5_ := Aside0.mk ((by rw [hg]; exact Nat.ne_of_lt (blk_lt (bkS BK452)) : gb452 ≠ gb453)); have n6_ := Aside0.mk ((by rw [hg]; exact Nat.ne_of_gt (blk_lt (bkS BK452)) : gb453 ≠ gb452)); clear BK452; clear HB; have BK452 := n0_; have HB := n1_; have BK453 := n2_; have GW453 := n3_; have GE453 := n4_; have NB452_453 := n5_; have NB453_452 := n6_; clear n0_ n1_ n2_ n3_ n4_ n5_ n6_; clear hb hbox hg; have hnb15 := NB452_453.out; have hnc15 := NB453_452.out; have hcz16_0 := cz0 BK452; have hcz16_1 := cz1 BK452; have hcz16_2 := cz2 BK452; have hfz16_0 := fz BK452 0; have hfz16_1 := fz BK452 1; have hfz16_2 := fz BK452 2) | ((with_reducible refine gate_callee (f := 11) rfl ?_); refine goesL_ (some 15) rfl rfl Tryd.func11 (by kernel_rfl) rfl #[.int .i64 0, .int .i64 ji11] rfl (by (try simp only [List.map_toArray, List.map_cons, List.map_nil]); first | done | (simp only [hji11]; rfl) | rfl | (simp only [List.length_drop, List.length_take]; rfl)) ?_; (with_reducible refine (gimbalref31_Of.calls k 0 ji11 t457 t458 t459 _ A12.out).mono ?_); rintro e w17 ⟨rfl, hb⟩; refine ⟨_, rfl, ?_⟩; replace BK452 := kB BK452 hb; replace BK453 := kB BK453 hb; replace HB := kW HB hb; (try clear hb); (try clear hb2); (try clear hk); (try clear hi); have hcz18_0 := cz0 BK453; have hcz18_1 := cz1 BK453; have hcz18_2 := cz2 BK453; have hfz18_0 := fz BK453 0; have hfz18_1 := fz BK453 1; have hfz18_2 := fz BK453 2))
   refine bodyPost_ret (results_cell_row rfl _ _ gb453 23 #[.bool t457, .int .i64 t458, .int .i64 t459] (0, 0) _ rfl (by (with_reducible repeat (first | refine b1 ?_ _ | refine b2 ?_ | refine b3 ?_ _)); refine blk_put (cs := #[.bool t457, .int .i64 t458, .int .i64 0]) ?_ 2 _ rfl; (with_reducible repeat (first | refine b1 ?_ _ | refine b2 ?_ | refine b3 ?_ _)); refine blk_put (cs := #[.bool t457, .int .i64 0, .int .i64 0]) ?_ 1 _ rfl; (with_reducible repeat (first | refine b1 ?_ _ | refine b2 ?_ | refine b3 ?_ _)); refine blk_put (cs := #[.bool false, .int .i64 0, .int .i64 0]) ?_ 0 _ rfl; (with_reducible repeat (first | refine b1 ?_ _ | refine b2 ?_ | refine b3 ?_ _)); exact BK453.out) Tryd.underlying23 rfl (by kernel_rfl)) rfl ?_
   exact ⟨by first | rfl | (simp [errW_none, errW_some] <;> rfl) | (simp only [← hji11]; first | rfl | (simp [errW_none, errW_some] <;> rfl)) | (simp [*, errW_none, errW_some] <;> rfl), bS HB⟩
  ·
   rw [if_neg c10] at H
   have c10b0 : (a0_1 == 0) = false := beq_eq_false_iff_ne.mpr c10
   have c10b1 : (a0_1 != 0) = true := bne_iff_ne.mpr c10
   replace H := Option.bind_eq_some_iff.mp H
   obtain ⟨⟨t460, t461, t462⟩, A190, H⟩ := H
   replace H : ((gimbalref31_Join.f k false a0_1 a0_2 t460 t461 t462).bind fun bt463 => (some (bt463.1, bt463.2.1, bt463.2.2))) = some (r1, r2, r3) := H
   have A19 := Aside0.mk A190
   clear A190
   replace H := Option.bind_eq_some_iff.mp H
   obtain ⟨⟨t463, t464, t465⟩, A200, H⟩ := H
   replace H : (some (t463, t464, t465)) = some (r1, r2, r3) := H
   have A20 := Aside0.mk A200
   clear A200
   simp only [Option.some.injEq, Prod.mk.injEq] at H
   obtain ⟨rfl, rfl, rfl⟩ := H
   go_enter Tryd.func34, Tryd.ntmps34
   try go_wp2_with (first | ((with_reducible refine gate_dst (N := 1) rfl ?_); refine box_event ?hg (N := 1) ?hd (cs := #[.bool false, .int .i64 a0_1, .int .i64 a0_2]) (t := 23) ?hr ?_; (case hd => rfl); (case hg => rfl); (case hr => first | (go_simp; done) | (go_simp; rfl)); intro gb452 hg w21 hbox hb; have n0_ := kW HB hb; have n1_ := Aside0.mk (hbox); have n2_ := Aside0.mk ((by rw [hg]; exact (below_size (bS HB)) : w.heap.size ≤ gb452)); have n3_ := Aside0.mk ((by rw [hg]; exact (below_size (bS HB)) : w.heap.size ≤ gb452)); clear HB; have HB := n0_; have BK452 := n1_; have GW452 := n2_; have GE452 := n3_; clear n0_ n1_ n2_ n3_; clear hb hbox hg) | ((with_reducible refine gate_dst (N := 2) rfl ?_); refine box_event ?hg (N := 2) ?hd (cs := #[.bool false, .int .i64 0, .int .i64 0]) (t := 23) ?hr ?_; (case hd => rfl); (case hg => rfl); (case hr => first | (go_simp; done) | (go_simp; rfl)); intro gb453 hg w22 hbox hb; have n0_ := kB BK452 hb; have n1_ := kW HB hb; have n2_ := Aside0.mk (hbox); have n3_ := Aside0.mk ((by rw [hg]; exact (below_size (bS HB)) : w.heap.size ≤ gb453)); have n4_ := Aside0.mk ((by rw [hg]; exact (below_size (bS HB)) : w.heap.size ≤ gb453)); have n5_ := Aside0.mk ((by rw [hg]; exact Nat.ne_of_lt (blk_lt (bkS BK452)) : gb452 ≠ gb453)); have n6_ := Aside0.mk ((by rw [hg]; exact Nat.ne_of_gt (blk_lt (bkS BK452)) : gb453 ≠ gb452)); clear BK452; clear HB; have BK452 := n0_; have HB := n1_; have BK453 := n2_; have GW453 := n3_; have GE453 := n4_; have NB452_453 := n5_; have NB453_452 := n6_; clear n0_ n1_ n2_ n3_ n4_ n5_ n6_; clear hb hbox hg; have hnb23 := NB452_453.out; have hnc23 := NB453_452.out; have hcz24_0 := cz0 BK452; have hcz24_1 := cz1 BK452; have hcz24_2 := cz2 BK452; have hfz24_0 := fz BK452 0; have hfz24_1 := fz BK452 1; have hfz24_2 := fz BK452 2))
   replace BK452 := Aside0.mk (blk_drew BK452.out)
   replace BK453 := Aside0.mk (blk_drew BK453.out)
   replace HB := Aside0.mk (below_drew1 HB.out)
   refine start_ (n := 5) (S := fun w' => w'.cell? ⟨gb452, 0, none⟩ = some (.bool false) ∧ w'.cell? ⟨gb452, 1, none⟩ = some (.int .i64 a0_1) ∧ w'.cell? ⟨gb452, 2, none⟩ = some (.int .i64 a0_2)) (ds := []) #[false, false, false, false, false] (by kernel_rfl) rfl rfl ⟨cz0 BK452, cz1 BK452, cz2 BK452⟩ (fun hHeld => ?_)
   generalize w22.drew = w25 at BK452 BK453 HB hHeld ⊢
   refine take_ (i := 0) (N := some 16) (v := ?_) (a' := ?_) #[true, false, false, false, false] rfl rfl (by kernel_rfl) (fun _ _ _ h => h) (Or.inl ⟨by rfl, ?_⟩) hHeld ?_ ?_
   rotate_left
   ·
    rintro w' ⟨s0, s1, s2⟩
    go_simp
    with_reducible rfl
   rotate_left
   ·
    simp only [Act.put, lA, lB, lC, i64_w, i32_w]
    rfl
   refine take_ (i := 1) (N := some 17) (v := ?_) (a' := ?_) #[true, true, false, false, false] rfl rfl (by kernel_rfl) (fun _ _ _ h => h) (Or.inl ⟨by rfl, ?_⟩) hHeld ?_ ?_
   rotate_left
   ·
    rintro w' ⟨s0, s1, s2⟩
    go_simp
    with_reducible rfl
   rotate_left
   ·
    simp only [Act.put, lA, lB, lC, i64_w, i32_w]
    rfl
   refine one_ (i := 2) (N := some 18) #[true, true, true, false, false] rfl rfl (by kernel_rfl) (by decide) (fun K hK => ?_)
   refine goes_ Tryd.func32 (by kernel_rfl) rfl #[.agg #[.bool false, .int .i64 a0_1, .int .i64 a0_2]] (by rfl) rfl rfl mS ?_
   with_reducible refine (gimbalref31_Neg.calls k false a0_1 a0_2 t460 t461 t462 _ A19.out).mono ?_
   rintro e w26 ⟨rfl, hb⟩
   refine ⟨_, rfl, ?_⟩
   replace BK452 := kB BK452 hb
   replace BK453 := kB BK453 hb
   replace HB := kW HB hb
   (try clear hb)
   (try clear hb2)
   (try clear hk)
   (try clear hi)
   refine hK.out _ _ ⟨cz0 BK452, cz1 BK452, cz2 BK452⟩ (fun hHeld => ?_)
   clear hK K
   refine norm_ (a' := ?_) ?_ ?_
   rotate_left
   ·
    show Act.put _ (some 18) _ = _
    simp only [Act.put, lA, lB, lC, i64_w, i32_w]
    rfl
   refine one_ (i := 3) (N := some 19) #[true, true, true, true, false] rfl rfl (by kernel_rfl) (by decide) (fun K hK => ?_)
   refine goes_ Tryd.func29 (by kernel_rfl) rfl #[.agg #[.bool false, .int .i64 a0_1, .int .i64 a0_2], .agg #[.bool t460, .int .i64 t461, .int .i64 t462]] (by rfl) rfl rfl mS ?_
   with_reducible refine (gimbalref31_Join.calls k false a0_1 a0_2 t460 t461 t462 t463 t464 t465 _ A20.out).mono ?_
   rintro e w27 ⟨rfl, hb⟩
   refine ⟨_, rfl, ?_⟩
   replace BK452 := kB BK452 hb
   replace BK453 := kB BK453 hb
   replace HB := kW HB hb
   (try clear hb)
   (try clear hb2)
   (try clear hk)
   (try clear hi)
   refine hK.out _ _ ⟨cz0 BK452, cz1 BK452, cz2 BK452⟩ (fun hHeld => ?_)
   clear hK K
   refine norm_ (a' := ?_) ?_ ?_
   rotate_left
   ·
    show Act.put _ (some 19) _ = _
    simp only [Act.put, lA, lB, lC, i64_w, i32_w]
    rfl
   refine one_ (i := 4) (N := none) #[true, true, true, true, true] rfl rfl (by kernel_rfl) (by decide) (fun K hK => ?_)
   have hs28 : w27.cell? ⟨gb453, 0, none⟩ = some (.bool false) := cz0 BK453
   have hfs28 := fz BK453 0
   have hns28_0 := NB452_453.out
   have hms28_0 := NB453_452.out
   have hs29 : w27.cell? ⟨gb453, 1, none⟩ = some (.int .i64 0) := cz1 BK453
   have hfs29 := fz BK453 1
   have hns29_0 := NB452_453.out
   have hms29_0 := NB453_452.out
   have hs30 : w27.cell? ⟨gb453, 2, none⟩ = some (.int .i64 0) := cz2 BK453
   have hfs30 := fz BK453 2
   have hns30_0 := NB452_453.out
   have hms30_0 := NB453_452.out
   refine skip_ (w1 := ?_) (by rfl) rfl ?_ ?_
   rotate_left
   ·
    go_simp
    rfl
   refine hK.out _ _ ⟨((cell_far (p := ⟨gb453, _, none⟩) NB452_453.out _).trans (((cell_far (p := ⟨gb453, _, none⟩) NB452_453.out _).trans (((cell_far (p := ⟨gb453, _, none⟩) NB452_453.out _).trans (hHeld.1)))))), ((cell_far (p := ⟨gb453, _, none⟩) NB452_453.out _).trans (((cell_far (p := ⟨gb453, _, none⟩) NB452_453.out _).trans (((cell_far (p := ⟨gb453, _, none⟩) NB452_453.out _).trans (hHeld.2.1)))))), ((cell_far (p := ⟨gb453, _, none⟩) NB452_453.out _).trans (((cell_far (p := ⟨gb453, _, none⟩) NB452_453.out _).trans (((cell_far (p := ⟨gb453, _, none⟩) NB452_453.out _).trans (hHeld.2.2))))))⟩ (fun hHeld => ?_)
   clear hK K
   refine done_ (by kernel_rfl) ?_
   try go_wp2
   refine bodyPost_ret (results_cell_row rfl _ _ gb453 23 #[.bool t463, .int .i64 t464, .int .i64 t465] (0, 0) _ rfl (by (with_reducible repeat (first | refine b1 ?_ _ | refine b2 ?_ | refine b3 ?_ _)); refine blk_put (cs := #[.bool t463, .int .i64 t464, .int .i64 0]) ?_ 2 _ rfl; (with_reducible repeat (first | refine b1 ?_ _ | refine b2 ?_ | refine b3 ?_ _)); refine blk_put (cs := #[.bool t463, .int .i64 0, .int .i64 0]) ?_ 1 _ rfl; (with_reducible repeat (first | refine b1 ?_ _ | refine b2 ?_ | refine b3 ?_ _)); refine blk_put (cs := #[.bool false, .int .i64 0, .int .i64 0]) ?_ 0 _ rfl; (with_reducible repeat (first | refine b1 ?_ _ | refine b2 ?_ | refine b3 ?_ _)); exact BK453.out) Tryd.underlying23 rfl (by kernel_rfl)) rfl ?_
   exact ⟨eS, bS HB⟩

def congr_Add.j0 : Nat → Bool → Bool → Int → Int → Bool → Int → Int → Option (Bool × Int × Int)
 | 0, _, _, _, _, _, _, _ => none
 | k + 1, x10, x467000, x467001, x467002, x468000, x468001, x468002 => if x10 = true then ((congr_none.f).bind fun bt469 => (some (bt469.1, bt469.2.1, bt469.2.2))) else ((congr_gcd_uint64.f k (IntKind.u64.wrap (x467001)) (IntKind.u64.wrap (x468001))).bind fun t472 => ((congr_by.f k t472 (wrap64 (x467002 + x468002))).bind fun bt473 => (some (bt473.1, bt473.2.1, bt473.2.2))))
def congr_Add.f (k : Nat) (a0_0 : Bool) (a0_1 : Int) (a0_2 : Int) (a1_0 : Bool) (a1_1 : Int) (a1_2 : Int) : Option (Bool × Int × Int) := if a0_0 = true then (congr_Add.j0 k true a0_0 a0_1 a0_2 a1_0 a1_1 a1_2) else (congr_Add.j0 k a1_0 a0_0 a0_1 a0_2 a1_0 a1_1 a1_2)
def congr_Add.T3 : Bool × List (List Nat × List Nat) := (true, [([], []), ([0], [0]), ([1], [1]), ([], []), ([3], [3]), ([4], [4]), ([2, 5], [2, 5]), ([], []), ([7], [7]), ([], []), ([9], [9]), ([8, 10], [8, 10]), ([6, 11, 6], [6, 11]), ([12, 12, 0, 1, 2, 3, 4, 5, 6, 7, 8, 9, 10, 11, 12], [12])])
def congr_Add.B3 : List Nat := [0, 1, 3, 0, 8, 24, 63, 0, 128, 0, 512, 1920, 4095, 8191]
theorem congr_Add.tab3 : rtab .any (opsOf Tryd.f35 3) = congr_Add.T3 := by kernel_rfl
theorem congr_Add.bits3 : waitsOk congr_Add.T3.2 congr_Add.B3 = true := by kernel_rfl
set_option maxHeartbeats 8000000 in
set_option maxRecDepth 100000 in
theorem congr_Add.calls (k : Nat) (a0_0 : Bool) (a0_1 : Int) (a0_2 : Int) (a1_0 : Bool) (a1_1 : Int) (a1_2 : Int) (r1 : Bool) (r2 : Int) (r3 : Int) (w : World) (h : congr_Add.f k a0_0 a0_1 a0_2 a1_0 a1_1 a1_2 = some (r1, r2, r3)) :
  Calls Tryd.prog 35 #[.agg #[.bool a0_0, .int .i64 a0_1, .int .i64 a0_2], .agg #[.bool a1_0, .int .i64 a1_1, .int .i64 a1_2]] w fun e w' => e = .returned (.agg #[.bool r1, .int .i64 r2, .int .i64 r3]) ∧ Below w.heap.size w w' := by
 have hu23 := Tryd.underlying23
 have HB := Aside0.mk (Below.refl w.heap.size w)
 have H : (if a0_0 = true then (congr_Add.j0 k true a0_0 a0_1 a0_2 a1_0 a1_1 a1_2) else (congr_Add.j0 k a1_0 a0_0 a0_1 a0_2 a1_0 a1_1 a1_2)) = some (r1, r2, r3) := h
 clear h
 have HC3 := Aside0.mk H
 clear H
 go_enter Tryd.func35, Tryd.ntmps35
 go_upto_region 1 with (first | ((with_reducible refine gate_dst (N := 2) rfl ?_); refine box_event ?hg (N := 2) ?hd (cs := #[.bool a0_0, .int .i64 a0_1, .int .i64 a0_2]) (t := 23) ?hr ?_; (case hd => rfl); (case hg => rfl); (case hr => first | (go_simp; done) | (go_simp; rfl)); intro gb466 hg w4 hbox hb; have n0_ := kW HB hb; have n1_ := Aside0.mk (hbox); have n2_ := Aside0.mk ((by rw [hg]; exact (below_size (bS HB)) : w.heap.size ≤ gb466)); have n3_ := Aside0.mk ((by rw [hg]; exact (below_size (bS HB)) : w.heap.size ≤ gb466)); clear HB; have HB := n0_; have BK466 := n1_; have GW466 := n2_; have GE466 := n3_; clear n0_ n1_ n2_ n3_; clear hb hbox hg) | ((with_reducible refine gate_dst (N := 3) rfl ?_); refine box_event ?hg (N := 3) ?hd (cs := #[.bool a1_0, .int .i64 a1_1, .int .i64 a1_2]) (t := 23) ?hr ?_; (case hd => rfl); (case hg => rfl); (case hr => first | (go_simp; done) | (go_simp; rfl)); intro gb467 hg w5 hbox hb; have n0_ := kB BK466 hb; have n1_ := kW HB hb; have n2_ := Aside0.mk (hbox); have n3_ := Aside0.mk ((by rw [hg]; exact (below_size (bS HB)) : w.heap.size ≤ gb467)); have n4_ := Aside0.mk ((by rw [hg]; exact (below_size (bS HB)) : w.heap.size ≤ gb467)); have n5_ := Aside0.mk ((by rw [hg]; exact Nat.ne_of_lt (blk_lt (bkS BK466)) : gb466 ≠ gb467)); have n6_ := Aside0.mk ((by rw [hg]; exact Nat.ne_of_gt (blk_lt (bkS BK466)) : gb467 ≠ gb466)); clear BK466; clear HB; have BK466 := n0_; have HB := n1_; have BK467 := n2_; have GW467 := n3_; have GE467 := n4_; have NB466_467 := n5_; have NB467_466 := n6_; clear n0_ n1_ n2_ n3_ n4_ n5_ n6_; clear hb hbox hg) | ((with_reducible refine gate_dst (N := 4) rfl ?_); refine box_event ?hg (N := 4) ?hd (cs := #[.bool false, .int .i64 0, .int .i64 0]) (t := 23) ?hr ?_; (case hd => rfl); (case hg => rfl); (case hr => first | (go_simp; done) | (go_simp; rfl)); intro gb468 hg w6 hbox hb; have n0_ := kB BK466 hb; have n1_ := kB BK467 hb; have n2_ := kW HB hb; have n3_ := Aside0.mk (hbox); have n4_ := Aside0.mk ((by rw [hg]; exact (below_size (bS HB)) : w.heap.size ≤ gb468)); have n5_ := Aside0.mk ((by rw [hg]; exact (below_size (bS HB)) : w.heap.size ≤ gb468)); have n6_ := Aside0.mk ((by rw [hg]; exact Nat.ne_of_lt (blk_lt (bkS BK466)) : gb466 ≠ gb468)); have n7_ := Aside0.mk ((by rw [hg]; exact Nat.ne_of_gt (blk_lt (bkS BK466)) : gb468 ≠ gb466)); have n8_ := Aside0.mk ((by rw [hg]; exact Nat.ne_of_lt (blk_lt (bkS BK467)) : gb467 ≠ gb468)); have n9_ := Aside0.mk ((by rw [hg]; exact Nat.ne_of_gt (blk_lt (bkS BK467)) : gb468 ≠ gb467)); clear BK466; clear BK467; clear HB; have BK466 := n0_; have BK467 := n1_; have HB := n2_; have BK468 := n3_; have GW468 := n4_; have GE468 := n5_; have NB466_468 := n6_; have NB468_466 := n7_; have NB467_468 := n8_; have NB468_467 := n9_; clear n0_ n1_ n2_ n3_ n4_ n5_ n6_ n7_ n8_ n9_; clear hb hbox hg))
 (try simp only [Act.put, lA, lB, lC])
 go_cut [10] (fun v10 wc => ∃ (kq : Nat) (x10_2 : Bool), v10 = .bool x10_2 ∧ Aside0 (congr_Add.j0 kq x10_2 a0_0 a0_1 a0_2 a1_0 a1_1 a1_2 = some (r1, r2, r3)) ∧ Aside0 (kq ≤ k) ∧ Aside0 (wc.heap[gb466]? = some (.cells #[.bool a0_0, .int .i64 a0_1, .int .i64 a0_2] 23 (0, 0))) ∧ Aside0 (wc.heap[gb467]? = some (.cells #[.bool a1_0, .int .i64 a1_1, .int .i64 a1_2] 23 (0, 0))) ∧ Aside0 (wc.heap[gb468]? = some (.cells #[.bool false, .int .i64 0, .int .i64 0] 23 (0, 0))) ∧ Aside0 (Below w.heap.size w wc))
 case first =>
  have H := HC3.out
  clear HC3
  by_cases c7 : a0_0 = true
  ·
   subst c7
   have H1 : (congr_Add.j0 k true true a0_1 a0_2 a1_0 a1_1 a1_2) = some (r1, r2, r3) := by rw [if_pos rfl] at H; exact H
   clear H
   have H := H1
   clear H1
   have H' := Aside0.mk H
   clear H
   have hnb8 := NB466_467.out
   have hnc8 := NB467_466.out
   have hnb9 := NB466_468.out
   have hnc9 := NB468_466.out
   have hcz10_0 := cz0 BK466
   have hcz10_1 := cz1 BK466
   have hcz10_2 := cz2 BK466
   have hfz10_0 := fz BK466 0
   have hfz10_1 := fz BK466 1
   have hfz10_2 := fz BK466 2
   go_wp2
   go_meet
   case rel => exact ⟨_, (true), (by first | rfl | (simp; done) | (simp [*]; done)), H', ⟨by first | omega | exact Nat.le_refl _⟩, ⟨bkS BK466⟩, ⟨bkS BK467⟩, ⟨bkS BK468⟩, ⟨bS HB⟩⟩
  ·
   replace c7 := Bool.eq_false_iff.mpr c7
   subst c7
   have H1 : (congr_Add.j0 k a1_0 false a0_1 a0_2 a1_0 a1_1 a1_2) = some (r1, r2, r3) := by rw [if_neg (show ¬ (false = true) by decide)] at H; exact H
   clear H
   have H := H1
   clear H1
   have H' := Aside0.mk H
   clear H
   have hnb11 := NB466_467.out
   have hnc11 := NB467_466.out
   have hnb12 := NB466_468.out
   have hnc12 := NB468_466.out
   have hcz13_0 := cz0 BK466
   have hcz13_1 := cz1 BK466
   have hcz13_2 := cz2 BK466
   have hfz13_0 := fz BK466 0
   have hfz13_1 := fz BK466 1
   have hfz13_2 := fz BK466 2
   have hnb14 := NB467_468.out
   have hnc14 := NB468_467.out
   have hcz15_0 := cz0 BK467
   have hcz15_1 := cz1 BK467
   have hcz15_2 := cz2 BK467
   have hfz15_0 := fz BK467 0
   have hfz15_1 := fz BK467 1
   have hfz15_2 := fz BK467 2
   go_wp2
   go_meet
   case rel => exact ⟨_, (a1_0), (by first | rfl | (simp; done) | (simp [*]; done)), H', ⟨by first | omega | exact Nat.le_refl _⟩, ⟨bkS BK466⟩, ⟨bkS BK467⟩, ⟨bkS BK468⟩, ⟨bS HB⟩⟩
 case rest =>
  clear HC3
  try clear c1
  try clear p2
  try clear c3
  try clear c7
  try clear c8
  try clear c9
  try clear c11
  try clear c12
  try clear c14
  try clear hcz10_0
  try clear hcz10_1
  try clear hcz10_2
  try clear hcz13_0
  try clear hcz13_1
  try clear hcz13_2
  try clear hcz15_0
  try clear hcz15_1
  try clear hcz15_2
  try clear hfz10_0
  try clear hfz10_1
  try clear hfz10_2
  try clear hfz13_0
  try clear hfz13_1
  try clear hfz13_2
  try clear hfz15_0
  try clear hfz15_1
  try clear hfz15_2
  obtain ⟨kq, x10_2, rfl, HA, HJ2, BK466, BK467, BK468, HB⟩ := hcut
  cases kq with
  | zero => exact absurd HA.out (by simp [congr_Add.j0])
  | succ kj2 =>
   have H := HA.out
   clear HA
   simp only [congr_Add.j0] at H
   by_cases c16 : x10_2 = true
   ·
    subst c16
    have H1 : ((congr_none.f).bind fun bt469 => (some (bt469.1, bt469.2.1, bt469.2.2))) = some (r1, r2, r3) := by rw [if_pos rfl] at H; exact H
    clear H
    have H := H1
    clear H1
    replace H := Option.bind_eq_some_iff.mp H
    obtain ⟨⟨t469, t470, t471⟩, A170, H⟩ := H
    replace H : (some (t469, t470, t471)) = some (r1, r2, r3) := H
    have A17 := Aside0.mk A170
    clear A170
    simp only [Option.some.injEq, Prod.mk.injEq] at H
    obtain ⟨rfl, rfl, rfl⟩ := H
    go_wp2_with (first | ((with_reducible refine gate_callee (f := 56) rfl ?_); refine goesL_ (some 11) rfl rfl Tryd.func56 (by kernel_rfl) rfl #[] rfl mS ?_; (with_reducible refine (congr_none.calls  t469 t470 t471 _ A17.out).mono ?_); rintro e w18 ⟨rfl, hb⟩; refine ⟨_, rfl, ?_⟩; replace BK466 := kB BK466 hb; replace BK467 := kB BK467 hb; replace BK468 := kB BK468 hb; replace HB := kW HB hb; (try clear hb); (try clear hb2); (try clear hk); (try clear hi); have hnb19 := NB468_466.out; have hnc19 := NB466_468.out; have hnb20 := NB468_467.out; have hnc20 := NB467_468.out; have hcz21_0 := cz0 BK468; have hcz21_1 := cz1 BK468; have hcz21_2 := cz2 BK468; have hfz21_0 := fz BK468 0; have hfz21_1 := fz BK468 1; have hfz21_2 := fz BK468 2))
    refine bodyPost_ret (results_cell_row rfl _ _ gb468 23 #[.bool t469, .int .i64 t470, .int .i64 t471] (0, 0) _ rfl (by (with_reducible repeat (first | refine b1 ?_ _ | refine b2 ?_ | refine b3 ?_ _)); refine blk_put (cs := #[.bool t469, .int .i64 t470, .int .i64 0]) ?_ 2 _ rfl; (with_reducible repeat (first | refine b1 ?_ _ | refine b2 ?_ | refine b3 ?_ _)); refine blk_put (cs := #[.bool t469, .int .i64 0, .int .i64 0]) ?_ 1 _ rfl; (with_reducible repeat (first | refine b1 ?_ _ | refine b2 ?_ | refine b3 ?_ _)); refine blk_put (cs := #[.bool false, .int .i64 0, .int .i64 0]) ?_ 0 _ rfl; (with_reducible repeat (first | refine b1 ?_ _ | refine b2 ?_ | refine b3 ?_ _)); exact BK468.out) Tryd.underlying23 rfl (by kernel_rfl)) rfl ?_
    exact ⟨eS, bS HB⟩
   ·
    replace c16 := Bool.eq_false_iff.mpr c16
    subst c16
    have H1 : ((congr_gcd_uint64.f kj2 (IntKind.u64.wrap (a0_1)) (IntKind.u64.wrap (a1_1))).bind fun t472 => ((congr_by.f kj2 t472 (wrap64 (a0_2 + a1_2))).bind fun bt473 => (some (bt473.1, bt473.2.1, bt473.2.2)))) = some (r1, r2, r3) := by rw [if_neg (show ¬ (false = true) by decide)] at H; exact H
    clear H
    have H := H1
    clear H1
    replace H := Option.bind_eq_some_iff.mp H
    obtain ⟨t472, A220, H⟩ := H
    replace H : ((congr_by.f kj2 t472 (wrap64 (a0_2 + a1_2))).bind fun bt473 => (some (bt473.1, bt473.2.1, bt473.2.2))) = some (r1, r2, r3) := H
    have A22 := Aside0.mk A220
    clear A220
    replace H := Option.bind_eq_some_iff.mp H
    obtain ⟨⟨t473, t474, t475⟩, A230, H⟩ := H
    replace H : (some (t473, t474, t475)) = some (r1, r2, r3) := H
    have A23 := Aside0.mk A230
    clear A230
    simp only [Option.some.injEq, Prod.mk.injEq] at H
    obtain ⟨rfl, rfl, rfl⟩ := H
    try go_wp2
    replace BK466 := Aside0.mk (blk_drew BK466.out)
    replace BK467 := Aside0.mk (blk_drew BK467.out)
    replace BK468 := Aside0.mk (blk_drew BK468.out)
    replace HB := Aside0.mk (below_drew1 HB.out)
    refine start_ (n := 14) (S := fun w' => w'.cell? ⟨gb466, 0, none⟩ = some (.bool a0_0) ∧ w'.cell? ⟨gb466, 1, none⟩ = some (.int .i64 a0_1) ∧ w'.cell? ⟨gb466, 2, none⟩ = some (.int .i64 a0_2) ∧ w'.cell? ⟨gb467, 0, none⟩ = some (.bool a1_0) ∧ w'.cell? ⟨gb467, 1, none⟩ = some (.int .i64 a1_1) ∧ w'.cell? ⟨gb467, 2, none⟩ = some (.int .i64 a1_2)) (ds := []) #[false, false, false, false, false, false, false, false, false, false, false, false, false, false] (by kernel_rfl) rfl rfl ⟨cz0 BK466, cz1 BK466, cz2 BK466, cz0 BK467, cz1 BK467, cz2 BK467⟩ (fun hHeld => ?_); refine with_tabW congr_Add.tab3 congr_Add.bits3 (fun HT_ HW_ => ?_)
    generalize wc.drew = w24 at BK466 BK467 BK468 HB hHeld ⊢
    refine pure_ (i := 0) (N := some 12) (v := ?_) (a' := ?_) #[true, false, false, false, false, false, false, false, false, false, false, false, false, false] rfl rfl (any_of HT_.out (by kernel_rfl)) (fun _ _ _ h => h) (Or.inl ⟨by rfl, ?_⟩) ?_ ?_
    rotate_left
    ·
     intro w'
     go_simp
     with_reducible rfl
    rotate_left
    ·
     simp only [Act.put, lA, lB, lC, i64_w, i32_w]
     rfl
    refine pure_ (i := 3) (N := some 15) (v := ?_) (a' := ?_) #[true, false, false, true, false, false, false, false, false, false, false, false, false, false] rfl rfl (any_of HT_.out (by kernel_rfl)) (fun _ _ _ h => h) (Or.inl ⟨by rfl, ?_⟩) ?_ ?_
    rotate_left
    ·
     intro w'
     go_simp
     with_reducible rfl
    rotate_left
    ·
     simp only [Act.put, lA, lB, lC, i64_w, i32_w]
     rfl
    refine pure_ (i := 7) (N := some 19) (v := ?_) (a' := ?_) #[true, false, false, true, false, false, false, true, false, false, false, false, false, false] rfl rfl (any_of HT_.out (by kernel_rfl)) (fun _ _ _ h => h) (Or.inl ⟨by rfl, ?_⟩) ?_ ?_
    rotate_left
    ·
     intro w'
     go_simp
     with_reducible rfl
    rotate_left
    ·
     simp only [Act.put, lA, lB, lC, i64_w, i32_w]
     rfl
    refine pure_ (i := 9) (N := some 21) (v := ?_) (a' := ?_) #[true, false, false, true, false, false, false, true, false, true, false, false, false, false] rfl rfl (any_of HT_.out (by kernel_rfl)) (fun _ _ _ h => h) (Or.inl ⟨by rfl, ?_⟩) ?_ ?_
    rotate_left
    ·
     intro w'
     go_simp
     with_reducible rfl
    rotate_left
    ·
     simp only [Act.put, lA, lB, lC, i64_w, i32_w]
     rfl
    refine take_ (i := 1) (N := some 13) (v := ?_) (a' := ?_) #[true, true, false, true, false, false, false, true, false, true, false, false, false, false] rfl rfl (take_ofW HT_.out HW_.out (by kernel_rfl)) (fun _ _ _ h => h) (Or.inl ⟨by rfl, ?_⟩) hHeld ?_ ?_
    rotate_left
    ·
     rintro w' ⟨s0, s1, s2, s3, s4, s5⟩
     go_simp
     with_reducible rfl
    rotate_left
    ·
     simp only [Act.put, lA, lB, lC, i64_w, i32_w]
     rfl
    refine pure_ (i := 2) (N := some 14) (v := ?_) (a' := ?_) #[true, true, true, true, false, false, false, true, false, true, false, false, false, false] rfl rfl (any_of HT_.out (by kernel_rfl)) (fun _ _ _ h => h) (Or.inl ⟨by rfl, ?_⟩) ?_ ?_
    rotate_left
    ·
     intro w'
     go_simp
     with_reducible rfl
    rotate_left
    ·
     simp only [Act.put, lA, lB, lC, i64_w, i32_w]
     rfl
    refine take_ (i := 4) (N := some 16) (v := ?_) (a' := ?_) #[true, true, true, true, true, false, false, true, false, true, false, false, false, false] rfl rfl (take_ofW HT_.out HW_.out (by kernel_rfl)) (fun _ _ _ h => h) (Or.inl ⟨by rfl, ?_⟩) hHeld ?_ ?_
    rotate_left
    ·
     rintro w' ⟨s0, s1, s2, s3, s4, s5⟩
     go_simp
     with_reducible rfl
    rotate_left
    ·
     simp only [Act.put, lA, lB, lC, i64_w, i32_w]
     rfl
    refine pure_ (i := 5) (N := some 17) (v := ?_) (a' := ?_) #[true, true, true, true, true, true, false, true, false, true, false, false, false, false] rfl rfl (any_of HT_.out (by kernel_rfl)) (fun _ _ _ h => h) (Or.inl ⟨by rfl, ?_⟩) ?_ ?_
    rotate_left
    ·
     intro w'
     go_simp
     with_reducible rfl
    rotate_left
    ·
     simp only [Act.put, lA, lB, lC, i64_w, i32_w]
     rfl
    refine take_ (i := 8) (N := some 20) (v := ?_) (a' := ?_) #[true, true, true, true, true, true, false, true, true, true, false, false, false, false] rfl rfl (take_ofW HT_.out HW_.out (by kernel_rfl)) (fun _ _ _ h => h) (Or.inl ⟨by rfl, ?_⟩) hHeld ?_ ?_
    rotate_left
    ·
     rintro w' ⟨s0, s1, s2, s3, s4, s5⟩
     go_simp
     with_reducible rfl
    rotate_left
    ·
     simp only [Act.put, lA, lB, lC, i64_w, i32_w]
     rfl
    refine take_ (i := 10) (N := some 22) (v := ?_) (a' := ?_) #[true, true, true, true, true, true, false, true, true, true, true, false, false, false] rfl rfl (take_ofW HT_.out HW_.out (by kernel_rfl)) (fun _ _ _ h => h) (Or.inl ⟨by rfl, ?_⟩) hHeld ?_ ?_
    rotate_left
    ·
     rintro w' ⟨s0, s1, s2, s3, s4, s5⟩
     go_simp
     with_reducible rfl
    rotate_left
    ·
     simp only [Act.put, lA, lB, lC, i64_w, i32_w]
     rfl
    refine pure_ (i := 11) (N := some 23) (v := ?_) (a' := ?_) #[true, true, true, true, true, true, false, true, true, true, true, true, false, false] rfl rfl (any_of HT_.out (by kernel_rfl)) (fun _ _ _ h => h) (Or.inl ⟨by rfl, ?_⟩) ?_ ?_
    rotate_left
    ·
     intro w'
     go_simp
     with_reducible rfl
    rotate_left
    ·
     simp only [Act.put, lA, lB, lC, i64_w, i32_w]
     rfl
    refine one_ (i := 6) (N := some 18) #[true, true, true, true, true, true, true, true, true, true, true, true, false, false] rfl rfl (one_of HT_.out (by kernel_rfl)) (by decide) (fun K hK => ?_)
    refine goes_ Tryd.func62 (by kernel_rfl) rfl #[.int .u64 (IntKind.u64.wrap (a0_1)), .int .u64 (IntKind.u64.wrap (a1_1))] (by rfl) rfl rfl mS ?_
    with_reducible refine (congr_gcd_uint64.calls kj2 (IntKind.u64.wrap (a0_1)) (IntKind.u64.wrap (a1_1)) t472 _ A22.out).mono ?_
    rintro e w' ⟨rfl, ⟨nd, rfl⟩⟩
    refine ⟨_, rfl, ?_⟩
    refine hK.out _ _ ⟨cz0 BK466, cz1 BK466, cz2 BK466, cz0 BK467, cz1 BK467, cz2 BK467⟩ (fun hHeld => ?_)
    clear hK K
    refine norm_ (a' := ?_) ?_ ?_
    rotate_left
    ·
     show Act.put _ (some 18) _ = _
     simp only [Act.put, lA, lB, lC, i64_w, i32_w]
     rfl
    refine one_ (i := 12) (N := some 24) #[true, true, true, true, true, true, true, true, true, true, true, true, true, false] rfl rfl (one_of HT_.out (by kernel_rfl)) (by decide) (fun K hK => ?_)
    refine goes_ Tryd.func60 (by kernel_rfl) rfl #[.int .u64 t472, .int .i64 (wrap64 (a0_2 + a1_2))] (by rfl) rfl rfl mS ?_
    with_reducible refine (congr_by.calls kj2 t472 (wrap64 (a0_2 + a1_2)) t473 t474 t475 _ A23.out).mono ?_
    rintro e w25 ⟨rfl, hb⟩
    refine ⟨_, rfl, ?_⟩
    replace BK466 := kB BK466 hb
    replace BK467 := kB BK467 hb
    replace BK468 := kB BK468 hb
    replace HB := kW HB hb
    (try clear hb)
    (try clear hb2)
    (try clear hk)
    (try clear hi)
    refine hK.out _ _ ⟨cz0 BK466, cz1 BK466, cz2 BK466, cz0 BK467, cz1 BK467, cz2 BK467⟩ (fun hHeld => ?_)
    clear hK K
    refine norm_ (a' := ?_) ?_ ?_
    rotate_left
    ·
     show Act.put _ (some 24) _ = _
     simp only [Act.put, lA, lB, lC, i64_w, i32_w]
     rfl
    refine one_ (i := 13) (N := none) #[true, true, true, true, true, true, true, true, true, true, true, true, true, true] rfl rfl (one_of HT_.out (by kernel_rfl)) (by decide) (fun K hK => ?_)
    have hs26 : w25.cell? ⟨gb468, 0, none⟩ = some (.bool false) := cz0 BK468
    have hfs26 := fz BK468 0
    have hns26_0 := NB466_468.out
    have hns26_1 := NB467_468.out
    have hms26_0 := NB468_466.out
    have hms26_1 := NB468_467.out
    have hs27 : w25.cell? ⟨gb468, 1, none⟩ = some (.int .i64 0) := cz1 BK468
    have hfs27 := fz BK468 1
    have hns27_0 := NB466_468.out
    have hns27_1 := NB467_468.out
    have hms27_0 := NB468_466.out
    have hms27_1 := NB468_467.out
    have hs28 : w25.cell? ⟨gb468, 2, none⟩ = some (.int .i64 0) := cz2 BK468
    have hfs28 := fz BK468 2
    have hns28_0 := NB466_468.out
    have hns28_1 := NB467_468.out
    have hms28_0 := NB468_466.out
    have hms28_1 := NB468_467.out
    refine skip_ (w1 := ?_) (by rfl) rfl ?_ ?_
    rotate_left
    ·
     go_simp
     rfl
    refine hK.out _ _ ⟨((cell_far (p := ⟨gb468, _, none⟩) NB466_468.out _).trans (((cell_far (p := ⟨gb468, _, none⟩) NB466_468.out _).trans (((cell_far (p := ⟨gb468, _, none⟩) NB466_468.out _).trans (hHeld.1)))))), ((cell_far (p := ⟨gb468, _, none⟩) NB466_468.out _).trans (((cell_far (p := ⟨gb468, _, none⟩) NB466_468.out _).trans (((cell_far (p := ⟨gb468, _, none⟩) NB466_468.out _).trans (hHeld.2.1)))))), ((cell_far (p := ⟨gb468, _, none⟩) NB466_468.out _).trans (((cell_far (p := ⟨gb468, _, none⟩) NB466_468.out _).trans (((cell_far (p := ⟨gb468, _, none⟩) NB466_468.out _).trans (hHeld.2.2.1)))))), ((cell_far (p := ⟨gb468, _, none⟩) NB467_468.out _).trans (((cell_far (p := ⟨gb468, _, none⟩) NB467_468.out _).trans (((cell_far (p := ⟨gb468, _, none⟩) NB467_468.out _).trans (hHeld.2.2.2.1)))))), ((cell_far (p := ⟨gb468, _, none⟩) NB467_468.out _).trans (((cell_far (p := ⟨gb468, _, none⟩) NB467_468.out _).trans (((cell_far (p := ⟨gb468, _, none⟩) NB467_468.out _).trans (hHeld.2.2.2.2.1)))))), ((cell_far (p := ⟨gb468, _, none⟩) NB467_468.out _).trans (((cell_far (p := ⟨gb468, _, none⟩) NB467_468.out _).trans (((cell_far (p := ⟨gb468, _, none⟩) NB467_468.out _).trans (hHeld.2.2.2.2.2))))))⟩ (fun hHeld => ?_)
    clear hK K
    refine done_ (done_of HT_.out (by kernel_rfl)) ?_
    try go_wp2
    refine bodyPost_ret (results_cell_row rfl _ _ gb468 23 #[.bool t473, .int .i64 t474, .int .i64 t475] (0, 0) _ rfl (by (with_reducible repeat (first | refine b1 ?_ _ | refine b2 ?_ | refine b3 ?_ _)); refine blk_put (cs := #[.bool t473, .int .i64 t474, .int .i64 0]) ?_ 2 _ rfl; (with_reducible repeat (first | refine b1 ?_ _ | refine b2 ?_ | refine b3 ?_ _)); refine blk_put (cs := #[.bool t473, .int .i64 0, .int .i64 0]) ?_ 1 _ rfl; (with_reducible repeat (first | refine b1 ?_ _ | refine b2 ?_ | refine b3 ?_ _)); refine blk_put (cs := #[.bool false, .int .i64 0, .int .i64 0]) ?_ 0 _ rfl; (with_reducible repeat (first | refine b1 ?_ _ | refine b2 ?_ | refine b3 ?_ _)); exact BK468.out) Tryd.underlying23 rfl (by kernel_rfl)) rfl ?_
    exact ⟨eS, bS HB⟩

def gimbalref31_Add.j0 : Nat → Bool → Bool → Int → Int → Bool → Int → Int → Option (Bool × Int × Int)
 | 0, _, _, _, _, _, _, _ => none
 | k + 1, x10, x477000, x477001, x477002, x478000, x478001, x478002 => if x10 = true then ((gimbalref31_None.f).bind fun bt479 => (some (bt479.1, bt479.2.1, bt479.2.2))) else ((gimbalref31_size.f x477001).bind fun t482 => ((gimbalref31_size.f x478001).bind fun t483 => ((gimbalref31_gcd.f k t482 t483).bind fun t484 => ((gimbalref31_of.f k t484 (wrap64 (x477002 + x478002))).bind fun bt485 => (some (bt485.1, bt485.2.1, bt485.2.2))))))
def gimbalref31_Add.f (k : Nat) (a0_0 : Bool) (a0_1 : Int) (a0_2 : Int) (a1_0 : Bool) (a1_1 : Int) (a1_2 : Int) : Option (Bool × Int × Int) := if a0_0 = true then (gimbalref31_Add.j0 k true a0_0 a0_1 a0_2 a1_0 a1_1 a1_2) else (gimbalref31_Add.j0 k a1_0 a0_0 a0_1 a0_2 a1_0 a1_1 a1_2)
def gimbalref31_Add.T3 : Bool × List (List Nat × List Nat) := (true, [([], []), ([0], [0]), ([1], [1]), ([], []), ([3], [3]), ([4, 2], [4]), ([2, 5, 5], [2, 5]), ([], []), ([7], [7]), ([], []), ([9], [9]), ([8, 10], [8, 10]), ([6, 11, 6], [6, 11]), ([12, 12, 0, 1, 2, 3, 4, 5, 6, 7, 8, 9, 10, 11, 12], [12])])
def gimbalref31_Add.B3 : List Nat := [0, 1, 3, 0, 8, 31, 63, 0, 128, 0, 512, 1920, 4095, 8191]
theorem gimbalref31_Add.tab3 : rtab .any (opsOf Tryd.f36 3) = gimbalref31_Add.T3 := by kernel_rfl
theorem gimbalref31_Add.bits3 : waitsOk gimbalref31_Add.T3.2 gimbalref31_Add.B3 = true := by kernel_rfl
set_option maxHeartbeats 8000000 in
set_option maxRecDepth 100000 in
theorem gimbalref31_Add.calls (k : Nat) (a0_0 : Bool) (a0_1 : Int) (a0_2 : Int) (a1_0 : Bool) (a1_1 : Int) (a1_2 : Int) (r1 : Bool) (r2 : Int) (r3 : Int) (w : World) (h : gimbalref31_Add.f k a0_0 a0_1 a0_2 a1_0 a1_1 a1_2 = some (r1, r2, r3)) :
  Calls Tryd.prog 36 #[.agg #[.bool a0_0, .int .i64 a0_1, .int .i64 a0_2], .agg #[.bool a1_0, .int .i64 a1_1, .int .i64 a1_2]] w fun e w' => e = .returned (.agg #[.bool r1, .int .i64 r2, .int .i64 r3]) ∧ Below w.heap.size w w' := by
 have hu23 := Tryd.underlying23
 have HB := Aside0.mk (Below.refl w.heap.size w)
 have H : (if a0_0 = true then (gimbalref31_Add.j0 k true a0_0 a0_1 a0_2 a1_0 a1_1 a1_2) else (gimbalref31_Add.j0 k a1_0 a0_0 a0_1 a0_2 a1_0 a1_1 a1_2)) = some (r1, r2, r3) := h
 clear h
 have HC3 := Aside0.mk H
 clear H
 go_enter Tryd.func36, Tryd.ntmps36
 go_upto_region 1 with (first | ((with_reducible refine gate_dst (N := 2) rfl ?_); refine box_event ?hg (N := 2) ?hd (cs := #[.bool a0_0, .int .i64 a0_1, .int .i64 a0_2]) (t := 23) ?hr ?_; (case hd => rfl); (case hg => rfl); (case hr => first | (go_simp; done) | (go_simp; rfl)); intro gb476 hg w4 hbox hb; have n0_ := kW HB hb; have n1_ := Aside0.mk (hbox); have n2_ := Aside0.mk ((by rw [hg]; exact (below_size (bS HB)) : w.heap.size ≤ gb476)); have n3_ := Aside0.mk ((by rw [hg]; exact (below_size (bS HB)) : w.heap.size ≤ gb476)); clear HB; have HB := n0_; have BK476 := n1_; have GW476 := n2_; have GE476 := n3_; clear n0_ n1_ n2_ n3_; clear hb hbox hg) | ((with_reducible refine gate_dst (N := 3) rfl ?_); refine box_event ?hg (N := 3) ?hd (cs := #[.bool a1_0, .int .i64 a1_1, .int .i64 a1_2]) (t := 23) ?hr ?_; (case hd => rfl); (case hg => rfl); (case hr => first | (go_simp; done) | (go_simp; rfl)); intro gb477 hg w5 hbox hb; have n0_ := kB BK476 hb; have n1_ := kW HB hb; have n2_ := Aside0.mk (hbox); have n3_ := Aside0.mk ((by rw [hg]; exact (below_size (bS HB)) : w.heap.size ≤ gb477)); have n4_ := Aside0.mk ((by rw [hg]; exact (below_size (bS HB)) : w.heap.size ≤ gb477)); have n5_ := Aside0.mk ((by rw [hg]; exact Nat.ne_of_lt (blk_lt (bkS BK476)) : gb476 ≠ gb477)); have n6_ := Aside0.mk ((by rw [hg]; exact Nat.ne_of_gt (blk_lt (bkS BK476)) : gb477 ≠ gb476)); clear BK476; clear HB; have BK476 := n0_; have HB := n1_; have BK477 := n2_; have GW477 := n3_; have GE477 := n4_; have NB476_477 := n5_; have NB477_476 := n6_; clear n0_ n1_ n2_ n3_ n4_ n5_ n6_; clear hb hbox hg) | ((with_reducible refine gate_dst (N := 4) rfl ?_); refine box_event ?hg (N := 4) ?hd (cs := #[.bool false, .int .i64 0, .int .i64 0]) (t := 23) ?hr ?_; (case hd => rfl); (case hg => rfl); (case hr => first | (go_simp; done) | (go_simp; rfl)); intro gb478 hg w6 hbox hb; have n0_ := kB BK476 hb; have n1_ := kB BK477 hb; have n2_ := kW HB hb; have n3_ := Aside0.mk (hbox); have n4_ := Aside0.mk ((by rw [hg]; exact (below_size (bS HB)) : w.heap.size ≤ gb478)); have n5_ := Aside0.mk ((by rw [hg]; exact (below_size (bS HB)) : w.heap.size ≤ gb478)); have n6_ := Aside0.mk ((by rw [hg]; exact Nat.ne_of_lt (blk_lt (bkS BK476)) : gb476 ≠ gb478)); have n7_ := Aside0.mk ((by rw [hg]; exact Nat.ne_of_gt (blk_lt (bkS BK476)) : gb478 ≠ gb476)); have n8_ := Aside0.mk ((by rw [hg]; exact Nat.ne_of_lt (blk_lt (bkS BK477)) : gb477 ≠ gb478)); have n9_ := Aside0.mk ((by rw [hg]; exact Nat.ne_of_gt (blk_lt (bkS BK477)) : gb478 ≠ gb477)); clear BK476; clear BK477; clear HB; have BK476 := n0_; have BK477 := n1_; have HB := n2_; have BK478 := n3_; have GW478 := n4_; have GE478 := n5_; have NB476_478 := n6_; have NB478_476 := n7_; have NB477_478 := n8_; have NB478_477 := n9_; clear n0_ n1_ n2_ n3_ n4_ n5_ n6_ n7_ n8_ n9_; clear hb hbox hg))
 (try simp only [Act.put, lA, lB, lC])
 go_cut [10] (fun v10 wc => ∃ (kq : Nat) (x10_2 : Bool), v10 = .bool x10_2 ∧ Aside0 (gimbalref31_Add.j0 kq x10_2 a0_0 a0_1 a0_2 a1_0 a1_1 a1_2 = some (r1, r2, r3)) ∧ Aside0 (kq ≤ k) ∧ Aside0 (wc.heap[gb476]? = some (.cells #[.bool a0_0, .int .i64 a0_1, .int .i64 a0_2] 23 (0, 0))) ∧ Aside0 (wc.heap[gb477]? = some (.cells #[.bool a1_0, .int .i64 a1_1, .int .i64 a1_2] 23 (0, 0))) ∧ Aside0 (wc.heap[gb478]? = some (.cells #[.bool false, .int .i64 0, .int .i64 0] 23 (0, 0))) ∧ Aside0 (Below w.heap.size w wc))
 case first =>
  have H := HC3.out
  clear HC3
  by_cases c7 : a0_0 = true
  ·
   subst c7
   have H1 : (gimbalref31_Add.j0 k true true a0_1 a0_2 a1_0 a1_1 a1_2) = some (r1, r2, r3) := by rw [if_pos rfl] at H; exact H
   clear H
   have H := H1
   clear H1
   have H' := Aside0.mk H
   clear H
   have hnb8 := NB476_477.out
   have hnc8 := NB477_476.out
   have hnb9 := NB476_478.out
   have hnc9 := NB478_476.out
   have hcz10_0 := cz0 BK476
   have hcz10_1 := cz1 BK476
   have hcz10_2 := cz2 BK476
   have hfz10_0 := fz BK476 0
   have hfz10_1 := fz BK476 1
   have hfz10_2 := fz BK476 2
   go_wp2
   go_meet
   case rel => exact ⟨_, (true), (by first | rfl | (simp; done) | (simp [*]; done)), H', ⟨by first | omega | exact Nat.le_refl _⟩, ⟨bkS BK476⟩, ⟨bkS BK477⟩, ⟨bkS BK478⟩, ⟨bS HB⟩⟩
  ·
   replace c7 := Bool.eq_false_iff.mpr c7
   subst c7
   have H1 : (gimbalref31_Add.j0 k a1_0 false a0_1 a0_2 a1_0 a1_1 a1_2) = some (r1, r2, r3) := by rw [if_neg (show ¬ (false = true) by decide)] at H; exact H
   clear H
   have H := H1
   clear H1
   have H' := Aside0.mk H
   clear H
   have hnb11 := NB476_477.out
   have hnc11 := NB477_476.out
   have hnb12 := NB476_478.out
   have hnc12 := NB478_476.out
   have hcz13_0 := cz0 BK476
   have hcz13_1 := cz1 BK476
   have hcz13_2 := cz2 BK476
   have hfz13_0 := fz BK476 0
   have hfz13_1 := fz BK476 1
   have hfz13_2 := fz BK476 2
   have hnb14 := NB477_478.out
   have hnc14 := NB478_477.out
   have hcz15_0 := cz0 BK477
   have hcz15_1 := cz1 BK477
   have hcz15_2 := cz2 BK477
   have hfz15_0 := fz BK477 0
   have hfz15_1 := fz BK477 1
   have hfz15_2 := fz BK477 2
   go_wp2
   go_meet
   case rel => exact ⟨_, (a1_0), (by first | rfl | (simp; done) | (simp [*]; done)), H', ⟨by first | omega | exact Nat.le_refl _⟩, ⟨bkS BK476⟩, ⟨bkS BK477⟩, ⟨bkS BK478⟩, ⟨bS HB⟩⟩
 case rest =>
  clear HC3
  try clear c1
  try clear p2
  try clear c3
  try clear c7
  try clear c8
  try clear c9
  try clear c11
  try clear c12
  try clear c14
  try clear hcz10_0
  try clear hcz10_1
  try clear hcz10_2
  try clear hcz13_0
  try clear hcz13_1
  try clear hcz13_2
  try clear hcz15_0
  try clear hcz15_1
  try clear hcz15_2
  try clear hfz10_0
  try clear hfz10_1
  try clear hfz10_2
  try clear hfz13_0
  try clear hfz13_1
  try clear hfz13_2
  try clear hfz15_0
  try clear hfz15_1
  try clear hfz15_2
  obtain ⟨kq, x10_2, rfl, HA, HJ2, BK476, BK477, BK478, HB⟩ := hcut
  cases kq with
  | zero => exact absurd HA.out (by simp [gimbalref31_Add.j0])
  | succ kj2 =>
   have H := HA.out
   clear HA
   simp only [gimbalref31_Add.j0] at H
   by_cases c16 : x10_2 = true
   ·
    subst c16
    have H1 : ((gimbalref31_None.f).bind fun bt479 => (some (bt479.1, bt479.2.1, bt479.2.2))) = some (r1, r2, r3) := by rw [if_pos rfl] at H; exact H
    clear H
    have H := H1
    clear H1
    replace H := Option.bind_eq_some_iff.mp H
    obtain ⟨⟨t479, t480, t481⟩, A170, H⟩ := H
    replace H : (some (t479, t480, t481)) = some (r1, r2, r3) := H
    have A17 := Aside0.mk A170
    clear A170
    simp only [Option.some.injEq, Prod.mk.injEq] at H
    obtain ⟨rfl, rfl, rfl⟩ := H
    go_wp2_with (first | ((with_reducible refine gate_callee (f := 69) rfl ?_); refine goesL_ (some 11) rfl rfl Tryd.func69 (by kernel_rfl) rfl #[] rfl mS ?_; (with_reducible refine (gimbalref31_None.calls  t479 t480 t481 _ A17.out).mono ?_); rintro e w18 ⟨rfl, hb⟩; refine ⟨_, rfl, ?_⟩; replace BK476 := kB BK476 hb; replace BK477 := kB BK477 hb; replace BK478 := kB BK478 hb; replace HB := kW HB hb; (try clear hb); (try clear hb2); (try clear hk); (try clear hi); have hnb19 := NB478_476.out; have hnc19 := NB476_478.out; have hnb20 := NB478_477.out; have hnc20 := NB477_478.out; have hcz21_0 := cz0 BK478; have hcz21_1 := cz1 BK478; have hcz21_2 := cz2 BK478; have hfz21_0 := fz BK478 0; have hfz21_1 := fz BK478 1; have hfz21_2 := fz BK478 2))
    refine bodyPost_ret (results_cell_row rfl _ _ gb478 23 #[.bool t479, .int .i64 t480, .int .i64 t481] (0, 0) _ rfl (by (with_reducible repeat (first | refine b1 ?_ _ | refine b2 ?_ | refine b3 ?_ _)); refine blk_put (cs := #[.bool t479, .int .i64 t480, .int .i64 0]) ?_ 2 _ rfl; (with_reducible repeat (first | refine b1 ?_ _ | refine b2 ?_ | refine b3 ?_ _)); refine blk_put (cs := #[.bool t479, .int .i64 0, .int .i64 0]) ?_ 1 _ rfl; (with_reducible repeat (first | refine b1 ?_ _ | refine b2 ?_ | refine b3 ?_ _)); refine blk_put (cs := #[.bool false, .int .i64 0, .int .i64 0]) ?_ 0 _ rfl; (with_reducible repeat (first | refine b1 ?_ _ | refine b2 ?_ | refine b3 ?_ _)); exact BK478.out) Tryd.underlying23 rfl (by kernel_rfl)) rfl ?_
    exact ⟨eS, bS HB⟩
   ·
    replace c16 := Bool.eq_false_iff.mpr c16
    subst c16
    have H1 : ((gimbalref31_size.f a0_1).bind fun t482 => ((gimbalref31_size.f a1_1).bind fun t483 => ((gimbalref31_gcd.f kj2 t482 t483).bind fun t484 => ((gimbalref31_of.f kj2 t484 (wrap64 (a0_2 + a1_2))).bind fun bt485 => (some (bt485.1, bt485.2.1, bt485.2.2)))))) = some (r1, r2, r3) := by rw [if_neg (show ¬ (false = true) by decide)] at H; exact H
    clear H
    have H := H1
    clear H1
    replace H := Option.bind_eq_some_iff.mp H
    obtain ⟨t482, A220, H⟩ := H
    replace H : ((gimbalref31_size.f a1_1).bind fun t483 => ((gimbalref31_gcd.f kj2 t482 t483).bind fun t484 => ((gimbalref31_of.f kj2 t484 (wrap64 (a0_2 + a1_2))).bind fun bt485 => (some (bt485.1, bt485.2.1, bt485.2.2))))) = some (r1, r2, r3) := H
    have A22 := Aside0.mk A220
    clear A220
    replace H := Option.bind_eq_some_iff.mp H
    obtain ⟨t483, A230, H⟩ := H
    replace H : ((gimbalref31_gcd.f kj2 t482 t483).bind fun t484 => ((gimbalref31_of.f kj2 t484 (wrap64 (a0_2 + a1_2))).bind fun bt485 => (some (bt485.1, bt485.2.1, bt485.2.2)))) = some (r1, r2, r3) := H
    have A23 := Aside0.mk A230
    clear A230
    replace H := Option.bind_eq_some_iff.mp H
    obtain ⟨t484, A240, H⟩ := H
    replace H : ((gimbalref31_of.f kj2 t484 (wrap64 (a0_2 + a1_2))).bind fun bt485 => (some (bt485.1, bt485.2.1, bt485.2.2))) = some (r1, r2, r3) := H
    have A24 := Aside0.mk A240
    clear A240
    replace H := Option.bind_eq_some_iff.mp H
    obtain ⟨⟨t485, t486, t487⟩, A250, H⟩ := H
    replace H : (some (t485, t486, t487)) = some (r1, r2, r3) := H
    have A25 := Aside0.mk A250
    clear A250
    simp only [Option.some.injEq, Prod.mk.injEq] at H
    obtain ⟨rfl, rfl, rfl⟩ := H
    try go_wp2
    replace BK476 := Aside0.mk (blk_drew BK476.out)
    replace BK477 := Aside0.mk (blk_drew BK477.out)
    replace BK478 := Aside0.mk (blk_drew BK478.out)
    replace HB := Aside0.mk (below_drew1 HB.out)
    refine start_ (n := 14) (S := fun w' => w'.cell? ⟨gb476, 0, none⟩ = some (.bool a0_0) ∧ w'.cell? ⟨gb476, 1, none⟩ = some (.int .i64 a0_1) ∧ w'.cell? ⟨gb476, 2, none⟩ = some (.int .i64 a0_2) ∧ w'.cell? ⟨gb477, 0, none⟩ = some (.bool a1_0) ∧ w'.cell? ⟨gb477, 1, none⟩ = some (.int .i64 a1_1) ∧ w'.cell? ⟨gb477, 2, none⟩ = some (.int .i64 a1_2)) (ds := []) #[false, false, false, false, false, false, false, false, false, false, false, false, false, false] (by kernel_rfl) rfl rfl ⟨cz0 BK476, cz1 BK476, cz2 BK476, cz0 BK477, cz1 BK477, cz2 BK477⟩ (fun hHeld => ?_); refine with_tabW gimbalref31_Add.tab3 gimbalref31_Add.bits3 (fun HT_ HW_ => ?_)
    generalize wc.drew = w26 at BK476 BK477 BK478 HB hHeld ⊢
    refine pure_ (i := 0) (N := some 12) (v := ?_) (a' := ?_) #[true, false, false, false, false, false, false, false, false, false, false, false, false, false] rfl rfl (any_of HT_.out (by kernel_rfl)) (fun _ _ _ h => h) (Or.inl ⟨by rfl, ?_⟩) ?_ ?_
    rotate_left
    ·
     intro w'
     go_simp
     with_reducible rfl
    rotate_left
    ·
     simp only [Act.put, lA, lB, lC, i64_w, i32_w]
     rfl
    refine pure_ (i := 3) (N := some 15) (v := ?_) (a' := ?_) #[true, false, false, true, false, false, false, false, false, false, false, false, false, false] rfl rfl (any_of HT_.out (by kernel_rfl)) (fun _ _ _ h => h) (Or.inl ⟨by rfl, ?_⟩) ?_ ?_
    rotate_left
    ·
     intro w'
     go_simp
     with_reducible rfl
    rotate_left
    ·
     simp only [Act.put, lA, lB, lC, i64_w, i32_w]
     rfl
    refine pure_ (i := 7) (N := some 19) (v := ?_) (a' := ?_) #[true, false, false, true, false, false, false, true, false, false, false, false, false, false] rfl rfl (any_of HT_.out (by kernel_rfl)) (fun _ _ _ h => h) (Or.inl ⟨by rfl, ?_⟩) ?_ ?_
    rotate_left
    ·
     intro w'
     go_simp
     with_reducible rfl
    rotate_left
    ·
     simp only [Act.put, lA, lB, lC, i64_w, i32_w]
     rfl
    refine pure_ (i := 9) (N := some 21) (v := ?_) (a' := ?_) #[true, false, false, true, false, false, false, true, false, true, false, false, false, false] rfl rfl (any_of HT_.out (by kernel_rfl)) (fun _ _ _ h => h) (Or.inl ⟨by rfl, ?_⟩) ?_ ?_
    rotate_left
    ·
     intro w'
     go_simp
     with_reducible rfl
    rotate_left
    ·
     simp only [Act.put, lA, lB, lC, i64_w, i32_w]
     rfl
    refine take_ (i := 1) (N := some 13) (v := ?_) (a' := ?_) #[true, true, false, true, false, false, false, true, false, true, false, false, false, false] rfl rfl (take_ofW HT_.out HW_.out (by kernel_rfl)) (fun _ _ _ h => h) (Or.inl ⟨by rfl, ?_⟩) hHeld ?_ ?_
    rotate_left
    ·
     rintro w' ⟨s0, s1, s2, s3, s4, s5⟩
     go_simp
     with_reducible rfl
    rotate_left
    ·
     simp only [Act.put, lA, lB, lC, i64_w, i32_w]
     rfl
    refine take_ (i := 4) (N := some 16) (v := ?_) (a' := ?_) #[true, true, false, true, true, false, false, true, false, true, false, false, false, false] rfl rfl (take_ofW HT_.out HW_.out (by kernel_rfl)) (fun _ _ _ h => h) (Or.inl ⟨by rfl, ?_⟩) hHeld ?_ ?_
    rotate_left
    ·
     rintro w' ⟨s0, s1, s2, s3, s4, s5⟩
     go_simp
     with_reducible rfl
    rotate_left
    ·
     simp only [Act.put, lA, lB, lC, i64_w, i32_w]
     rfl
    refine take_ (i := 8) (N := some 20) (v := ?_) (a' := ?_) #[true, true, false, true, true, false, false, true, true, true, false, false, false, false] rfl rfl (take_ofW HT_.out HW_.out (by kernel_rfl)) (fun _ _ _ h => h) (Or.inl ⟨by rfl, ?_⟩) hHeld ?_ ?_
    rotate_left
    ·
     rintro w' ⟨s0, s1, s2, s3, s4, s5⟩
     go_simp
     with_reducible rfl
    rotate_left
    ·
     simp only [Act.put, lA, lB, lC, i64_w, i32_w]
     rfl
    refine take_ (i := 10) (N := some 22) (v := ?_) (a' := ?_) #[true, true, false, true, true, false, false, true, true, true, true, false, false, false] rfl rfl (take_ofW HT_.out HW_.out (by kernel_rfl)) (fun _ _ _ h => h) (Or.inl ⟨by rfl, ?_⟩) hHeld ?_ ?_
    rotate_left
    ·
     rintro w' ⟨s0, s1, s2, s3, s4, s5⟩
     go_simp
     with_reducible rfl
    rotate_left
    ·
     simp only [Act.put, lA, lB, lC, i64_w, i32_w]
     rfl
    refine pure_ (i := 11) (N := some 23) (v := ?_) (a' := ?_) #[true, true, false, true, true, false, false, true, true, true, true, true, false, false] rfl rfl (any_of HT_.out (by kernel_rfl)) (fun _ _ _ h => h) (Or.inl ⟨by rfl, ?_⟩) ?_ ?_
    rotate_left
    ·
     intro w'
     go_simp
     with_reducible rfl
    rotate_left
    ·
     simp only [Act.put, lA, lB, lC, i64_w, i32_w]
     rfl
    refine one_ (i := 2) (N := some 14) #[true, true, true, true, true, false, false, true, true, true, true, true, false, false] rfl rfl (one_of HT_.out (by kernel_rfl)) (by decide) (fun K hK => ?_)
    refine goes_ Tryd.func55 (by kernel_rfl) rfl #[.int .i64 a0_1] (by rfl) rfl rfl mS ?_
    with_reducible refine (gimbalref31_size.calls a0_1 t482 _ A22.out).mono ?_
    rintro e w' ⟨rfl, ⟨nd, rfl⟩⟩
    refine ⟨_, rfl, ?_⟩
    refine hK.out _ _ ⟨cz0 BK476, cz1 BK476, cz2 BK476, cz0 BK477, cz1 BK477, cz2 BK477⟩ (fun hHeld => ?_)
    clear hK K
    refine norm_ (a' := ?_) ?_ ?_
    rotate_left
    ·
     show Act.put _ (some 14) _ = _
     simp only [Act.put, lA, lB, lC, i64_w, i32_w]
     rfl
    refine one_ (i := 5) (N := some 17) #[true, true, true, true, true, true, false, true, true, true, true, true, false, false] rfl rfl (one_of HT_.out (by kernel_rfl)) (by decide) (fun K hK => ?_)
    refine goes_ Tryd.func55 (by kernel_rfl) rfl #[.int .i64 a1_1] (by rfl) rfl rfl mS ?_
    with_reducible refine (gimbalref31_size.calls a1_1 t483 _ A23.out).mono ?_
    rintro e w' ⟨rfl, ⟨nd, rfl⟩⟩
    refine ⟨_, rfl, ?_⟩
    refine hK.out _ _ ⟨cz0 BK476, cz1 BK476, cz2 BK476, cz0 BK477, cz1 BK477, cz2 BK477⟩ (fun hHeld => ?_)
    clear hK K
    refine norm_ (a' := ?_) ?_ ?_
    rotate_left
    ·
     show Act.put _ (some 17) _ = _
     simp only [Act.put, lA, lB, lC, i64_w, i32_w]
     rfl
    refine one_ (i := 6) (N := some 18) #[true, true, true, true, true, true, true, true, true, true, true, true, false, false] rfl rfl (one_of HT_.out (by kernel_rfl)) (by decide) (fun K hK => ?_)
    refine goes_ Tryd.func80 (by kernel_rfl) rfl #[.int .u64 t482, .int .u64 t483] (by rfl) rfl rfl mS ?_
    with_reducible refine (gimbalref31_gcd.calls kj2 t482 t483 t484 _ A24.out).mono ?_
    rintro e w' ⟨rfl, ⟨nd, rfl⟩⟩
    refine ⟨_, rfl, ?_⟩
    refine hK.out _ _ ⟨cz0 BK476, cz1 BK476, cz2 BK476, cz0 BK477, cz1 BK477, cz2 BK477⟩ (fun hHeld => ?_)
    clear hK K
    refine norm_ (a' := ?_) ?_ ?_
    rotate_left
    ·
     show Act.put _ (some 18) _ = _
     simp only [Act.put, lA, lB, lC, i64_w, i32_w]
     rfl
    refine one_ (i := 12) (N := some 24) #[true, true, true, true, true, true, true, true, true, true, true, true, true, false] rfl rfl (one_of HT_.out (by kernel_rfl)) (by decide) (fun K hK => ?_)
    refine goes_ Tryd.func79 (by kernel_rfl) rfl #[.int .u64 t484, .int .i64 (wrap64 (a0_2 + a1_2))] (by rfl) rfl rfl mS ?_
    with_reducible refine (gimbalref31_of.calls kj2 t484 (wrap64 (a0_2 + a1_2)) t485 t486 t487 _ A25.out).mono ?_
    rintro e w27 ⟨rfl, hb⟩
    refine ⟨_, rfl, ?_⟩
    replace BK476 := kB BK476 hb
    replace BK477 := kB BK477 hb
    replace BK478 := kB BK478 hb
    replace HB := kW HB hb
    (try clear hb)
    (try clear hb2)
    (try clear hk)
    (try clear hi)
    refine hK.out _ _ ⟨cz0 BK476, cz1 BK476, cz2 BK476, cz0 BK477, cz1 BK477, cz2 BK477⟩ (fun hHeld => ?_)
    clear hK K
    refine norm_ (a' := ?_) ?_ ?_
    rotate_left
    ·
     show Act.put _ (some 24) _ = _
     simp only [Act.put, lA, lB, lC, i64_w, i32_w]
     rfl
    refine one_ (i := 13) (N := none) #[true, true, true, true, true, true, true, true, true, true, true, true, true, true] rfl rfl (one_of HT_.out (by kernel_rfl)) (by decide) (fun K hK => ?_)
    have hs28 : w27.cell? ⟨gb478, 0, none⟩ = some (.bool false) := cz0 BK478
    have hfs28 := fz BK478 0
    have hns28_0 := NB476_478.out
    have hns28_1 := NB477_478.out
    have hms28_0 := NB478_476.out
    have hms28_1 := NB478_477.out
    have hs29 : w27.cell? ⟨gb478, 1, none⟩ = some (.int .i64 0) := cz1 BK478
    have hfs29 := fz BK478 1
    have hns29_0 := NB476_478.out
    have hns29_1 := NB477_478.out
    have hms29_0 := NB478_476.out
    have hms29_1 := NB478_477.out
    have hs30 : w27.cell? ⟨gb478, 2, none⟩ = some (.int .i64 0) := cz2 BK478
    have hfs30 := fz BK478 2
    have hns30_0 := NB476_478.out
    have hns30_1 := NB477_478.out
    have hms30_0 := NB478_476.out
    have hms30_1 := NB478_477.out
    refine skip_ (w1 := ?_) (by rfl) rfl ?_ ?_
    rotate_left
    ·
     go_simp
     rfl
    refine hK.out _ _ ⟨((cell_far (p := ⟨gb478, _, none⟩) NB476_478.out _).trans (((cell_far (p := ⟨gb478, _, none⟩) NB476_478.out _).trans (((cell_far (p := ⟨gb478, _, none⟩) NB476_478.out _).trans (hHeld.1)))))), ((cell_far (p := ⟨gb478, _, none⟩) NB476_478.out _).trans (((cell_far (p := ⟨gb478, _, none⟩) NB476_478.out _).trans (((cell_far (p := ⟨gb478, _, none⟩) NB476_478.out _).trans (hHeld.2.1)))))), ((cell_far (p := ⟨gb478, _, none⟩) NB476_478.out _).trans (((cell_far (p := ⟨gb478, _, none⟩) NB476_478.out _).trans (((cell_far (p := ⟨gb478, _, none⟩) NB476_478.out _).trans (hHeld.2.2.1)))))), ((cell_far (p := ⟨gb478, _, none⟩) NB477_478.out _).trans (((cell_far (p := ⟨gb478, _, none⟩) NB477_478.out _).trans (((cell_far (p := ⟨gb478, _, none⟩) NB477_478.out _).trans (hHeld.2.2.2.1)))))), ((cell_far (p := ⟨gb478, _, none⟩) NB477_478.out _).trans (((cell_far (p := ⟨gb478, _, none⟩) NB477_478.out _).trans (((cell_far (p := ⟨gb478, _, none⟩) NB477_478.out _).trans (hHeld.2.2.2.2.1)))))), ((cell_far (p := ⟨gb478, _, none⟩) NB477_478.out _).trans (((cell_far (p := ⟨gb478, _, none⟩) NB477_478.out _).trans (((cell_far (p := ⟨gb478, _, none⟩) NB477_478.out _).trans (hHeld.2.2.2.2.2))))))⟩ (fun hHeld => ?_)
    clear hK K
    refine done_ (done_of HT_.out (by kernel_rfl)) ?_
    try go_wp2
    refine bodyPost_ret (results_cell_row rfl _ _ gb478 23 #[.bool t485, .int .i64 t486, .int .i64 t487] (0, 0) _ rfl (by (with_reducible repeat (first | refine b1 ?_ _ | refine b2 ?_ | refine b3 ?_ _)); refine blk_put (cs := #[.bool t485, .int .i64 t486, .int .i64 0]) ?_ 2 _ rfl; (with_reducible repeat (first | refine b1 ?_ _ | refine b2 ?_ | refine b3 ?_ _)); refine blk_put (cs := #[.bool t485, .int .i64 0, .int .i64 0]) ?_ 1 _ rfl; (with_reducible repeat (first | refine b1 ?_ _ | refine b2 ?_ | refine b3 ?_ _)); refine blk_put (cs := #[.bool false, .int .i64 0, .int .i64 0]) ?_ 0 _ rfl; (with_reducible repeat (first | refine b1 ?_ _ | refine b2 ?_ | refine b3 ?_ _)); exact BK478.out) Tryd.underlying23 rfl (by kernel_rfl)) rfl ?_
    exact ⟨eS, bS HB⟩

def congr_Sub.j0 : Nat → Bool → Bool → Int → Int → Bool → Int → Int → Option (Bool × Int × Int)
 | 0, _, _, _, _, _, _, _ => none
 | k + 1, x10, x489000, x489001, x489002, x490000, x490001, x490002 => if x10 = true then ((congr_none.f).bind fun bt491 => (some (bt491.1, bt491.2.1, bt491.2.2))) else ((congr_gcd_uint64.f k (IntKind.u64.wrap (x489001)) (IntKind.u64.wrap (x490001))).bind fun t494 => ((congr_by.f k t494 (wrap64 (x489002 - x490002))).bind fun bt495 => (some (bt495.1, bt495.2.1, bt495.2.2))))
def congr_Sub.f (k : Nat) (a0_0 : Bool) (a0_1 : Int) (a0_2 : Int) (a1_0 : Bool) (a1_1 : Int) (a1_2 : Int) : Option (Bool × Int × Int) := if a0_0 = true then (congr_Sub.j0 k true a0_0 a0_1 a0_2 a1_0 a1_1 a1_2) else (congr_Sub.j0 k a1_0 a0_0 a0_1 a0_2 a1_0 a1_1 a1_2)
def congr_Sub.T3 : Bool × List (List Nat × List Nat) := (true, [([], []), ([0], [0]), ([1], [1]), ([], []), ([3], [3]), ([4], [4]), ([2, 5], [2, 5]), ([], []), ([7], [7]), ([], []), ([9], [9]), ([8, 10], [8, 10]), ([6, 11, 6], [6, 11]), ([12, 12, 0, 1, 2, 3, 4, 5, 6, 7, 8, 9, 10, 11, 12], [12])])
def congr_Sub.B3 : List Nat := [0, 1, 3, 0, 8, 24, 63, 0, 128, 0, 512, 1920, 4095, 8191]
theorem congr_Sub.tab3 : rtab .any (opsOf Tryd.f37 3) = congr_Sub.T3 := by kernel_rfl
theorem congr_Sub.bits3 : waitsOk congr_Sub.T3.2 congr_Sub.B3 = true := by kernel_rfl
set_option maxHeartbeats 8000000 in
set_option maxRecDepth 100000 in
theorem congr_Sub.calls (k : Nat) (a0_0 : Bool) (a0_1 : Int) (a0_2 : Int) (a1_0 : Bool) (a1_1 : Int) (a1_2 : Int) (r1 : Bool) (r2 : Int) (r3 : Int) (w : World) (h : congr_Sub.f k a0_0 a0_1 a0_2 a1_0 a1_1 a1_2 = some (r1, r2, r3)) :
  Calls Tryd.prog 37 #[.agg #[.bool a0_0, .int .i64 a0_1, .int .i64 a0_2], .agg #[.bool a1_0, .int .i64 a1_1, .int .i64 a1_2]] w fun e w' => e = .returned (.agg #[.bool r1, .int .i64 r2, .int .i64 r3]) ∧ Below w.heap.size w w' := by
 have hu23 := Tryd.underlying23
 have HB := Aside0.mk (Below.refl w.heap.size w)
 have H : (if a0_0 = true then (congr_Sub.j0 k true a0_0 a0_1 a0_2 a1_0 a1_1 a1_2) else (congr_Sub.j0 k a1_0 a0_0 a0_1 a0_2 a1_0 a1_1 a1_2)) = some (r1, r2, r3) := h
 clear h
 have HC3 := Aside0.mk H
 clear H
 go_enter Tryd.func37, Tryd.ntmps37
 go_upto_region 1 with (first | ((with_reducible refine gate_dst (N := 2) rfl ?_); refine box_event ?hg (N := 2) ?hd (cs := #[.bool a0_0, .int .i64 a0_1, .int .i64 a0_2]) (t := 23) ?hr ?_; (case hd => rfl); (case hg => rfl); (case hr => first | (go_simp; done) | (go_simp; rfl)); intro gb488 hg w4 hbox hb; have n0_ := kW HB hb; have n1_ := Aside0.mk (hbox); have n2_ := Aside0.mk ((by rw [hg]; exact (below_size (bS HB)) : w.heap.size ≤ gb488)); have n3_ := Aside0.mk ((by rw [hg]; exact (below_size (bS HB)) : w.heap.size ≤ gb488)); clear HB; have HB := n0_; have BK488 := n1_; have GW488 := n2_; have GE488 := n3_; clear n0_ n1_ n2_ n3_; clear hb hbox hg) | ((with_reducible refine gate_dst (N := 3) rfl ?_); refine box_event ?hg (N := 3) ?hd (cs := #[.bool a1_0, .int .i64 a1_1, .int .i64 a1_2]) (t := 23) ?hr ?_; (case hd => rfl); (case hg => rfl); (case hr => first | (go_simp; done) | (go_simp; rfl)); intro gb489 hg w5 hbox hb; have n0_ := kB BK488 hb; have n1_ := kW HB hb; have n2_ := Aside0.mk (hbox); have n3_ := Aside0.mk ((by rw [hg]; exact (below_size (bS HB)) : w.heap.size ≤ gb489)); have n4_ := Aside0.mk ((by rw [hg]; exact (below_size (bS HB)) : w.heap.size ≤ gb489)); have n5_ := Aside0.mk ((by rw [hg]; exact Nat.ne_of_lt (blk_lt (bkS BK488)) : gb488 ≠ gb489)); have n6_ := Aside0.mk ((by rw [hg]; exact Nat.ne_of_gt (blk_lt (bkS BK488)) : gb489 ≠ gb488)); clear BK488; clear HB; have BK488 := n0_; have HB := n1_; have BK489 := n2_; have GW489 := n3_; have GE489 := n4_; have NB488_489 := n5_; have NB489_488 := n6_; clear n0_ n1_ n2_ n3_ n4_ n5_ n6_; clear hb hbox hg) | ((with_reducible refine gate_dst (N := 4) rfl ?_); refine box_event ?hg (N := 4) ?hd (cs := #[.bool false, .int .i64 0, .int .i64 0]) (t := 23) ?hr ?_; (case hd => rfl); (case hg => rfl); (case hr => first | (go_simp; done) | (go_simp; rfl)); intro gb490 hg w6 hbox hb; have n0_ := kB BK488 hb; have n1_ := kB BK489 hb; have n2_ := kW HB hb; have n3_ := Aside0.mk (hbox); have n4_ := Aside0.mk ((by rw [hg]; exact (below_size (bS HB)) : w.heap.size ≤ gb490)); have n5_ := Aside0.mk ((by rw [hg]; exact (below_size (bS HB)) : w.heap.size ≤ gb490)); have n6_ := Aside0.mk ((by rw [hg]; exact Nat.ne_of_lt (blk_lt (bkS BK488)) : gb488 ≠ gb490)); have n7_ := Aside0.mk ((by rw [hg]; exact Nat.ne_of_gt (blk_lt (bkS BK488)) : gb490 ≠ gb488)); have n8_ := Aside0.mk ((by rw [hg]; exact Nat.ne_of_lt (blk_lt (bkS BK489)) : gb489 ≠ gb490)); have n9_ := Aside0.mk ((by rw [hg]; exact Nat.ne_of_gt (blk_lt (bkS BK489)) : gb490 ≠ gb489)); clear BK488; clear BK489; clear HB; have BK488 := n0_; have BK489 := n1_; have HB := n2_; have BK490 := n3_; have GW490 := n4_; have GE490 := n5_; have NB488_490 := n6_; have NB490_488 := n7_; have NB489_490 := n8_; have NB490_489 := n9_; clear n0_ n1_ n2_ n3_ n4_ n5_ n6_ n7_ n8_ n9_; clear hb hbox hg))
 (try simp only [Act.put, lA, lB, lC])
 go_cut [10] (fun v10 wc => ∃ (kq : Nat) (x10_2 : Bool), v10 = .bool x10_2 ∧ Aside0 (congr_Sub.j0 kq x10_2 a0_0 a0_1 a0_2 a1_0 a1_1 a1_2 = some (r1, r2, r3)) ∧ Aside0 (kq ≤ k) ∧ Aside0 (wc.heap[gb488]? = some (.cells #[.bool a0_0, .int .i64 a0_1, .int .i64 a0_2] 23 (0, 0))) ∧ Aside0 (wc.heap[gb489]? = some (.cells #[.bool a1_0, .int .i64 a1_1, .int .i64 a1_2] 23 (0, 0))) ∧ Aside0 (wc.heap[gb490]? = some (.cells #[.bool false, .int .i64 0, .int .i64 0] 23 (0, 0))) ∧ Aside0 (Below w.heap.size w wc))
 case first =>
  have H := HC3.out
  clear HC3
  by_cases c7 : a0_0 = true
  ·
   subst c7
   have H1 : (congr_Sub.j0 k true true a0_1 a0_2 a1_0 a1_1 a1_2) = some (r1, r2, r3) := by rw [if_pos rfl] at H; exact H
   clear H
   have H := H1
   clear H1
   have H' := Aside0.mk H
   clear H
   have hnb8 := NB488_489.out
   have hnc8 := NB489_488.out
   have hnb9 := NB488_490.out
   have hnc9 := NB490_488.out
   have hcz10_0 := cz0 BK488
   have hcz10_1 := cz1 BK488
   have hcz10_2 := cz2 BK488
   have hfz10_0 := fz BK488 0
   have hfz10_1 := fz BK488 1
   have hfz10_2 := fz BK488 2
   go_wp2
   go_meet
   case rel => exact ⟨_, (true), (by first | rfl | (simp; done) | (simp [*]; done)), H', ⟨by first | omega | exact Nat.le_refl _⟩, ⟨bkS BK488⟩, ⟨bkS BK489⟩, ⟨bkS BK490⟩, ⟨bS HB⟩⟩
  ·
   replace c7 := Bool.eq_false_iff.mpr c7
   subst c7
   have H1 : (congr_Sub.j0 k a1_0 false a0_1 a0_2 a1_0 a1_1 a1_2) = some (r1, r2, r3) := by rw [if_neg (show ¬ (false = true) by decide)] at H; exact H
   clear H
   have H := H1
   clear H1
   have H' := Aside0.mk H
   clear H
   have hnb11 := NB488_489.out
   have hnc11 := NB489_488.out
   have hnb12 := NB488_490.out
   have hnc12 := NB490_488.out
   have hcz13_0 := cz0 BK488
   have hcz13_1 := cz1 BK488
   have hcz13_2 := cz2 BK488
   have hfz13_0 := fz BK488 0
   have hfz13_1 := fz BK488 1
   have hfz13_2 := fz BK488 2
   have hnb14 := NB489_490.out
   have hnc14 := NB490_489.out
   have hcz15_0 := cz0 BK489
   have hcz15_1 := cz1 BK489
   have hcz15_2 := cz2 BK489
   have hfz15_0 := fz BK489 0
   have hfz15_1 := fz BK489 1
   have hfz15_2 := fz BK489 2
   go_wp2
   go_meet
   case rel => exact ⟨_, (a1_0), (by first | rfl | (simp; done) | (simp [*]; done)), H', ⟨by first | omega | exact Nat.le_refl _⟩, ⟨bkS BK488⟩, ⟨bkS BK489⟩, ⟨bkS BK490⟩, ⟨bS HB⟩⟩
 case rest =>
  clear HC3
  try clear c1
  try clear p2
  try clear c3
  try clear c7
  try clear c8
  try clear c9
  try clear c11
  try clear c12
  try clear c14
  try clear hcz10_0
  try clear hcz10_1
  try clear hcz10_2
  try clear hcz13_0
  try clear hcz13_1
  try clear hcz13_2
  try clear hcz15_0
  try clear hcz15_1
  try clear hcz15_2
  try clear hfz10_0
  try clear hfz10_1
  try clear hfz10_2
  try clear hfz13_0
  try clear hfz13_1
  try clear hfz13_2
  try clear hfz15_0
  try clear hfz15_1
  try clear hfz15_2
  obtain ⟨kq, x10_2, rfl, HA, HJ2, BK488, BK489, BK490, HB⟩ := hcut
  cases kq with
  | zero => exact absurd HA.out (by simp [congr_Sub.j0])
  | succ kj2 =>
   have H := HA.out
   clear HA
   simp only [congr_Sub.j0] at H
   by_cases c16 : x10_2 = true
   ·
    subst c16
    have H1 : ((congr_none.f).bind fun bt491 => (some (bt491.1, bt491.2.1, bt491.2.2))) = some (r1, r2, r3) := by rw [if_pos rfl] at H; exact H
    clear H
    have H := H1
    clear H1
    replace H := Option.bind_eq_some_iff.mp H
    obtain ⟨⟨t491, t492, t493⟩, A170, H⟩ := H
    replace H : (some (t491, t492, t493)) = some (r1, r2, r3) := H
    have A17 := Aside0.mk A170
    clear A170
    simp only [Option.some.injEq, Prod.mk.injEq] at H
    obtain ⟨rfl, rfl, rfl⟩ := H
    go_wp2_with (first | ((with_reducible refine gate_callee (f := 56) rfl ?_); refine goesL_ (some 11) rfl rfl Tryd.func56 (by kernel_rfl) rfl #[] rfl mS ?_; (with_reducible refine (congr_none.calls  t491 t492 t493 _ A17.out).mono ?_); rintro e w18 ⟨rfl, hb⟩; refine ⟨_, rfl, ?_⟩; replace BK488 := kB BK488 hb; replace BK489 := kB BK489 hb; replace BK490 := kB BK490 hb; replace HB := kW HB hb; (try clear hb); (try clear hb2); (try clear hk); (try clear hi); have hnb19 := NB490_488.out; have hnc19 := NB488_490.out; have hnb20 := NB490_489.out; have hnc20 := NB489_490.out; have hcz21_0 := cz0 BK490; have hcz21_1 := cz1 BK490; have hcz21_2 := cz2 BK490; have hfz21_0 := fz BK490 0; have hfz21_1 := fz BK490 1; have hfz21_2 := fz BK490 2))
    refine bodyPost_ret (results_cell_row rfl _ _ gb490 23 #[.bool t491, .int .i64 t492, .int .i64 t493] (0, 0) _ rfl (by (with_reducible repeat (first | refine b1 ?_ _ | refine b2 ?_ | refine b3 ?_ _)); refine blk_put (cs := #[.bool t491, .int .i64 t492, .int .i64 0]) ?_ 2 _ rfl; (with_reducible repeat (first | refine b1 ?_ _ | refine b2 ?_ | refine b3 ?_ _)); refine blk_put (cs := #[.bool t491, .int .i64 0, .int .i64 0]) ?_ 1 _ rfl; (with_reducible repeat (first | refine b1 ?_ _ | refine b2 ?_ | refine b3 ?_ _)); refine blk_put (cs := #[.bool false, .int .i64 0, .int .i64 0]) ?_ 0 _ rfl; (with_reducible repeat (first | refine b1 ?_ _ | refine b2 ?_ | refine b3 ?_ _)); exact BK490.out) Tryd.underlying23 rfl (by kernel_rfl)) rfl ?_
    exact ⟨eS, bS HB⟩
   ·
    replace c16 := Bool.eq_false_iff.mpr c16
    subst c16
    have H1 : ((congr_gcd_uint64.f kj2 (IntKind.u64.wrap (a0_1)) (IntKind.u64.wrap (a1_1))).bind fun t494 => ((congr_by.f kj2 t494 (wrap64 (a0_2 - a1_2))).bind fun bt495 => (some (bt495.1, bt495.2.1, bt495.2.2)))) = some (r1, r2, r3) := by rw [if_neg (show ¬ (false = true) by decide)] at H; exact H
    clear H
    have H := H1
    clear H1
    replace H := Option.bind_eq_some_iff.mp H
    obtain ⟨t494, A220, H⟩ := H
    replace H : ((congr_by.f kj2 t494 (wrap64 (a0_2 - a1_2))).bind fun bt495 => (some (bt495.1, bt495.2.1, bt495.2.2))) = some (r1, r2, r3) := H
    have A22 := Aside0.mk A220
    clear A220
    replace H := Option.bind_eq_some_iff.mp H
    obtain ⟨⟨t495, t496, t497⟩, A230, H⟩ := H
    replace H : (some (t495, t496, t497)) = some (r1, r2, r3) := H
    have A23 := Aside0.mk A230
    clear A230
    simp only [Option.some.injEq, Prod.mk.injEq] at H
    obtain ⟨rfl, rfl, rfl⟩ := H
    try go_wp2
    replace BK488 := Aside0.mk (blk_drew BK488.out)
    replace BK489 := Aside0.mk (blk_drew BK489.out)
    replace BK490 := Aside0.mk (blk_drew BK490.out)
    replace HB := Aside0.mk (below_drew1 HB.out)
    refine start_ (n := 14) (S := fun w' => w'.cell? ⟨gb488, 0, none⟩ = some (.bool a0_0) ∧ w'.cell? ⟨gb488, 1, none⟩ = some (.int .i64 a0_1) ∧ w'.cell? ⟨gb488, 2, none⟩ = some (.int .i64 a0_2) ∧ w'.cell? ⟨gb489, 0, none⟩ = some (.bool a1_0) ∧ w'.cell? ⟨gb489, 1, none⟩ = some (.int .i64 a1_1) ∧ w'.cell? ⟨gb489, 2, none⟩ = some (.int .i64 a1_2)) (ds := []) #[false, false, false, false, false, false, false, false, false, false, false, false, false, false] (by kernel_rfl) rfl rfl ⟨cz0 BK488, cz1 BK488, cz2 BK488, cz0 BK489, cz1 BK489, cz2 BK489⟩ (fun hHeld => ?_); refine with_tabW congr_Sub.tab3 congr_Sub.bits3 (fun HT_ HW_ => ?_)
    generalize wc.drew = w24 at BK488 BK489 BK490 HB hHeld ⊢
    refine pure_ (i := 0) (N := some 12) (v := ?_) (a' := ?_) #[true, false, false, false, false, false, false, false, false, false, false, false, false, false] rfl rfl (any_of HT_.out (by kernel_rfl)) (fun _ _ _ h => h) (Or.inl ⟨by rfl, ?_⟩) ?_ ?_
    rotate_left
    ·
     intro w'
     go_simp
     with_reducible rfl
    rotate_left
    ·
     simp only [Act.put, lA, lB, lC, i64_w, i32_w]
     rfl
    refine pure_ (i := 3) (N := some 15) (v := ?_) (a' := ?_) #[true, false, false, true, false, false, false, false, false, false, false, false, false, false] rfl rfl (any_of HT_.out (by kernel_rfl)) (fun _ _ _ h => h) (Or.inl ⟨by rfl, ?_⟩) ?_ ?_
    rotate_left
    ·
     intro w'
     go_simp
     with_reducible rfl
    rotate_left
    ·
     simp only [Act.put, lA, lB, lC, i64_w, i32_w]
     rfl
    refine pure_ (i := 7) (N := some 19) (v := ?_) (a' := ?_) #[true, false, false, true, false, false, false, true, false, false, false, false, false, false] rfl rfl (any_of HT_.out (by kernel_rfl)) (fun _ _ _ h => h) (Or.inl ⟨by rfl, ?_⟩) ?_ ?_
    rotate_left
    ·
     intro w'
     go_simp
     with_reducible rfl
    rotate_left
    ·
     simp only [Act.put, lA, lB, lC, i64_w, i32_w]
     rfl
    refine pure_ (i := 9) (N := some 21) (v := ?_) (a' := ?_) #[true, false, false, true, false, false, false, true, false, true, false, false, false, false] rfl rfl (any_of HT_.out (by kernel_rfl)) (fun _ _ _ h => h) (Or.inl ⟨by rfl, ?_⟩) ?_ ?_
    rotate_left
    ·
     intro w'
     go_simp
     with_reducible rfl
    rotate_left
    ·
     simp only [Act.put, lA, lB, lC, i64_w, i32_w]
     rfl
    refine take_ (i := 1) (N := some 13) (v := ?_) (a' := ?_) #[true, true, false, true, false, false, false, true, false, true, false, false, false, false] rfl rfl (take_ofW HT_.out HW_.out (by kernel_rfl)) (fun _ _ _ h => h) (Or.inl ⟨by rfl, ?_⟩) hHeld ?_ ?_
    rotate_left
    ·
     rintro w' ⟨s0, s1, s2, s3, s4, s5⟩
     go_simp
     with_reducible rfl
    rotate_left
    ·
     simp only [Act.put, lA, lB, lC, i64_w, i32_w]
     rfl
    refine pure_ (i := 2) (N := some 14) (v := ?_) (a' := ?_) #[true, true, true, true, false, false, false, true, false, true, false, false, false, false] rfl rfl (any_of HT_.out (by kernel_rfl)) (fun _ _ _ h => h) (Or.inl ⟨by rfl, ?_⟩) ?_ ?_
    rotate_left
    ·
     intro w'
     go_simp
     with_reducible rfl
    rotate_left
    ·
     simp only [Act.put, lA, lB, lC, i64_w, i32_w]
     rfl
    refine take_ (i := 4) (N := some 16) (v := ?_) (a' := ?_) #[true, true, true, true, true, false, false, true, false, true, false, false, false, false] rfl rfl (take_ofW HT_.out HW_.out (by kernel_rfl)) (fun _ _ _ h => h) (Or.inl ⟨by rfl, ?_⟩) hHeld ?_ ?_
    rotate_left
    ·
     rintro w' ⟨s0, s1, s2, s3, s4, s5⟩
     go_simp
     with_reducible rfl
    rotate_left
    ·
     simp only [Act.put, lA, lB, lC, i64_w, i32_w]
     rfl
    refine pure_ (i := 5) (N := some 17) (v := ?_) (a' := ?_) #[true, true, true, true, true, true, false, true, false, true, false, false, false, false] rfl rfl (any_of HT_.out (by kernel_rfl)) (fun _ _ _ h => h) (Or.inl ⟨by rfl, ?_⟩) ?_ ?_
    rotate_left
    ·
     intro w'
     go_simp
     with_reducible rfl
    rotate_left
    ·
     simp only [Act.put, lA, lB, lC, i64_w, i32_w]
     rfl
    refine take_ (i := 8) (N := some 20) (v := ?_) (a' := ?_) #[true, true, true, true, true, true, false, true, true, true, false, false, false, false] rfl rfl (take_ofW HT_.out HW_.out (by kernel_rfl)) (fun _ _ _ h => h) (Or.inl ⟨by rfl, ?_⟩) hHeld ?_ ?_
    rotate_left
    ·
     rintro w' ⟨s0, s1, s2, s3, s4, s5⟩
     go_simp
     with_reducible rfl
    rotate_left
    ·
     simp only [Act.put, lA, lB, lC, i64_w, i32_w]
     rfl
    refine take_ (i := 10) (N := some 22) (v := ?_) (a' := ?_) #[true, true, true, true, true, true, false, true, true, true, true, false, false, false] rfl rfl (take_ofW HT_.out HW_.out (by kernel_rfl)) (fun _ _ _ h => h) (Or.inl ⟨by rfl, ?_⟩) hHeld ?_ ?_
    rotate_left
    ·
     rintro w' ⟨s0, s1, s2, s3, s4, s5⟩
     go_simp
     with_reducible rfl
    rotate_left
    ·
     simp only [Act.put, lA, lB, lC, i64_w, i32_w]
     rfl
    refine pure_ (i := 11) (N := some 23) (v := ?_) (a' := ?_) #[true, true, true, true, true, true, false, true, true, true, true, true, false, false] rfl rfl (any_of HT_.out (by kernel_rfl)) (fun _ _ _ h => h) (Or.inl ⟨by rfl, ?_⟩) ?_ ?_
    rotate_left
    ·
     intro w'
     go_simp
     with_reducible rfl
    rotate_left
    ·
     simp only [Act.put, lA, lB, lC, i64_w, i32_w]
     rfl
    refine one_ (i := 6) (N := some 18) #[true, true, true, true, true, true, true, true, true, true, true, true, false, false] rfl rfl (one_of HT_.out (by kernel_rfl)) (by decide) (fun K hK => ?_)
    refine goes_ Tryd.func62 (by kernel_rfl) rfl #[.int .u64 (IntKind.u64.wrap (a0_1)), .int .u64 (IntKind.u64.wrap (a1_1))] (by rfl) rfl rfl mS ?_
    with_reducible refine (congr_gcd_uint64.calls kj2 (IntKind.u64.wrap (a0_1)) (IntKind.u64.wrap (a1_1)) t494 _ A22.out).mono ?_
    rintro e w' ⟨rfl, ⟨nd, rfl⟩⟩
    refine ⟨_, rfl, ?_⟩
    refine hK.out _ _ ⟨cz0 BK488, cz1 BK488, cz2 BK488, cz0 BK489, cz1 BK489, cz2 BK489⟩ (fun hHeld => ?_)
    clear hK K
    refine norm_ (a' := ?_) ?_ ?_
    rotate_left
    ·
     show Act.put _ (some 18) _ = _
     simp only [Act.put, lA, lB, lC, i64_w, i32_w]
     rfl
    refine one_ (i := 12) (N := some 24) #[true, true, true, true, true, true, true, true, true, true, true, true, true, false] rfl rfl (one_of HT_.out (by kernel_rfl)) (by decide) (fun K hK => ?_)
    refine goes_ Tryd.func60 (by kernel_rfl) rfl #[.int .u64 t494, .int .i64 (wrap64 (a0_2 - a1_2))] (by rfl) rfl rfl mS ?_
    with_reducible refine (congr_by.calls kj2 t494 (wrap64 (a0_2 - a1_2)) t495 t496 t497 _ A23.out).mono ?_
    rintro e w25 ⟨rfl, hb⟩
    refine ⟨_, rfl, ?_⟩
    replace BK488 := kB BK488 hb
    replace BK489 := kB BK489 hb
    replace BK490 := kB BK490 hb
    replace HB := kW HB hb
    (try clear hb)
    (try clear hb2)
    (try clear hk)
    (try clear hi)
    refine hK.out _ _ ⟨cz0 BK488, cz1 BK488, cz2 BK488, cz0 BK489, cz1 BK489, cz2 BK489⟩ (fun hHeld => ?_)
    clear hK K
    refine norm_ (a' := ?_) ?_ ?_
    rotate_left
    ·
     show Act.put _ (some 24) _ = _
     simp only [Act.put, lA, lB, lC, i64_w, i32_w]
     rfl
    refine one_ (i := 13) (N := none) #[true, true, true, true, true, true, true, true, true, true, true, true, true, true] rfl rfl (one_of HT_.out (by kernel_rfl)) (by decide) (fun K hK => ?_)
    have hs26 : w25.cell? ⟨gb490, 0, none⟩ = some (.bool false) := cz0 BK490
    have hfs26 := fz BK490 0
    have hns26_0 := NB488_490.out
    have hns26_1 := NB489_490.out
    have hms26_0 := NB490_488.out
    have hms26_1 := NB490_489.out
    have hs27 : w25.cell? ⟨gb490, 1, none⟩ = some (.int .i64 0) := cz1 BK490
    have hfs27 := fz BK490 1
    have hns27_0 := NB488_490.out
    have hns27_1 := NB489_490.out
    have hms27_0 := NB490_488.out
    have hms27_1 := NB490_489.out
    have hs28 : w25.cell? ⟨gb490, 2, none⟩ = some (.int .i64 0) := cz2 BK490
    have hfs28 := fz BK490 2
    have hns28_0 := NB488_490.out
    have hns28_1 := NB489_490.out
    have hms28_0 := NB490_488.out
    have hms28_1 := NB490_489.out
    refine skip_ (w1 := ?_) (by rfl) rfl ?_ ?_
    rotate_left
    ·
     go_simp
     rfl
    refine hK.out _ _ ⟨((cell_far (p := ⟨gb490, _, none⟩) NB488_490.out _).trans (((cell_far (p := ⟨gb490, _, none⟩) NB488_490.out _).trans (((cell_far (p := ⟨gb490, _, none⟩) NB488_490.out _).trans (hHeld.1)))))), ((cell_far (p := ⟨gb490, _, none⟩) NB488_490.out _).trans (((cell_far (p := ⟨gb490, _, none⟩) NB488_490.out _).trans (((cell_far (p := ⟨gb490, _, none⟩) NB488_490.out _).trans (hHeld.2.1)))))), ((cell_far (p := ⟨gb490, _, none⟩) NB488_490.out _).trans (((cell_far (p := ⟨gb490, _, none⟩) NB488_490.out _).trans (((cell_far (p := ⟨gb490, _, none⟩) NB488_490.out _).trans (hHeld.2.2.1)))))), ((cell_far (p := ⟨gb490, _, none⟩) NB489_490.out _).trans (((cell_far (p := ⟨gb490, _, none⟩) NB489_490.out _).trans (((cell_far (p := ⟨gb490, _, none⟩) NB489_490.out _).trans (hHeld.2.2.2.1)))))), ((cell_far (p := ⟨gb490, _, none⟩) NB489_490.out _).trans (((cell_far (p := ⟨gb490, _, none⟩) NB489_490.out _).trans (((cell_far (p := ⟨gb490, _, none⟩) NB489_490.out _).trans (hHeld.2.2.2.2.1)))))), ((cell_far (p := ⟨gb490, _, none⟩) NB489_490.out _).trans (((cell_far (p := ⟨gb490, _, none⟩) NB489_490.out _).trans (((cell_far (p := ⟨gb490, _, none⟩) NB489_490.out _).trans (hHeld.2.2.2.2.2))))))⟩ (fun hHeld => ?_)
    clear hK K
    refine done_ (done_of HT_.out (by kernel_rfl)) ?_
    try go_wp2
    refine bodyPost_ret (results_cell_row rfl _ _ gb490 23 #[.bool t495, .int .i64 t496, .int .i64 t497] (0, 0) _ rfl (by (with_reducible repeat (first | refine b1 ?_ _ | refine b2 ?_ | refine b3 ?_ _)); refine blk_put (cs := #[.bool t495, .int .i64 t496, .int .i64 0]) ?_ 2 _ rfl; (with_reducible repeat (first | refine b1 ?_ _ | refine b2 ?_ | refine b3 ?_ _)); refine blk_put (cs := #[.bool t495, .int .i64 0, .int .i64 0]) ?_ 1 _ rfl; (with_reducible repeat (first | refine b1 ?_ _ | refine b2 ?_ | refine b3 ?_ _)); refine blk_put (cs := #[.bool false, .int .i64 0, .int .i64 0]) ?_ 0 _ rfl; (with_reducible repeat (first | refine b1 ?_ _ | refine b2 ?_ | refine b3 ?_ _)); exact BK490.out) Tryd.underlying23 rfl (by kernel_rfl)) rfl ?_
    exact ⟨eS, bS HB⟩

def gimbalref31_Sub.j0 : Nat → Bool → Bool → Int → Int → Bool → Int → Int → Option (Bool × Int × Int)
 | 0, _, _, _, _, _, _, _ => none
 | k + 1, x10, x499000, x499001, x499002, x500000, x500001, x500002 => if x10 = true then ((gimbalref31_None.f).bind fun bt501 => (some (bt501.1, bt501.2.1, bt501.2.2))) else ((gimbalref31_size.f x499001).bind fun t504 => ((gimbalref31_size.f x500001).bind fun t505 => ((gimbalref31_gcd.f k t504 t505).bind fun t506 => ((gimbalref31_of.f k t506 (wrap64 (x499002 - x500002))).bind fun bt507 => (some (bt507.1, bt507.2.1, bt507.2.2))))))
def gimbalref31_Sub.f (k : Nat) (a0_0 : Bool) (a0_1 : Int) (a0_2 : Int) (a1_0 : Bool) (a1_1 : Int) (a1_2 : Int) : Option (Bool × Int × Int) := if a0_0 = true then (gimbalref31_Sub.j0 k true a0_0 a0_1 a0_2 a1_0 a1_1 a1_2) else (gimbalref31_Sub.j0 k a1_0 a0_0 a0_1 a0_2 a1_0 a1_1 a1_2)
def gimbalref31_Sub.T3 : Bool × List (List Nat × List Nat) := (true, [([], []), ([0], [0]), ([1], [1]), ([], []), ([3], [3]), ([4, 2], [4]), ([2, 5, 5], [2, 5]), ([], []), ([7], [7]), ([], []), ([9], [9]), ([8, 10], [8, 10]), ([6, 11, 6], [6, 11]), ([12, 12, 0, 1, 2, 3, 4, 5, 6, 7, 8, 9, 10, 11, 12], [12])])
def gimbalref31_Sub.B3 : List Nat := [0, 1, 3, 0, 8, 31, 63, 0, 128, 0, 512, 1920, 4095, 8191]
theorem gimbalref31_Sub.tab3 : rtab .any (opsOf Tryd.f38 3) = gimbalref31_Sub.T3 := by kernel_rfl
theorem gimbalref31_Sub.bits3 : waitsOk gimbalref31_Sub.T3.2 gimbalref31_Sub.B3 = true := by kernel_rfl
set_option maxHeartbeats 8000000 in
set_option maxRecDepth 100000 in
theorem gimbalref31_Sub.calls (k : Nat) (a0_0 : Bool) (a0_1 : Int) (a0_2 : Int) (a1_0 : Bool) (a1_1 : Int) (a1_2 : Int) (r1 : Bool) (r2 : Int) (r3 : Int) (w : World) (h : gimbalref31_Sub.f k a0_0 a0_1 a0_2 a1_0 a1_1 a1_2 = some (r1, r2, r3)) :
  Calls Tryd.prog 38 #[.agg #[.bool a0_0, .int .i64 a0_1, .int .i64 a0_2], .agg #[.bool a1_0, .int .i64 a1_1, .int .i64 a1_2]] w fun e w' => e = .returned (.agg #[.bool r1, .int .i64 r2, .int .i64 r3]) ∧ Below w.heap.size w w' := by
 have hu23 := Tryd.underlying23
 have HB := Aside0.mk (Below.refl w.heap.size w)
 have H : (if a0_0 = true then (gimbalref31_Sub.j0 k true a0_0 a0_1 a0_2 a1_0 a1_1 a1_2) else (gimbalref31_Sub.j0 k a1_0 a0_0 a0_1 a0_2 a1_0 a1_1 a1_2)) = some (r1, r2, r3) := h
 clear h
 have HC3 := Aside0.mk H
 clear H
 go_enter Tryd.func38, Tryd.ntmps38
 go_upto_region 1 with (first | ((with_reducible refine gate_dst (N := 2) rfl ?_); refine box_event ?hg (N := 2) ?hd (cs := #[.bool a0_0, .int .i64 a0_1, .int .i64 a0_2]) (t := 23) ?hr ?_; (case hd => rfl); (case hg => rfl); (case hr => first | (go_simp; done) | (go_simp; rfl)); intro gb498 hg w4 hbox hb; have n0_ := kW HB hb; have n1_ := Aside0.mk (hbox); have n2_ := Aside0.mk ((by rw [hg]; exact (below_size (bS HB)) : w.heap.size ≤ gb498)); have n3_ := Aside0.mk ((by rw [hg]; exact (below_size (bS HB)) : w.heap.size ≤ gb498)); clear HB; have HB := n0_; have BK498 := n1_; have GW498 := n2_; have GE498 := n3_; clear n0_ n1_ n2_ n3_; clear hb hbox hg) | ((with_reducible refine gate_dst (N := 3) rfl ?_); refine box_event ?hg (N := 3) ?hd (cs := #[.bool a1_0, .int .i64 a1_1, .int .i64 a1_2]) (t := 23) ?hr ?_; (case hd => rfl); (case hg => rfl); (case hr => first | (go_simp; done) | (go_simp; rfl)); intro gb499 hg w5 hbox hb; have n0_ := kB BK498 hb; have n1_ := kW HB hb; have n2_ := Aside0.mk (hbox); have n3_ := Aside0.mk ((by rw [hg]; exact (below_size (bS HB)) : w.heap.size ≤ gb499)); have n4_ := Aside0.mk ((by rw [hg]; exact (below_size (bS HB)) : w.heap.size ≤ gb499)); have n5_ := Aside0.mk ((by rw [hg]; exact Nat.ne_of_lt (blk_lt (bkS BK498)) : gb498 ≠ gb499)); have n6_ := Aside0.mk ((by rw [hg]; exact Nat.ne_of_gt (blk_lt (bkS BK498)) : gb499 ≠ gb498)); clear BK498; clear HB; have BK498 := n0_; have HB := n1_; have BK499 := n2_; have GW499 := n3_; have GE499 := n4_; have NB498_499 := n5_; have NB499_498 := n6_; clear n0_ n1_ n2_ n3_ n4_ n5_ n6_; clear hb hbox hg) | ((with_reducible refine gate_dst (N := 4) rfl ?_); refine box_event ?hg (N := 4) ?hd (cs := #[.bool false, .int .i64 0, .int .i64 0]) (t := 23) ?hr ?_; (case hd => rfl); (case hg => rfl); (case hr => first | (go_simp; done) | (go_simp; rfl)); intro gb500 hg w6 hbox hb; have n0_ := kB BK498 hb; have n1_ := kB BK499 hb; have n2_ := kW HB hb; have n3_ := Aside0.mk (hbox); have n4_ := Aside0.mk ((by rw [hg]; exact (below_size (bS HB)) : w.heap.size ≤ gb500)); have n5_ := Aside0.mk ((by rw [hg]; exact (below_size (bS HB)) : w.heap.size ≤ gb500)); have n6_ := Aside0.mk ((by rw [hg]; exact Nat.ne_of_lt (blk_lt (bkS BK498)) : gb498 ≠ gb500)); have n7_ := Aside0.mk ((by rw [hg]; exact Nat.ne_of_gt (blk_lt (bkS BK498)) : gb500 ≠ gb498)); have n8_ := Aside0.mk ((by rw [hg]; exact Nat.ne_of_lt (blk_lt (bkS BK499)) : gb499 ≠ gb500)); have n9_ := Aside0.mk ((by rw [hg]; exact Nat.ne_of_gt (blk_lt (bkS BK499)) : gb500 ≠ gb499)); clear BK498; clear BK499; clear HB; have BK498 := n0_; have BK499 := n1_; have HB := n2_; have BK500 := n3_; have GW500 := n4_; have GE500 := n5_; have NB498_500 := n6_; have NB500_498 := n7_; have NB499_500 := n8_; have NB500_499 := n9_; clear n0_ n1_ n2_ n3_ n4_ n5_ n6_ n7_ n8_ n9_; clear hb hbox hg))
 (try simp only [Act.put, lA, lB, lC])
 go_cut [10] (fun v10 wc => ∃ (kq : Nat) (x10_2 : Bool), v10 = .bool x10_2 ∧ Aside0 (gimbalref31_Sub.j0 kq x10_2 a0_0 a0_1 a0_2 a1_0 a1_1 a1_2 = some (r1, r2, r3)) ∧ Aside0 (kq ≤ k) ∧ Aside0 (wc.heap[gb498]? = some (.cells #[.bool a0_0, .int .i64 a0_1, .int .i64 a0_2] 23 (0, 0))) ∧ Aside0 (wc.heap[gb499]? = some (.cells #[.bool a1_0, .int .i64 a1_1, .int .i64 a1_2] 23 (0, 0))) ∧ Aside0 (wc.heap[gb500]? = some (.cells #[.bool false, .int .i64 0, .int .i64 0] 23 (0, 0))) ∧ Aside0 (Below w.heap.size w wc))
 case first =>
  have H := HC3.out
  clear HC3
  by_cases c7 : a0_0 = true
  ·
   subst c7
   have H1 : (gimbalref31_Sub.j0 k true true a0_1 a0_2 a1_0 a1_1 a1_2) = some (r1, r2, r3) := by rw [if_pos rfl] at H; exact H
   clear H
   have H := H1
   clear H1
   have H' := Aside0.mk H
   clear H
   have hnb8 := NB498_499.out
   have hnc8 := NB499_498.out
   have hnb9 := NB498_500.out
   have hnc9 := NB500_498.out
   have hcz10_0 := cz0 BK498
   have hcz10_1 := cz1 BK498
   have hcz10_2 := cz2 BK498
   have hfz10_0 := fz BK498 0
   have hfz10_1 := fz BK498 1
   have hfz10_2 := fz BK498 2
   go_wp2
   go_meet
   case rel => exact ⟨_, (true), (by first | rfl | (simp; done) | (simp [*]; done)), H', ⟨by first | omega | exact Nat.le_refl _⟩, ⟨bkS BK498⟩, ⟨bkS BK499⟩, ⟨bkS BK500⟩, ⟨bS HB⟩⟩
  ·
   replace c7 := Bool.eq_false_iff.mpr c7
   subst c7
   have H1 : (gimbalref31_Sub.j0 k a1_0 false a0_1 a0_2 a1_0 a1_1 a1_2) = some (r1, r2, r3) := by rw [if_neg (show ¬ (false = true) by decide)] at H; exact H
   clear H
   have H := H1
   clear H1
   have H' := Aside0.mk H
   clear H
   have hnb11 := NB498_499.out
   have hnc11 := NB499_498.out
   have hnb12 := NB498_500.out
   have hnc12 := NB500_498.out
   have hcz13_0 := cz0 BK498
   have hcz13_1 := cz1 BK498
   have hcz13_2 := cz2 BK498
   have hfz13_0 := fz BK498 0
   have hfz13_1 := fz BK498 1
   have hfz13_2 := fz BK498 2
   have hnb14 := NB499_500.out
   have hnc14 := NB500_499.out
   have hcz15_0 := cz0 BK499
   have hcz15_1 := cz1 BK499
   have hcz15_2 := cz2 BK499
   have hfz15_0 := fz BK499 0
   have hfz15_1 := fz BK499 1
   have hfz15_2 := fz BK499 2
   go_wp2
   go_meet
   case rel => exact ⟨_, (a1_0), (by first | rfl | (simp; done) | (simp [*]; done)), H', ⟨by first | omega | exact Nat.le_refl _⟩, ⟨bkS BK498⟩, ⟨bkS BK499⟩, ⟨bkS BK500⟩, ⟨bS HB⟩⟩
 case rest =>
  clear HC3
  try clear c1
  try clear p2
  try clear c3
  try clear c7
  try clear c8
  try clear c9
  try clear c11
  try clear c12
  try clear c14
  try clear hcz10_0
  try clear hcz10_1
  try clear hcz10_2
  try clear hcz13_0
  try clear hcz13_1
  try clear hcz13_2
  try clear hcz15_0
  try clear hcz15_1
  try clear hcz15_2
  try clear hfz10_0
  try clear hfz10_1
  try clear hfz10_2
  try clear hfz13_0
  try clear hfz13_1
  try clear hfz13_2
  try clear hfz15_0
  try clear hfz15_1
  try clear hfz15_2
  obtain ⟨kq, x10_2, rfl, HA, HJ2, BK498, BK499, BK500, HB⟩ := hcut
  cases kq with
  | zero => exact absurd HA.out (by simp [gimbalref31_Sub.j0])
  | succ kj2 =>
   have H := HA.out
   clear HA
   simp only [gimbalref31_Sub.j0] at H
   by_cases c16 : x10_2 = true
   ·
    subst c16
    have H1 : ((gimbalref31_None.f).bind fun bt501 => (some (bt501.1, bt501.2.1, bt501.2.2))) = some (r1, r2, r3) := by rw [if_pos rfl] at H; exact H
    clear H
    have H := H1
    clear H1
    replace H := Option.bind_eq_some_iff.mp H
    obtain ⟨⟨t501, t502, t503⟩, A170, H⟩ := H
    replace H : (some (t501, t502, t503)) = some (r1, r2, r3) := H
    have A17 := Aside0.mk A170
    clear A170
    simp only [Option.some.injEq, Prod.mk.injEq] at H
    obtain ⟨rfl, rfl, rfl⟩ := H
    go_wp2_with (first | ((with_reducible refine gate_callee (f := 69) rfl ?_); refine goesL_ (some 11) rfl rfl Tryd.func69 (by kernel_rfl) rfl #[] rfl mS ?_; (with_reducible refine (gimbalref31_None.calls  t501 t502 t503 _ A17.out).mono ?_); rintro e w18 ⟨rfl, hb⟩; refine ⟨_, rfl, ?_⟩; replace BK498 := kB BK498 hb; replace BK499 := kB BK499 hb; replace BK500 := kB BK500 hb; replace HB := kW HB hb; (try clear hb); (try clear hb2); (try clear hk); (try clear hi); have hnb19 := NB500_498.out; have hnc19 := NB498_500.out; have hnb20 := NB500_499.out; have hnc20 := NB499_500.out; have hcz21_0 := cz0 BK500; have hcz21_1 := cz1 BK500; have hcz21_2 := cz2 BK500; have hfz21_0 := fz BK500 0; have hfz21_1 := fz BK500 1; have hfz21_2 := fz BK500 2))
    refine bodyPost_ret (results_cell_row rfl _ _ gb500 23 #[.bool t501, .int .i64 t502, .int .i64 t503] (0, 0) _ rfl (by (with_reducible repeat (first | refine b1 ?_ _ | refine b2 ?_ | refine b3 ?_ _)); refine blk_put (cs := #[.bool t501, .int .i64 t502, .int .i64 0]) ?_ 2 _ rfl; (with_reducible repeat (first | refine b1 ?_ _ | refine b2 ?_ | refine b3 ?_ _)); refine blk_put (cs := #[.bool t501, .int .i64 0, .int .i64 0]) ?_ 1 _ rfl; (with_reducible repeat (first | refine b1 ?_ _ | refine b2 ?_ | refine b3 ?_ _)); refine blk_put (cs := #[.bool false, .int .i64 0, .int .i64 0]) ?_ 0 _ rfl; (with_reducible repeat (first | refine b1 ?_ _ | refine b2 ?_ | refine b3 ?_ _)); exact BK500.out) Tryd.underlying23 rfl (by kernel_rfl)) rfl ?_
    exact ⟨eS, bS HB⟩
   ·
    replace c16 := Bool.eq_false_iff.mpr c16
    subst c16
    have H1 : ((gimbalref31_size.f a0_1).bind fun t504 => ((gimbalref31_size.f a1_1).bind fun t505 => ((gimbalref31_gcd.f kj2 t504 t505).bind fun t506 => ((gimbalref31_of.f kj2 t506 (wrap64 (a0_2 - a1_2))).bind fun bt507 => (some (bt507.1, bt507.2.1, bt507.2.2)))))) = some (r1, r2, r3) := by rw [if_neg (show ¬ (false = true) by decide)] at H; exact H
    clear H
    have H := H1
    clear H1
    replace H := Option.bind_eq_some_iff.mp H
    obtain ⟨t504, A220, H⟩ := H
    replace H : ((gimbalref31_size.f a1_1).bind fun t505 => ((gimbalref31_gcd.f kj2 t504 t505).bind fun t506 => ((gimbalref31_of.f kj2 t506 (wrap64 (a0_2 - a1_2))).bind fun bt507 => (some (bt507.1, bt507.2.1, bt507.2.2))))) = some (r1, r2, r3) := H
    have A22 := Aside0.mk A220
    clear A220
    replace H := Option.bind_eq_some_iff.mp H
    obtain ⟨t505, A230, H⟩ := H
    replace H : ((gimbalref31_gcd.f kj2 t504 t505).bind fun t506 => ((gimbalref31_of.f kj2 t506 (wrap64 (a0_2 - a1_2))).bind fun bt507 => (some (bt507.1, bt507.2.1, bt507.2.2)))) = some (r1, r2, r3) := H
    have A23 := Aside0.mk A230
    clear A230
    replace H := Option.bind_eq_some_iff.mp H
    obtain ⟨t506, A240, H⟩ := H
    replace H : ((gimbalref31_of.f kj2 t506 (wrap64 (a0_2 - a1_2))).bind fun bt507 => (some (bt507.1, bt507.2.1, bt507.2.2))) = some (r1, r2, r3) := H
    have A24 := Aside0.mk A240
    clear A240
    replace H := Option.bind_eq_some_iff.mp H
    obtain ⟨⟨t507, t508, t509⟩, A250, H⟩ := H
    replace H : (some (t507, t508, t509)) = some (r1, r2, r3) := H
    have A25 := Aside0.mk A250
    clear A250
    simp only [Option.some.injEq, Prod.mk.injEq] at H
    obtain ⟨rfl, rfl, rfl⟩ := H
    try go_wp2
    replace BK498 := Aside0.mk (blk_drew BK498.out)
    replace BK499 := Aside0.mk (blk_drew BK499.out)
    replace BK500 := Aside0.mk (blk_drew BK500.out)
    replace HB := Aside0.mk (below_drew1 HB.out)
    refine start_ (n := 14) (S := fun w' => w'.cell? ⟨gb498, 0, none⟩ = some (.bool a0_0) ∧ w'.cell? ⟨gb498, 1, none⟩ = some (.int .i64 a0_1) ∧ w'.cell? ⟨gb498, 2, none⟩ = some (.int .i64 a0_2) ∧ w'.cell? ⟨gb499, 0, none⟩ = some (.bool a1_0) ∧ w'.cell? ⟨gb499, 1, none⟩ = some (.int .i64 a1_1) ∧ w'.cell? ⟨gb499, 2, none⟩ = some (.int .i64 a1_2)) (ds := []) #[false, false, false, false, false, false, false, false, false, false, false, false, false, false] (by kernel_rfl) rfl rfl ⟨cz0 BK498, cz1 BK498, cz2 BK498, cz0 BK499, cz1 BK499, cz2 BK499⟩ (fun hHeld => ?_); refine with_tabW gimbalref31_Sub.tab3 gimbalref31_Sub.bits3 (fun HT_ HW_ => ?_)
    generalize wc.drew = w26 at BK498 BK499 BK500 HB hHeld ⊢
    refine pure_ (i := 0) (N := some 12) (v := ?_) (a' := ?_) #[true, false, false, false, false, false, false, false, false, false, false, false, false, false] rfl rfl (any_of HT_.out (by kernel_rfl)) (fun _ _ _ h => h) (Or.inl ⟨by rfl, ?_⟩) ?_ ?_
    rotate_left
    ·
     intro w'
     go_simp
     with_reducible rfl
    rotate_left
    ·
     simp only [Act.put, lA, lB, lC, i64_w, i32_w]
     rfl
    refine pure_ (i := 3) (N := some 15) (v := ?_) (a' := ?_) #[true, false, false, true, false, false, false, false, false, false, false, false, false, false] rfl rfl (any_of HT_.out (by kernel_rfl)) (fun _ _ _ h => h) (Or.inl ⟨by rfl, ?_⟩) ?_ ?_
    rotate_left
    ·
     intro w'
     go_simp
     with_reducible rfl
    rotate_left
    ·
     simp only [Act.put, lA, lB, lC, i64_w, i32_w]
     rfl
    refine pure_ (i := 7) (N := some 19) (v := ?_) (a' := ?_) #[true, false, false, true, false, false, false, true, false, false, false, false, false, false] rfl rfl (any_of HT_.out (by kernel_rfl)) (fun _ _ _ h => h) (Or.inl ⟨by rfl, ?_⟩) ?_ ?_
    rotate_left
    ·
     intro w'
     go_simp
     with_reducible rfl
    rotate_left
    ·
     simp only [Act.put, lA, lB, lC, i64_w, i32_w]
     rfl
    refine pure_ (i := 9) (N := some 21) (v := ?_) (a' := ?_) #[true, false, false, true, false, false, false, true, false, true, false, false, false, false] rfl rfl (any_of HT_.out (by kernel_rfl)) (fun _ _ _ h => h) (Or.inl ⟨by rfl, ?_⟩) ?_ ?_
    rotate_left
    ·
     intro w'
     go_simp
     with_reducible rfl
    rotate_left
    ·
     simp only [Act.put, lA, lB, lC, i64_w, i32_w]
     rfl
    refine take_ (i := 1) (N := some 13) (v := ?_) (a' := ?_) #[true, true, false, true, false, false, false, true, false, true, false, false, false, false] rfl rfl (take_ofW HT_.out HW_.out (by kernel_rfl)) (fun _ _ _ h => h) (Or.inl ⟨by rfl, ?_⟩) hHeld ?_ ?_
    rotate_left
    ·
     rintro w' ⟨s0, s1, s2, s3, s4, s5⟩
     go_simp
     with_reducible rfl
    rotate_left
    ·
     simp only [Act.put, lA, lB, lC, i64_w, i32_w]
     rfl
    refine take_ (i := 4) (N := some 16) (v := ?_) (a' := ?_) #[true, true, false, true, true, false, false, true, false, true, false, false, false, false] rfl rfl (take_ofW HT_.out HW_.out (by kernel_rfl)) (fun _ _ _ h => h) (Or.inl ⟨by rfl, ?_⟩) hHeld ?_ ?_
    rotate_left
    ·
     rintro w' ⟨s0, s1, s2, s3, s4, s5⟩
     go_simp
     with_reducible rfl
    rotate_left
    ·
     simp only [Act.put, lA, lB, lC, i64_w, i32_w]
     rfl
    refine take_ (i := 8) (N := some 20) (v := ?_) (a' := ?_) #[true, true, false, true, true, false, false, true, true, true, false, false, false, false] rfl rfl (take_ofW HT_.out HW_.out (by kernel_rfl)) (fun _ _ _ h => h) (Or.inl ⟨by rfl, ?_⟩) hHeld ?_ ?_
    rotate_left
    ·
     rintro w' ⟨s0, s1, s2, s3, s4, s5⟩
     go_simp
     with_reducible rfl
    rotate_left
    ·
     simp only [Act.put, lA, lB, lC, i64_w, i32_w]
     rfl
    refine take_ (i := 10) (N := some 22) (v := ?_) (a' := ?_) #[true, true, false, true, true, false, false, true, true, true, true, false, false, false] rfl rfl (take_ofW HT_.out HW_.out (by kernel_rfl)) (fun _ _ _ h => h) (Or.inl ⟨by rfl, ?_⟩) hHeld ?_ ?_
    rotate_left
    ·
     rintro w' ⟨s0, s1, s2, s3, s4, s5⟩
     go_simp
     with_reducible rfl
    rotate_left
    ·
     simp only [Act.put, lA, lB, lC, i64_w, i32_w]
     rfl
    refine pure_ (i := 11) (N := some 23) (v := ?_) (a' := ?_) #[true, true, false, true, true, false, false, true, true, true, true, true, false, false] rfl rfl (any_of HT_.out (by kernel_rfl)) (fun _ _ _ h => h) (Or.inl ⟨by rfl, ?_⟩) ?_ ?_
    rotate_left
    ·
     intro w'
     go_simp
     with_reducible rfl
    rotate_left
    ·
     simp only [Act.put, lA, lB, lC, i64_w, i32_w]
     rfl
    refine one_ (i := 2) (N := some 14) #[true, true, true, true, true, false, false, true, true, true, true, true, false, false] rfl rfl (one_of HT_.out (by kernel_rfl)) (by decide) (fun K hK => ?_)
    refine goes_ Tryd.func55 (by kernel_rfl) rfl #[.int .i64 a0_1] (by rfl) rfl rfl mS ?_
    with_reducible refine (gimbalref31_size.calls a0_1 t504 _ A22.out).mono ?_
    rintro e w' ⟨rfl, ⟨nd, rfl⟩⟩
    refine ⟨_, rfl, ?_⟩
    refine hK.out _ _ ⟨cz0 BK498, cz1 BK498, cz2 BK498, cz0 BK499, cz1 BK499, cz2 BK499⟩ (fun hHeld => ?_)
    clear hK K
    refine norm_ (a' := ?_) ?_ ?_
    rotate_left
    ·
     show Act.put _ (some 14) _ = _
     simp only [Act.put, lA, lB, lC, i64_w, i32_w]
     rfl
    refine one_ (i := 5) (N := some 17) #[true, true, true, true, true, true, false, true, true, true, true, true, false, false] rfl rfl (one_of HT_.out (by kernel_rfl)) (by decide) (fun K hK => ?_)
    refine goes_ Tryd.func55 (by kernel_rfl) rfl #[.int .i64 a1_1] (by rfl) rfl rfl mS ?_
    with_reducible refine (gimbalref31_size.calls a1_1 t505 _ A23.out).mono ?_
    rintro e w' ⟨rfl, ⟨nd, rfl⟩⟩
    refine ⟨_, rfl, ?_⟩
    refine hK.out _ _ ⟨cz0 BK498, cz1 BK498, cz2 BK498, cz0 BK499, cz1 BK499, cz2 BK499⟩ (fun hHeld => ?_)
    clear hK K
    refine norm_ (a' := ?_) ?_ ?_
    rotate_left
    ·
     show Act.put _ (some 17) _ = _
     simp only [Act.put, lA, lB, lC, i64_w, i32_w]
     rfl
    refine one_ (i := 6) (N := some 18) #[true, true, true, true, true, true, true, true, true, true, true, true, false, false] rfl rfl (one_of HT_.out (by kernel_rfl)) (by decide) (fun K hK => ?_)
    refine goes_ Tryd.func80 (by kernel_rfl) rfl #[.int .u64 t504, .int .u64 t505] (by rfl) rfl rfl mS ?_
    with_reducible refine (gimbalref31_gcd.calls kj2 t504 t505 t506 _ A24.out).mono ?_
    rintro e w' ⟨rfl, ⟨nd, rfl⟩⟩
    refine ⟨_, rfl, ?_⟩
    refine hK.out _ _ ⟨cz0 BK498, cz1 BK498, cz2 BK498, cz0 BK499, cz1 BK499, cz2 BK499⟩ (fun hHeld => ?_)
    clear hK K
    refine norm_ (a' := ?_) ?_ ?_
    rotate_left
    ·
     show Act.put _ (some 18) _ = _
     simp only [Act.put, lA, lB, lC, i64_w, i32_w]
     rfl
    refine one_ (i := 12) (N := some 24) #[true, true, true, true, true, true, true, true, true, true, true, true, true, false] rfl rfl (one_of HT_.out (by kernel_rfl)) (by decide) (fun K hK => ?_)
    refine goes_ Tryd.func79 (by kernel_rfl) rfl #[.int .u64 t506, .int .i64 (wrap64 (a0_2 - a1_2))] (by rfl) rfl rfl mS ?_
    with_reducible refine (gimbalref31_of.calls kj2 t506 (wrap64 (a0_2 - a1_2)) t507 t508 t509 _ A25.out).mono ?_
    rintro e w27 ⟨rfl, hb⟩
    refine ⟨_, rfl, ?_⟩
    replace BK498 := kB BK498 hb
    replace BK499 := kB BK499 hb
    replace BK500 := kB BK500 hb
    replace HB := kW HB hb
    (try clear hb)
    (try clear hb2)
    (try clear hk)
    (try clear hi)
    refine hK.out _ _ ⟨cz0 BK498, cz1 BK498, cz2 BK498, cz0 BK499, cz1 BK499, cz2 BK499⟩ (fun hHeld => ?_)
    clear hK K
    refine norm_ (a' := ?_) ?_ ?_
    rotate_left
    ·
     show Act.put _ (some 24) _ = _
     simp only [Act.put, lA, lB, lC, i64_w, i32_w]
     rfl
    refine one_ (i := 13) (N := none) #[true, true, true, true, true, true, true, true, true, true, true, true, true, true] rfl rfl (one_of HT_.out (by kernel_rfl)) (by decide) (fun K hK => ?_)
    have hs28 : w27.cell? ⟨gb500, 0, none⟩ = some (.bool false) := cz0 BK500
    have hfs28 := fz BK500 0
    have hns28_0 := NB498_500.out
    have hns28_1 := NB499_500.out
    have hms28_0 := NB500_498.out
    have hms28_1 := NB500_499.out
    have hs29 : w27.cell? ⟨gb500, 1, none⟩ = some (.int .i64 0) := cz1 BK500
    have hfs29 := fz BK500 1
    have hns29_0 := NB498_500.out
    have hns29_1 := NB499_500.out
    have hms29_0 := NB500_498.out
    have hms29_1 := NB500_499.out
    have hs30 : w27.cell? ⟨gb500, 2, none⟩ = some (.int .i64 0) := cz2 BK500
    have hfs30 := fz BK500 2
    have hns30_0 := NB498_500.out
    have hns30_1 := NB499_500.out
    have hms30_0 := NB500_498.out
    have hms30_1 := NB500_499.out
    refine skip_ (w1 := ?_) (by rfl) rfl ?_ ?_
    rotate_left
    ·
     go_simp
     rfl
    refine hK.out _ _ ⟨((cell_far (p := ⟨gb500, _, none⟩) NB498_500.out _).trans (((cell_far (p := ⟨gb500, _, none⟩) NB498_500.out _).trans (((cell_far (p := ⟨gb500, _, none⟩) NB498_500.out _).trans (hHeld.1)))))), ((cell_far (p := ⟨gb500, _, none⟩) NB498_500.out _).trans (((cell_far (p := ⟨gb500, _, none⟩) NB498_500.out _).trans (((cell_far (p := ⟨gb500, _, none⟩) NB498_500.out _).trans (hHeld.2.1)))))), ((cell_far (p := ⟨gb500, _, none⟩) NB498_500.out _).trans (((cell_far (p := ⟨gb500, _, none⟩) NB498_500.out _).trans (((cell_far (p := ⟨gb500, _, none⟩) NB498_500.out _).trans (hHeld.2.2.1)))))), ((cell_far (p := ⟨gb500, _, none⟩) NB499_500.out _).trans (((cell_far (p := ⟨gb500, _, none⟩) NB499_500.out _).trans (((cell_far (p := ⟨gb500, _, none⟩) NB499_500.out _).trans (hHeld.2.2.2.1)))))), ((cell_far (p := ⟨gb500, _, none⟩) NB499_500.out _).trans (((cell_far (p := ⟨gb500, _, none⟩) NB499_500.out _).trans (((cell_far (p := ⟨gb500, _, none⟩) NB499_500.out _).trans (hHeld.2.2.2.2.1)))))), ((cell_far (p := ⟨gb500, _, none⟩) NB499_500.out _).trans (((cell_far (p := ⟨gb500, _, none⟩) NB499_500.out _).trans (((cell_far (p := ⟨gb500, _, none⟩) NB499_500.out _).trans (hHeld.2.2.2.2.2))))))⟩ (fun hHeld => ?_)
    clear hK K
    refine done_ (done_of HT_.out (by kernel_rfl)) ?_
    try go_wp2
    refine bodyPost_ret (results_cell_row rfl _ _ gb500 23 #[.bool t507, .int .i64 t508, .int .i64 t509] (0, 0) _ rfl (by (with_reducible repeat (first | refine b1 ?_ _ | refine b2 ?_ | refine b3 ?_ _)); refine blk_put (cs := #[.bool t507, .int .i64 t508, .int .i64 0]) ?_ 2 _ rfl; (with_reducible repeat (first | refine b1 ?_ _ | refine b2 ?_ | refine b3 ?_ _)); refine blk_put (cs := #[.bool t507, .int .i64 0, .int .i64 0]) ?_ 1 _ rfl; (with_reducible repeat (first | refine b1 ?_ _ | refine b2 ?_ | refine b3 ?_ _)); refine blk_put (cs := #[.bool false, .int .i64 0, .int .i64 0]) ?_ 0 _ rfl; (with_reducible repeat (first | refine b1 ?_ _ | refine b2 ?_ | refine b3 ?_ _)); exact BK500.out) Tryd.underlying23 rfl (by kernel_rfl)) rfl ?_
    exact ⟨eS, bS HB⟩

def congr_all.f  : Option (Bool × Int × Int) := some (false, 1, 0)
set_option maxHeartbeats 8000000 in
set_option maxRecDepth 100000 in
theorem congr_all.calls  (r1 : Bool) (r2 : Int) (r3 : Int) (w : World) (h : congr_all.f  = some (r1, r2, r3)) :
  Calls Tryd.prog 84 #[] w fun e w' => e = .returned (.agg #[.bool r1, .int .i64 r2, .int .i64 r3]) ∧ Below w.heap.size w w' := by
 have hu23 := Tryd.underlying23
 have HB := Aside0.mk (Below.refl w.heap.size w)
 have H : (some (false, 1, 0)) = some (r1, r2, r3) := h
 clear h
 simp only [Option.some.injEq, Prod.mk.injEq] at H
 obtain ⟨rfl, rfl, rfl⟩ := H
 go_enter Tryd.func84, Tryd.ntmps84
 go_wp2_with (first | ((with_reducible refine gate_dst (N := 0) rfl ?_); refine box_event ?hg (N := 0) ?hd (cs := #[.bool false, .int .i64 0, .int .i64 0]) (t := 23) ?hr ?_; (case hd => rfl); (case hg => rfl); (case hr => first | (go_simp; done) | (go_simp; rfl)); intro gb548 hg w1 hbox hb; have n0_ := kW HB hb; have n1_ := Aside0.mk (hbox); have n2_ := Aside0.mk ((by rw [hg]; exact (below_size (bS HB)) : w.heap.size ≤ gb548)); have n3_ := Aside0.mk ((by rw [hg]; exact (below_size (bS HB)) : w.heap.size ≤ gb548)); clear HB; have HB := n0_; have BK548 := n1_; have GW548 := n2_; have GE548 := n3_; clear n0_ n1_ n2_ n3_; clear hb hbox hg; have hcz2_0 := cz0 BK548; have hcz2_1 := cz1 BK548; have hcz2_2 := cz2 BK548; have hfz2_0 := fz BK548 0; have hfz2_1 := fz BK548 1; have hfz2_2 := fz BK548 2))
 refine bodyPost_ret (results_cell_row rfl _ _ gb548 23 #[.bool false, .int .i64 1, .int .i64 0] (0, 0) _ rfl (by (with_reducible repeat (first | refine b1 ?_ _ | refine b2 ?_ | refine b3 ?_ _)); refine blk_put (cs := #[.bool false, .int .i64 1, .int .i64 0]) ?_ 2 _ rfl; (with_reducible repeat (first | refine b1 ?_ _ | refine b2 ?_ | refine b3 ?_ _)); refine blk_put (cs := #[.bool false, .int .i64 0, .int .i64 0]) ?_ 1 _ rfl; (with_reducible repeat (first | refine b1 ?_ _ | refine b2 ?_ | refine b3 ?_ _)); refine blk_put (cs := #[.bool false, .int .i64 0, .int .i64 0]) ?_ 0 _ rfl; (with_reducible repeat (first | refine b1 ?_ _ | refine b2 ?_ | refine b3 ?_ _)); exact BK548.out) Tryd.underlying23 rfl (by kernel_rfl)) rfl ?_
 exact ⟨eS, bS HB⟩

end Go.Proofs.YtfmmjekhknaniaaDoor.Pr

namespace Go.Proofs.YtfmmjekhknaniaaDoor.Pr
open Go.RowKit Go.Proofs.YtfmmjekhknaniaaDoor.Given Go.Proofs.YtfmmjekhknaniaaDoorW.PrintWords Go.Proofs.YtfmmjekhknaniaaDoorW.PrintLast Go.Proofs.YtfmmjekhknaniaaDoorW.PrintMore
attribute [local go_sem] max2_int min2_int max_two min_two max_three min_three max_four min_four   -- for this text's walks alone
set_option linter.unusedVariables false
set_option linter.unusedSimpArgs false

attribute [local go_sem high] eqA23
mutual
def congr_Div.j0 : Nat → Int → Bool → Bool → Int → Int → Bool → Int → Int → Option (Bool × Int × Int)
 | 0, _, _, _, _, _, _, _, _ => none
 | k + 1, x5, x8, x550000, x550001, x550002, x551000, x551001, x551002 => if x8 = true then ((congr_none.f).bind fun bt552 => (some (bt552.1, bt552.2.1, bt552.2.2))) else (if x551001 = 0 then (if x550001 = 0 then (if x5 = 0 then (none) else ((congr_constant.f (wrap64 (Int.tdiv x550002 x5))).bind fun bt555 => (some (bt555.1, bt555.2.1, bt555.2.2)))) else (if x5 = 0 then (none) else (if (Int.tmod x550001 x5) = 0 then (congr_Div.j1 k x5 ((Int.tmod x550002 x5) == 0) x550000 x550001 x550002) else (congr_Div.j1 k x5 false x550000 x550001 x550002)))) else ((congr_all.f).bind fun bt564 => (some (bt564.1, bt564.2.1, bt564.2.2))))
def congr_Div.j1 : Nat → Int → Bool → Bool → Int → Int → Option (Bool × Int × Int)
 | 0, _, _, _, _, _ => none
 | k + 1, x5, x35, x550000, x550001, x550002 => if x35 = true then (if x5 = 0 then (none) else ((congr_Of.f k (wrap64 (Int.tdiv x550001 x5)) (wrap64 (Int.tdiv x550002 x5))).bind fun bt558 => (some (bt558.1, bt558.2.1, bt558.2.2)))) else ((congr_all.f).bind fun bt561 => (some (bt561.1, bt561.2.1, bt561.2.2)))
end
def congr_Div.f (k : Nat) (a0_0 : Bool) (a0_1 : Int) (a0_2 : Int) (a1_0 : Bool) (a1_1 : Int) (a1_2 : Int) : Option (Bool × Int × Int) := if a0_0 = true then (congr_Div.j0 k a1_2 true a0_0 a0_1 a0_2 a1_0 a1_1 a1_2) else (if a1_0 = true then (congr_Div.j0 k a1_2 true a0_0 a0_1 a0_2 a1_0 a1_1 a1_2) else (congr_Div.j0 k a1_2 (!a1_0 && (a1_1 == 0 && (a1_2 == 0))) a0_0 a0_1 a0_2 a1_0 a1_1 a1_2))
def congr_Div.T9 : Bool × List (List Nat × List Nat) := (true, [([], []), ([0], [0]), ([], []), ([1, 2], [1, 2]), ([], []), ([4], [4]), ([], []), ([5, 6], [5, 6]), ([3, 7], [3, 7]), ([8, 8, 0, 1, 2, 3, 4, 5, 6, 7, 8], [8])])
def congr_Div.B9 : List Nat := [0, 1, 0, 7, 0, 16, 0, 112, 255, 511]
theorem congr_Div.tab9 : rtab .any (opsOf Tryd.f41 9) = congr_Div.T9 := by kernel_rfl
theorem congr_Div.bits9 : waitsOk congr_Div.T9.2 congr_Div.B9 = true := by kernel_rfl
set_option maxHeartbeats 8000000 in
set_option maxRecDepth 100000 in
theorem congr_Div.calls (k : Nat) (a0_0 : Bool) (a0_1 : Int) (a0_2 : Int) (a1_0 : Bool) (a1_1 : Int) (a1_2 : Int) (r1 : Bool) (r2 : Int) (r3 : Int) (w : World) (h : congr_Div.f k a0_0 a0_1 a0_2 a1_0 a1_1 a1_2 = some (r1, r2, r3)) :
  Calls Tryd.prog 41 #[.agg #[.bool a0_0, .int .i64 a0_1, .int .i64 a0_2], .agg #[.bool a1_0, .int .i64 a1_1, .int .i64 a1_2]] w fun e w' => e = .returned (.agg #[.bool r1, .int .i64 r2, .int .i64 r3]) ∧ Below w.heap.size w w' := by
 have hu23 := Tryd.underlying23
 have HB := Aside0.mk (Below.refl w.heap.size w)
 have H : (if a0_0 = true then (congr_Div.j0 k a1_2 true a0_0 a0_1 a0_2 a1_0 a1_1 a1_2) else (if a1_0 = true then (congr_Div.j0 k a1_2 true a0_0 a0_1 a0_2 a1_0 a1_1 a1_2) else (congr_Div.j0 k a1_2 (!a1_0 && (a1_1 == 0 && (a1_2 == 0))) a0_0 a0_1 a0_2 a1_0 a1_1 a1_2))) = some (r1, r2, r3) := h
 clear h
 have HC3 := Aside0.mk H
 clear H
 go_enter Tryd.func41, Tryd.ntmps41
 go_upto_region 2 with (first | ((with_reducible refine gate_dst (N := 2) rfl ?_); refine box_event ?hg (N := 2) ?hd (cs := #[.bool a0_0, .int .i64 a0_1, .int .i64 a0_2]) (t := 23) ?hr ?_; (case hd => rfl); (case hg => rfl); (case hr => first | (go_simp; done) | (go_simp; rfl)); intro gb549 hg w4 hbox hb; have n0_ := kW HB hb; have n1_ := Aside0.mk (hbox); have n2_ := Aside0.mk ((by rw [hg]; exact (below_size (bS HB)) : w.heap.size ≤ gb549)); have n3_ := Aside0.mk ((by rw [hg]; exact (below_size (bS HB)) : w.heap.size ≤ gb549)); clear HB; have HB := n0_; have BK549 := n1_; have GW549 := n2_; have GE549 := n3_; clear n0_ n1_ n2_ n3_; clear hb hbox hg) | ((with_reducible refine gate_dst (N := 3) rfl ?_); refine box_event ?hg (N := 3) ?hd (cs := #[.bool a1_0, .int .i64 a1_1, .int .i64 a1_2]) (t := 23) ?hr ?_; (case hd => rfl); (case hg => rfl); (case hr => first | (go_simp; done) | (go_simp; rfl)); intro gb550 hg w5 hbox hb; have n0_ := kB BK549 hb; have n1_ := kW HB hb; have n2_ := Aside0.mk (hbox); have n3_ := Aside0.mk ((by rw [hg]; exact (below_size (bS HB)) : w.heap.size ≤ gb550)); have n4_ := Aside0.mk ((by rw [hg]; exact (below_size (bS HB)) : w.heap.size ≤ gb550)); have n5_ := Aside0.mk ((by rw [hg]; exact Nat.ne_of_lt (blk_lt (bkS BK549)) : gb549 ≠ gb550)); have n6_ := Aside0.mk ((by rw [hg]; exact Nat.ne_of_gt (blk_lt (bkS BK549)) : gb550 ≠ gb549)); clear BK549; clear HB; have BK549 := n0_; have HB := n1_; have BK550 := n2_; have GW550 := n3_; have GE550 := n4_; have NB549_550 := n5_; have NB550_549 := n6_; clear n0_ n1_ n2_ n3_ n4_ n5_ n6_; clear hb hbox hg) | ((with_reducible refine gate_dst (N := 4) rfl ?_); refine box_event ?hg (N := 4) ?hd (cs := #[.bool false, .int .i64 0, .int .i64 0]) (t := 23) ?hr ?_; (case hd => rfl); (case hg => rfl); (case hr => first | (go_simp; done) | (go_simp; rfl)); intro gb551 hg w6 hbox hb; have n0_ := kB BK549 hb; have n1_ := kB BK550 hb; have n2_ := kW HB hb; have n3_ := Aside0.mk (hbox); have n4_ := Aside0.mk ((by rw [hg]; exact (below_size (bS HB)) : w.heap.size ≤ gb551)); have n5_ := Aside0.mk ((by rw [hg]; exact (below_size (bS HB)) : w.heap.size ≤ gb551)); have n6_ := Aside0.mk ((by rw [hg]; exact Nat.ne_of_lt (blk_lt (bkS BK549)) : gb549 ≠ gb551)); have n7_ := Aside0.mk ((by rw [hg]; exact Nat.ne_of_gt (blk_lt (bkS BK549)) : gb551 ≠ gb549)); have n8_ := Aside0.mk ((by rw [hg]; exact Nat.ne_of_lt (blk_lt (bkS BK550)) : gb550 ≠ gb551)); have n9_ := Aside0.mk ((by rw [hg]; exact Nat.ne_of_gt (blk_lt (bkS BK550)) : gb551 ≠ gb550)); clear BK549; clear BK550; clear HB; have BK549 := n0_; have BK550 := n1_; have HB := n2_; have BK551 := n3_; have GW551 := n4_; have GE551 := n5_; have NB549_551 := n6_; have NB551_549 := n7_; have NB550_551 := n8_; have NB551_550 := n9_; clear n0_ n1_ n2_ n3_ n4_ n5_ n6_ n7_ n8_ n9_; clear hb hbox hg; have hnb7 := NB550_549.out; have hnc7 := NB549_550.out; have hnb8 := NB550_551.out; have hnc8 := NB551_550.out; have hcz9_0 := cz0 BK550; have hcz9_1 := cz1 BK550; have hcz9_2 := cz2 BK550; have hfz9_0 := fz BK550 0; have hfz9_1 := fz BK550 1; have hfz9_2 := fz BK550 2))
 (try simp only [Act.put, lA, lB, lC])
 go_cut [8] (fun v8 wc => ∃ (kq : Nat) (x8_2 : Bool), v8 = .bool x8_2 ∧ Aside0 (congr_Div.j0 kq a1_2 x8_2 a0_0 a0_1 a0_2 a1_0 a1_1 a1_2 = some (r1, r2, r3)) ∧ Aside0 (kq ≤ k) ∧ Aside0 (wc.heap[gb549]? = some (.cells #[.bool a0_0, .int .i64 a0_1, .int .i64 a0_2] 23 (0, 0))) ∧ Aside0 (wc.heap[gb550]? = some (.cells #[.bool a1_0, .int .i64 a1_1, .int .i64 a1_2] 23 (0, 0))) ∧ Aside0 (wc.heap[gb551]? = some (.cells #[.bool false, .int .i64 0, .int .i64 0] 23 (0, 0))) ∧ Aside0 (Below w.heap.size w wc))
 case first =>
  have H := HC3.out
  clear HC3
  by_cases c10 : a0_0 = true
  ·
   subst c10
   have H1 : (congr_Div.j0 k a1_2 true true a0_1 a0_2 a1_0 a1_1 a1_2) = some (r1, r2, r3) := by rw [if_pos rfl] at H; exact H
   clear H
   have H := H1
   clear H1
   have H' := Aside0.mk H
   clear H
   have hnb11 := NB549_550.out
   have hnc11 := NB550_549.out
   have hnb12 := NB549_551.out
   have hnc12 := NB551_549.out
   have hcz13_0 := cz0 BK549
   have hcz13_1 := cz1 BK549
   have hcz13_2 := cz2 BK549
   have hfz13_0 := fz BK549 0
   have hfz13_1 := fz BK549 1
   have hfz13_2 := fz BK549 2
   go_wp2
   go_meet
   case rel => exact ⟨_, (true), (by first | rfl | (simp; done) | (simp [*]; done)), H', ⟨by first | omega | exact Nat.le_refl _⟩, ⟨bkS BK549⟩, ⟨bkS BK550⟩, ⟨bkS BK551⟩, ⟨bS HB⟩⟩
  ·
   replace c10 := Bool.eq_false_iff.mpr c10
   subst c10
   have H1 : (if a1_0 = true then (congr_Div.j0 k a1_2 true false a0_1 a0_2 a1_0 a1_1 a1_2) else (congr_Div.j0 k a1_2 (!a1_0 && (a1_1 == 0 && (a1_2 == 0))) false a0_1 a0_2 a1_0 a1_1 a1_2)) = some (r1, r2, r3) := by rw [if_neg (show ¬ (false = true) by decide)] at H; exact H
   clear H
   have H := H1
   clear H1
   by_cases c14 : a1_0 = true
   ·
    subst c14
    have H1 : (congr_Div.j0 k a1_2 true false a0_1 a0_2 true a1_1 a1_2) = some (r1, r2, r3) := by rw [if_pos rfl] at H; exact H
    clear H
    have H := H1
    clear H1
    have H' := Aside0.mk H
    clear H
    have hnb15 := NB549_550.out
    have hnc15 := NB550_549.out
    have hnb16 := NB549_551.out
    have hnc16 := NB551_549.out
    have hcz17_0 := cz0 BK549
    have hcz17_1 := cz1 BK549
    have hcz17_2 := cz2 BK549
    have hfz17_0 := fz BK549 0
    have hfz17_1 := fz BK549 1
    have hfz17_2 := fz BK549 2
    have hnb18 := NB550_551.out
    have hnc18 := NB551_550.out
    have hcz19_0 := cz0 BK550
    have hcz19_1 := cz1 BK550
    have hcz19_2 := cz2 BK550
    have hfz19_0 := fz BK550 0
    have hfz19_1 := fz BK550 1
    have hfz19_2 := fz BK550 2
    go_wp2
    go_meet
    case rel => exact ⟨_, (true), (by first | rfl | (simp; done) | (simp [*]; done)), H', ⟨by first | omega | exact Nat.le_refl _⟩, ⟨bkS BK549⟩, ⟨bkS BK550⟩, ⟨bkS BK551⟩, ⟨bS HB⟩⟩
   ·
    replace c14 := Bool.eq_false_iff.mpr c14
    subst c14
    have H1 : (congr_Div.j0 k a1_2 (!false && (a1_1 == 0 && (a1_2 == 0))) false a0_1 a0_2 false a1_1 a1_2) = some (r1, r2, r3) := by rw [if_neg (show ¬ (false = true) by decide)] at H; exact H
    clear H
    have H := H1
    clear H1
    have H' := Aside0.mk H
    clear H
    have hnb20 := NB549_550.out
    have hnc20 := NB550_549.out
    have hnb21 := NB549_551.out
    have hnc21 := NB551_549.out
    have hcz22_0 := cz0 BK549
    have hcz22_1 := cz1 BK549
    have hcz22_2 := cz2 BK549
    have hfz22_0 := fz BK549 0
    have hfz22_1 := fz BK549 1
    have hfz22_2 := fz BK549 2
    have hnb23 := NB550_551.out
    have hnc23 := NB551_550.out
    have hcz24_0 := cz0 BK550
    have hcz24_1 := cz1 BK550
    have hcz24_2 := cz2 BK550
    have hfz24_0 := fz BK550 0
    have hfz24_1 := fz BK550 1
    have hfz24_2 := fz BK550 2
    go_wp2
    go_meet
    case rel => exact ⟨_, ((!false && (a1_1 == 0 && (a1_2 == 0)))), (by first | rfl | (simp; done) | (simp [*]; done)), H', ⟨by first | omega | exact Nat.le_refl _⟩, ⟨bkS BK549⟩, ⟨bkS BK550⟩, ⟨bkS BK551⟩, ⟨bS HB⟩⟩
 case rest =>
  clear HC3
  try clear c1
  try clear c2
  try clear p2
  try clear c4
  try clear c7
  try clear c8
  try clear c10
  try clear c11
  try clear c12
  try clear c14
  try clear c15
  try clear c16
  try clear c18
  try clear c20
  try clear c21
  try clear c23
  try clear hcz13_0
  try clear hcz13_1
  try clear hcz13_2
  try clear hcz17_0
  try clear hcz17_1
  try clear hcz17_2
  try clear hcz19_0
  try clear hcz19_1
  try clear hcz19_2
  try clear hcz22_0
  try clear hcz22_1
  try clear hcz22_2
  try clear hcz24_0
  try clear hcz24_1
  try clear hcz24_2
  try clear hcz9_0
  try clear hcz9_1
  try clear hcz9_2
  try clear hfz13_0
  try clear hfz13_1
  try clear hfz13_2
  try clear hfz17_0
  try clear hfz17_1
  try clear hfz17_2
  try clear hfz19_0
  try clear hfz19_1
  try clear hfz19_2
  try clear hfz22_0
  try clear hfz22_1
  try clear hfz22_2
  try clear hfz24_0
  try clear hfz24_1
  try clear hfz24_2
  try clear hfz9_0
  try clear hfz9_1
  try clear hfz9_2
  obtain ⟨kq, x8_2, rfl, HA, HJ2, BK549, BK550, BK551, HB⟩ := hcut
  cases kq with
  | zero => exact absurd HA.out (by simp [congr_Div.j0])
  | succ kj2 =>
   have H := HA.out
   clear HA
   simp only [congr_Div.j0] at H
   by_cases c25 : x8_2 = true
   ·
    subst c25
    have H1 : ((congr_none.f).bind fun bt552 => (some (bt552.1, bt552.2.1, bt552.2.2))) = some (r1, r2, r3) := by rw [if_pos rfl] at H; exact H
    clear H
    have H := H1
    clear H1
    replace H := Option.bind_eq_some_iff.mp H
    obtain ⟨⟨t552, t553, t554⟩, A260, H⟩ := H
    replace H : (some (t552, t553, t554)) = some (r1, r2, r3) := H
    have A26 := Aside0.mk A260
    clear A260
    simp only [Option.some.injEq, Prod.mk.injEq] at H
    obtain ⟨rfl, rfl, rfl⟩ := H
    go_wp2_with (first | ((with_reducible refine gate_callee (f := 56) rfl ?_); refine goesL_ (some 20) rfl rfl Tryd.func56 (by kernel_rfl) rfl #[] rfl mS ?_; (with_reducible refine (congr_none.calls  t552 t553 t554 _ A26.out).mono ?_); rintro e w27 ⟨rfl, hb⟩; refine ⟨_, rfl, ?_⟩; replace BK549 := kB BK549 hb; replace BK550 := kB BK550 hb; replace BK551 := kB BK551 hb; replace HB := kW HB hb; (try clear hb); (try clear hb2); (try clear hk); (try clear hi); have hnb28 := NB551_549.out; have hnc28 := NB549_551.out; have hnb29 := NB551_550.out; have hnc29 := NB550_551.out; have hcz30_0 := cz0 BK551; have hcz30_1 := cz1 BK551; have hcz30_2 := cz2 BK551; have hfz30_0 := fz BK551 0; have hfz30_1 := fz BK551 1; have hfz30_2 := fz BK551 2))
    refine bodyPost_ret (results_cell_row rfl _ _ gb551 23 #[.bool t552, .int .i64 t553, .int .i64 t554] (0, 0) _ rfl (by (with_reducible repeat (first | refine b1 ?_ _ | refine b2 ?_ | refine b3 ?_ _)); refine blk_put (cs := #[.bool t552, .int .i64 t553, .int .i64 0]) ?_ 2 _ rfl; (with_reducible repeat (first | refine b1 ?_ _ | refine b2 ?_ | refine b3 ?_ _)); refine blk_put (cs := #[.bool t552, .int .i64 0, .int .i64 0]) ?_ 1 _ rfl; (with_reducible repeat (first | refine b1 ?_ _ | refine b2 ?_ | refine b3 ?_ _)); refine blk_put (cs := #[.bool false, .int .i64 0, .int .i64 0]) ?_ 0 _ rfl; (with_reducible repeat (first | refine b1 ?_ _ | refine b2 ?_ | refine b3 ?_ _)); exact BK551.out) Tryd.underlying23 rfl (by kernel_rfl)) rfl ?_
    exact ⟨eS, bS HB⟩
   ·
    replace c25 := Bool.eq_false_iff.mpr c25
    subst c25
    have H1 : (if a1_1 = 0 then (if a0_1 = 0 then (if a1_2 = 0 then (none) else ((congr_constant.f (wrap64 (Int.tdiv a0_2 a1_2))).bind fun bt555 => (some (bt555.1, bt555.2.1, bt555.2.2)))) else (if a1_2 = 0 then (none) else (if (Int.tmod a0_1 a1_2) = 0 then (congr_Div.j1 kj2 a1_2 ((Int.tmod a0_2 a1_2) == 0) a0_0 a0_1 a0_2) else (congr_Div.j1 kj2 a1_2 false a0_0 a0_1 a0_2)))) else ((congr_all.f).bind fun bt564 => (some (bt564.1, bt564.2.1, bt564.2.2)))) = some (r1, r2, r3) := by rw [if_neg (show ¬ (false = true) by decide)] at H; exact H
    clear H
    have H := H1
    clear H1
    by_cases c31 : a1_1 = 0
    ·
     rw [if_pos c31] at H
     have c31b0 : (a1_1 == 0) = true := beq_iff_eq.mpr c31
     have c31b1 : (a1_1 != 0) = false := bne_eq_false_iff_eq.mpr c31
     clear c31
     by_cases c32 : a0_1 = 0
     ·
      rw [if_pos c32] at H
      have c32b0 : (a0_1 == 0) = true := beq_iff_eq.mpr c32
      have c32b1 : (a0_1 != 0) = false := bne_eq_false_iff_eq.mpr c32
      clear c32
      by_cases c33 : a1_2 = 0
      ·
       rw [if_pos c33] at H
       exact absurd H (by simp)
      ·
       rw [if_neg c33] at H
       have c33b0 : (a1_2 == 0) = false := beq_eq_false_iff_ne.mpr c33
       have c33b1 : (a1_2 != 0) = true := bne_iff_ne.mpr c33
       replace H := Option.bind_eq_some_iff.mp H
       obtain ⟨⟨t555, t556, t557⟩, A340, H⟩ := H
       replace H : (some (t555, t556, t557)) = some (r1, r2, r3) := H
       have A34 := Aside0.mk A340
       clear A340
       simp only [Option.some.injEq, Prod.mk.injEq] at H
       obtain ⟨rfl, rfl, rfl⟩ := H
       have hnb35 := NB550_549.out
       have hnc35 := NB549_550.out
       have hnb36 := NB550_551.out
       have hnc36 := NB551_550.out
       have hcz37_0 : wc.cell? ⟨gb550, 0, none⟩ = some (.bool a1_0) := cz0 BK550
       have hcz37_1 : wc.cell? ⟨gb550, 1, none⟩ = some (.int .i64 a1_1) := cz1 BK550
       have hcz37_2 : wc.cell? ⟨gb550, 2, none⟩ = some (.int .i64 a1_2) := cz2 BK550
       have hfz37_0 := fz BK550 0
       have hfz37_1 := fz BK550 1
       have hfz37_2 := fz BK550 2
       have hnb38 := NB549_551.out
       have hnc38 := NB551_549.out
       have hcz39_0 : wc.cell? ⟨gb549, 0, none⟩ = some (.bool a0_0) := cz0 BK549
       have hcz39_1 : wc.cell? ⟨gb549, 1, none⟩ = some (.int .i64 a0_1) := cz1 BK549
       have hcz39_2 : wc.cell? ⟨gb549, 2, none⟩ = some (.int .i64 a0_2) := cz2 BK549
       have hfz39_0 := fz BK549 0
       have hfz39_1 := fz BK549 1
       have hfz39_2 := fz BK549 2
       go_wp2_with (first | ((with_reducible refine gate_callee (f := 50) rfl ?_); refine goesL_ (some 34) rfl rfl Tryd.func50 (by kernel_rfl) rfl #[.int .i64 (wrap64 (Int.tdiv a0_2 a1_2))] rfl mS ?_; (with_reducible refine (congr_constant.calls (wrap64 (Int.tdiv a0_2 a1_2)) t555 t556 t557 _ A34.out).mono ?_); rintro e w40 ⟨rfl, hb⟩; refine ⟨_, rfl, ?_⟩; replace BK549 := kB BK549 hb; replace BK550 := kB BK550 hb; replace BK551 := kB BK551 hb; replace HB := kW HB hb; (try clear hb); (try clear hb2); (try clear hk); (try clear hi); have hcz41_0 := cz0 BK551; have hcz41_1 := cz1 BK551; have hcz41_2 := cz2 BK551; have hfz41_0 := fz BK551 0; have hfz41_1 := fz BK551 1; have hfz41_2 := fz BK551 2))
       refine bodyPost_ret (results_cell_row rfl _ _ gb551 23 #[.bool t555, .int .i64 t556, .int .i64 t557] (0, 0) _ rfl (by (with_reducible repeat (first | refine b1 ?_ _ | refine b2 ?_ | refine b3 ?_ _)); refine blk_put (cs := #[.bool t555, .int .i64 t556, .int .i64 0]) ?_ 2 _ rfl; (with_reducible repeat (first | refine b1 ?_ _ | refine b2 ?_ | refine b3 ?_ _)); refine blk_put (cs := #[.bool t555, .int .i64 0, .int .i64 0]) ?_ 1 _ rfl; (with_reducible repeat (first | refine b1 ?_ _ | refine b2 ?_ | refine b3 ?_ _)); refine blk_put (cs := #[.bool false, .int .i64 0, .int .i64 0]) ?_ 0 _ rfl; (with_reducible repeat (first | refine b1 ?_ _ | refine b2 ?_ | refine b3 ?_ _)); exact BK551.out) Tryd.underlying23 rfl (by kernel_rfl)) rfl ?_
       exact ⟨eS, bS HB⟩
     ·
      rw [if_neg c32] at H
      have c32b0 : (a0_1 == 0) = false := beq_eq_false_iff_ne.mpr c32
      have c32b1 : (a0_1 != 0) = true := bne_iff_ne.mpr c32
      have HC42 := Aside0.mk H
      clear H
      have hnb43 := NB550_549.out
      have hnc43 := NB549_550.out
      have hnb44 := NB550_551.out
      have hnc44 := NB551_550.out
      have hcz45_0 : wc.cell? ⟨gb550, 0, none⟩ = some (.bool a1_0) := cz0 BK550
      have hcz45_1 : wc.cell? ⟨gb550, 1, none⟩ = some (.int .i64 a1_1) := cz1 BK550
      have hcz45_2 : wc.cell? ⟨gb550, 2, none⟩ = some (.int .i64 a1_2) := cz2 BK550
      have hfz45_0 := fz BK550 0
      have hfz45_1 := fz BK550 1
      have hfz45_2 := fz BK550 2
      have hnb46 := NB549_551.out
      have hnc46 := NB551_549.out
      have hcz47_0 : wc.cell? ⟨gb549, 0, none⟩ = some (.bool a0_0) := cz0 BK549
      have hcz47_1 : wc.cell? ⟨gb549, 1, none⟩ = some (.int .i64 a0_1) := cz1 BK549
      have hcz47_2 : wc.cell? ⟨gb549, 2, none⟩ = some (.int .i64 a0_2) := cz2 BK549
      have hfz47_0 := fz BK549 0
      have hfz47_1 := fz BK549 1
      have hfz47_2 := fz BK549 2
      go_upto_region 8 with (fail)
      go_cut [35] (fun v35 wc => ∃ (kq : Nat) (x35_41 : Bool), v35 = .bool x35_41 ∧ Aside0 (congr_Div.j1 kq a1_2 x35_41 a0_0 a0_1 a0_2 = some (r1, r2, r3)) ∧ Aside0 (kq ≤ kj2) ∧ Aside0 (wc.heap[gb549]? = some (.cells #[.bool a0_0, .int .i64 a0_1, .int .i64 a0_2] 23 (0, 0))) ∧ Aside0 (wc.heap[gb550]? = some (.cells #[.bool a1_0, .int .i64 a1_1, .int .i64 a1_2] 23 (0, 0))) ∧ Aside0 (wc.heap[gb551]? = some (.cells #[.bool false, .int .i64 0, .int .i64 0] 23 (0, 0))) ∧ Aside0 (Below w.heap.size w wc))
      case first =>
       have H := HC42.out
       clear HC42
       by_cases c48 : a1_2 = 0
       ·
        rw [if_pos c48] at H
        exact absurd H (by simp)
       ·
        rw [if_neg c48] at H
        have c48b0 : (a1_2 == 0) = false := beq_eq_false_iff_ne.mpr c48
        have c48b1 : (a1_2 != 0) = true := bne_iff_ne.mpr c48
        (first | rw [c48b0] | (simp only [i64_w, i32_w]; rw [c48b0]) | skip)
        by_cases c49 : (Int.tmod a0_1 a1_2) = 0
        ·
         rw [if_pos c49] at H
         have c49b0 : ((Int.tmod a0_1 a1_2) == 0) = true := beq_iff_eq.mpr c49
         have c49b1 : ((Int.tmod a0_1 a1_2) != 0) = false := bne_eq_false_iff_eq.mpr c49
         clear c49
         have H' := Aside0.mk H
         clear H
         have hnb50 := NB549_550.out
         have hnc50 := NB550_549.out
         have hnb51 := NB549_551.out
         have hnc51 := NB551_549.out
         have hcz52_0 : wc.cell? ⟨gb549, 0, none⟩ = some (.bool a0_0) := cz0 BK549
         have hcz52_1 : wc.cell? ⟨gb549, 1, none⟩ = some (.int .i64 a0_1) := cz1 BK549
         have hcz52_2 : wc.cell? ⟨gb549, 2, none⟩ = some (.int .i64 a0_2) := cz2 BK549
         have hfz52_0 := fz BK549 0
         have hfz52_1 := fz BK549 1
         have hfz52_2 := fz BK549 2
         go_wp2
         go_meet
         case rel => exact ⟨_, (((Int.tmod a0_2 a1_2) == 0)), (by first | rfl | (simp; done) | (simp [*]; done)), H', ⟨by have := HJ2.out; first | omega | exact Nat.le_refl _⟩, ⟨bkS BK549⟩, ⟨bkS BK550⟩, ⟨bkS BK551⟩, ⟨bS HB⟩⟩
        ·
         rw [if_neg c49] at H
         have c49b0 : ((Int.tmod a0_1 a1_2) == 0) = false := beq_eq_false_iff_ne.mpr c49
         have c49b1 : ((Int.tmod a0_1 a1_2) != 0) = true := bne_iff_ne.mpr c49
         have H' := Aside0.mk H
         clear H
         have hnb53 := NB549_550.out
         have hnc53 := NB550_549.out
         have hnb54 := NB549_551.out
         have hnc54 := NB551_549.out
         have hcz55_0 : wc.cell? ⟨gb549, 0, none⟩ = some (.bool a0_0) := cz0 BK549
         have hcz55_1 : wc.cell? ⟨gb549, 1, none⟩ = some (.int .i64 a0_1) := cz1 BK549
         have hcz55_2 : wc.cell? ⟨gb549, 2, none⟩ = some (.int .i64 a0_2) := cz2 BK549
         have hfz55_0 := fz BK549 0
         have hfz55_1 := fz BK549 1
         have hfz55_2 := fz BK549 2
         go_wp2
         go_meet
         case rel => exact ⟨_, (false), (by first | rfl | (simp; done) | (simp [*]; done)), H', ⟨by have := HJ2.out; first | omega | exact Nat.le_refl _⟩, ⟨bkS BK549⟩, ⟨bkS BK550⟩, ⟨bkS BK551⟩, ⟨bS HB⟩⟩
      case rest =>
       clear HC42
       try clear c1
       try clear c2
       try clear p2
       try clear c3
       try clear c4
       try clear c5
       try clear p6
       try clear c7
       try clear c8
       try clear c10
       try clear c11
       try clear c12
       try clear c14
       try clear c15
       try clear c16
       try clear c18
       try clear c20
       try clear c21
       try clear c23
       try clear c25
       try clear c28
       try clear c29
       try clear c31
       try clear c31b0
       try clear c31b1
       try clear c32
       try clear c32b0
       try clear c32b1
       try clear c33
       try clear c33b0
       try clear c33b1
       try clear c35
       try clear c36
       try clear c38
       try clear c41
       try clear c43
       try clear c44
       try clear c46
       try clear c48
       try clear c48b0
       try clear c48b1
       try clear c49
       try clear c49b0
       try clear c49b1
       try clear c50
       try clear c51
       try clear c53
       try clear c54
       try clear hcz13_0
       try clear hcz13_1
       try clear hcz13_2
       try clear hcz17_0
       try clear hcz17_1
       try clear hcz17_2
       try clear hcz19_0
       try clear hcz19_1
       try clear hcz19_2
       try clear hcz22_0
       try clear hcz22_1
       try clear hcz22_2
       try clear hcz24_0
       try clear hcz24_1
       try clear hcz24_2
       try clear hcz30_0
       try clear hcz30_1
       try clear hcz30_2
       try clear hcz37_0
       try clear hcz37_1
       try clear hcz37_2
       try clear hcz39_0
       try clear hcz39_1
       try clear hcz39_2
       try clear hcz41_0
       try clear hcz41_1
       try clear hcz41_2
       try clear hcz45_0
       try clear hcz45_1
       try clear hcz45_2
       try clear hcz47_0
       try clear hcz47_1
       try clear hcz47_2
       try clear hcz52_0
       try clear hcz52_1
       try clear hcz52_2
       try clear hcz55_0
       try clear hcz55_1
       try clear hcz55_2
       try clear hcz9_0
       try clear hcz9_1
       try clear hcz9_2
       try clear hfz13_0
       try clear hfz13_1
       try clear hfz13_2
       try clear hfz17_0
       try clear hfz17_1
       try clear hfz17_2
       try clear hfz19_0
       try clear hfz19_1
       try clear hfz19_2
       try clear hfz22_0
       try clear hfz22_1
       try clear hfz22_2
       try clear hfz24_0
       try clear hfz24_1
       try clear hfz24_2
       try clear hfz30_0
       try clear hfz30_1
       try clear hfz30_2
       try clear hfz37_0
       try clear hfz37_1
       try clear hfz37_2
       try clear hfz39_0
       try clear hfz39_1
       try clear hfz39_2
       try clear hfz41_0
       try clear hfz41_1
       try clear hfz41_2
       try clear hfz45_0
       try clear hfz45_1
       try clear hfz45_2
       try clear hfz47_0
       try clear hfz47_1
       try clear hfz47_2
       try clear hfz52_0
       try clear hfz52_1
       try clear hfz52_2
       try clear hfz55_0
       try clear hfz55_1
       try clear hfz55_2
       try clear hfz9_0
       try clear hfz9_1
       try clear hfz9_2
       try clear p2
       obtain ⟨kq, x35_41, rfl, HA, HJ41, BK549, BK550, BK551, HB⟩ := hcut
       cases kq with
       | zero => exact absurd HA.out (by simp [congr_Div.j1])
       | succ kj41 =>
        have H := HA.out
        clear HA
        simp only [congr_Div.j1] at H
        by_cases c56 : x35_41 = true
        ·
         subst c56
         have H1 : (if a1_2 = 0 then (none) else ((congr_Of.f kj41 (wrap64 (Int.tdiv a0_1 a1_2)) (wrap64 (Int.tdiv a0_2 a1_2))).bind fun bt558 => (some (bt558.1, bt558.2.1, bt558.2.2)))) = some (r1, r2, r3) := by rw [if_pos rfl] at H; exact H
         clear H
         have H := H1
         clear H1
         by_cases c57 : a1_2 = 0
         ·
          rw [if_pos c57] at H
          exact absurd H (by simp)
         ·
          rw [if_neg c57] at H
          have c57b0 : (a1_2 == 0) = false := beq_eq_false_iff_ne.mpr c57
          have c57b1 : (a1_2 != 0) = true := bne_iff_ne.mpr c57
          replace H := Option.bind_eq_some_iff.mp H
          obtain ⟨⟨t558, t559, t560⟩, A580, H⟩ := H
          replace H : (some (t558, t559, t560)) = some (r1, r2, r3) := H
          have A58 := Aside0.mk A580
          clear A580
          simp only [Option.some.injEq, Prod.mk.injEq] at H
          obtain ⟨rfl, rfl, rfl⟩ := H
          try go_wp2
          replace BK549 := Aside0.mk (blk_drew BK549.out)
          replace BK550 := Aside0.mk (blk_drew BK550.out)
          replace BK551 := Aside0.mk (blk_drew BK551.out)
          replace HB := Aside0.mk (below_drew1 HB.out)
          refine start_ (n := 10) (S := fun w' => w'.cell? ⟨gb549, 0, none⟩ = some (.bool a0_0) ∧ w'.cell? ⟨gb549, 1, none⟩ = some (.int .i64 a0_1) ∧ w'.cell? ⟨gb549, 2, none⟩ = some (.int .i64 a0_2)) (ds := []) #[false, false, false, false, false, false, false, false, false, false] (by kernel_rfl) rfl rfl ⟨cz0 BK549, cz1 BK549, cz2 BK549⟩ (fun hHeld => ?_); refine with_tabW congr_Div.tab9 congr_Div.bits9 (fun HT_ HW_ => ?_)
          generalize wc.drew = w59 at BK549 BK550 BK551 HB hHeld ⊢
          refine pure_ (i := 0) (N := some 48) (v := ?_) (a' := ?_) #[true, false, false, false, false, false, false, false, false, false] rfl rfl (any_of HT_.out (by kernel_rfl)) (fun _ _ _ h => h) (Or.inl ⟨by rfl, ?_⟩) ?_ ?_
          rotate_left
          ·
           intro w'
           go_simp
           with_reducible rfl
          rotate_left
          ·
           simp only [Act.put, lA, lB, lC, i64_w, i32_w]
           rfl
          refine pure_ (i := 2) (N := some 50) (v := ?_) (a' := ?_) #[true, false, true, false, false, false, false, false, false, false] rfl rfl (any_of HT_.out (by kernel_rfl)) (fun _ _ _ h => h) (Or.inl ⟨by rfl, ?_⟩) ?_ ?_
          rotate_left
          ·
           intro w'
           go_simp
           with_reducible rfl
          rotate_left
          ·
           simp only [Act.put, lA, lB, lC, i64_w, i32_w]
           rfl
          refine pure_ (i := 4) (N := some 52) (v := ?_) (a' := ?_) #[true, false, true, false, true, false, false, false, false, false] rfl rfl (any_of HT_.out (by kernel_rfl)) (fun _ _ _ h => h) (Or.inl ⟨by rfl, ?_⟩) ?_ ?_
          rotate_left
          ·
           intro w'
           go_simp
           with_reducible rfl
          rotate_left
          ·
           simp only [Act.put, lA, lB, lC, i64_w, i32_w]
           rfl
          refine pure_ (i := 6) (N := some 54) (v := ?_) (a' := ?_) #[true, false, true, false, true, false, true, false, false, false] rfl rfl (any_of HT_.out (by kernel_rfl)) (fun _ _ _ h => h) (Or.inl ⟨by rfl, ?_⟩) ?_ ?_
          rotate_left
          ·
           intro w'
           go_simp
           with_reducible rfl
          rotate_left
          ·
           simp only [Act.put, lA, lB, lC, i64_w, i32_w]
           rfl
          refine take_ (i := 1) (N := some 49) (v := ?_) (a' := ?_) #[true, true, true, false, true, false, true, false, false, false] rfl rfl (take_ofW HT_.out HW_.out (by kernel_rfl)) (fun _ _ _ h => h) (Or.inl ⟨by rfl, ?_⟩) hHeld ?_ ?_
          rotate_left
          ·
           rintro w' ⟨s0, s1, s2⟩
           go_simp
           with_reducible rfl
          rotate_left
          ·
           simp only [Act.put, lA, lB, lC, i64_w, i32_w]
           rfl
          refine pure_ (i := 3) (N := some 51) (v := ?_) (a' := ?_) #[true, true, true, true, true, false, true, false, false, false] rfl rfl (any_of HT_.out (by kernel_rfl)) (fun _ _ _ h => h) (Or.inl ⟨by rfl, ?_⟩) ?_ ?_
          rotate_left
          ·
           intro w'
           go_simp
           with_reducible rfl
          rotate_left
          ·
           simp only [Act.put, lA, lB, lC, i64_w, i32_w]
           rfl
          refine take_ (i := 5) (N := some 53) (v := ?_) (a' := ?_) #[true, true, true, true, true, true, true, false, false, false] rfl rfl (take_ofW HT_.out HW_.out (by kernel_rfl)) (fun _ _ _ h => h) (Or.inl ⟨by rfl, ?_⟩) hHeld ?_ ?_
          rotate_left
          ·
           rintro w' ⟨s0, s1, s2⟩
           go_simp
           with_reducible rfl
          rotate_left
          ·
           simp only [Act.put, lA, lB, lC, i64_w, i32_w]
           rfl
          refine pure_ (i := 7) (N := some 55) (v := ?_) (a' := ?_) #[true, true, true, true, true, true, true, true, false, false] rfl rfl (any_of HT_.out (by kernel_rfl)) (fun _ _ _ h => h) (Or.inl ⟨by rfl, ?_⟩) ?_ ?_
          rotate_left
          ·
           intro w'
           go_simp
           with_reducible rfl
          rotate_left
          ·
           simp only [Act.put, lA, lB, lC, i64_w, i32_w]
           rfl
          refine one_ (i := 8) (N := some 56) #[true, true, true, true, true, true, true, true, true, false] rfl rfl (one_of HT_.out (by kernel_rfl)) (by decide) (fun K hK => ?_)
          refine goes_ Tryd.func10 (by kernel_rfl) rfl #[.int .i64 (wrap64 (Int.tdiv a0_1 a1_2)), .int .i64 (wrap64 (Int.tdiv a0_2 a1_2))] (by rfl) rfl rfl mS ?_
          with_reducible refine (congr_Of.calls kj41 (wrap64 (Int.tdiv a0_1 a1_2)) (wrap64 (Int.tdiv a0_2 a1_2)) t558 t559 t560 _ A58.out).mono ?_
          rintro e w60 ⟨rfl, hb⟩
          refine ⟨_, rfl, ?_⟩
          replace BK549 := kB BK549 hb
          replace BK550 := kB BK550 hb
          replace BK551 := kB BK551 hb
          replace HB := kW HB hb
          (try clear hb)
          (try clear hb2)
          (try clear hk)
          (try clear hi)
          refine hK.out _ _ ⟨cz0 BK549, cz1 BK549, cz2 BK549⟩ (fun hHeld => ?_)
          clear hK K
          refine norm_ (a' := ?_) ?_ ?_
          rotate_left
          ·
           show Act.put _ (some 56) _ = _
           simp only [Act.put, lA, lB, lC, i64_w, i32_w]
           rfl
          refine one_ (i := 9) (N := none) #[true, true, true, true, true, true, true, true, true, true] rfl rfl (one_of HT_.out (by kernel_rfl)) (by decide) (fun K hK => ?_)
          have hs61 : w60.cell? ⟨gb551, 0, none⟩ = some (.bool false) := cz0 BK551
          have hfs61 := fz BK551 0
          have hns61_0 := NB549_551.out
          have hns61_1 := NB550_551.out
          have hms61_0 := NB551_549.out
          have hms61_1 := NB551_550.out
          have hs62 : w60.cell? ⟨gb551, 1, none⟩ = some (.int .i64 0) := cz1 BK551
          have hfs62 := fz BK551 1
          have hns62_0 := NB549_551.out
          have hns62_1 := NB550_551.out
          have hms62_0 := NB551_549.out
          have hms62_1 := NB551_550.out
          have hs63 : w60.cell? ⟨gb551, 2, none⟩ = some (.int .i64 0) := cz2 BK551
          have hfs63 := fz BK551 2
          have hns63_0 := NB549_551.out
          have hns63_1 := NB550_551.out
          have hms63_0 := NB551_549.out
          have hms63_1 := NB551_550.out
          refine skip_ (w1 := ?_) (by rfl) rfl ?_ ?_
          rotate_left
          ·
           go_simp
           rfl
          refine hK.out _ _ ⟨((cell_far (p := ⟨gb551, _, none⟩) NB549_551.out _).trans (((cell_far (p := ⟨gb551, _, none⟩) NB549_551.out _).trans (((cell_far (p := ⟨gb551, _, none⟩) NB549_551.out _).trans (hHeld.1)))))), ((cell_far (p := ⟨gb551, _, none⟩) NB549_551.out _).trans (((cell_far (p := ⟨gb551, _, none⟩) NB549_551.out _).trans (((cell_far (p := ⟨gb551, _, none⟩) NB549_551.out _).trans (hHeld.2.1)))))), ((cell_far (p := ⟨gb551, _, none⟩) NB549_551.out _).trans (((cell_far (p := ⟨gb551, _, none⟩) NB549_551.out _).trans (((cell_far (p := ⟨gb551, _, none⟩) NB549_551.out _).trans (hHeld.2.2))))))⟩ (fun hHeld => ?_)
          clear hK K
          refine done_ (done_of HT_.out (by kernel_rfl)) ?_
          try go_wp2
          refine bodyPost_ret (results_cell_row rfl _ _ gb551 23 #[.bool t558, .int .i64 t559, .int .i64 t560] (0, 0) _ rfl (by (with_reducible repeat (first | refine b1 ?_ _ | refine b2 ?_ | refine b3 ?_ _)); refine blk_put (cs := #[.bool t558, .int .i64 t559, .int .i64 0]) ?_ 2 _ rfl; (with_reducible repeat (first | refine b1 ?_ _ | refine b2 ?_ | refine b3 ?_ _)); refine blk_put (cs := #[.bool t558, .int .i64 0, .int .i64 0]) ?_ 1 _ rfl; (with_reducible repeat (first | refine b1 ?_ _ | refine b2 ?_ | refine b3 ?_ _)); refine blk_put (cs := #[.bool false, .int .i64 0, .int .i64 0]) ?_ 0 _ rfl; (with_reducible repeat (first | refine b1 ?_ _ | refine b2 ?_ | refine b3 ?_ _)); exact BK551.out) Tryd.underlying23 rfl (by kernel_rfl)) rfl ?_
          exact ⟨eS, bS HB⟩
        ·
         replace c56 := Bool.eq_false_iff.mpr c56
         subst c56
         have H1 : ((congr_all.f).bind fun bt561 => (some (bt561.1, bt561.2.1, bt561.2.2))) = some (r1, r2, r3) := by rw [if_neg (show ¬ (false = true) by decide)] at H; exact H
         clear H
         have H := H1
         clear H1
         replace H := Option.bind_eq_some_iff.mp H
         obtain ⟨⟨t561, t562, t563⟩, A640, H⟩ := H
         replace H : (some (t561, t562, t563)) = some (r1, r2, r3) := H
         have A64 := Aside0.mk A640
         clear A640
         simp only [Option.some.injEq, Prod.mk.injEq] at H
         obtain ⟨rfl, rfl, rfl⟩ := H
         go_wp2_with (first | ((with_reducible refine gate_callee (f := 84) rfl ?_); refine goesL_ (some 57) rfl rfl Tryd.func84 (by kernel_rfl) rfl #[] rfl mS ?_; (with_reducible refine (congr_all.calls  t561 t562 t563 _ A64.out).mono ?_); rintro e w65 ⟨rfl, hb⟩; refine ⟨_, rfl, ?_⟩; replace BK549 := kB BK549 hb; replace BK550 := kB BK550 hb; replace BK551 := kB BK551 hb; replace HB := kW HB hb; (try clear hb); (try clear hb2); (try clear hk); (try clear hi); have hnb66 := NB551_549.out; have hnc66 := NB549_551.out; have hnb67 := NB551_550.out; have hnc67 := NB550_551.out; have hcz68_0 := cz0 BK551; have hcz68_1 := cz1 BK551; have hcz68_2 := cz2 BK551; have hfz68_0 := fz BK551 0; have hfz68_1 := fz BK551 1; have hfz68_2 := fz BK551 2))
         refine bodyPost_ret (results_cell_row rfl _ _ gb551 23 #[.bool t561, .int .i64 t562, .int .i64 t563] (0, 0) _ rfl (by (with_reducible repeat (first | refine b1 ?_ _ | refine b2 ?_ | refine b3 ?_ _)); refine blk_put (cs := #[.bool t561, .int .i64 t562, .int .i64 0]) ?_ 2 _ rfl; (with_reducible repeat (first | refine b1 ?_ _ | refine b2 ?_ | refine b3 ?_ _)); refine blk_put (cs := #[.bool t561, .int .i64 0, .int .i64 0]) ?_ 1 _ rfl; (with_reducible repeat (first | refine b1 ?_ _ | refine b2 ?_ | refine b3 ?_ _)); refine blk_put (cs := #[.bool false, .int .i64 0, .int .i64 0]) ?_ 0 _ rfl; (with_reducible repeat (first | refine b1 ?_ _ | refine b2 ?_ | refine b3 ?_ _)); exact BK551.out) Tryd.underlying23 rfl (by kernel_rfl)) rfl ?_
         exact ⟨eS, bS HB⟩
    ·
     rw [if_neg c31] at H
     have c31b0 : (a1_1 == 0) = false := beq_eq_false_iff_ne.mpr c31
     have c31b1 : (a1_1 != 0) = true := bne_iff_ne.mpr c31
     replace H := Option.bind_eq_some_iff.mp H
     obtain ⟨⟨t564, t565, t566⟩, A690, H⟩ := H
     replace H : (some (t564, t565, t566)) = some (r1, r2, r3) := H
     have A69 := Aside0.mk A690
     clear A690
     simp only [Option.some.injEq, Prod.mk.injEq] at H
     obtain ⟨rfl, rfl, rfl⟩ := H
     have hnb70 := NB550_549.out
     have hnc70 := NB549_550.out
     have hnb71 := NB550_551.out
     have hnc71 := NB551_550.out
     have hcz72_0 : wc.cell? ⟨gb550, 0, none⟩ = some (.bool a1_0) := cz0 BK550
     have hcz72_1 : wc.cell? ⟨gb550, 1, none⟩ = some (.int .i64 a1_1) := cz1 BK550
     have hcz72_2 : wc.cell? ⟨gb550, 2, none⟩ = some (.int .i64 a1_2) := cz2 BK550
     have hfz72_0 := fz BK550 0
     have hfz72_1 := fz BK550 1
     have hfz72_2 := fz BK550 2
     go_wp2_with (first | ((with_reducible refine gate_callee (f := 84) rfl ?_); refine goesL_ (some 25) rfl rfl Tryd.func84 (by kernel_rfl) rfl #[] rfl mS ?_; (with_reducible refine (congr_all.calls  t564 t565 t566 _ A69.out).mono ?_); rintro e w73 ⟨rfl, hb⟩; refine ⟨_, rfl, ?_⟩; replace BK549 := kB BK549 hb; replace BK550 := kB BK550 hb; replace BK551 := kB BK551 hb; replace HB := kW HB hb; (try clear hb); (try clear hb2); (try clear hk); (try clear hi); have hnb74 := NB551_549.out; have hnc74 := NB549_551.out; have hcz75_0 := cz0 BK551; have hcz75_1 := cz1 BK551; have hcz75_2 := cz2 BK551; have hfz75_0 := fz BK551 0; have hfz75_1 := fz BK551 1; have hfz75_2 := fz BK551 2))
     refine bodyPost_ret (results_cell_row rfl _ _ gb551 23 #[.bool t564, .int .i64 t565, .int .i64 t566] (0, 0) _ rfl (by (with_reducible repeat (first | refine b1 ?_ _ | refine b2 ?_ | refine b3 ?_ _)); refine blk_put (cs := #[.bool t564, .int .i64 t565, .int .i64 0]) ?_ 2 _ rfl; (with_reducible repeat (first | refine b1 ?_ _ | refine b2 ?_ | refine b3 ?_ _)); refine blk_put (cs := #[.bool t564, .int .i64 0, .int .i64 0]) ?_ 1 _ rfl; (with_reducible repeat (first | refine b1 ?_ _ | refine b2 ?_ | refine b3 ?_ _)); refine blk_put (cs := #[.bool false, .int .i64 0, .int .i64 0]) ?_ 0 _ rfl; (with_reducible repeat (first | refine b1 ?_ _ | refine b2 ?_ | refine b3 ?_ _)); exact BK551.out) Tryd.underlying23 rfl (by kernel_rfl)) rfl ?_
     exact ⟨eS, bS HB⟩

end Go.Proofs.YtfmmjekhknaniaaDoor.Pr

namespace Go.Proofs.YtfmmjekhknaniaaDoor.Pr
open Go.RowKit Go.Proofs.YtfmmjekhknaniaaDoor.Given Go.Proofs.YtfmmjekhknaniaaDoorW.PrintWords Go.Proofs.YtfmmjekhknaniaaDoorW.PrintLast Go.Proofs.YtfmmjekhknaniaaDoorW.PrintMore
attribute [local go_sem] max2_int min2_int max_two min_two max_three min_three max_four min_four   -- for this text's walks alone
set_option linter.unusedVariables false
set_option linter.unusedSimpArgs false

def gimbalref31_All.f  : Option (Bool × Int × Int) := some (false, 1, 0)
set_option maxHeartbeats 8000000 in
set_option maxRecDepth 100000 in
theorem gimbalref31_All.calls  (r1 : Bool) (r2 : Int) (r3 : Int) (w : World) (h : gimbalref31_All.f  = some (r1, r2, r3)) :
  Calls Tryd.prog 85 #[] w fun e w' => e = .returned (.agg #[.bool r1, .int .i64 r2, .int .i64 r3]) ∧ Below w.heap.size w w' := by
 have hu23 := Tryd.underlying23
 have HB := Aside0.mk (Below.refl w.heap.size w)
 have H : (some (false, 1, 0)) = some (r1, r2, r3) := h
 clear h
 simp only [Option.some.injEq, Prod.mk.injEq] at H
 obtain ⟨rfl, rfl, rfl⟩ := H
 go_enter Tryd.func85, Tryd.ntmps85
 go_wp2_with (first | ((with_reducible refine gate_dst (N := 0) rfl ?_); refine box_event ?hg (N := 0) ?hd (cs := #[.bool false, .int .i64 0, .int .i64 0]) (t := 23) ?hr ?_; (case hd => rfl); (case hg => rfl); (case hr => first | (go_simp; done) | (go_simp; rfl)); intro gb567 hg w1 hbox hb; have n0_ := kW HB hb; have n1_ := Aside0.mk (hbox); have n2_ := Aside0.mk ((by rw [hg]; exact (below_size (bS HB)) : w.heap.size ≤ gb567)); have n3_ := Aside0.mk ((by rw [hg]; exact (below_size (bS HB)) : w.heap.size ≤ gb567)); clear HB; have HB := n0_; have BK567 := n1_; have GW567 := n2_; have GE567 := n3_; clear n0_ n1_ n2_ n3_; clear hb hbox hg; have hcz2_0 := cz0 BK567; have hcz2_1 := cz1 BK567; have hcz2_2 := cz2 BK567; have hfz2_0 := fz BK567 0; have hfz2_1 := fz BK567 1; have hfz2_2 := fz BK567 2))
 refine bodyPost_ret (results_cell_row rfl _ _ gb567 23 #[.bool false, .int .i64 1, .int .i64 0] (0, 0) _ rfl (by (with_reducible repeat (first | refine b1 ?_ _ | refine b2 ?_ | refine b3 ?_ _)); refine blk_put (cs := #[.bool false, .int .i64 1, .int .i64 0]) ?_ 2 _ rfl; (with_reducible repeat (first | refine b1 ?_ _ | refine b2 ?_ | refine b3 ?_ _)); refine blk_put (cs := #[.bool false, .int .i64 0, .int .i64 0]) ?_ 1 _ rfl; (with_reducible repeat (first | refine b1 ?_ _ | refine b2 ?_ | refine b3 ?_ _)); refine blk_put (cs := #[.bool false, .int .i64 0, .int .i64 0]) ?_ 0 _ rfl; (with_reducible repeat (first | refine b1 ?_ _ | refine b2 ?_ | refine b3 ?_ _)); exact BK567.out) Tryd.underlying23 rfl (by kernel_rfl)) rfl ?_
 exact ⟨eS, bS HB⟩

end Go.Proofs.YtfmmjekhknaniaaDoor.Pr

namespace Go.Proofs.YtfmmjekhknaniaaDoor.Pr
open Go.RowKit Go.Proofs.YtfmmjekhknaniaaDoor.Given Go.Proofs.YtfmmjekhknaniaaDoorW.PrintWords Go.Proofs.YtfmmjekhknaniaaDoorW.PrintLast Go.Proofs.YtfmmjekhknaniaaDoorW.PrintMore
attribute [local go_sem] max2_int min2_int max_two min_two max_three min_three max_four min_four   -- for this text's walks alone
set_option linter.unusedVariables false
set_option linter.unusedSimpArgs false

attribute [local go_sem high] eqA23
mutual
def gimbalref31_Div.j0 : Nat → Bool → Bool → Int → Int → Bool → Int → Int → Option (Bool × Int × Int)
 | 0, _, _, _, _, _, _, _ => none
 | k + 1, x17, x569000, x569001, x569002, x570000, x570001, x570002 => if x17 = true then ((gimbalref31_None.f).bind fun bt572 => (some (bt572.1, bt572.2.1, bt572.2.2))) else (if x570001 = 0 then (if x569001 = 0 then (gimbalref31_Div.j1 k true x569000 x569001 x569002 x570000 x570001 x570002) else (if x570002 = 0 then (none) else (if (Int.tmod x569001 x570002) = 0 then (gimbalref31_Div.j1 k ((Int.tmod x569002 x570002) == 0) x569000 x569001 x569002 x570000 x570001 x570002) else (gimbalref31_Div.j1 k false x569000 x569001 x569002 x570000 x570001 x570002)))) else ((gimbalref31_All.f).bind fun bt575 => (some (bt575.1, bt575.2.1, bt575.2.2))))
def gimbalref31_Div.j1 : Nat → Bool → Bool → Int → Int → Bool → Int → Int → Option (Bool × Int × Int)
 | 0, _, _, _, _, _, _, _ => none
 | k + 1, x41, x569000, x569001, x569002, x570000, x570001, x570002 => if x41 = true then (if x570002 = 0 then (none) else ((gimbalref31_Of.f k (wrap64 (Int.tdiv x569001 x570002)) (wrap64 (Int.tdiv x569002 x570002))).bind fun bt578 => (some (bt578.1, bt578.2.1, bt578.2.2)))) else ((gimbalref31_All.f).bind fun bt581 => (some (bt581.1, bt581.2.1, bt581.2.2)))
end
def gimbalref31_Div.f (k : Nat) (a0_0 : Bool) (a0_1 : Int) (a0_2 : Int) (a1_0 : Bool) (a1_1 : Int) (a1_2 : Int) : Option (Bool × Int × Int) := if a0_0 = true then (gimbalref31_Div.j0 k true a0_0 a0_1 a0_2 a1_0 a1_1 a1_2) else (if a1_0 = true then (gimbalref31_Div.j0 k true a0_0 a0_1 a0_2 a1_0 a1_1 a1_2) else (gimbalref31_Div.j0 k (!a1_0 && (a1_1 == 0 && (a1_2 == 0))) a0_0 a0_1 a0_2 a1_0 a1_1 a1_2))
def gimbalref31_Div.T7 : Bool × List (List Nat × List Nat) := (true, [([], []), ([0], [0]), ([], []), ([2], [2]), ([1, 3], [1, 3]), ([], []), ([5], [5]), ([], []), ([7], [7]), ([6, 8], [6, 8]), ([4, 9], [4, 9]), ([10, 10, 0, 1, 2, 3, 4, 5, 6, 7, 8, 9, 10], [10])])
def gimbalref31_Div.B7 : List Nat := [0, 1, 0, 4, 15, 0, 32, 0, 128, 480, 1023, 2047]
theorem gimbalref31_Div.tab7 : rtab .any (opsOf Tryd.f42 7) = gimbalref31_Div.T7 := by kernel_rfl
theorem gimbalref31_Div.bits7 : waitsOk gimbalref31_Div.T7.2 gimbalref31_Div.B7 = true := by kernel_rfl
set_option maxHeartbeats 8000000 in
set_option maxRecDepth 100000 in
theorem gimbalref31_Div.calls (k : Nat) (a0_0 : Bool) (a0_1 : Int) (a0_2 : Int) (a1_0 : Bool) (a1_1 : Int) (a1_2 : Int) (r1 : Bool) (r2 : Int) (r3 : Int) (w : World) (h : gimbalref31_Div.f k a0_0 a0_1 a0_2 a1_0 a1_1 a1_2 = some (r1, r2, r3)) :
  Calls Tryd.prog 42 #[.agg #[.bool a0_0, .int .i64 a0_1, .int .i64 a0_2], .agg #[.bool a1_0, .int .i64 a1_1, .int .i64 a1_2]] w fun e w' => e = .returned (.agg #[.bool r1, .int .i64 r2, .int .i64 r3]) ∧ Below w.heap.size w w' := by
 have hu23 := Tryd.underlying23
 have HB := Aside0.mk (Below.refl w.heap.size w)
 have H : (if a0_0 = true then (gimbalref31_Div.j0 k true a0_0 a0_1 a0_2 a1_0 a1_1 a1_2) else (if a1_0 = true then (gimbalref31_Div.j0 k true a0_0 a0_1 a0_2 a1_0 a1_1 a1_2) else (gimbalref31_Div.j0 k (!a1_0 && (a1_1 == 0 && (a1_2 == 0))) a0_0 a0_1 a0_2 a1_0 a1_1 a1_2))) = some (r1, r2, r3) := h
 clear h
 have HC3 := Aside0.mk H
 clear H
 go_enter Tryd.func42, Tryd.ntmps42
 go_upto_region 2 with (first | ((with_reducible refine gate_dst (N := 2) rfl ?_); refine box_event ?hg (N := 2) ?hd (cs := #[.bool a0_0, .int .i64 a0_1, .int .i64 a0_2]) (t := 23) ?hr ?_; (case hd => rfl); (case hg => rfl); (case hr => first | (go_simp; done) | (go_simp; rfl)); intro gb568 hg w4 hbox hb; have n0_ := kW HB hb; have n1_ := Aside0.mk (hbox); have n2_ := Aside0.mk ((by rw [hg]; exact (below_size (bS HB)) : w.heap.size ≤ gb568)); have n3_ := Aside0.mk ((by rw [hg]; exact (below_size (bS HB)) : w.heap.size ≤ gb568)); clear HB; have HB := n0_; have BK568 := n1_; have GW568 := n2_; have GE568 := n3_; clear n0_ n1_ n2_ n3_; clear hb hbox hg) | ((with_reducible refine gate_dst (N := 3) rfl ?_); refine box_event ?hg (N := 3) ?hd (cs := #[.bool a1_0, .int .i64 a1_1, .int .i64 a1_2]) (t := 23) ?hr ?_; (case hd => rfl); (case hg => rfl); (case hr => first | (go_simp; done) | (go_simp; rfl)); intro gb569 hg w5 hbox hb; have n0_ := kB BK568 hb; have n1_ := kW HB hb; have n2_ := Aside0.mk (hbox); have n3_ := Aside0.mk ((by rw [hg]; exact (below_size (bS HB)) : w.heap.size ≤ gb569)); have n4_ := Aside0.mk ((by rw [hg]; exact (below_size (bS HB)) : w.heap.size ≤ gb569)); have n5_ := Aside0.mk ((by rw [hg]; exact Nat.ne_of_lt (blk_lt (bkS BK568)) : gb568 ≠ gb569)); have n6_ := Aside0.mk ((by rw [hg]; exact Nat.ne_of_gt (blk_lt (bkS BK568)) : gb569 ≠ gb568)); clear BK568; clear HB; have BK568 := n0_; have HB := n1_; have BK569 := n2_; have GW569 := n3_; have GE569 := n4_; have NB568_569 := n5_; have NB569_568 := n6_; clear n0_ n1_ n2_ n3_ n4_ n5_ n6_; clear hb hbox hg) | ((with_reducible refine gate_dst (N := 4) rfl ?_); refine box_event ?hg (N := 4) ?hd (cs := #[.bool false, .int .i64 0, .int .i64 0]) (t := 23) ?hr ?_; (case hd => rfl); (case hg => rfl); (case hr => first | (go_simp; done) | (go_simp; rfl)); intro gb570 hg w6 hbox hb; have n0_ := kB BK568 hb; have n1_ := kB BK569 hb; have n2_ := kW HB hb; have n3_ := Aside0.mk (hbox); have n4_ := Aside0.mk ((by rw [hg]; exact (below_size (bS HB)) : w.heap.size ≤ gb570)); have n5_ := Aside0.mk ((by rw [hg]; exact (below_size (bS HB)) : w.heap.size ≤ gb570)); have n6_ := Aside0.mk ((by rw [hg]; exact Nat.ne_of_lt (blk_lt (bkS BK568)) : gb568 ≠ gb570)); have n7_ := Aside0.mk ((by rw [hg]; exact Nat.ne_of_gt (blk_lt (bkS BK568)) : gb570 ≠ gb568)); have n8_ := Aside0.mk ((by rw [hg]; exact Nat.ne_of_lt (blk_lt (bkS BK569)) : gb569 ≠ gb570)); have n9_ := Aside0.mk ((by rw [hg]; exact Nat.ne_of_gt (blk_lt (bkS BK569)) : gb570 ≠ gb569)); clear BK568; clear BK569; clear HB; have BK568 := n0_; have BK569 := n1_; have HB := n2_; have BK570 := n3_; have GW570 := n4_; have GE570 := n5_; have NB568_570 := n6_; have NB570_568 := n7_; have NB569_570 := n8_; have NB570_569 := n9_; clear n0_ n1_ n2_ n3_ n4_ n5_ n6_ n7_ n8_ n9_; clear hb hbox hg) | ((with_reducible refine gate_dst (N := 5) rfl ?_); refine box_event ?hg (N := 5) ?hd (cs := #[.bool false, .int .i64 0, .int .i64 0]) (t := 23) ?hr ?_; (case hd => rfl); (case hg => rfl); (case hr => first | (go_simp; done) | (go_simp; rfl)); intro gb571 hg w7 hbox hb; have n0_ := kB BK568 hb; have n1_ := kB BK569 hb; have n2_ := kB BK570 hb; have n3_ := kW HB hb; have n4_ := Aside0.mk (hbox); have n5_ := Aside0.mk ((by rw [hg]; exact (below_size (bS HB)) : w.heap.size ≤ gb571)); have n6_ := Aside0.mk ((by rw [hg]; exact (below_size (bS HB)) : w.heap.size ≤ gb571)); have n7_ := Aside0.mk ((by rw [hg]; exact Nat.ne_of_lt (blk_lt (bkS BK568)) : gb568 ≠ gb571)); have n8_ := Aside0.mk ((by rw [hg]; exact Nat.ne_of_gt (blk_lt (bkS BK568)) : gb571 ≠ gb568)); have n9_ := Aside0.mk ((by rw [hg]; exact Nat.ne_of_lt (blk_lt (bkS BK569)) : gb569 ≠ gb571)); have n10_ := Aside0.mk ((by rw [hg]; exact Nat.ne_of_gt (blk_lt (bkS BK569)) : gb571 ≠ gb569)); have n11_ := Aside0.mk ((by rw [hg]; exact Nat.ne_of_lt (blk_lt (bkS BK570)) : gb570 ≠ gb571)); have n12_ := Aside0.mk ((by rw [hg]; exact Nat.ne_of_gt (blk_lt (bkS BK570)) : gb571 ≠ gb570)); clear BK568; clear BK569; clear BK570; clear HB; have BK568 := n0_; have BK569 := n1_; have BK570 := n2_; have HB := n3_; have BK571 := n4_; have GW571 := n5_; have GE571 := n6_; have NB568_571 := n7_; have NB571_568 := n8_; have NB569_571 := n9_; have NB571_569 := n10_; have NB570_571 := n11_; have NB571_570 := n12_; clear n0_ n1_ n2_ n3_ n4_ n5_ n6_ n7_ n8_ n9_ n10_ n11_ n12_; clear hb hbox hg; have hnb8 := NB571_568.out; have hnc8 := NB568_571.out; have hnb9 := NB571_569.out; have hnc9 := NB569_571.out; have hnb10 := NB571_570.out; have hnc10 := NB570_571.out; have hcz11_0 := cz0 BK571; have hcz11_1 := cz1 BK571; have hcz11_2 := cz2 BK571; have hfz11_0 := fz BK571 0; have hfz11_1 := fz BK571 1; have hfz11_2 := fz BK571 2))
 (try simp only [Act.put, lA, lB, lC])
 go_cut [17] (fun v17 wc => ∃ (kq : Nat) (x17_2 : Bool), v17 = .bool x17_2 ∧ Aside0 (gimbalref31_Div.j0 kq x17_2 a0_0 a0_1 a0_2 a1_0 a1_1 a1_2 = some (r1, r2, r3)) ∧ Aside0 (kq ≤ k) ∧ Aside0 (wc.heap[gb568]? = some (.cells #[.bool a0_0, .int .i64 a0_1, .int .i64 a0_2] 23 (0, 0))) ∧ Aside0 (wc.heap[gb569]? = some (.cells #[.bool a1_0, .int .i64 a1_1, .int .i64 a1_2] 23 (0, 0))) ∧ Aside0 (wc.heap[gb570]? = some (.cells #[.bool false, .int .i64 0, .int .i64 0] 23 (0, 0))) ∧ Aside0 (wc.heap[gb571]? = some (.cells #[.bool false, .int .i64 0, .int .i64 0] 23 (0, 0))) ∧ Aside0 (Below w.heap.size w wc))
 case first =>
  have H := HC3.out
  clear HC3
  by_cases c12 : a0_0 = true
  ·
   subst c12
   have H1 : (gimbalref31_Div.j0 k true true a0_1 a0_2 a1_0 a1_1 a1_2) = some (r1, r2, r3) := by rw [if_pos rfl] at H; exact H
   clear H
   have H := H1
   clear H1
   have H' := Aside0.mk H
   clear H
   have hnb13 := NB568_569.out
   have hnc13 := NB569_568.out
   have hnb14 := NB568_570.out
   have hnc14 := NB570_568.out
   have hnb15 := NB568_571.out
   have hnc15 := NB571_568.out
   have hcz16_0 := cz0 BK568
   have hcz16_1 := cz1 BK568
   have hcz16_2 := cz2 BK568
   have hfz16_0 := fz BK568 0
   have hfz16_1 := fz BK568 1
   have hfz16_2 := fz BK568 2
   go_wp2
   go_meet
   case rel => exact ⟨_, (true), (by first | rfl | (simp; done) | (simp [*]; done)), H', ⟨by first | omega | exact Nat.le_refl _⟩, ⟨bkS BK568⟩, ⟨bkS BK569⟩, ⟨bkS BK570⟩, ⟨by (with_reducible repeat (first | refine b1 ?_ _ | refine b2 ?_ | refine b3 ?_ _)); refine blk_put (cs := #[.bool false, .int .i64 0, .int .i64 0]) ?_ 2 _ rfl; (with_reducible repeat (first | refine b1 ?_ _ | refine b2 ?_ | refine b3 ?_ _)); refine blk_put (cs := #[.bool false, .int .i64 0, .int .i64 0]) ?_ 1 _ rfl; (with_reducible repeat (first | refine b1 ?_ _ | refine b2 ?_ | refine b3 ?_ _)); refine blk_put (cs := #[.bool false, .int .i64 0, .int .i64 0]) ?_ 0 _ rfl; (with_reducible repeat (first | refine b1 ?_ _ | refine b2 ?_ | refine b3 ?_ _)); exact BK571.out⟩, ⟨bS HB⟩⟩
  ·
   replace c12 := Bool.eq_false_iff.mpr c12
   subst c12
   have H1 : (if a1_0 = true then (gimbalref31_Div.j0 k true false a0_1 a0_2 a1_0 a1_1 a1_2) else (gimbalref31_Div.j0 k (!a1_0 && (a1_1 == 0 && (a1_2 == 0))) false a0_1 a0_2 a1_0 a1_1 a1_2)) = some (r1, r2, r3) := by rw [if_neg (show ¬ (false = true) by decide)] at H; exact H
   clear H
   have H := H1
   clear H1
   by_cases c17 : a1_0 = true
   ·
    subst c17
    have H1 : (gimbalref31_Div.j0 k true false a0_1 a0_2 true a1_1 a1_2) = some (r1, r2, r3) := by rw [if_pos rfl] at H; exact H
    clear H
    have H := H1
    clear H1
    have H' := Aside0.mk H
    clear H
    have hnb18 := NB568_569.out
    have hnc18 := NB569_568.out
    have hnb19 := NB568_570.out
    have hnc19 := NB570_568.out
    have hnb20 := NB568_571.out
    have hnc20 := NB571_568.out
    have hcz21_0 := cz0 BK568
    have hcz21_1 := cz1 BK568
    have hcz21_2 := cz2 BK568
    have hfz21_0 := fz BK568 0
    have hfz21_1 := fz BK568 1
    have hfz21_2 := fz BK568 2
    have hnb22 := NB569_570.out
    have hnc22 := NB570_569.out
    have hnb23 := NB569_571.out
    have hnc23 := NB571_569.out
    have hcz24_0 := cz0 BK569
    have hcz24_1 := cz1 BK569
    have hcz24_2 := cz2 BK569
    have hfz24_0 := fz BK569 0
    have hfz24_1 := fz BK569 1
    have hfz24_2 := fz BK569 2
    go_wp2
    go_meet
    case rel => exact ⟨_, (true), (by first | rfl | (simp; done) | (simp [*]; done)), H', ⟨by first | omega | exact Nat.le_refl _⟩, ⟨bkS BK568⟩, ⟨bkS BK569⟩, ⟨bkS BK570⟩, ⟨by (with_reducible repeat (first | refine b1 ?_ _ | refine b2 ?_ | refine b3 ?_ _)); refine blk_put (cs := #[.bool false, .int .i64 0, .int .i64 0]) ?_ 2 _ rfl; (with_reducible repeat (first | refine b1 ?_ _ | refine b2 ?_ | refine b3 ?_ _)); refine blk_put (cs := #[.bool false, .int .i64 0, .int .i64 0]) ?_ 1 _ rfl; (with_reducible repeat (first | refine b1 ?_ _ | refine b2 ?_ | refine b3 ?_ _)); refine blk_put (cs := #[.bool false, .int .i64 0, .int .i64 0]) ?_ 0 _ rfl; (with_reducible repeat (first | refine b1 ?_ _ | refine b2 ?_ | refine b3 ?_ _)); exact BK571.out⟩, ⟨bS HB⟩⟩
   ·
    replace c17 := Bool.eq_false_iff.mpr c17
    subst c17
    have H1 : (gimbalref31_Div.j0 k (!false && (a1_1 == 0 && (a1_2 == 0))) false a0_1 a0_2 false a1_1 a1_2) = some (r1, r2, r3) := by rw [if_neg (show ¬ (false = true) by decide)] at H; exact H
    clear H
    have H := H1
    clear H1
    have H' := Aside0.mk H
    clear H
    have hnb25 := NB568_569.out
    have hnc25 := NB569_568.out
    have hnb26 := NB568_570.out
    have hnc26 := NB570_568.out
    have hnb27 := NB568_571.out
    have hnc27 := NB571_568.out
    have hcz28_0 := cz0 BK568
    have hcz28_1 := cz1 BK568
    have hcz28_2 := cz2 BK568
    have hfz28_0 := fz BK568 0
    have hfz28_1 := fz BK568 1
    have hfz28_2 := fz BK568 2
    have hnb29 := NB569_570.out
    have hnc29 := NB570_569.out
    have hnb30 := NB569_571.out
    have hnc30 := NB571_569.out
    have hcz31_0 := cz0 BK569
    have hcz31_1 := cz1 BK569
    have hcz31_2 := cz2 BK569
    have hfz31_0 := fz BK569 0
    have hfz31_1 := fz BK569 1
    have hfz31_2 := fz BK569 2
    have hnb32 := NB571_570.out
    have hnc32 := NB570_571.out
    have hcz33_0 := cz0 BK571
    have hcz33_1 := cz1 BK571
    have hcz33_2 := cz2 BK571
    have hfz33_0 := fz BK571 0
    have hfz33_1 := fz BK571 1
    have hfz33_2 := fz BK571 2
    go_wp2
    go_meet
    case rel => exact ⟨_, ((!false && (a1_1 == 0 && (a1_2 == 0)))), (by first | rfl | (simp; done) | (simp [*]; done)), H', ⟨by first | omega | exact Nat.le_refl _⟩, ⟨bkS BK568⟩, ⟨bkS BK569⟩, ⟨bkS BK570⟩, ⟨by (with_reducible repeat (first | refine b1 ?_ _ | refine b2 ?_ | refine b3 ?_ _)); refine blk_put (cs := #[.bool false, .int .i64 0, .int .i64 0]) ?_ 2 _ rfl; (with_reducible repeat (first | refine b1 ?_ _ | refine b2 ?_ | refine b3 ?_ _)); refine blk_put (cs := #[.bool false, .int .i64 0, .int .i64 0]) ?_ 1 _ rfl; (with_reducible repeat (first | refine b1 ?_ _ | refine b2 ?_ | refine b3 ?_ _)); refine blk_put (cs := #[.bool false, .int .i64 0, .int .i64 0]) ?_ 0 _ rfl; (with_reducible repeat (first | refine b1 ?_ _ | refine b2 ?_ | refine b3 ?_ _)); exact BK571.out⟩, ⟨bS HB⟩⟩
 case rest =>
  clear HC3
  try clear c1
  try clear c2
  try clear p2
  try clear c3
  try clear c4
  try clear c8
  try clear c9
  try clear c10
  try clear c12
  try clear c13
  try clear c14
  try clear c15
  try clear c17
  try clear c18
  try clear c19
  try clear c20
  try clear c22
  try clear c23
  try clear c25
  try clear c26
  try clear c27
  try clear c29
  try clear c30
  try clear c32
  try clear hcz11_0
  try clear hcz11_1
  try clear hcz11_2
  try clear hcz16_0
  try clear hcz16_1
  try clear hcz16_2
  try clear hcz21_0
  try clear hcz21_1
  try clear hcz21_2
  try clear hcz24_0
  try clear hcz24_1
  try clear hcz24_2
  try clear hcz28_0
  try clear hcz28_1
  try clear hcz28_2
  try clear hcz31_0
  try clear hcz31_1
  try clear hcz31_2
  try clear hcz33_0
  try clear hcz33_1
  try clear hcz33_2
  try clear hfz11_0
  try clear hfz11_1
  try clear hfz11_2
  try clear hfz16_0
  try clear hfz16_1
  try clear hfz16_2
  try clear hfz21_0
  try clear hfz21_1
  try clear hfz21_2
  try clear hfz24_0
  try clear hfz24_1
  try clear hfz24_2
  try clear hfz28_0
  try clear hfz28_1
  try clear hfz28_2
  try clear hfz31_0
  try clear hfz31_1
  try clear hfz31_2
  try clear hfz33_0
  try clear hfz33_1
  try clear hfz33_2
  obtain ⟨kq, x17_2, rfl, HA, HJ2, BK568, BK569, BK570, BK571, HB⟩ := hcut
  cases kq with
  | zero => exact absurd HA.out (by simp [gimbalref31_Div.j0])
  | succ kj2 =>
   have H := HA.out
   clear HA
   simp only [gimbalref31_Div.j0] at H
   by_cases c34 : x17_2 = true
   ·
    subst c34
    have H1 : ((gimbalref31_None.f).bind fun bt572 => (some (bt572.1, bt572.2.1, bt572.2.2))) = some (r1, r2, r3) := by rw [if_pos rfl] at H; exact H
    clear H
    have H := H1
    clear H1
    replace H := Option.bind_eq_some_iff.mp H
    obtain ⟨⟨t572, t573, t574⟩, A350, H⟩ := H
    replace H : (some (t572, t573, t574)) = some (r1, r2, r3) := H
    have A35 := Aside0.mk A350
    clear A350
    simp only [Option.some.injEq, Prod.mk.injEq] at H
    obtain ⟨rfl, rfl, rfl⟩ := H
    go_wp2_with (first | ((with_reducible refine gate_callee (f := 69) rfl ?_); refine goesL_ (some 18) rfl rfl Tryd.func69 (by kernel_rfl) rfl #[] rfl mS ?_; (with_reducible refine (gimbalref31_None.calls  t572 t573 t574 _ A35.out).mono ?_); rintro e w36 ⟨rfl, hb⟩; refine ⟨_, rfl, ?_⟩; replace BK568 := kB BK568 hb; replace BK569 := kB BK569 hb; replace BK570 := kB BK570 hb; replace BK571 := kB BK571 hb; replace HB := kW HB hb; (try clear hb); (try clear hb2); (try clear hk); (try clear hi); have hnb37 := NB570_568.out; have hnc37 := NB568_570.out; have hnb38 := NB570_569.out; have hnc38 := NB569_570.out; have hnb39 := NB570_571.out; have hnc39 := NB571_570.out; have hcz40_0 := cz0 BK570; have hcz40_1 := cz1 BK570; have hcz40_2 := cz2 BK570; have hfz40_0 := fz BK570 0; have hfz40_1 := fz BK570 1; have hfz40_2 := fz BK570 2))
    refine bodyPost_ret (results_cell_row rfl _ _ gb570 23 #[.bool t572, .int .i64 t573, .int .i64 t574] (0, 0) _ rfl (by (with_reducible repeat (first | refine b1 ?_ _ | refine b2 ?_ | refine b3 ?_ _)); refine blk_put (cs := #[.bool t572, .int .i64 t573, .int .i64 0]) ?_ 2 _ rfl; (with_reducible repeat (first | refine b1 ?_ _ | refine b2 ?_ | refine b3 ?_ _)); refine blk_put (cs := #[.bool t572, .int .i64 0, .int .i64 0]) ?_ 1 _ rfl; (with_reducible repeat (first | refine b1 ?_ _ | refine b2 ?_ | refine b3 ?_ _)); refine blk_put (cs := #[.bool false, .int .i64 0, .int .i64 0]) ?_ 0 _ rfl; (with_reducible repeat (first | refine b1 ?_ _ | refine b2 ?_ | refine b3 ?_ _)); exact BK570.out) Tryd.underlying23 rfl (by kernel_rfl)) rfl ?_
    exact ⟨eS, bS HB⟩
   ·
    replace c34 := Bool.eq_false_iff.mpr c34
    subst c34
    have H1 : (if a1_1 = 0 then (if a0_1 = 0 then (gimbalref31_Div.j1 kj2 true a0_0 a0_1 a0_2 a1_0 a1_1 a1_2) else (if a1_2 = 0 then (none) else (if (Int.tmod a0_1 a1_2) = 0 then (gimbalref31_Div.j1 kj2 ((Int.tmod a0_2 a1_2) == 0) a0_0 a0_1 a0_2 a1_0 a1_1 a1_2) else (gimbalref31_Div.j1 kj2 false a0_0 a0_1 a0_2 a1_0 a1_1 a1_2)))) else ((gimbalref31_All.f).bind fun bt575 => (some (bt575.1, bt575.2.1, bt575.2.2)))) = some (r1, r2, r3) := by rw [if_neg (show ¬ (false = true) by decide)] at H; exact H
    clear H
    have H := H1
    clear H1
    by_cases c41 : a1_1 = 0
    ·
     rw [if_pos c41] at H
     have c41b0 : (a1_1 == 0) = true := beq_iff_eq.mpr c41
     have c41b1 : (a1_1 != 0) = false := bne_eq_false_iff_eq.mpr c41
     clear c41
     have HC42 := Aside0.mk H
     clear H
     have hnb43 := NB569_568.out
     have hnc43 := NB568_569.out
     have hnb44 := NB569_570.out
     have hnc44 := NB570_569.out
     have hnb45 := NB569_571.out
     have hnc45 := NB571_569.out
     have hcz46_0 : wc.cell? ⟨gb569, 0, none⟩ = some (.bool a1_0) := cz0 BK569
     have hcz46_1 : wc.cell? ⟨gb569, 1, none⟩ = some (.int .i64 a1_1) := cz1 BK569
     have hcz46_2 : wc.cell? ⟨gb569, 2, none⟩ = some (.int .i64 a1_2) := cz2 BK569
     have hfz46_0 := fz BK569 0
     have hfz46_1 := fz BK569 1
     have hfz46_2 := fz BK569 2
     go_upto_region 6 with (fail)
     go_cut [41] (fun v41 wc => ∃ (kq : Nat) (x41_41 : Bool), v41 = .bool x41_41 ∧ Aside0 (gimbalref31_Div.j1 kq x41_41 a0_0 a0_1 a0_2 a1_0 a1_1 a1_2 = some (r1, r2, r3)) ∧ Aside0 (kq ≤ kj2) ∧ Aside0 (wc.heap[gb568]? = some (.cells #[.bool a0_0, .int .i64 a0_1, .int .i64 a0_2] 23 (0, 0))) ∧ Aside0 (wc.heap[gb569]? = some (.cells #[.bool a1_0, .int .i64 a1_1, .int .i64 a1_2] 23 (0, 0))) ∧ Aside0 (wc.heap[gb570]? = some (.cells #[.bool false, .int .i64 0, .int .i64 0] 23 (0, 0))) ∧ Aside0 (wc.heap[gb571]? = some (.cells #[.bool false, .int .i64 0, .int .i64 0] 23 (0, 0))) ∧ Aside0 (Below w.heap.size w wc))
     case first =>
      have H := HC42.out
      clear HC42
      by_cases c47 : a0_1 = 0
      ·
       rw [if_pos c47] at H
       have c47b0 : (a0_1 == 0) = true := beq_iff_eq.mpr c47
       have c47b1 : (a0_1 != 0) = false := bne_eq_false_iff_eq.mpr c47
       clear c47
       (first | rw [c47b0] | (simp only [i64_w, i32_w]; rw [c47b0]) | skip)
       have H' := Aside0.mk H
       clear H
       have hnb48 := NB568_569.out
       have hnc48 := NB569_568.out
       have hnb49 := NB568_570.out
       have hnc49 := NB570_568.out
       have hnb50 := NB568_571.out
       have hnc50 := NB571_568.out
       have hcz51_0 : wc.cell? ⟨gb568, 0, none⟩ = some (.bool a0_0) := cz0 BK568
       have hcz51_1 : wc.cell? ⟨gb568, 1, none⟩ = some (.int .i64 a0_1) := cz1 BK568
       have hcz51_2 : wc.cell? ⟨gb568, 2, none⟩ = some (.int .i64 a0_2) := cz2 BK568
       have hfz51_0 := fz BK568 0
       have hfz51_1 := fz BK568 1
       have hfz51_2 := fz BK568 2
       go_wp2
       go_meet
       case rel => exact ⟨_, (true), (by first | rfl | (simp; done) | (simp [*]; done)), H', ⟨by have := HJ2.out; first | omega | exact Nat.le_refl _⟩, ⟨bkS BK568⟩, ⟨bkS BK569⟩, ⟨bkS BK570⟩, ⟨bkS BK571⟩, ⟨bS HB⟩⟩
      ·
       rw [if_neg c47] at H
       have c47b0 : (a0_1 == 0) = false := beq_eq_false_iff_ne.mpr c47
       have c47b1 : (a0_1 != 0) = true := bne_iff_ne.mpr c47
       (first | rw [c47b0] | (simp only [i64_w, i32_w]; rw [c47b0]) | skip)
       by_cases c52 : a1_2 = 0
       ·
        rw [if_pos c52] at H
        exact absurd H (by simp)
       ·
        rw [if_neg c52] at H
        have c52b0 : (a1_2 == 0) = false := beq_eq_false_iff_ne.mpr c52
        have c52b1 : (a1_2 != 0) = true := bne_iff_ne.mpr c52
        by_cases c53 : (Int.tmod a0_1 a1_2) = 0
        ·
         rw [if_pos c53] at H
         have c53b0 : ((Int.tmod a0_1 a1_2) == 0) = true := beq_iff_eq.mpr c53
         have c53b1 : ((Int.tmod a0_1 a1_2) != 0) = false := bne_eq_false_iff_eq.mpr c53
         clear c53
         have H' := Aside0.mk H
         clear H
         have hnb54 := NB568_569.out
         have hnc54 := NB569_568.out
         have hnb55 := NB568_570.out
         have hnc55 := NB570_568.out
         have hnb56 := NB568_571.out
         have hnc56 := NB571_568.out
         have hcz57_0 : wc.cell? ⟨gb568, 0, none⟩ = some (.bool a0_0) := cz0 BK568
         have hcz57_1 : wc.cell? ⟨gb568, 1, none⟩ = some (.int .i64 a0_1) := cz1 BK568
         have hcz57_2 : wc.cell? ⟨gb568, 2, none⟩ = some (.int .i64 a0_2) := cz2 BK568
         have hfz57_0 := fz BK568 0
         have hfz57_1 := fz BK568 1
         have hfz57_2 := fz BK568 2
         have hnb58 := NB569_570.out
         have hnc58 := NB570_569.out
         have hnb59 := NB569_571.out
         have hnc59 := NB571_569.out
         have hcz60_0 : wc.cell? ⟨gb569, 0, none⟩ = some (.bool a1_0) := cz0 BK569
         have hcz60_1 : wc.cell? ⟨gb569, 1, none⟩ = some (.int .i64 a1_1) := cz1 BK569
         have hcz60_2 : wc.cell? ⟨gb569, 2, none⟩ = some (.int .i64 a1_2) := cz2 BK569
         have hfz60_0 := fz BK569 0
         have hfz60_1 := fz BK569 1
         have hfz60_2 := fz BK569 2
         go_wp2
         go_meet
         case rel => exact ⟨_, (((Int.tmod a0_2 a1_2) == 0)), (by first | rfl | (simp; done) | (simp [*]; done)), H', ⟨by have := HJ2.out; first | omega | exact Nat.le_refl _⟩, ⟨bkS BK568⟩, ⟨bkS BK569⟩, ⟨bkS BK570⟩, ⟨bkS BK571⟩, ⟨bS HB⟩⟩
        ·
         rw [if_neg c53] at H
         have c53b0 : ((Int.tmod a0_1 a1_2) == 0) = false := beq_eq_false_iff_ne.mpr c53
         have c53b1 : ((Int.tmod a0_1 a1_2) != 0) = true := bne_iff_ne.mpr c53
         have H' := Aside0.mk H
         clear H
         have hnb61 := NB568_569.out
         have hnc61 := NB569_568.out
         have hnb62 := NB568_570.out
         have hnc62 := NB570_568.out
         have hnb63 := NB568_571.out
         have hnc63 := NB571_568.out
         have hcz64_0 : wc.cell? ⟨gb568, 0, none⟩ = some (.bool a0_0) := cz0 BK568
         have hcz64_1 : wc.cell? ⟨gb568, 1, none⟩ = some (.int .i64 a0_1) := cz1 BK568
         have hcz64_2 : wc.cell? ⟨gb568, 2, none⟩ = some (.int .i64 a0_2) := cz2 BK568
         have hfz64_0 := fz BK568 0
         have hfz64_1 := fz BK568 1
         have hfz64_2 := fz BK568 2
         have hnb65 := NB569_570.out
         have hnc65 := NB570_569.out
         have hnb66 := NB569_571.out
         have hnc66 := NB571_569.out
         have hcz67_0 : wc.cell? ⟨gb569, 0, none⟩ = some (.bool a1_0) := cz0 BK569
         have hcz67_1 : wc.cell? ⟨gb569, 1, none⟩ = some (.int .i64 a1_1) := cz1 BK569
         have hcz67_2 : wc.cell? ⟨gb569, 2, none⟩ = some (.int .i64 a1_2) := cz2 BK569
         have hfz67_0 := fz BK569 0
         have hfz67_1 := fz BK569 1
         have hfz67_2 := fz BK569 2
         go_wp2
         go_meet
         case rel => exact ⟨_, (false), (by first | rfl | (simp; done) | (simp [*]; done)), H', ⟨by have := HJ2.out; first | omega | exact Nat.le_refl _⟩, ⟨bkS BK568⟩, ⟨bkS BK569⟩, ⟨bkS BK570⟩, ⟨bkS BK571⟩, ⟨bS HB⟩⟩
     case rest =>
      clear HC42
      try clear c1
      try clear c2
      try clear p2
      try clear c3
      try clear c4
      try clear c5
      try clear c6
      try clear c8
      try clear c9
      try clear c10
      try clear c12
      try clear c13
      try clear c14
      try clear c15
      try clear c17
      try clear c18
      try clear c19
      try clear c20
      try clear c22
      try clear c23
      try clear c25
      try clear c26
      try clear c27
      try clear c29
      try clear c30
      try clear c32
      try clear c34
      try clear c37
      try clear c38
      try clear c39
      try clear c41
      try clear c41b0
      try clear c41b1
      try clear c42
      try clear c43
      try clear c44
      try clear c45
      try clear c47
      try clear c47b0
      try clear c47b1
      try clear c48
      try clear c49
      try clear c50
      try clear c52
      try clear c52b0
      try clear c52b1
      try clear c53
      try clear c53b0
      try clear c53b1
      try clear c54
      try clear c55
      try clear c56
      try clear c58
      try clear c59
      try clear c61
      try clear c62
      try clear c63
      try clear c65
      try clear c66
      try clear hcz11_0
      try clear hcz11_1
      try clear hcz11_2
      try clear hcz16_0
      try clear hcz16_1
      try clear hcz16_2
      try clear hcz21_0
      try clear hcz21_1
      try clear hcz21_2
      try clear hcz24_0
      try clear hcz24_1
      try clear hcz24_2
      try clear hcz28_0
      try clear hcz28_1
      try clear hcz28_2
      try clear hcz31_0
      try clear hcz31_1
      try clear hcz31_2
      try clear hcz33_0
      try clear hcz33_1
      try clear hcz33_2
      try clear hcz40_0
      try clear hcz40_1
      try clear hcz40_2
      try clear hcz46_0
      try clear hcz46_1
      try clear hcz46_2
      try clear hcz51_0
      try clear hcz51_1
      try clear hcz51_2
      try clear hcz57_0
      try clear hcz57_1
      try clear hcz57_2
      try clear hcz60_0
      try clear hcz60_1
      try clear hcz60_2
      try clear hcz64_0
      try clear hcz64_1
      try clear hcz64_2
      try clear hcz67_0
      try clear hcz67_1
      try clear hcz67_2
      try clear hfz11_0
      try clear hfz11_1
      try clear hfz11_2
      try clear hfz16_0
      try clear hfz16_1
      try clear hfz16_2
      try clear hfz21_0
      try clear hfz21_1
      try clear hfz21_2
      try clear hfz24_0
      try clear hfz24_1
      try clear hfz24_2
      try clear hfz28_0
      try clear hfz28_1
      try clear hfz28_2
      try clear hfz31_0
      try clear hfz31_1
      try clear hfz31_2
      try clear hfz33_0
      try clear hfz33_1
      try clear hfz33_2
      try clear hfz40_0
      try clear hfz40_1
      try clear hfz40_2
      try clear hfz46_0
      try clear hfz46_1
      try clear hfz46_2
      try clear hfz51_0
      try clear hfz51_1
      try clear hfz51_2
      try clear hfz57_0
      try clear hfz57_1
      try clear hfz57_2
      try clear hfz60_0
      try clear hfz60_1
      try clear hfz60_2
      try clear hfz64_0
      try clear hfz64_1
      try clear hfz64_2
      try clear hfz67_0
      try clear hfz67_1
      try clear hfz67_2
      try clear p2
      obtain ⟨kq, x41_41, rfl, HA, HJ41, BK568, BK569, BK570, BK571, HB⟩ := hcut
      cases kq with
      | zero => exact absurd HA.out (by simp [gimbalref31_Div.j1])
      | succ kj41 =>
       have H := HA.out
       clear HA
       simp only [gimbalref31_Div.j1] at H
       by_cases c68 : x41_41 = true
       ·
        subst c68
        have H1 : (if a1_2 = 0 then (none) else ((gimbalref31_Of.f kj41 (wrap64 (Int.tdiv a0_1 a1_2)) (wrap64 (Int.tdiv a0_2 a1_2))).bind fun bt578 => (some (bt578.1, bt578.2.1, bt578.2.2)))) = some (r1, r2, r3) := by rw [if_pos rfl] at H; exact H
        clear H
        have H := H1
        clear H1
        by_cases c69 : a1_2 = 0
        ·
         rw [if_pos c69] at H
         exact absurd H (by simp)
        ·
         rw [if_neg c69] at H
         have c69b0 : (a1_2 == 0) = false := beq_eq_false_iff_ne.mpr c69
         have c69b1 : (a1_2 != 0) = true := bne_iff_ne.mpr c69
         replace H := Option.bind_eq_some_iff.mp H
         obtain ⟨⟨t578, t579, t580⟩, A700, H⟩ := H
         replace H : (some (t578, t579, t580)) = some (r1, r2, r3) := H
         have A70 := Aside0.mk A700
         clear A700
         simp only [Option.some.injEq, Prod.mk.injEq] at H
         obtain ⟨rfl, rfl, rfl⟩ := H
         try go_wp2
         replace BK568 := Aside0.mk (blk_drew BK568.out)
         replace BK569 := Aside0.mk (blk_drew BK569.out)
         replace BK570 := Aside0.mk (blk_drew BK570.out)
         replace BK571 := Aside0.mk (blk_drew BK571.out)
         replace HB := Aside0.mk (below_drew1 HB.out)
         refine start_ (n := 12) (S := fun w' => w'.cell? ⟨gb568, 0, none⟩ = some (.bool a0_0) ∧ w'.cell? ⟨gb568, 1, none⟩ = some (.int .i64 a0_1) ∧ w'.cell? ⟨gb568, 2, none⟩ = some (.int .i64 a0_2) ∧ w'.cell? ⟨gb569, 0, none⟩ = some (.bool a1_0) ∧ w'.cell? ⟨gb569, 1, none⟩ = some (.int .i64 a1_1) ∧ w'.cell? ⟨gb569, 2, none⟩ = some (.int .i64 a1_2)) (ds := []) #[false, false, false, false, false, false, false, false, false, false, false, false] (by kernel_rfl) rfl rfl ⟨cz0 BK568, cz1 BK568, cz2 BK568, cz0 BK569, cz1 BK569, cz2 BK569⟩ (fun hHeld => ?_); refine with_tabW gimbalref31_Div.tab7 gimbalref31_Div.bits7 (fun HT_ HW_ => ?_)
         generalize wc.drew = w71 at BK568 BK569 BK570 BK571 HB hHeld ⊢
         refine pure_ (i := 0) (N := some 42) (v := ?_) (a' := ?_) #[true, false, false, false, false, false, false, false, false, false, false, false] rfl rfl (any_of HT_.out (by kernel_rfl)) (fun _ _ _ h => h) (Or.inl ⟨by rfl, ?_⟩) ?_ ?_
         rotate_left
         ·
          intro w'
          go_simp
          with_reducible rfl
         rotate_left
         ·
          simp only [Act.put, lA, lB, lC, i64_w, i32_w]
          rfl
         refine pure_ (i := 2) (N := some 44) (v := ?_) (a' := ?_) #[true, false, true, false, false, false, false, false, false, false, false, false] rfl rfl (any_of HT_.out (by kernel_rfl)) (fun _ _ _ h => h) (Or.inl ⟨by rfl, ?_⟩) ?_ ?_
         rotate_left
         ·
          intro w'
          go_simp
          with_reducible rfl
         rotate_left
         ·
          simp only [Act.put, lA, lB, lC, i64_w, i32_w]
          rfl
         refine pure_ (i := 5) (N := some 47) (v := ?_) (a' := ?_) #[true, false, true, false, false, true, false, false, false, false, false, false] rfl rfl (any_of HT_.out (by kernel_rfl)) (fun _ _ _ h => h) (Or.inl ⟨by rfl, ?_⟩) ?_ ?_
         rotate_left
         ·
          intro w'
          go_simp
          with_reducible rfl
         rotate_left
         ·
          simp only [Act.put, lA, lB, lC, i64_w, i32_w]
          rfl
         refine pure_ (i := 7) (N := some 49) (v := ?_) (a' := ?_) #[true, false, true, false, false, true, false, true, false, false, false, false] rfl rfl (any_of HT_.out (by kernel_rfl)) (fun _ _ _ h => h) (Or.inl ⟨by rfl, ?_⟩) ?_ ?_
         rotate_left
         ·
          intro w'
          go_simp
          with_reducible rfl
         rotate_left
         ·
          simp only [Act.put, lA, lB, lC, i64_w, i32_w]
          rfl
         refine take_ (i := 1) (N := some 43) (v := ?_) (a' := ?_) #[true, true, true, false, false, true, false, true, false, false, false, false] rfl rfl (take_ofW HT_.out HW_.out (by kernel_rfl)) (fun _ _ _ h => h) (Or.inl ⟨by rfl, ?_⟩) hHeld ?_ ?_
         rotate_left
         ·
          rintro w' ⟨s0, s1, s2, s3, s4, s5⟩
          go_simp
          with_reducible rfl
         rotate_left
         ·
          simp only [Act.put, lA, lB, lC, i64_w, i32_w]
          rfl
         refine take_ (i := 3) (N := some 45) (v := ?_) (a' := ?_) #[true, true, true, true, false, true, false, true, false, false, false, false] rfl rfl (take_ofW HT_.out HW_.out (by kernel_rfl)) (fun _ _ _ h => h) (Or.inl ⟨by rfl, ?_⟩) hHeld ?_ ?_
         rotate_left
         ·
          rintro w' ⟨s0, s1, s2, s3, s4, s5⟩
          go_simp
          with_reducible rfl
         rotate_left
         ·
          simp only [Act.put, lA, lB, lC, i64_w, i32_w]
          rfl
         refine pure_ (i := 4) (N := some 46) (v := ?_) (a' := ?_) #[true, true, true, true, true, true, false, true, false, false, false, false] rfl rfl (any_of HT_.out (by kernel_rfl)) (fun _ _ _ h => h) (Or.inl ⟨by rfl, ?_⟩) ?_ ?_
         rotate_left
         ·
          intro w'
          go_simp
          with_reducible rfl
         rotate_left
         ·
          simp only [Act.put, lA, lB, lC, i64_w, i32_w]
          rfl
         refine take_ (i := 6) (N := some 48) (v := ?_) (a' := ?_) #[true, true, true, true, true, true, true, true, false, false, false, false] rfl rfl (take_ofW HT_.out HW_.out (by kernel_rfl)) (fun _ _ _ h => h) (Or.inl ⟨by rfl, ?_⟩) hHeld ?_ ?_
         rotate_left
         ·
          rintro w' ⟨s0, s1, s2, s3, s4, s5⟩
          go_simp
          with_reducible rfl
         rotate_left
         ·
          simp only [Act.put, lA, lB, lC, i64_w, i32_w]
          rfl
         refine take_ (i := 8) (N := some 50) (v := ?_) (a' := ?_) #[true, true, true, true, true, true, true, true, true, false, false, false] rfl rfl (take_ofW HT_.out HW_.out (by kernel_rfl)) (fun _ _ _ h => h) (Or.inl ⟨by rfl, ?_⟩) hHeld ?_ ?_
         rotate_left
         ·
          rintro w' ⟨s0, s1, s2, s3, s4, s5⟩
          go_simp
          with_reducible rfl
         rotate_left
         ·
          simp only [Act.put, lA, lB, lC, i64_w, i32_w]
          rfl
         refine pure_ (i := 9) (N := some 51) (v := ?_) (a' := ?_) #[true, true, true, true, true, true, true, true, true, true, false, false] rfl rfl (any_of HT_.out (by kernel_rfl)) (fun _ _ _ h => h) (Or.inl ⟨by rfl, ?_⟩) ?_ ?_
         rotate_left
         ·
          intro w'
          go_simp
          with_reducible rfl
         rotate_left
         ·
          simp only [Act.put, lA, lB, lC, i64_w, i32_w]
          rfl
         refine one_ (i := 10) (N := some 52) #[true, true, true, true, true, true, true, true, true, true, true, false] rfl rfl (one_of HT_.out (by kernel_rfl)) (by decide) (fun K hK => ?_)
         refine goes_ Tryd.func11 (by kernel_rfl) rfl #[.int .i64 (wrap64 (Int.tdiv a0_1 a1_2)), .int .i64 (wrap64 (Int.tdiv a0_2 a1_2))] (by rfl) rfl rfl mS ?_
         with_reducible refine (gimbalref31_Of.calls kj41 (wrap64 (Int.tdiv a0_1 a1_2)) (wrap64 (Int.tdiv a0_2 a1_2)) t578 t579 t580 _ A70.out).mono ?_
         rintro e w72 ⟨rfl, hb⟩
         refine ⟨_, rfl, ?_⟩
         replace BK568 := kB BK568 hb
         replace BK569 := kB BK569 hb
         replace BK570 := kB BK570 hb
         replace BK571 := kB BK571 hb
         replace HB := kW HB hb
         (try clear hb)
         (try clear hb2)
         (try clear hk)
         (try clear hi)
         refine hK.out _ _ ⟨cz0 BK568, cz1 BK568, cz2 BK568, cz0 BK569, cz1 BK569, cz2 BK569⟩ (fun hHeld => ?_)
         clear hK K
         refine norm_ (a' := ?_) ?_ ?_
         rotate_left
         ·
          show Act.put _ (some 52) _ = _
          simp only [Act.put, lA, lB, lC, i64_w, i32_w]
          rfl
         refine one_ (i := 11) (N := none) #[true, true, true, true, true, true, true, true, true, true, true, true] rfl rfl (one_of HT_.out (by kernel_rfl)) (by decide) (fun K hK => ?_)
         have hs73 : w72.cell? ⟨gb570, 0, none⟩ = some (.bool false) := cz0 BK570
         have hfs73 := fz BK570 0
         have hns73_0 := NB568_570.out
         have hns73_1 := NB569_570.out
         have hns73_3 := NB571_570.out
         have hms73_0 := NB570_568.out
         have hms73_1 := NB570_569.out
         have hms73_3 := NB570_571.out
         have hs74 : w72.cell? ⟨gb570, 1, none⟩ = some (.int .i64 0) := cz1 BK570
         have hfs74 := fz BK570 1
         have hns74_0 := NB568_570.out
         have hns74_1 := NB569_570.out
         have hns74_3 := NB571_570.out
         have hms74_0 := NB570_568.out
         have hms74_1 := NB570_569.out
         have hms74_3 := NB570_571.out
         have hs75 : w72.cell? ⟨gb570, 2, none⟩ = some (.int .i64 0) := cz2 BK570
         have hfs75 := fz BK570 2
         have hns75_0 := NB568_570.out
         have hns75_1 := NB569_570.out
         have hns75_3 := NB571_570.out
         have hms75_0 := NB570_568.out
         have hms75_1 := NB570_569.out
         have hms75_3 := NB570_571.out
         refine skip_ (w1 := ?_) (by rfl) rfl ?_ ?_
         rotate_left
         ·
          go_simp
          rfl
         refine hK.out _ _ ⟨((cell_far (p := ⟨gb570, _, none⟩) NB568_570.out _).trans (((cell_far (p := ⟨gb570, _, none⟩) NB568_570.out _).trans (((cell_far (p := ⟨gb570, _, none⟩) NB568_570.out _).trans (hHeld.1)))))), ((cell_far (p := ⟨gb570, _, none⟩) NB568_570.out _).trans (((cell_far (p := ⟨gb570, _, none⟩) NB568_570.out _).trans (((cell_far (p := ⟨gb570, _, none⟩) NB568_570.out _).trans (hHeld.2.1)))))), ((cell_far (p := ⟨gb570, _, none⟩) NB568_570.out _).trans (((cell_far (p := ⟨gb570, _, none⟩) NB568_570.out _).trans (((cell_far (p := ⟨gb570, _, none⟩) NB568_570.out _).trans (hHeld.2.2.1)))))), ((cell_far (p := ⟨gb570, _, none⟩) NB569_570.out _).trans (((cell_far (p := ⟨gb570, _, none⟩) NB569_570.out _).trans (((cell_far (p := ⟨gb570, _, none⟩) NB569_570.out _).trans (hHeld.2.2.2.1)))))), ((cell_far (p := ⟨gb570, _, none⟩) NB569_570.out _).trans (((cell_far (p := ⟨gb570, _, none⟩) NB569_570.out _).trans (((cell_far (p := ⟨gb570, _, none⟩) NB569_570.out _).trans (hHeld.2.2.2.2.1)))))), ((cell_far (p := ⟨gb570, _, none⟩) NB569_570.out _).trans (((cell_far (p := ⟨gb570, _, none⟩) NB569_570.out _).trans (((cell_far (p := ⟨gb570, _, none⟩) NB569_570.out _).trans (hHeld.2.2.2.2.2))))))⟩ (fun hHeld => ?_)
         clear hK K
         refine done_ (done_of HT_.out (by kernel_rfl)) ?_
         try go_wp2
         refine bodyPost_ret (results_cell_row rfl _ _ gb570 23 #[.bool t578, .int .i64 t579, .int .i64 t580] (0, 0) _ rfl (by (with_reducible repeat (first | refine b1 ?_ _ | refine b2 ?_ | refine b3 ?_ _)); refine blk_put (cs := #[.bool t578, .int .i64 t579, .int .i64 0]) ?_ 2 _ rfl; (with_reducible repeat (first | refine b1 ?_ _ | refine b2 ?_ | refine b3 ?_ _)); refine blk_put (cs := #[.bool t578, .int .i64 0, .int .i64 0]) ?_ 1 _ rfl; (with_reducible repeat (first | refine b1 ?_ _ | refine b2 ?_ | refine b3 ?_ _)); refine blk_put (cs := #[.bool false, .int .i64 0, .int .i64 0]) ?_ 0 _ rfl; (with_reducible repeat (first | refine b1 ?_ _ | refine b2 ?_ | refine b3 ?_ _)); exact BK570.out) Tryd.underlying23 rfl (by kernel_rfl)) rfl ?_
         exact ⟨eS, bS HB⟩
       ·
        replace c68 := Bool.eq_false_iff.mpr c68
        subst c68
        have H1 : ((gimbalref31_All.f).bind fun bt581 => (some (bt581.1, bt581.2.1, bt581.2.2))) = some (r1, r2, r3) := by rw [if_neg (show ¬ (false = true) by decide)] at H; exact H
        clear H
        have H := H1
        clear H1
        replace H := Option.bind_eq_some_iff.mp H
        obtain ⟨⟨t581, t582, t583⟩, A760, H⟩ := H
        replace H : (some (t581, t582, t583)) = some (r1, r2, r3) := H
        have A76 := Aside0.mk A760
        clear A760
        simp only [Option.some.injEq, Prod.mk.injEq] at H
        obtain ⟨rfl, rfl, rfl⟩ := H
        go_wp2_with (first | ((with_reducible refine gate_callee (f := 85) rfl ?_); refine goesL_ (some 53) rfl rfl Tryd.func85 (by kernel_rfl) rfl #[] rfl mS ?_; (with_reducible refine (gimbalref31_All.calls  t581 t582 t583 _ A76.out).mono ?_); rintro e w77 ⟨rfl, hb⟩; refine ⟨_, rfl, ?_⟩; replace BK568 := kB BK568 hb; replace BK569 := kB BK569 hb; replace BK570 := kB BK570 hb; replace BK571 := kB BK571 hb; replace HB := kW HB hb; (try clear hb); (try clear hb2); (try clear hk); (try clear hi); have hnb78 := NB570_568.out; have hnc78 := NB568_570.out; have hnb79 := NB570_569.out; have hnc79 := NB569_570.out; have hnb80 := NB570_571.out; have hnc80 := NB571_570.out; have hcz81_0 := cz0 BK570; have hcz81_1 := cz1 BK570; have hcz81_2 := cz2 BK570; have hfz81_0 := fz BK570 0; have hfz81_1 := fz BK570 1; have hfz81_2 := fz BK570 2))
        refine bodyPost_ret (results_cell_row rfl _ _ gb570 23 #[.bool t581, .int .i64 t582, .int .i64 t583] (0, 0) _ rfl (by (with_reducible repeat (first | refine b1 ?_ _ | refine b2 ?_ | refine b3 ?_ _)); refine blk_put (cs := #[.bool t581, .int .i64 t582, .int .i64 0]) ?_ 2 _ rfl; (with_reducible repeat (first | refine b1 ?_ _ | refine b2 ?_ | refine b3 ?_ _)); refine blk_put (cs := #[.bool t581, .int .i64 0, .int .i64 0]) ?_ 1 _ rfl; (with_reducible repeat (first | refine b1 ?_ _ | refine b2 ?_ | refine b3 ?_ _)); refine blk_put (cs := #[.bool false, .int .i64 0, .int .i64 0]) ?_ 0 _ rfl; (with_reducible repeat (first | refine b1 ?_ _ | refine b2 ?_ | refine b3 ?_ _)); exact BK570.out) Tryd.underlying23 rfl (by kernel_rfl)) rfl ?_
        exact ⟨eS, bS HB⟩
    ·
     rw [if_neg c41] at H
     have c41b0 : (a1_1 == 0) = false := beq_eq_false_iff_ne.mpr c41
     have c41b1 : (a1_1 != 0) = true := bne_iff_ne.mpr c41
     replace H := Option.bind_eq_some_iff.mp H
     obtain ⟨⟨t575, t576, t577⟩, A820, H⟩ := H
     replace H : (some (t575, t576, t577)) = some (r1, r2, r3) := H
     have A82 := Aside0.mk A820
     clear A820
     simp only [Option.some.injEq, Prod.mk.injEq] at H
     obtain ⟨rfl, rfl, rfl⟩ := H
     have hnb83 := NB569_568.out
     have hnc83 := NB568_569.out
     have hnb84 := NB569_570.out
     have hnc84 := NB570_569.out
     have hnb85 := NB569_571.out
     have hnc85 := NB571_569.out
     have hcz86_0 : wc.cell? ⟨gb569, 0, none⟩ = some (.bool a1_0) := cz0 BK569
     have hcz86_1 : wc.cell? ⟨gb569, 1, none⟩ = some (.int .i64 a1_1) := cz1 BK569
     have hcz86_2 : wc.cell? ⟨gb569, 2, none⟩ = some (.int .i64 a1_2) := cz2 BK569
     have hfz86_0 := fz BK569 0
     have hfz86_1 := fz BK569 1
     have hfz86_2 := fz BK569 2
     go_wp2_with (first | ((with_reducible refine gate_callee (f := 85) rfl ?_); refine goesL_ (some 22) rfl rfl Tryd.func85 (by kernel_rfl) rfl #[] rfl mS ?_; (with_reducible refine (gimbalref31_All.calls  t575 t576 t577 _ A82.out).mono ?_); rintro e w87 ⟨rfl, hb⟩; refine ⟨_, rfl, ?_⟩; replace BK568 := kB BK568 hb; replace BK569 := kB BK569 hb; replace BK570 := kB BK570 hb; replace BK571 := kB BK571 hb; replace HB := kW HB hb; (try clear hb); (try clear hb2); (try clear hk); (try clear hi); have hnb88 := NB570_568.out; have hnc88 := NB568_570.out; have hnb89 := NB570_571.out; have hnc89 := NB571_570.out; have hcz90_0 := cz0 BK570; have hcz90_1 := cz1 BK570; have hcz90_2 := cz2 BK570; have hfz90_0 := fz BK570 0; have hfz90_1 := fz BK570 1; have hfz90_2 := fz BK570 2))
     refine bodyPost_ret (results_cell_row rfl _ _ gb570 23 #[.bool t575, .int .i64 t576, .int .i64 t577] (0, 0) _ rfl (by (with_reducible repeat (first | refine b1 ?_ _ | refine b2 ?_ | refine b3 ?_ _)); refine blk_put (cs := #[.bool t575, .int .i64 t576, .int .i64 0]) ?_ 2 _ rfl; (with_reducible repeat (first | refine b1 ?_ _ | refine b2 ?_ | refine b3 ?_ _)); refine blk_put (cs := #[.bool t575, .int .i64 0, .int .i64 0]) ?_ 1 _ rfl; (with_reducible repeat (first | refine b1 ?_ _ | refine b2 ?_ | refine b3 ?_ _)); refine blk_put (cs := #[.bool false, .int .i64 0, .int .i64 0]) ?_ 0 _ rfl; (with_reducible repeat (first | refine b1 ?_ _ | refine b2 ?_ | refine b3 ?_ _)); exact BK570.out) Tryd.underlying23 rfl (by kernel_rfl)) rfl ?_
     exact ⟨eS, bS HB⟩

end Go.Proofs.YtfmmjekhknaniaaDoor.Pr

