/- This claim's own texts, joined, with only what the claim uses: Hx47, Hx48, Hx50, Hx52, Hx54, Hx58, Hx59, Hx62, FnC, Hx18, Hx19. -/
import Derived.Test.YtfmmjekhknaniaaDoorMonoP5
namespace Go.Proofs.YtfmmjekhknaniaaDoor.Pr
open Go.RowKit Go.Proofs.YtfmmjekhknaniaaDoor.Given Go.Proofs.YtfmmjekhknaniaaDoorW.PrintWords Go.Proofs.YtfmmjekhknaniaaDoorW.PrintLast Go.Proofs.YtfmmjekhknaniaaDoorW.PrintMore
attribute [local go_sem] max2_int min2_int max_two min_two max_three min_three max_four min_four   -- for this text's walks alone
set_option linter.unusedVariables false
set_option linter.unusedSimpArgs false

def gimbalref31_Join.f (k : Nat) (a0_0 : Bool) (a0_1 : Int) (a0_2 : Int) (a1_0 : Bool) (a1_1 : Int) (a1_2 : Int) : Option (Bool × Int × Int) := if a0_0 = true then (some (a1_0, a1_1, a1_2)) else (if a1_0 = true then (some (a0_0, a0_1, a0_2)) else ((gimbalref31_size.f a0_1).bind fun t419 => ((gimbalref31_size.f a1_1).bind fun t420 => ((gimbalref31_gcd.f k t419 t420).bind fun t421 => ((gimbalref31_size.f (wrap64 (a0_2 - a1_2))).bind fun t422 => ((gimbalref31_gcd.f k t421 t422).bind fun t423 => ((gimbalref31_of.f k t423 a0_2).bind fun bt424 => (some (bt424.1, bt424.2.1, bt424.2.2)))))))))
def gimbalref31_Join.T5 : Bool × List (List Nat × List Nat) := (true, [([], []), ([0], [0]), ([1], [1]), ([], []), ([3], [3]), ([4, 2], [4]), ([2, 5, 5], [2, 5]), ([], []), ([7], [7]), ([], []), ([9], [9]), ([8, 10], [8, 10]), ([11, 6], [11]), ([6, 12, 12], [6, 12]), ([], []), ([14], [14]), ([13, 15, 13], [13, 15]), ([16, 16, 0, 1, 2, 3, 4, 5, 6, 7, 8, 9, 10, 11, 12, 13, 14, 15, 16], [16])])
def gimbalref31_Join.B5 : List Nat := [0, 1, 3, 0, 8, 31, 63, 0, 128, 0, 512, 1920, 4095, 8191, 0, 16384, 65535, 131071]
theorem gimbalref31_Join.tab5 : rtab .any (opsOf Tryd.f29 5) = gimbalref31_Join.T5 := by kernel_rfl
theorem gimbalref31_Join.bits5 : waitsOk gimbalref31_Join.T5.2 gimbalref31_Join.B5 = true := by kernel_rfl
set_option maxHeartbeats 8000000 in
set_option maxRecDepth 100000 in
theorem gimbalref31_Join.calls (k : Nat) (a0_0 : Bool) (a0_1 : Int) (a0_2 : Int) (a1_0 : Bool) (a1_1 : Int) (a1_2 : Int) (r1 : Bool) (r2 : Int) (r3 : Int) (w : World) (h : gimbalref31_Join.f k a0_0 a0_1 a0_2 a1_0 a1_1 a1_2 = some (r1, r2, r3)) :
  Calls Tryd.prog 29 #[.agg #[.bool a0_0, .int .i64 a0_1, .int .i64 a0_2], .agg #[.bool a1_0, .int .i64 a1_1, .int .i64 a1_2]] w fun e w' => e = .returned (.agg #[.bool r1, .int .i64 r2, .int .i64 r3]) ∧ Below w.heap.size w w' := by
 have hu23 := Tryd.underlying23
 have HB := Aside0.mk (Below.refl w.heap.size w)
 have H : (if a0_0 = true then (some (a1_0, a1_1, a1_2)) else (if a1_0 = true then (some (a0_0, a0_1, a0_2)) else ((gimbalref31_size.f a0_1).bind fun t419 => ((gimbalref31_size.f a1_1).bind fun t420 => ((gimbalref31_gcd.f k t419 t420).bind fun t421 => ((gimbalref31_size.f (wrap64 (a0_2 - a1_2))).bind fun t422 => ((gimbalref31_gcd.f k t421 t422).bind fun t423 => ((gimbalref31_of.f k t423 a0_2).bind fun bt424 => (some (bt424.1, bt424.2.1, bt424.2.2)))))))))) = some (r1, r2, r3) := h
 clear h
 by_cases c3 : a0_0 = true
 ·
  subst c3
  have H1 : (some (a1_0, a1_1, a1_2)) = some (r1, r2, r3) := by rw [if_pos rfl] at H; exact H
  clear H
  have H := H1
  clear H1
  simp only [Option.some.injEq, Prod.mk.injEq] at H
  obtain ⟨rfl, rfl, rfl⟩ := H
  go_enter Tryd.func29, Tryd.ntmps29
  go_wp2_with (first | ((with_reducible refine gate_dst (N := 2) rfl ?_); refine box_event ?hg (N := 2) ?hd (cs := #[.bool true, .int .i64 a0_1, .int .i64 a0_2]) (t := 23) ?hr ?_; (case hd => rfl); (case hg => rfl); (case hr => first | (go_simp; done) | (go_simp; rfl)); intro gb416 hg w4 hbox hb; have n0_ := kW HB hb; have n1_ := Aside0.mk (hbox); have n2_ := Aside0.mk ((by rw [hg]; exact (below_size (bS HB)) : w.heap.size ≤ gb416)); have n3_ := Aside0.mk ((by rw [hg]; exact (below_size (bS HB)) : w.heap.size ≤ gb416)); clear HB; have HB := n0_; have BK416 := n1_; have GW416 := n2_; have GE416 := n3_; clear n0_ n1_ n2_ n3_; clear hb hbox hg) | ((with_reducible refine gate_dst (N := 3) rfl ?_); refine box_event ?hg (N := 3) ?hd (cs := #[.bool a1_0, .int .i64 a1_1, .int .i64 a1_2]) (t := 23) ?hr ?_; (case hd => rfl); (case hg => rfl); (case hr => first | (go_simp; done) | (go_simp; rfl)); intro gb417 hg w5 hbox hb; have n0_ := kB BK416 hb; have n1_ := kW HB hb; have n2_ := Aside0.mk (hbox); have n3_ := Aside0.mk ((by rw [hg]; exact (below_size (bS HB)) : w.heap.size ≤ gb417)); have n4_ := Aside0.mk ((by rw [hg]; exact (below_size (bS HB)) : w.heap.size ≤ gb417)); have n5_ := Aside0.mk ((by rw [hg]; exact Nat.ne_of_lt (blk_lt (bkS BK416)) : gb416 ≠ gb417)); have n6_ := Aside0.mk ((by rw [hg]; exact Nat.ne_of_gt (blk_lt (bkS BK416)) : gb417 ≠ gb416)); clear BK416; clear HB; have BK416 := n0_; have HB := n1_; have BK417 := n2_; have GW417 := n3_; have GE417 := n4_; have NB416_417 := n5_; have NB417_416 := n6_; clear n0_ n1_ n2_ n3_ n4_ n5_ n6_; clear hb hbox hg) | ((with_reducible refine gate_dst (N := 4) rfl ?_); refine box_event ?hg (N := 4) ?hd (cs := #[.bool false, .int .i64 0, .int .i64 0]) (t := 23) ?hr ?_; (case hd => rfl); (case hg => rfl); (case hr => first | (go_simp; done) | (go_simp; rfl)); intro gb418 hg w6 hbox hb; have n0_ := kB BK416 hb; have n1_ := kB BK417 hb; have n2_ := kW HB hb; have n3_ := Aside0.mk (hbox); have n4_ := Aside0.mk ((by rw [hg]; exact (below_size (bS HB)) : w.heap.size ≤ gb418)); have n5_ := Aside0.mk ((by rw [hg]; exact (below_size (bS HB)) : w.heap.size ≤ gb418)); have n6_ := Aside0.mk ((by rw [hg]; exact Nat.ne_of_lt (blk_lt (bkS BK416)) : gb416 ≠ gb418)); have n7_ := Aside0.mk ((by rw [hg]; exact Nat.ne_of_gt (blk_lt (bkS BK416)) : gb418 ≠ gb416)); have n8_ := Aside0.mk ((by rw [hg]; exact Nat.ne_of_lt (blk_lt (bkS BK417)) : gb417 ≠ gb418)); have n9_ := Aside0.mk ((by rw [hg]; exact Nat.ne_of_gt (blk_lt (bkS BK417)) : gb418 ≠ gb417)); clear BK416; clear BK417; clear HB; have BK416 := n0_; have BK417 := n1_; have HB := n2_; have BK418 := n3_; have GW418 := n4_; have GE418 := n5_; have NB416_418 := n6_; have NB418_416 := n7_; have NB417_418 := n8_; have NB418_417 := n9_; clear n0_ n1_ n2_ n3_ n4_ n5_ n6_ n7_ n8_ n9_; clear hb hbox hg; have hnb7 := NB416_417.out; have hnc7 := NB417_416.out; have hnb8 := NB416_418.out; have hnc8 := NB418_416.out; have hcz9_0 := cz0 BK416; have hcz9_1 := cz1 BK416; have hcz9_2 := cz2 BK416; have hfz9_0 := fz BK416 0; have hfz9_1 := fz BK416 1; have hfz9_2 := fz BK416 2; have hnb10 := NB417_418.out; have hnc10 := NB418_417.out; have hcz11_0 := cz0 BK417; have hcz11_1 := cz1 BK417; have hcz11_2 := cz2 BK417; have hfz11_0 := fz BK417 0; have hfz11_1 := fz BK417 1; have hfz11_2 := fz BK417 2; have hcz12_0 := cz0 BK418; have hcz12_1 := cz1 BK418; have hcz12_2 := cz2 BK418; have hfz12_0 := fz BK418 0; have hfz12_1 := fz BK418 1; have hfz12_2 := fz BK418 2))
  refine bodyPost_ret (results_cell_row rfl _ _ gb418 23 #[.bool a1_0, .int .i64 a1_1, .int .i64 a1_2] (0, 0) _ rfl (by (with_reducible repeat (first | refine b1 ?_ _ | refine b2 ?_ | refine b3 ?_ _)); refine blk_put (cs := #[.bool a1_0, .int .i64 a1_1, .int .i64 0]) ?_ 2 _ rfl; (with_reducible repeat (first | refine b1 ?_ _ | refine b2 ?_ | refine b3 ?_ _)); refine blk_put (cs := #[.bool a1_0, .int .i64 0, .int .i64 0]) ?_ 1 _ rfl; (with_reducible repeat (first | refine b1 ?_ _ | refine b2 ?_ | refine b3 ?_ _)); refine blk_put (cs := #[.bool false, .int .i64 0, .int .i64 0]) ?_ 0 _ rfl; (with_reducible repeat (first | refine b1 ?_ _ | refine b2 ?_ | refine b3 ?_ _)); exact BK418.out) Tryd.underlying23 rfl (by kernel_rfl)) rfl ?_
  exact ⟨eS, bS HB⟩
 ·
  replace c3 := Bool.eq_false_iff.mpr c3
  subst c3
  have H1 : (if a1_0 = true then (some (false, a0_1, a0_2)) else ((gimbalref31_size.f a0_1).bind fun t419 => ((gimbalref31_size.f a1_1).bind fun t420 => ((gimbalref31_gcd.f k t419 t420).bind fun t421 => ((gimbalref31_size.f (wrap64 (a0_2 - a1_2))).bind fun t422 => ((gimbalref31_gcd.f k t421 t422).bind fun t423 => ((gimbalref31_of.f k t423 a0_2).bind fun bt424 => (some (bt424.1, bt424.2.1, bt424.2.2))))))))) = some (r1, r2, r3) := by rw [if_neg (show ¬ (false = true) by decide)] at H; exact H
  clear H
  have H := H1
  clear H1
  by_cases c13 : a1_0 = true
  ·
   subst c13
   have H1 : (some (false, a0_1, a0_2)) = some (r1, r2, r3) := by rw [if_pos rfl] at H; exact H
   clear H
   have H := H1
   clear H1
   simp only [Option.some.injEq, Prod.mk.injEq] at H
   obtain ⟨rfl, rfl, rfl⟩ := H
   go_enter Tryd.func29, Tryd.ntmps29
   go_wp2_with (first | ((with_reducible refine gate_dst (N := 2) rfl ?_); refine box_event ?hg (N := 2) ?hd (cs := #[.bool false, .int .i64 a0_1, .int .i64 a0_2]) (t := 23) ?hr ?_; (case hd => rfl); (case hg => rfl); (case hr => first | (go_simp; done) | (go_simp; rfl)); intro gb416 hg w14 hbox hb; have n0_ := kW HB hb; have n1_ := Aside0.mk (hbox); have n2_ := Aside0.mk ((by rw [hg]; exact (below_size (bS HB)) : w.heap.size ≤ gb416)); have n3_ := Aside0.mk ((by rw [hg]; exact (below_size (bS HB)) : w.heap.size ≤ gb416)); clear HB; have HB := n0_; have BK416 := n1_; have GW416 := n2_; have GE416 := n3_; clear n0_ n1_ n2_ n3_; clear hb hbox hg) | ((with_reducible refine gate_dst (N := 3) rfl ?_); refine box_event ?hg (N := 3) ?hd (cs := #[.bool true, .int .i64 a1_1, .int .i64 a1_2]) (t := 23) ?hr ?_; (case hd => rfl); (case hg => rfl); (case hr => first | (go_simp; done) | (go_simp; rfl)); intro gb417 hg w15 hbox hb; have n0_ := kB BK416 hb; have n1_ := kW HB hb; have n2_ := Aside0.mk (hbox); have n3_ := Aside0.mk ((by rw [hg]; exact (below_size (bS HB)) : w.heap.size ≤ gb417)); have n4_ := Aside0.mk ((by rw [hg]; exact (below_size (bS HB)) : w.heap.size ≤ gb417)); have n5_ := Aside0.mk ((by rw [hg]; exact Nat.ne_of_lt (blk_lt (bkS BK416)) : gb416 ≠ gb417)); have n6_ := Aside0.mk ((by rw [hg]; exact Nat.ne_of_gt (blk_lt (bkS BK416)) : gb417 ≠ gb416)); clear BK416; clear HB; have BK416 := n0_; have HB := n1_; have BK417 := n2_; have GW417 := n3_; have GE417 := n4_; have NB416_417 := n5_; have NB417_416 := n6_; clear n0_ n1_ n2_ n3_ n4_ n5_ n6_; clear hb hbox hg) | ((with_reducible refine gate_dst (N := 4) rfl ?_); refine box_event ?hg (N := 4) ?hd (cs := #[.bool false, .int .i64 0, .int .i64 0]) (t := 23) ?hr ?_; (case hd => rfl); (case hg => rfl); (case hr => first | (go_simp; done) | (go_simp; rfl)); intro gb418 hg w16 hbox hb; have n0_ := kB BK416 hb; have n1_ := kB BK417 hb; have n2_ := kW HB hb; have n3_ := Aside0.mk (hbox); have n4_ := Aside0.mk ((by rw [hg]; exact (below_size (bS HB)) : w.heap.size ≤ gb418)); have n5_ := Aside0.mk ((by rw [hg]; exact (below_size (bS HB)) : w.heap.size ≤ gb418)); have n6_ := Aside0.mk ((by rw [hg]; exact Nat.ne_of_lt (blk_lt (bkS BK416)) : gb416 ≠ gb418)); have n7_ := Aside0.mk ((by rw [hg]; exact Nat.ne_of_gt (blk_lt (bkS BK416)) : gb418 ≠ gb416)); have n8_ := Aside0.mk ((by rw [hg]; exact Nat.ne_of_lt (blk_lt (bkS BK417)) : gb417 ≠ gb418)); have n9_ := Aside0.mk ((by rw [hg]; exact Nat.ne_of_gt (blk_lt (bkS BK417)) : gb418 ≠ gb417)); clear BK416; clear BK417; clear HB; have BK416 := n0_; have BK417 := n1_; have HB := n2_; have BK418 := n3_; have GW418 := n4_; have GE418 := n5_; have NB416_418 := n6_; have NB418_416 := n7_; have NB417_418 := n8_; have NB418_417 := n9_; clear n0_ n1_ n2_ n3_ n4_ n5_ n6_ n7_ n8_ n9_; clear hb hbox hg; have hnb17 := NB416_417.out; have hnc17 := NB417_416.out; have hnb18 := NB416_418.out; have hnc18 := NB418_416.out; have hcz19_0 := cz0 BK416; have hcz19_1 := cz1 BK416; have hcz19_2 := cz2 BK416; have hfz19_0 := fz BK416 0; have hfz19_1 := fz BK416 1; have hfz19_2 := fz BK416 2; have hnb20 := NB417_418.out; have hnc20 := NB418_417.out; have hcz21_0 := cz0 BK417; have hcz21_1 := cz1 BK417; have hcz21_2 := cz2 BK417; have hfz21_0 := fz BK417 0; have hfz21_1 := fz BK417 1; have hfz21_2 := fz BK417 2; have hcz22_0 := cz0 BK418; have hcz22_1 := cz1 BK418; have hcz22_2 := cz2 BK418; have hfz22_0 := fz BK418 0; have hfz22_1 := fz BK418 1; have hfz22_2 := fz BK418 2))
   refine bodyPost_ret (results_cell_row rfl _ _ gb418 23 #[.bool false, .int .i64 a0_1, .int .i64 a0_2] (0, 0) _ rfl (by (with_reducible repeat (first | refine b1 ?_ _ | refine b2 ?_ | refine b3 ?_ _)); refine blk_put (cs := #[.bool false, .int .i64 a0_1, .int .i64 0]) ?_ 2 _ rfl; (with_reducible repeat (first | refine b1 ?_ _ | refine b2 ?_ | refine b3 ?_ _)); refine blk_put (cs := #[.bool false, .int .i64 0, .int .i64 0]) ?_ 1 _ rfl; (with_reducible repeat (first | refine b1 ?_ _ | refine b2 ?_ | refine b3 ?_ _)); refine blk_put (cs := #[.bool false, .int .i64 0, .int .i64 0]) ?_ 0 _ rfl; (with_reducible repeat (first | refine b1 ?_ _ | refine b2 ?_ | refine b3 ?_ _)); exact BK418.out) Tryd.underlying23 rfl (by kernel_rfl)) rfl ?_
   exact ⟨eS, bS HB⟩
  ·
   replace c13 := Bool.eq_false_iff.mpr c13
   subst c13
   have H1 : ((gimbalref31_size.f a0_1).bind fun t419 => ((gimbalref31_size.f a1_1).bind fun t420 => ((gimbalref31_gcd.f k t419 t420).bind fun t421 => ((gimbalref31_size.f (wrap64 (a0_2 - a1_2))).bind fun t422 => ((gimbalref31_gcd.f k t421 t422).bind fun t423 => ((gimbalref31_of.f k t423 a0_2).bind fun bt424 => (some (bt424.1, bt424.2.1, bt424.2.2)))))))) = some (r1, r2, r3) := by rw [if_neg (show ¬ (false = true) by decide)] at H; exact H
   clear H
   have H := H1
   clear H1
   replace H := Option.bind_eq_some_iff.mp H
   obtain ⟨t419, A230, H⟩ := H
   replace H : ((gimbalref31_size.f a1_1).bind fun t420 => ((gimbalref31_gcd.f k t419 t420).bind fun t421 => ((gimbalref31_size.f (wrap64 (a0_2 - a1_2))).bind fun t422 => ((gimbalref31_gcd.f k t421 t422).bind fun t423 => ((gimbalref31_of.f k t423 a0_2).bind fun bt424 => (some (bt424.1, bt424.2.1, bt424.2.2))))))) = some (r1, r2, r3) := H
   have A23 := Aside0.mk A230
   clear A230
   replace H := Option.bind_eq_some_iff.mp H
   obtain ⟨t420, A240, H⟩ := H
   replace H : ((gimbalref31_gcd.f k t419 t420).bind fun t421 => ((gimbalref31_size.f (wrap64 (a0_2 - a1_2))).bind fun t422 => ((gimbalref31_gcd.f k t421 t422).bind fun t423 => ((gimbalref31_of.f k t423 a0_2).bind fun bt424 => (some (bt424.1, bt424.2.1, bt424.2.2)))))) = some (r1, r2, r3) := H
   have A24 := Aside0.mk A240
   clear A240
   replace H := Option.bind_eq_some_iff.mp H
   obtain ⟨t421, A250, H⟩ := H
   replace H : ((gimbalref31_size.f (wrap64 (a0_2 - a1_2))).bind fun t422 => ((gimbalref31_gcd.f k t421 t422).bind fun t423 => ((gimbalref31_of.f k t423 a0_2).bind fun bt424 => (some (bt424.1, bt424.2.1, bt424.2.2))))) = some (r1, r2, r3) := H
   have A25 := Aside0.mk A250
   clear A250
   replace H := Option.bind_eq_some_iff.mp H
   obtain ⟨t422, A260, H⟩ := H
   replace H : ((gimbalref31_gcd.f k t421 t422).bind fun t423 => ((gimbalref31_of.f k t423 a0_2).bind fun bt424 => (some (bt424.1, bt424.2.1, bt424.2.2)))) = some (r1, r2, r3) := H
   have A26 := Aside0.mk A260
   clear A260
   replace H := Option.bind_eq_some_iff.mp H
   obtain ⟨t423, A270, H⟩ := H
   replace H : ((gimbalref31_of.f k t423 a0_2).bind fun bt424 => (some (bt424.1, bt424.2.1, bt424.2.2))) = some (r1, r2, r3) := H
   have A27 := Aside0.mk A270
   clear A270
   replace H := Option.bind_eq_some_iff.mp H
   obtain ⟨⟨t424, t425, t426⟩, A280, H⟩ := H
   replace H : (some (t424, t425, t426)) = some (r1, r2, r3) := H
   have A28 := Aside0.mk A280
   clear A280
   simp only [Option.some.injEq, Prod.mk.injEq] at H
   obtain ⟨rfl, rfl, rfl⟩ := H
   go_enter Tryd.func29, Tryd.ntmps29
   try go_wp2_with (first | ((with_reducible refine gate_dst (N := 2) rfl ?_); refine box_event ?hg (N := 2) ?hd (cs := #[.bool false, .int .i64 a0_1, .int .i64 a0_2]) (t := 23) ?hr ?_; (case hd => rfl); (case hg => rfl); (case hr => first | (go_simp; done) | (go_simp; rfl)); intro gb416 hg w29 hbox hb; have n0_ := kW HB hb; have n1_ := Aside0.mk (hbox); have n2_ := Aside0.mk ((by rw [hg]; exact (below_size (bS HB)) : w.heap.size ≤ gb416)); have n3_ := Aside0.mk ((by rw [hg]; exact (below_size (bS HB)) : w.heap.size ≤ gb416)); clear HB; have HB := n0_; have BK416 := n1_; have GW416 := n2_; have GE416 := n3_; clear n0_ n1_ n2_ n3_; clear hb hbox hg) | ((with_reducible refine gate_dst (N := 3) rfl ?_); refine box_event ?hg (N := 3) ?hd (cs := #[.bool false, .int .i64 a1_1, .int .i64 a1_2]) (t := 23) ?hr ?_; (case hd => rfl); (case hg => rfl); (case hr => first | (go_simp; done) | (go_simp; rfl)); intro gb417 hg w30 hbox hb; have n0_ := kB BK416 hb; have n1_ := kW HB hb; have n2_ := Aside0.mk (hbox); have n3_ := Aside0.mk ((by rw [hg]; exact (below_size (bS HB)) : w.heap.size ≤ gb417)); have n4_ := Aside0.mk ((by rw [hg]; exact (below_size (bS HB)) : w.heap.size ≤ gb417)); have n5_ := Aside0.mk ((by rw [hg]; exact Nat.ne_of_lt (blk_lt (bkS BK416)) : gb416 ≠ gb417)); have n6_ := Aside0.mk ((by rw [hg]; exact Nat.ne_of_gt (blk_lt (bkS BK416)) : gb417 ≠ gb416)); clear BK416; clear HB; have BK416 := n0_; have HB := n1_; have BK417 := n2_; have GW417 := n3_; have GE417 := n4_; have NB416_417 := n5_; have NB417_416 := n6_; clear n0_ n1_ n2_ n3_ n4_ n5_ n6_; clear hb hbox hg) | ((with_reducible refine gate_dst (N := 4) rfl ?_); refine box_event ?hg (N := 4) ?hd (cs := #[.bool false, .int .i64 0, .int .i64 0]) (t := 23) ?hr ?_; (case hd => rfl); (case hg => rfl); (case hr => first | (go_simp; done) | (go_simp; rfl)); intro gb418 hg w31 hbox hb; have n0_ := kB BK416 hb; have n1_ := kB BK417 hb; have n2_ := kW HB hb; have n3_ := Aside0.mk (hbox); have n4_ := Aside0.mk ((by rw [hg]; exact (below_size (bS HB)) : w.heap.size ≤ gb418)); have n5_ := Aside0.mk ((by rw [hg]; exact (below_size (bS HB)) : w.heap.size ≤ gb418)); have n6_ := Aside0.mk ((by rw [hg]; exact Nat.ne_of_lt (blk_lt (bkS BK416)) : gb416 ≠ gb418)); have n7_ := Aside0.mk ((by rw [hg]; exact Nat.ne_of_gt (blk_lt (bkS BK416)) : gb418 ≠ gb416)); have n8_ := Aside0.mk ((by rw [hg]; exact Nat.ne_of_lt (blk_lt (bkS BK417)) : gb417 ≠ gb418)); have n9_ := Aside0.mk ((by rw [hg]; exact Nat.ne_of_gt (blk_lt (bkS BK417)) : gb418 ≠ gb417)); clear BK416; clear BK417; clear HB; have BK416 := n0_; have BK417 := n1_; have HB := n2_; have BK418 := n3_; have GW418 := n4_; have GE418 := n5_; have NB416_418 := n6_; have NB418_416 := n7_; have NB417_418 := n8_; have NB418_417 := n9_; clear n0_ n1_ n2_ n3_ n4_ n5_ n6_ n7_ n8_ n9_; clear hb hbox hg; have hnb32 := NB416_417.out; have hnc32 := NB417_416.out; have hnb33 := NB416_418.out; have hnc33 := NB418_416.out; have hcz34_0 := cz0 BK416; have hcz34_1 := cz1 BK416; have hcz34_2 := cz2 BK416; have hfz34_0 := fz BK416 0; have hfz34_1 := fz BK416 1; have hfz34_2 := fz BK416 2; have hnb35 := NB417_418.out; have hnc35 := NB418_417.out; have hcz36_0 := cz0 BK417; have hcz36_1 := cz1 BK417; have hcz36_2 := cz2 BK417; have hfz36_0 := fz BK417 0; have hfz36_1 := fz BK417 1; have hfz36_2 := fz BK417 2))
   replace BK416 := Aside0.mk (blk_drew BK416.out)
   replace BK417 := Aside0.mk (blk_drew BK417.out)
   replace BK418 := Aside0.mk (blk_drew BK418.out)
   replace HB := Aside0.mk (below_drew1 HB.out)
   refine start_ (n := 18) (S := fun w' => w'.cell? ⟨gb416, 0, none⟩ = some (.bool false) ∧ w'.cell? ⟨gb416, 1, none⟩ = some (.int .i64 a0_1) ∧ w'.cell? ⟨gb416, 2, none⟩ = some (.int .i64 a0_2) ∧ w'.cell? ⟨gb417, 0, none⟩ = some (.bool false) ∧ w'.cell? ⟨gb417, 1, none⟩ = some (.int .i64 a1_1) ∧ w'.cell? ⟨gb417, 2, none⟩ = some (.int .i64 a1_2)) (ds := []) #[false, false, false, false, false, false, false, false, false, false, false, false, false, false, false, false, false, false] (by kernel_rfl) rfl rfl ⟨cz0 BK416, cz1 BK416, cz2 BK416, cz0 BK417, cz1 BK417, cz2 BK417⟩ (fun hHeld => ?_); refine with_tabW gimbalref31_Join.tab5 gimbalref31_Join.bits5 (fun HT_ HW_ => ?_)
   generalize w31.drew = w37 at BK416 BK417 BK418 HB hHeld ⊢
   refine pure_ (i := 0) (N := some 11) (v := ?_) (a' := ?_) #[true, false, false, false, false, false, false, false, false, false, false, false, false, false, false, false, false, false] rfl rfl (any_of HT_.out (by kernel_rfl)) (fun _ _ _ h => h) (Or.inl ⟨by rfl, ?_⟩) ?_ ?_
   rotate_left
   ·
    intro w'
    go_simp
    with_reducible rfl
   rotate_left
   ·
    simp only [Act.put, lA, lB, lC, i64_w, i32_w]
    rfl
   refine pure_ (i := 3) (N := some 14) (v := ?_) (a' := ?_) #[true, false, false, true, false, false, false, false, false, false, false, false, false, false, false, false, false, false] rfl rfl (any_of HT_.out (by kernel_rfl)) (fun _ _ _ h => h) (Or.inl ⟨by rfl, ?_⟩) ?_ ?_
   rotate_left
   ·
    intro w'
    go_simp
    with_reducible rfl
   rotate_left
   ·
    simp only [Act.put, lA, lB, lC, i64_w, i32_w]
    rfl
   refine pure_ (i := 7) (N := some 18) (v := ?_) (a' := ?_) #[true, false, false, true, false, false, false, true, false, false, false, false, false, false, false, false, false, false] rfl rfl (any_of HT_.out (by kernel_rfl)) (fun _ _ _ h => h) (Or.inl ⟨by rfl, ?_⟩) ?_ ?_
   rotate_left
   ·
    intro w'
    go_simp
    with_reducible rfl
   rotate_left
   ·
    simp only [Act.put, lA, lB, lC, i64_w, i32_w]
    rfl
   refine pure_ (i := 9) (N := some 20) (v := ?_) (a' := ?_) #[true, false, false, true, false, false, false, true, false, true, false, false, false, false, false, false, false, false] rfl rfl (any_of HT_.out (by kernel_rfl)) (fun _ _ _ h => h) (Or.inl ⟨by rfl, ?_⟩) ?_ ?_
   rotate_left
   ·
    intro w'
    go_simp
    with_reducible rfl
   rotate_left
   ·
    simp only [Act.put, lA, lB, lC, i64_w, i32_w]
    rfl
   refine pure_ (i := 14) (N := some 25) (v := ?_) (a' := ?_) #[true, false, false, true, false, false, false, true, false, true, false, false, false, false, true, false, false, false] rfl rfl (any_of HT_.out (by kernel_rfl)) (fun _ _ _ h => h) (Or.inl ⟨by rfl, ?_⟩) ?_ ?_
   rotate_left
   ·
    intro w'
    go_simp
    with_reducible rfl
   rotate_left
   ·
    simp only [Act.put, lA, lB, lC, i64_w, i32_w]
    rfl
   refine take_ (i := 1) (N := some 12) (v := ?_) (a' := ?_) #[true, true, false, true, false, false, false, true, false, true, false, false, false, false, true, false, false, false] rfl rfl (take_ofW HT_.out HW_.out (by kernel_rfl)) (fun _ _ _ h => h) (Or.inl ⟨by rfl, ?_⟩) hHeld ?_ ?_
   rotate_left
   ·
    rintro w' ⟨s0, s1, s2, s3, s4, s5⟩
    go_simp
    with_reducible rfl
   rotate_left
   ·
    simp only [Act.put, lA, lB, lC, i64_w, i32_w]
    rfl
   refine take_ (i := 4) (N := some 15) (v := ?_) (a' := ?_) #[true, true, false, true, true, false, false, true, false, true, false, false, false, false, true, false, false, false] rfl rfl (take_ofW HT_.out HW_.out (by kernel_rfl)) (fun _ _ _ h => h) (Or.inl ⟨by rfl, ?_⟩) hHeld ?_ ?_
   rotate_left
   ·
    rintro w' ⟨s0, s1, s2, s3, s4, s5⟩
    go_simp
    with_reducible rfl
   rotate_left
   ·
    simp only [Act.put, lA, lB, lC, i64_w, i32_w]
    rfl
   refine take_ (i := 8) (N := some 19) (v := ?_) (a' := ?_) #[true, true, false, true, true, false, false, true, true, true, false, false, false, false, true, false, false, false] rfl rfl (take_ofW HT_.out HW_.out (by kernel_rfl)) (fun _ _ _ h => h) (Or.inl ⟨by rfl, ?_⟩) hHeld ?_ ?_
   rotate_left
   ·
    rintro w' ⟨s0, s1, s2, s3, s4, s5⟩
    go_simp
    with_reducible rfl
   rotate_left
   ·
    simp only [Act.put, lA, lB, lC, i64_w, i32_w]
    rfl
   refine take_ (i := 10) (N := some 21) (v := ?_) (a' := ?_) #[true, true, false, true, true, false, false, true, true, true, true, false, false, false, true, false, false, false] rfl rfl (take_ofW HT_.out HW_.out (by kernel_rfl)) (fun _ _ _ h => h) (Or.inl ⟨by rfl, ?_⟩) hHeld ?_ ?_
   rotate_left
   ·
    rintro w' ⟨s0, s1, s2, s3, s4, s5⟩
    go_simp
    with_reducible rfl
   rotate_left
   ·
    simp only [Act.put, lA, lB, lC, i64_w, i32_w]
    rfl
   refine pure_ (i := 11) (N := some 22) (v := ?_) (a' := ?_) #[true, true, false, true, true, false, false, true, true, true, true, true, false, false, true, false, false, false] rfl rfl (any_of HT_.out (by kernel_rfl)) (fun _ _ _ h => h) (Or.inl ⟨by rfl, ?_⟩) ?_ ?_
   rotate_left
   ·
    intro w'
    go_simp
    with_reducible rfl
   rotate_left
   ·
    simp only [Act.put, lA, lB, lC, i64_w, i32_w]
    rfl
   refine take_ (i := 15) (N := some 26) (v := ?_) (a' := ?_) #[true, true, false, true, true, false, false, true, true, true, true, true, false, false, true, true, false, false] rfl rfl (take_ofW HT_.out HW_.out (by kernel_rfl)) (fun _ _ _ h => h) (Or.inl ⟨by rfl, ?_⟩) hHeld ?_ ?_
   rotate_left
   ·
    rintro w' ⟨s0, s1, s2, s3, s4, s5⟩
    go_simp
    with_reducible rfl
   rotate_left
   ·
    simp only [Act.put, lA, lB, lC, i64_w, i32_w]
    rfl
   refine one_ (i := 2) (N := some 13) #[true, true, true, true, true, false, false, true, true, true, true, true, false, false, true, true, false, false] rfl rfl (one_of HT_.out (by kernel_rfl)) (by decide) (fun K hK => ?_)
   refine goes_ Tryd.func55 (by kernel_rfl) rfl #[.int .i64 a0_1] (by rfl) rfl rfl mS ?_
   with_reducible refine (gimbalref31_size.calls a0_1 t419 _ A23.out).mono ?_
   rintro e w' ⟨rfl, ⟨nd, rfl⟩⟩
   refine ⟨_, rfl, ?_⟩
   refine hK.out _ _ ⟨cz0 BK416, cz1 BK416, cz2 BK416, cz0 BK417, cz1 BK417, cz2 BK417⟩ (fun hHeld => ?_)
   clear hK K
   refine norm_ (a' := ?_) ?_ ?_
   rotate_left
   ·
    show Act.put _ (some 13) _ = _
    simp only [Act.put, lA, lB, lC, i64_w, i32_w]
    rfl
   refine one_ (i := 5) (N := some 16) #[true, true, true, true, true, true, false, true, true, true, true, true, false, false, true, true, false, false] rfl rfl (one_of HT_.out (by kernel_rfl)) (by decide) (fun K hK => ?_)
   refine goes_ Tryd.func55 (by kernel_rfl) rfl #[.int .i64 a1_1] (by rfl) rfl rfl mS ?_
   with_reducible refine (gimbalref31_size.calls a1_1 t420 _ A24.out).mono ?_
   rintro e w' ⟨rfl, ⟨nd, rfl⟩⟩
   refine ⟨_, rfl, ?_⟩
   refine hK.out _ _ ⟨cz0 BK416, cz1 BK416, cz2 BK416, cz0 BK417, cz1 BK417, cz2 BK417⟩ (fun hHeld => ?_)
   clear hK K
   refine norm_ (a' := ?_) ?_ ?_
   rotate_left
   ·
    show Act.put _ (some 16) _ = _
    simp only [Act.put, lA, lB, lC, i64_w, i32_w]
    rfl
   refine one_ (i := 6) (N := some 17) #[true, true, true, true, true, true, true, true, true, true, true, true, false, false, true, true, false, false] rfl rfl (one_of HT_.out (by kernel_rfl)) (by decide) (fun K hK => ?_)
   refine goes_ Tryd.func80 (by kernel_rfl) rfl #[.int .u64 t419, .int .u64 t420] (by rfl) rfl rfl mS ?_
   with_reducible refine (gimbalref31_gcd.calls k t419 t420 t421 _ A25.out).mono ?_
   rintro e w' ⟨rfl, ⟨nd, rfl⟩⟩
   refine ⟨_, rfl, ?_⟩
   refine hK.out _ _ ⟨cz0 BK416, cz1 BK416, cz2 BK416, cz0 BK417, cz1 BK417, cz2 BK417⟩ (fun hHeld => ?_)
   clear hK K
   refine norm_ (a' := ?_) ?_ ?_
   rotate_left
   ·
    show Act.put _ (some 17) _ = _
    simp only [Act.put, lA, lB, lC, i64_w, i32_w]
    rfl
   refine one_ (i := 12) (N := some 23) #[true, true, true, true, true, true, true, true, true, true, true, true, true, false, true, true, false, false] rfl rfl (one_of HT_.out (by kernel_rfl)) (by decide) (fun K hK => ?_)
   refine goes_ Tryd.func55 (by kernel_rfl) rfl #[.int .i64 (wrap64 (a0_2 - a1_2))] (by rfl) rfl rfl mS ?_
   with_reducible refine (gimbalref31_size.calls (wrap64 (a0_2 - a1_2)) t422 _ A26.out).mono ?_
   rintro e w' ⟨rfl, ⟨nd, rfl⟩⟩
   refine ⟨_, rfl, ?_⟩
   refine hK.out _ _ ⟨cz0 BK416, cz1 BK416, cz2 BK416, cz0 BK417, cz1 BK417, cz2 BK417⟩ (fun hHeld => ?_)
   clear hK K
   refine norm_ (a' := ?_) ?_ ?_
   rotate_left
   ·
    show Act.put _ (some 23) _ = _
    simp only [Act.put, lA, lB, lC, i64_w, i32_w]
    rfl
   refine one_ (i := 13) (N := some 24) #[true, true, true, true, true, true, true, true, true, true, true, true, true, true, true, true, false, false] rfl rfl (one_of HT_.out (by kernel_rfl)) (by decide) (fun K hK => ?_)
   refine goes_ Tryd.func80 (by kernel_rfl) rfl #[.int .u64 t421, .int .u64 t422] (by rfl) rfl rfl mS ?_
   with_reducible refine (gimbalref31_gcd.calls k t421 t422 t423 _ A27.out).mono ?_
   rintro e w' ⟨rfl, ⟨nd, rfl⟩⟩
   refine ⟨_, rfl, ?_⟩
   refine hK.out _ _ ⟨cz0 BK416, cz1 BK416, cz2 BK416, cz0 BK417, cz1 BK417, cz2 BK417⟩ (fun hHeld => ?_)
   clear hK K
   refine norm_ (a' := ?_) ?_ ?_
   rotate_left
   ·
    show Act.put _ (some 24) _ = _
    simp only [Act.put, lA, lB, lC, i64_w, i32_w]
    rfl
   refine one_ (i := 16) (N := some 27) #[true, true, true, true, true, true, true, true, true, true, true, true, true, true, true, true, true, false] rfl rfl (one_of HT_.out (by kernel_rfl)) (by decide) (fun K hK => ?_)
   refine goes_ Tryd.func79 (by kernel_rfl) rfl #[.int .u64 t423, .int .i64 a0_2] (by rfl) rfl rfl mS ?_
   with_reducible refine (gimbalref31_of.calls k t423 a0_2 t424 t425 t426 _ A28.out).mono ?_
   rintro e w38 ⟨rfl, hb⟩
   refine ⟨_, rfl, ?_⟩
   replace BK416 := kB BK416 hb
   replace BK417 := kB BK417 hb
   replace BK418 := kB BK418 hb
   replace HB := kW HB hb
   (try clear hb)
   (try clear hb2)
   (try clear hk)
   (try clear hi)
   refine hK.out _ _ ⟨cz0 BK416, cz1 BK416, cz2 BK416, cz0 BK417, cz1 BK417, cz2 BK417⟩ (fun hHeld => ?_)
   clear hK K
   refine norm_ (a' := ?_) ?_ ?_
   rotate_left
   ·
    show Act.put _ (some 27) _ = _
    simp only [Act.put, lA, lB, lC, i64_w, i32_w]
    rfl
   refine one_ (i := 17) (N := none) #[true, true, true, true, true, true, true, true, true, true, true, true, true, true, true, true, true, true] rfl rfl (one_of HT_.out (by kernel_rfl)) (by decide) (fun K hK => ?_)
   have hs39 : w38.cell? ⟨gb418, 0, none⟩ = some (.bool false) := cz0 BK418
   have hfs39 := fz BK418 0
   have hns39_0 := NB416_418.out
   have hns39_1 := NB417_418.out
   have hms39_0 := NB418_416.out
   have hms39_1 := NB418_417.out
   have hs40 : w38.cell? ⟨gb418, 1, none⟩ = some (.int .i64 0) := cz1 BK418
   have hfs40 := fz BK418 1
   have hns40_0 := NB416_418.out
   have hns40_1 := NB417_418.out
   have hms40_0 := NB418_416.out
   have hms40_1 := NB418_417.out
   have hs41 : w38.cell? ⟨gb418, 2, none⟩ = some (.int .i64 0) := cz2 BK418
   have hfs41 := fz BK418 2
   have hns41_0 := NB416_418.out
   have hns41_1 := NB417_418.out
   have hms41_0 := NB418_416.out
   have hms41_1 := NB418_417.out
   refine skip_ (w1 := ?_) (by rfl) rfl ?_ ?_
   rotate_left
   ·
    go_simp
    rfl
   refine hK.out _ _ ⟨((cell_far (p := ⟨gb418, _, none⟩) NB416_418.out _).trans (((cell_far (p := ⟨gb418, _, none⟩) NB416_418.out _).trans (((cell_far (p := ⟨gb418, _, none⟩) NB416_418.out _).trans (hHeld.1)))))), ((cell_far (p := ⟨gb418, _, none⟩) NB416_418.out _).trans (((cell_far (p := ⟨gb418, _, none⟩) NB416_418.out _).trans (((cell_far (p := ⟨gb418, _, none⟩) NB416_418.out _).trans (hHeld.2.1)))))), ((cell_far (p := ⟨gb418, _, none⟩) NB416_418.out _).trans (((cell_far (p := ⟨gb418, _, none⟩) NB416_418.out _).trans (((cell_far (p := ⟨gb418, _, none⟩) NB416_418.out _).trans (hHeld.2.2.1)))))), ((cell_far (p := ⟨gb418, _, none⟩) NB417_418.out _).trans (((cell_far (p := ⟨gb418, _, none⟩) NB417_418.out _).trans (((cell_far (p := ⟨gb418, _, none⟩) NB417_418.out _).trans (hHeld.2.2.2.1)))))), ((cell_far (p := ⟨gb418, _, none⟩) NB417_418.out _).trans (((cell_far (p := ⟨gb418, _, none⟩) NB417_418.out _).trans (((cell_far (p := ⟨gb418, _, none⟩) NB417_418.out _).trans (hHeld.2.2.2.2.1)))))), ((cell_far (p := ⟨gb418, _, none⟩) NB417_418.out _).trans (((cell_far (p := ⟨gb418, _, none⟩) NB417_418.out _).trans (((cell_far (p := ⟨gb418, _, none⟩) NB417_418.out _).trans (hHeld.2.2.2.2.2))))))⟩ (fun hHeld => ?_)
   clear hK K
   refine done_ (done_of HT_.out (by kernel_rfl)) ?_
   try go_wp2
   refine bodyPost_ret (results_cell_row rfl _ _ gb418 23 #[.bool t424, .int .i64 t425, .int .i64 t426] (0, 0) _ rfl (by (with_reducible repeat (first | refine b1 ?_ _ | refine b2 ?_ | refine b3 ?_ _)); refine blk_put (cs := #[.bool t424, .int .i64 t425, .int .i64 0]) ?_ 2 _ rfl; (with_reducible repeat (first | refine b1 ?_ _ | refine b2 ?_ | refine b3 ?_ _)); refine blk_put (cs := #[.bool t424, .int .i64 0, .int .i64 0]) ?_ 1 _ rfl; (with_reducible repeat (first | refine b1 ?_ _ | refine b2 ?_ | refine b3 ?_ _)); refine blk_put (cs := #[.bool false, .int .i64 0, .int .i64 0]) ?_ 0 _ rfl; (with_reducible repeat (first | refine b1 ?_ _ | refine b2 ?_ | refine b3 ?_ _)); exact BK418.out) Tryd.underlying23 rfl (by kernel_rfl)) rfl ?_
   exact ⟨eS, bS HB⟩

def congr_Neg.f (k : Nat) (a0_0 : Bool) (a0_1 : Int) (a0_2 : Int) : Option (Bool × Int × Int) := if a0_0 = true then (some (a0_0, a0_1, a0_2)) else ((congr_by.f k (IntKind.u64.wrap (a0_1)) (wrap64 (-a0_2))).bind fun bt429 => (some (bt429.1, bt429.2.1, bt429.2.2)))
set_option maxHeartbeats 8000000 in
set_option maxRecDepth 100000 in
theorem congr_Neg.calls (k : Nat) (a0_0 : Bool) (a0_1 : Int) (a0_2 : Int) (r1 : Bool) (r2 : Int) (r3 : Int) (w : World) (h : congr_Neg.f k a0_0 a0_1 a0_2 = some (r1, r2, r3)) :
  Calls Tryd.prog 31 #[.agg #[.bool a0_0, .int .i64 a0_1, .int .i64 a0_2]] w fun e w' => e = .returned (.agg #[.bool r1, .int .i64 r2, .int .i64 r3]) ∧ Below w.heap.size w w' := by
 have hu23 := Tryd.underlying23
 have HB := Aside0.mk (Below.refl w.heap.size w)
 have H : (if a0_0 = true then (some (a0_0, a0_1, a0_2)) else ((congr_by.f k (IntKind.u64.wrap (a0_1)) (wrap64 (-a0_2))).bind fun bt429 => (some (bt429.1, bt429.2.1, bt429.2.2)))) = some (r1, r2, r3) := h
 clear h
 by_cases c2 : a0_0 = true
 ·
  subst c2
  have H1 : (some (true, a0_1, a0_2)) = some (r1, r2, r3) := by rw [if_pos rfl] at H; exact H
  clear H
  have H := H1
  clear H1
  simp only [Option.some.injEq, Prod.mk.injEq] at H
  obtain ⟨rfl, rfl, rfl⟩ := H
  go_enter Tryd.func31, Tryd.ntmps31
  go_wp2_with (first | ((with_reducible refine gate_dst (N := 1) rfl ?_); refine box_event ?hg (N := 1) ?hd (cs := #[.bool true, .int .i64 a0_1, .int .i64 a0_2]) (t := 23) ?hr ?_; (case hd => rfl); (case hg => rfl); (case hr => first | (go_simp; done) | (go_simp; rfl)); intro gb427 hg w3 hbox hb; have n0_ := kW HB hb; have n1_ := Aside0.mk (hbox); have n2_ := Aside0.mk ((by rw [hg]; exact (below_size (bS HB)) : w.heap.size ≤ gb427)); have n3_ := Aside0.mk ((by rw [hg]; exact (below_size (bS HB)) : w.heap.size ≤ gb427)); clear HB; have HB := n0_; have BK427 := n1_; have GW427 := n2_; have GE427 := n3_; clear n0_ n1_ n2_ n3_; clear hb hbox hg) | ((with_reducible refine gate_dst (N := 2) rfl ?_); refine box_event ?hg (N := 2) ?hd (cs := #[.bool false, .int .i64 0, .int .i64 0]) (t := 23) ?hr ?_; (case hd => rfl); (case hg => rfl); (case hr => first | (go_simp; done) | (go_simp; rfl)); intro gb428 hg w4 hbox hb; have n0_ := kB BK427 hb; have n1_ := kW HB hb; have n2_ := Aside0.mk (hbox); have n3_ := Aside0.mk ((by rw [hg]; exact (below_size (bS HB)) : w.heap.size ≤ gb428)); have n4_ := Aside0.mk ((by rw [hg]; exact (below_size (bS HB)) : w.heap.size ≤ gb428)); have n5_ := Aside0.mk ((by rw [hg]; exact Nat.ne_of_lt (blk_lt (bkS BK427)) : gb427 ≠ gb428)); have n6_ := Aside0.mk ((by rw [hg]; exact Nat.ne_of_gt (blk_lt (bkS BK427)) : gb428 ≠ gb427)); clear BK427; clear HB; have BK427 := n0_; have HB := n1_; have BK428 := n2_; have GW428 := n3_; have GE428 := n4_; have NB427_428 := n5_; have NB428_427 := n6_; clear n0_ n1_ n2_ n3_ n4_ n5_ n6_; clear hb hbox hg; have hnb5 := NB427_428.out; have hnc5 := NB428_427.out; have hcz6_0 := cz0 BK427; have hcz6_1 := cz1 BK427; have hcz6_2 := cz2 BK427; have hfz6_0 := fz BK427 0; have hfz6_1 := fz BK427 1; have hfz6_2 := fz BK427 2; have hcz7_0 := cz0 BK428; have hcz7_1 := cz1 BK428; have hcz7_2 := cz2 BK428; have hfz7_0 := fz BK428 0; have hfz7_1 := fz BK428 1; have hfz7_2 := fz BK428 2))
  refine bodyPost_ret (results_cell_row rfl _ _ gb428 23 #[.bool true, .int .i64 a0_1, .int .i64 a0_2] (0, 0) _ rfl (by (with_reducible repeat (first | refine b1 ?_ _ | refine b2 ?_ | refine b3 ?_ _)); refine blk_put (cs := #[.bool true, .int .i64 a0_1, .int .i64 0]) ?_ 2 _ rfl; (with_reducible repeat (first | refine b1 ?_ _ | refine b2 ?_ | refine b3 ?_ _)); refine blk_put (cs := #[.bool true, .int .i64 0, .int .i64 0]) ?_ 1 _ rfl; (with_reducible repeat (first | refine b1 ?_ _ | refine b2 ?_ | refine b3 ?_ _)); refine blk_put (cs := #[.bool false, .int .i64 0, .int .i64 0]) ?_ 0 _ rfl; (with_reducible repeat (first | refine b1 ?_ _ | refine b2 ?_ | refine b3 ?_ _)); exact BK428.out) Tryd.underlying23 rfl (by kernel_rfl)) rfl ?_
  exact ⟨eS, bS HB⟩
 ·
  replace c2 := Bool.eq_false_iff.mpr c2
  subst c2
  have H1 : ((congr_by.f k (IntKind.u64.wrap (a0_1)) (wrap64 (-a0_2))).bind fun bt429 => (some (bt429.1, bt429.2.1, bt429.2.2))) = some (r1, r2, r3) := by rw [if_neg (show ¬ (false = true) by decide)] at H; exact H
  clear H
  have H := H1
  clear H1
  replace H := Option.bind_eq_some_iff.mp H
  obtain ⟨⟨t429, t430, t431⟩, A80, H⟩ := H
  replace H : (some (t429, t430, t431)) = some (r1, r2, r3) := H
  have A8 := Aside0.mk A80
  clear A80
  simp only [Option.some.injEq, Prod.mk.injEq] at H
  obtain ⟨rfl, rfl, rfl⟩ := H
  go_enter Tryd.func31, Tryd.ntmps31
  go_wp2_with (first | ((with_reducible refine gate_dst (N := 1) rfl ?_); refine box_event ?hg (N := 1) ?hd (cs := #[.bool false, .int .i64 a0_1, .int .i64 a0_2]) (t := 23) ?hr ?_; (case hd => rfl); (case hg => rfl); (case hr => first | (go_simp; done) | (go_simp; rfl)); intro gb427 hg w9 hbox hb; have n0_ := kW HB hb; have n1_ := Aside0.mk (hbox); have n2_ := Aside0.mk ((by rw [hg]; exact (below_size (bS HB)) : w.heap.size ≤ gb427)); have n3_ := Aside0.mk ((by rw [hg]; exact (below_size (bS HB)) : w.heap.size ≤ gb427)); clear HB; have HB := n0_; have BK427 := n1_; have GW427 := n2_; have GE427 := n3_; clear n0_ n1_ n2_ n3_; clear hb hbox hg) | ((with_reducible refine gate_dst (N := 2) rfl ?_); refine box_event ?hg (N := 2) ?hd (cs := #[.bool false, .int .i64 0, .int .i64 0]) (t := 23) ?hr ?_; (case hd => rfl); (case hg => rfl); (case hr => first | (go_simp; done) | (go_simp; rfl)); intro gb428 hg w10 hbox hb; have n0_ := kB BK427 hb; have n1_ := kW HB hb; have n2_ := Aside0.mk (hbox); have n3_ := Aside0.mk ((by rw [hg]; exact (below_size (bS HB)) : w.heap.size ≤ gb428)); have n4_ := Aside0.mk ((by rw [hg]; exact (below_size (bS HB)) : w.heap.size ≤ gb428)); have n5_ := Aside0.mk ((by rw [hg]; exact Nat.ne_of_lt (blk_lt (bkS BK427)) : gb427 ≠ gb428)); have n6_ := Aside0.mk ((by rw [hg]; exact Nat.ne_of_gt (blk_lt (bkS BK427)) : gb428 ≠ gb427)); clear BK427; clear HB; have BK427 := n0_; have HB := n1_; have BK428 := n2_; have GW428 := n3_; have GE428 := n4_; have NB427_428 := n5_; have NB428_427 := n6_; clear n0_ n1_ n2_ n3_ n4_ n5_ n6_; clear hb hbox hg; have hnb11 := NB427_428.out; have hnc11 := NB428_427.out; have hcz12_0 := cz0 BK427; have hcz12_1 := cz1 BK427; have hcz12_2 := cz2 BK427; have hfz12_0 := fz BK427 0; have hfz12_1 := fz BK427 1; have hfz12_2 := fz BK427 2) | ((with_reducible refine gate_callee (f := 60) rfl ?_); refine goesL_ (some 12) rfl rfl Tryd.func60 (by kernel_rfl) rfl #[.int .u64 (IntKind.u64.wrap (a0_1)), .int .i64 (wrap64 (-a0_2))] rfl mS ?_; (with_reducible refine (congr_by.calls k (IntKind.u64.wrap (a0_1)) (wrap64 (-a0_2)) t429 t430 t431 _ A8.out).mono ?_); rintro e w13 ⟨rfl, hb⟩; refine ⟨_, rfl, ?_⟩; replace BK427 := kB BK427 hb; replace BK428 := kB BK428 hb; replace HB := kW HB hb; (try clear hb); (try clear hb2); (try clear hk); (try clear hi); have hcz14_0 := cz0 BK428; have hcz14_1 := cz1 BK428; have hcz14_2 := cz2 BK428; have hfz14_0 := fz BK428 0; have hfz14_1 := fz BK428 1; have hfz14_2 := fz BK428 2))
  refine bodyPost_ret (results_cell_row rfl _ _ gb428 23 #[.bool t429, .int .i64 t430, .int .i64 t431] (0, 0) _ rfl (by (with_reducible repeat (first | refine b1 ?_ _ | refine b2 ?_ | refine b3 ?_ _)); refine blk_put (cs := #[.bool t429, .int .i64 t430, .int .i64 0]) ?_ 2 _ rfl; (with_reducible repeat (first | refine b1 ?_ _ | refine b2 ?_ | refine b3 ?_ _)); refine blk_put (cs := #[.bool t429, .int .i64 0, .int .i64 0]) ?_ 1 _ rfl; (with_reducible repeat (first | refine b1 ?_ _ | refine b2 ?_ | refine b3 ?_ _)); refine blk_put (cs := #[.bool false, .int .i64 0, .int .i64 0]) ?_ 0 _ rfl; (with_reducible repeat (first | refine b1 ?_ _ | refine b2 ?_ | refine b3 ?_ _)); exact BK428.out) Tryd.underlying23 rfl (by kernel_rfl)) rfl ?_
  exact ⟨eS, bS HB⟩

def congr_Abs.j0 : Nat → Bool → Bool → Int → Int → Option (Bool × Int × Int)
 | 0, _, _, _, _ => none
 | k + 1, x9, x442000, x442001, x442002 => if x9 = true then (if x442002 < 0 then ((congr_constant.f (wrap64 (-x442002))).bind fun bt443 => (some (bt443.1, bt443.2.1, bt443.2.2))) else (some (x442000, x442001, x442002))) else ((congr_Neg.f k x442000 x442001 x442002).bind fun bt446 => ((congr_Join.f k x442000 x442001 x442002 bt446.1 bt446.2.1 bt446.2.2).bind fun bt449 => (some (bt449.1, bt449.2.1, bt449.2.2))))
def congr_Abs.f (k : Nat) (a0_0 : Bool) (a0_1 : Int) (a0_2 : Int) : Option (Bool × Int × Int) := if a0_0 = true then (congr_Abs.j0 k true a0_0 a0_1 a0_2) else (congr_Abs.j0 k (a0_1 == 0) a0_0 a0_1 a0_2)
set_option maxHeartbeats 8000000 in
set_option maxRecDepth 100000 in
theorem congr_Abs.calls (k : Nat) (a0_0 : Bool) (a0_1 : Int) (a0_2 : Int) (r1 : Bool) (r2 : Int) (r3 : Int) (w : World) (h : congr_Abs.f k a0_0 a0_1 a0_2 = some (r1, r2, r3)) :
  Calls Tryd.prog 33 #[.agg #[.bool a0_0, .int .i64 a0_1, .int .i64 a0_2]] w fun e w' => e = .returned (.agg #[.bool r1, .int .i64 r2, .int .i64 r3]) ∧ Below w.heap.size w w' := by
 have hu23 := Tryd.underlying23
 have HB := Aside0.mk (Below.refl w.heap.size w)
 have H : (if a0_0 = true then (congr_Abs.j0 k true a0_0 a0_1 a0_2) else (congr_Abs.j0 k (a0_1 == 0) a0_0 a0_1 a0_2)) = some (r1, r2, r3) := h
 clear h
 have HC2 := Aside0.mk H
 clear H
 go_enter Tryd.func33, Tryd.ntmps33
 go_upto_region 1 with (first | ((with_reducible refine gate_dst (N := 1) rfl ?_); refine box_event ?hg (N := 1) ?hd (cs := #[.bool a0_0, .int .i64 a0_1, .int .i64 a0_2]) (t := 23) ?hr ?_; (case hd => rfl); (case hg => rfl); (case hr => first | (go_simp; done) | (go_simp; rfl)); intro gb441 hg w3 hbox hb; have n0_ := kW HB hb; have n1_ := Aside0.mk (hbox); have n2_ := Aside0.mk ((by rw [hg]; exact (below_size (bS HB)) : w.heap.size ≤ gb441)); have n3_ := Aside0.mk ((by rw [hg]; exact (below_size (bS HB)) : w.heap.size ≤ gb441)); clear HB; have HB := n0_; have BK441 := n1_; have GW441 := n2_; have GE441 := n3_; clear n0_ n1_ n2_ n3_; clear hb hbox hg) | ((with_reducible refine gate_dst (N := 2) rfl ?_); refine box_event ?hg (N := 2) ?hd (cs := #[.bool false, .int .i64 0, .int .i64 0]) (t := 23) ?hr ?_; (case hd => rfl); (case hg => rfl); (case hr => first | (go_simp; done) | (go_simp; rfl)); intro gb442 hg w4 hbox hb; have n0_ := kB BK441 hb; have n1_ := kW HB hb; have n2_ := Aside0.mk (hbox); have n3_ := Aside0.mk ((by rw [hg]; exact (below_size (bS HB)) : w.heap.size ≤ gb442)); have n4_ := Aside0.mk ((by rw [hg]; exact (below_size (bS HB)) : w.heap.size ≤ gb442)); have n5_ := Aside0.mk ((by rw [hg]; exact Nat.ne_of_lt (blk_lt (bkS BK441)) : gb441 ≠ gb442)); have n6_ := Aside0.mk ((by rw [hg]; exact Nat.ne_of_gt (blk_lt (bkS BK441)) : gb442 ≠ gb441)); clear BK441; clear HB; have BK441 := n0_; have HB := n1_; have BK442 := n2_; have GW442 := n3_; have GE442 := n4_; have NB441_442 := n5_; have NB442_441 := n6_; clear n0_ n1_ n2_ n3_ n4_ n5_ n6_; clear hb hbox hg))
 (try simp only [Act.put, lA, lB, lC])
 go_cut [9] (fun v9 wc => ∃ (kq : Nat) (x9_1 : Bool), v9 = .bool x9_1 ∧ Aside0 (congr_Abs.j0 kq x9_1 a0_0 a0_1 a0_2 = some (r1, r2, r3)) ∧ Aside0 (kq ≤ k) ∧ Aside0 (wc.heap[gb441]? = some (.cells #[.bool a0_0, .int .i64 a0_1, .int .i64 a0_2] 23 (0, 0))) ∧ Aside0 (wc.heap[gb442]? = some (.cells #[.bool false, .int .i64 0, .int .i64 0] 23 (0, 0))) ∧ Aside0 (Below w.heap.size w wc))
 case first =>
  have H := HC2.out
  clear HC2
  by_cases c5 : a0_0 = true
  ·
   subst c5
   have H1 : (congr_Abs.j0 k true true a0_1 a0_2) = some (r1, r2, r3) := by rw [if_pos rfl] at H; exact H
   clear H
   have H := H1
   clear H1
   have H' := Aside0.mk H
   clear H
   have hnb6 := NB441_442.out
   have hnc6 := NB442_441.out
   have hcz7_0 := cz0 BK441
   have hcz7_1 := cz1 BK441
   have hcz7_2 := cz2 BK441
   have hfz7_0 := fz BK441 0
   have hfz7_1 := fz BK441 1
   have hfz7_2 := fz BK441 2
   go_wp2
   go_meet
   case rel => exact ⟨_, (true), (by first | rfl | (simp; done) | (simp [*]; done)), H', ⟨by first | omega | exact Nat.le_refl _⟩, ⟨bkS BK441⟩, ⟨bkS BK442⟩, ⟨bS HB⟩⟩
  ·
   replace c5 := Bool.eq_false_iff.mpr c5
   subst c5
   have H1 : (congr_Abs.j0 k (a0_1 == 0) false a0_1 a0_2) = some (r1, r2, r3) := by rw [if_neg (show ¬ (false = true) by decide)] at H; exact H
   clear H
   have H := H1
   clear H1
   have H' := Aside0.mk H
   clear H
   have hnb8 := NB441_442.out
   have hnc8 := NB442_441.out
   have hcz9_0 := cz0 BK441
   have hcz9_1 := cz1 BK441
   have hcz9_2 := cz2 BK441
   have hfz9_0 := fz BK441 0
   have hfz9_1 := fz BK441 1
   have hfz9_2 := fz BK441 2
   go_wp2
   go_meet
   case rel => exact ⟨_, ((a0_1 == 0)), (by first | rfl | (simp; done) | (simp [*]; done)), H', ⟨by first | omega | exact Nat.le_refl _⟩, ⟨bkS BK441⟩, ⟨bkS BK442⟩, ⟨bS HB⟩⟩
 case rest =>
  clear HC2
  try clear p2
  try clear c3
  try clear c5
  try clear c6
  try clear c8
  try clear hcz7_0
  try clear hcz7_1
  try clear hcz7_2
  try clear hcz9_0
  try clear hcz9_1
  try clear hcz9_2
  try clear hfz7_0
  try clear hfz7_1
  try clear hfz7_2
  try clear hfz9_0
  try clear hfz9_1
  try clear hfz9_2
  obtain ⟨kq, x9_1, rfl, HA, HJ1, BK441, BK442, HB⟩ := hcut
  cases kq with
  | zero => exact absurd HA.out (by simp [congr_Abs.j0])
  | succ kj1 =>
   have H := HA.out
   clear HA
   simp only [congr_Abs.j0] at H
   by_cases c10 : x9_1 = true
   ·
    subst c10
    have H1 : (if a0_2 < 0 then ((congr_constant.f (wrap64 (-a0_2))).bind fun bt443 => (some (bt443.1, bt443.2.1, bt443.2.2))) else (some (a0_0, a0_1, a0_2))) = some (r1, r2, r3) := by rw [if_pos rfl] at H; exact H
    clear H
    have H := H1
    clear H1
    by_cases c11 : a0_2 < 0
    ·
     rw [if_pos c11] at H
     have c11b0 : decide (a0_2 < 0) = true := decide_eq_true c11
     clear c11
     replace H := Option.bind_eq_some_iff.mp H
     obtain ⟨⟨t443, t444, t445⟩, A120, H⟩ := H
     replace H : (some (t443, t444, t445)) = some (r1, r2, r3) := H
     have A12 := Aside0.mk A120
     clear A120
     simp only [Option.some.injEq, Prod.mk.injEq] at H
     obtain ⟨rfl, rfl, rfl⟩ := H
     have hnb13 := NB441_442.out
     have hnc13 := NB442_441.out
     have hcz14_0 : wc.cell? ⟨gb441, 0, none⟩ = some (.bool a0_0) := cz0 BK441
     have hcz14_1 : wc.cell? ⟨gb441, 1, none⟩ = some (.int .i64 a0_1) := cz1 BK441
     have hcz14_2 : wc.cell? ⟨gb441, 2, none⟩ = some (.int .i64 a0_2) := cz2 BK441
     have hfz14_0 := fz BK441 0
     have hfz14_1 := fz BK441 1
     have hfz14_2 := fz BK441 2
     go_wp2_with (first | ((with_reducible refine gate_callee (f := 50) rfl ?_); refine goesL_ (some 16) rfl rfl Tryd.func50 (by kernel_rfl) rfl #[.int .i64 (wrap64 (-a0_2))] rfl mS ?_; (with_reducible refine (congr_constant.calls (wrap64 (-a0_2)) t443 t444 t445 _ A12.out).mono ?_); rintro e w15 ⟨rfl, hb⟩; refine ⟨_, rfl, ?_⟩; replace BK441 := kB BK441 hb; replace BK442 := kB BK442 hb; replace HB := kW HB hb; (try clear hb); (try clear hb2); (try clear hk); (try clear hi); have hcz16_0 := cz0 BK442; have hcz16_1 := cz1 BK442; have hcz16_2 := cz2 BK442; have hfz16_0 := fz BK442 0; have hfz16_1 := fz BK442 1; have hfz16_2 := fz BK442 2))
     refine bodyPost_ret (results_cell_row rfl _ _ gb442 23 #[.bool t443, .int .i64 t444, .int .i64 t445] (0, 0) _ rfl (by (with_reducible repeat (first | refine b1 ?_ _ | refine b2 ?_ | refine b3 ?_ _)); refine blk_put (cs := #[.bool t443, .int .i64 t444, .int .i64 0]) ?_ 2 _ rfl; (with_reducible repeat (first | refine b1 ?_ _ | refine b2 ?_ | refine b3 ?_ _)); refine blk_put (cs := #[.bool t443, .int .i64 0, .int .i64 0]) ?_ 1 _ rfl; (with_reducible repeat (first | refine b1 ?_ _ | refine b2 ?_ | refine b3 ?_ _)); refine blk_put (cs := #[.bool false, .int .i64 0, .int .i64 0]) ?_ 0 _ rfl; (with_reducible repeat (first | refine b1 ?_ _ | refine b2 ?_ | refine b3 ?_ _)); exact BK442.out) Tryd.underlying23 rfl (by kernel_rfl)) rfl ?_
     exact ⟨eS, bS HB⟩
    ·
     rw [if_neg c11] at H
     have c11b0 : decide (a0_2 < 0) = false := decide_eq_false c11
     clear c11
     simp only [Option.some.injEq, Prod.mk.injEq] at H
     obtain ⟨rfl, rfl, rfl⟩ := H
     have hnb17 := NB441_442.out
     have hnc17 := NB442_441.out
     have hcz18_0 : wc.cell? ⟨gb441, 0, none⟩ = some (.bool a0_0) := cz0 BK441
     have hcz18_1 : wc.cell? ⟨gb441, 1, none⟩ = some (.int .i64 a0_1) := cz1 BK441
     have hcz18_2 : wc.cell? ⟨gb441, 2, none⟩ = some (.int .i64 a0_2) := cz2 BK441
     have hfz18_0 := fz BK441 0
     have hfz18_1 := fz BK441 1
     have hfz18_2 := fz BK441 2
     have hcz19_0 : wc.cell? ⟨gb442, 0, none⟩ = some (.bool false) := cz0 BK442
     have hcz19_1 : wc.cell? ⟨gb442, 1, none⟩ = some (.int .i64 0) := cz1 BK442
     have hcz19_2 : wc.cell? ⟨gb442, 2, none⟩ = some (.int .i64 0) := cz2 BK442
     have hfz19_0 := fz BK442 0
     have hfz19_1 := fz BK442 1
     have hfz19_2 := fz BK442 2
     go_wp2
     refine bodyPost_ret (results_cell_row rfl _ _ gb442 23 #[.bool a0_0, .int .i64 a0_1, .int .i64 a0_2] (0, 0) _ rfl (by (with_reducible repeat (first | refine b1 ?_ _ | refine b2 ?_ | refine b3 ?_ _)); refine blk_put (cs := #[.bool a0_0, .int .i64 a0_1, .int .i64 0]) ?_ 2 _ rfl; (with_reducible repeat (first | refine b1 ?_ _ | refine b2 ?_ | refine b3 ?_ _)); refine blk_put (cs := #[.bool a0_0, .int .i64 0, .int .i64 0]) ?_ 1 _ rfl; (with_reducible repeat (first | refine b1 ?_ _ | refine b2 ?_ | refine b3 ?_ _)); refine blk_put (cs := #[.bool false, .int .i64 0, .int .i64 0]) ?_ 0 _ rfl; (with_reducible repeat (first | refine b1 ?_ _ | refine b2 ?_ | refine b3 ?_ _)); exact BK442.out) Tryd.underlying23 rfl (by kernel_rfl)) rfl ?_
     exact ⟨eS, bS HB⟩
   ·
    replace c10 := Bool.eq_false_iff.mpr c10
    subst c10
    have H1 : ((congr_Neg.f kj1 a0_0 a0_1 a0_2).bind fun bt446 => ((congr_Join.f kj1 a0_0 a0_1 a0_2 bt446.1 bt446.2.1 bt446.2.2).bind fun bt449 => (some (bt449.1, bt449.2.1, bt449.2.2)))) = some (r1, r2, r3) := by rw [if_neg (show ¬ (false = true) by decide)] at H; exact H
    clear H
    have H := H1
    clear H1
    replace H := Option.bind_eq_some_iff.mp H
    obtain ⟨⟨t446, t447, t448⟩, A200, H⟩ := H
    replace H : ((congr_Join.f kj1 a0_0 a0_1 a0_2 t446 t447 t448).bind fun bt449 => (some (bt449.1, bt449.2.1, bt449.2.2))) = some (r1, r2, r3) := H
    have A20 := Aside0.mk A200
    clear A200
    replace H := Option.bind_eq_some_iff.mp H
    obtain ⟨⟨t449, t450, t451⟩, A210, H⟩ := H
    replace H : (some (t449, t450, t451)) = some (r1, r2, r3) := H
    have A21 := Aside0.mk A210
    clear A210
    simp only [Option.some.injEq, Prod.mk.injEq] at H
    obtain ⟨rfl, rfl, rfl⟩ := H
    try go_wp2
    replace BK441 := Aside0.mk (blk_drew BK441.out)
    replace BK442 := Aside0.mk (blk_drew BK442.out)
    replace HB := Aside0.mk (below_drew1 HB.out)
    refine start_ (n := 5) (S := fun w' => w'.cell? ⟨gb441, 0, none⟩ = some (.bool a0_0) ∧ w'.cell? ⟨gb441, 1, none⟩ = some (.int .i64 a0_1) ∧ w'.cell? ⟨gb441, 2, none⟩ = some (.int .i64 a0_2)) (ds := []) #[false, false, false, false, false] (by kernel_rfl) rfl rfl ⟨cz0 BK441, cz1 BK441, cz2 BK441⟩ (fun hHeld => ?_)
    generalize wc.drew = w22 at BK441 BK442 HB hHeld ⊢
    refine take_ (i := 0) (N := some 18) (v := ?_) (a' := ?_) #[true, false, false, false, false] rfl rfl (by kernel_rfl) (fun _ _ _ h => h) (Or.inl ⟨by rfl, ?_⟩) hHeld ?_ ?_
    rotate_left
    ·
     rintro w' ⟨s0, s1, s2⟩
     go_simp
     with_reducible rfl
    rotate_left
    ·
     simp only [Act.put, lA, lB, lC, i64_w, i32_w]
     rfl
    refine take_ (i := 1) (N := some 19) (v := ?_) (a' := ?_) #[true, true, false, false, false] rfl rfl (by kernel_rfl) (fun _ _ _ h => h) (Or.inl ⟨by rfl, ?_⟩) hHeld ?_ ?_
    rotate_left
    ·
     rintro w' ⟨s0, s1, s2⟩
     go_simp
     with_reducible rfl
    rotate_left
    ·
     simp only [Act.put, lA, lB, lC, i64_w, i32_w]
     rfl
    refine one_ (i := 2) (N := some 20) #[true, true, true, false, false] rfl rfl (by kernel_rfl) (by decide) (fun K hK => ?_)
    refine goes_ Tryd.func31 (by kernel_rfl) rfl #[.agg #[.bool a0_0, .int .i64 a0_1, .int .i64 a0_2]] (by rfl) rfl rfl mS ?_
    with_reducible refine (congr_Neg.calls kj1 a0_0 a0_1 a0_2 t446 t447 t448 _ A20.out).mono ?_
    rintro e w23 ⟨rfl, hb⟩
    refine ⟨_, rfl, ?_⟩
    replace BK441 := kB BK441 hb
    replace BK442 := kB BK442 hb
    replace HB := kW HB hb
    (try clear hb)
    (try clear hb2)
    (try clear hk)
    (try clear hi)
    refine hK.out _ _ ⟨cz0 BK441, cz1 BK441, cz2 BK441⟩ (fun hHeld => ?_)
    clear hK K
    refine norm_ (a' := ?_) ?_ ?_
    rotate_left
    ·
     show Act.put _ (some 20) _ = _
     simp only [Act.put, lA, lB, lC, i64_w, i32_w]
     rfl
    refine one_ (i := 3) (N := some 21) #[true, true, true, true, false] rfl rfl (by kernel_rfl) (by decide) (fun K hK => ?_)
    refine goes_ Tryd.func19 (by kernel_rfl) rfl #[.agg #[.bool a0_0, .int .i64 a0_1, .int .i64 a0_2], .agg #[.bool t446, .int .i64 t447, .int .i64 t448]] (by rfl) rfl rfl mS ?_
    with_reducible refine (congr_Join.calls kj1 a0_0 a0_1 a0_2 t446 t447 t448 t449 t450 t451 _ A21.out).mono ?_
    rintro e w24 ⟨rfl, hb⟩
    refine ⟨_, rfl, ?_⟩
    replace BK441 := kB BK441 hb
    replace BK442 := kB BK442 hb
    replace HB := kW HB hb
    (try clear hb)
    (try clear hb2)
    (try clear hk)
    (try clear hi)
    refine hK.out _ _ ⟨cz0 BK441, cz1 BK441, cz2 BK441⟩ (fun hHeld => ?_)
    clear hK K
    refine norm_ (a' := ?_) ?_ ?_
    rotate_left
    ·
     show Act.put _ (some 21) _ = _
     simp only [Act.put, lA, lB, lC, i64_w, i32_w]
     rfl
    refine one_ (i := 4) (N := none) #[true, true, true, true, true] rfl rfl (by kernel_rfl) (by decide) (fun K hK => ?_)
    have hs25 : w24.cell? ⟨gb442, 0, none⟩ = some (.bool false) := cz0 BK442
    have hfs25 := fz BK442 0
    have hns25_0 := NB441_442.out
    have hms25_0 := NB442_441.out
    have hs26 : w24.cell? ⟨gb442, 1, none⟩ = some (.int .i64 0) := cz1 BK442
    have hfs26 := fz BK442 1
    have hns26_0 := NB441_442.out
    have hms26_0 := NB442_441.out
    have hs27 : w24.cell? ⟨gb442, 2, none⟩ = some (.int .i64 0) := cz2 BK442
    have hfs27 := fz BK442 2
    have hns27_0 := NB441_442.out
    have hms27_0 := NB442_441.out
    refine skip_ (w1 := ?_) (by rfl) rfl ?_ ?_
    rotate_left
    ·
     go_simp
     rfl
    refine hK.out _ _ ⟨((cell_far (p := ⟨gb442, _, none⟩) NB441_442.out _).trans (((cell_far (p := ⟨gb442, _, none⟩) NB441_442.out _).trans (((cell_far (p := ⟨gb442, _, none⟩) NB441_442.out _).trans (hHeld.1)))))), ((cell_far (p := ⟨gb442, _, none⟩) NB441_442.out _).trans (((cell_far (p := ⟨gb442, _, none⟩) NB441_442.out _).trans (((cell_far (p := ⟨gb442, _, none⟩) NB441_442.out _).trans (hHeld.2.1)))))), ((cell_far (p := ⟨gb442, _, none⟩) NB441_442.out _).trans (((cell_far (p := ⟨gb442, _, none⟩) NB441_442.out _).trans (((cell_far (p := ⟨gb442, _, none⟩) NB441_442.out _).trans (hHeld.2.2))))))⟩ (fun hHeld => ?_)
    clear hK K
    refine done_ (by kernel_rfl) ?_
    try go_wp2
    refine bodyPost_ret (results_cell_row rfl _ _ gb442 23 #[.bool t449, .int .i64 t450, .int .i64 t451] (0, 0) _ rfl (by (with_reducible repeat (first | refine b1 ?_ _ | refine b2 ?_ | refine b3 ?_ _)); refine blk_put (cs := #[.bool t449, .int .i64 t450, .int .i64 0]) ?_ 2 _ rfl; (with_reducible repeat (first | refine b1 ?_ _ | refine b2 ?_ | refine b3 ?_ _)); refine blk_put (cs := #[.bool t449, .int .i64 0, .int .i64 0]) ?_ 1 _ rfl; (with_reducible repeat (first | refine b1 ?_ _ | refine b2 ?_ | refine b3 ?_ _)); refine blk_put (cs := #[.bool false, .int .i64 0, .int .i64 0]) ?_ 0 _ rfl; (with_reducible repeat (first | refine b1 ?_ _ | refine b2 ?_ | refine b3 ?_ _)); exact BK442.out) Tryd.underlying23 rfl (by kernel_rfl)) rfl ?_
    exact ⟨eS, bS HB⟩

def congr_Add.j0 : Nat → Bool → Bool → Int → Int → Bool → Int → Int → Option (Bool × Int × Int)
 | 0, _, _, _, _, _, _, _ => none
 | k + 1, x10, x467000, x467001, x467002, x468000, x468001, x468002 => if x10 = true then ((congr_none.f).bind fun bt469 => (some (bt469.1, bt469.2.1, bt469.2.2))) else ((congr_gcd_uint64.f k (IntKind.u64.wrap (x467001)) (IntKind.u64.wrap (x468001))).bind fun t472 => ((congr_by.f k t472 (wrap64 (x467002 + x468002))).bind fun bt473 => (some (bt473.1, bt473.2.1, bt473.2.2))))
def congr_Add.f (k : Nat) (a0_0 : Bool) (a0_1 : Int) (a0_2 : Int) (a1_0 : Bool) (a1_1 : Int) (a1_2 : Int) : Option (Bool × Int × Int) := if a0_0 = true then (congr_Add.j0 k true a0_0 a0_1 a0_2 a1_0 a1_1 a1_2) else (congr_Add.j0 k a1_0 a0_0 a0_1 a0_2 a1_0 a1_1 a1_2)
def congr_Add.T3 : Bool × List (List Nat × List Nat) := (true, [([], []), ([0], [0]), ([1], [1]), ([], []), ([3], [3]), ([4], [4]), ([2, 5], [2, 5]), ([], []), ([7], [7]), ([], []), ([9], [9]), ([8, 10], [8, 10]), ([6, 11, 6], [6, 11]), ([12, 12, 0, 1, 2, 3, 4, 5, 6, 7, 8, 9, 10, 11, 12], [12])])
def congr_Add.B3 : List Nat := [0, 1, 3, 0, 8, 24, 63, 0, 128, 0, 512, 1920, 4095, 8191]
theorem congr_Add.tab3 : rtab .any (opsOf Tryd.f35 3) = congr_Add.T3 := by kernel_rfl
theorem congr_Add.bits3 : waitsOk congr_Add.T3.2 congr_Add.B3 = true := by kernel_rfl
set_option maxHeartbeats 8000000 in
set_option maxRecDepth 100000 in
theorem congr_Add.calls (k : Nat) (a0_0 : Bool) (a0_1 : Int) (a0_2 : Int) (a1_0 : Bool) (a1_1 : Int) (a1_2 : Int) (r1 : Bool) (r2 : Int) (r3 : Int) (w : World) (h : congr_Add.f k a0_0 a0_1 a0_2 a1_0 a1_1 a1_2 = some (r1, r2, r3)) :
  Calls Tryd.prog 35 #[.agg #[.bool a0_0, .int .i64 a0_1, .int .i64 a0_2], .agg #[.bool a1_0, .int .i64 a1_1, .int .i64 a1_2]] w fun e w' => e = .returned (.agg #[.bool r1, .int .i64 r2, .int .i64 r3]) ∧ Below w.heap.size w w' := by
 have hu23 := Tryd.underlying23
 have HB := Aside0.mk (Below.refl w.heap.size w)
 have H : (if a0_0 = true then (congr_Add.j0 k true a0_0 a0_1 a0_2 a1_0 a1_1 a1_2) else (congr_Add.j0 k a1_0 a0_0 a0_1 a0_2 a1_0 a1_1 a1_2)) = some (r1, r2, r3) := h
 clear h
 have HC3 := Aside0.mk H
 clear H
 go_enter Tryd.func35, Tryd.ntmps35
 go_upto_region 1 with (first | ((with_reducible refine gate_dst (N := 2) rfl ?_); refine box_event ?hg (N := 2) ?hd (cs := #[.bool a0_0, .int .i64 a0_1, .int .i64 a0_2]) (t := 23) ?hr ?_; (case hd => rfl); (case hg => rfl); (case hr => first | (go_simp; done) | (go_simp; rfl)); intro gb466 hg w4 hbox hb; have n0_ := kW HB hb; have n1_ := Aside0.mk (hbox); have n2_ := Aside0.mk ((by rw [hg]; exact (below_size (bS HB)) : w.heap.size ≤ gb466)); have n3_ := Aside0.mk ((by rw [hg]; exact (below_size (bS HB)) : w.heap.size ≤ gb466)); clear HB; have HB := n0_; have BK466 := n1_; have GW466 := n2_; have GE466 := n3_; clear n0_ n1_ n2_ n3_; clear hb hbox hg) | ((with_reducible refine gate_dst (N := 3) rfl ?_); refine box_event ?hg (N := 3) ?hd (cs := #[.bool a1_0, .int .i64 a1_1, .int .i64 a1_2]) (t := 23) ?hr ?_; (case hd => rfl); (case hg => rfl); (case hr => first | (go_simp; done) | (go_simp; rfl)); intro gb467 hg w5 hbox hb; have n0_ := kB BK466 hb; have n1_ := kW HB hb; have n2_ := Aside0.mk (hbox); have n3_ := Aside0.mk ((by rw [hg]; exact (below_size (bS HB)) : w.heap.size ≤ gb467)); have n4_ := Aside0.mk ((by rw [hg]; exact (below_size (bS HB)) : w.heap.size ≤ gb467)); have n5_ := Aside0.mk ((by rw [hg]; exact Nat.ne_of_lt (blk_lt (bkS BK466)) : gb466 ≠ gb467)); have n6_ := Aside0.mk ((by rw [hg]; exact Nat.ne_of_gt (blk_lt (bkS BK466)) : gb467 ≠ gb466)); clear BK466; clear HB; have BK466 := n0_; have HB := n1_; have BK467 := n2_; have GW467 := n3_; have GE467 := n4_; have NB466_467 := n5_; have NB467_466 := n6_; clear n0_ n1_ n2_ n3_ n4_ n5_ n6_; clear hb hbox hg) | ((with_reducible refine gate_dst (N := 4) rfl ?_); refine box_event ?hg (N := 4) ?hd (cs := #[.bool false, .int .i64 0, .int .i64 0]) (t := 23) ?hr ?_; (case hd => rfl); (case hg => rfl); (case hr => first | (go_simp; done) | (go_simp; rfl)); intro gb468 hg w6 hbox hb; have n0_ := kB BK466 hb; have n1_ := kB BK467 hb; have n2_ := kW HB hb; have n3_ := Aside0.mk (hbox); have n4_ := Aside0.mk ((by rw [hg]; exact (below_size (bS HB)) : w.heap.size ≤ gb468)); have n5_ := Aside0.mk ((by rw [hg]; exact (below_size (bS HB)) : w.heap.size ≤ gb468)); have n6_ := Aside0.mk ((by rw [hg]; exact Nat.ne_of_lt (blk_lt (bkS BK466)) : gb466 ≠ gb468)); have n7_ := Aside0.mk ((by rw [hg]; exact Nat.ne_of_gt (blk_lt (bkS BK466)) : gb468 ≠ gb466)); have n8_ := Aside0.mk ((by rw [hg]; exact Nat.ne_of_lt (blk_lt (bkS BK467)) : gb467 ≠ gb468)); have n9_ := Aside0.mk ((by rw [hg]; exact Nat.ne_of_gt (blk_lt (bkS BK467)) : gb468 ≠ gb467)); clear BK466; clear BK467; clear HB; have BK466 := n0_; have BK467 := n1_; have HB := n2_; have BK468 := n3_; have GW468 := n4_; have GE468 := n5_; have NB466_468 := n6_; have NB468_466 := n7_; have NB467_468 := n8_; have NB468_467 := n9_; clear n0_ n1_ n2_ n3_ n4_ n5_ n6_ n7_ n8_ n9_; clear hb hbox hg))
 (try simp only [Act.put, lA, lB, lC])
 go_cut [10] (fun v10 wc => ∃ (kq : Nat) (x10_2 : Bool), v10 = .bool x10_2 ∧ Aside0 (congr_Add.j0 kq x10_2 a0_0 a0_1 a0_2 a1_0 a1_1 a1_2 = some (r1, r2, r3)) ∧ Aside0 (kq ≤ k) ∧ Aside0 (wc.heap[gb466]? = some (.cells #[.bool a0_0, .int .i64 a0_1, .int .i64 a0_2] 23 (0, 0))) ∧ Aside0 (wc.heap[gb467]? = some (.cells #[.bool a1_0, .int .i64 a1_1, .int .i64 a1_2] 23 (0, 0))) ∧ Aside0 (wc.heap[gb468]? = some (.cells #[.bool false, .int .i64 0, .int .i64 0] 23 (0, 0))) ∧ Aside0 (Below w.heap.size w wc))
 case first =>
  have H := HC3.out
  clear HC3
  by_cases c7 : a0_0 = true
  ·
   subst c7
   have H1 : (congr_Add.j0 k true true a0_1 a0_2 a1_0 a1_1 a1_2) = some (r1, r2, r3) := by rw [if_pos rfl] at H; exact H
   clear H
   have H := H1
   clear H1
   have H' := Aside0.mk H
   clear H
   have hnb8 := NB466_467.out
   have hnc8 := NB467_466.out
   have hnb9 := NB466_468.out
   have hnc9 := NB468_466.out
   have hcz10_0 := cz0 BK466
   have hcz10_1 := cz1 BK466
   have hcz10_2 := cz2 BK466
   have hfz10_0 := fz BK466 0
   have hfz10_1 := fz BK466 1
   have hfz10_2 := fz BK466 2
   go_wp2
   go_meet
   case rel => exact ⟨_, (true), (by first | rfl | (simp; done) | (simp [*]; done)), H', ⟨by first | omega | exact Nat.le_refl _⟩, ⟨bkS BK466⟩, ⟨bkS BK467⟩, ⟨bkS BK468⟩, ⟨bS HB⟩⟩
  ·
   replace c7 := Bool.eq_false_iff.mpr c7
   subst c7
   have H1 : (congr_Add.j0 k a1_0 false a0_1 a0_2 a1_0 a1_1 a1_2) = some (r1, r2, r3) := by rw [if_neg (show ¬ (false = true) by decide)] at H; exact H
   clear H
   have H := H1
   clear H1
   have H' := Aside0.mk H
   clear H
   have hnb11 := NB466_467.out
   have hnc11 := NB467_466.out
   have hnb12 := NB466_468.out
   have hnc12 := NB468_466.out
   have hcz13_0 := cz0 BK466
   have hcz13_1 := cz1 BK466
   have hcz13_2 := cz2 BK466
   have hfz13_0 := fz BK466 0
   have hfz13_1 := fz BK466 1
   have hfz13_2 := fz BK466 2
   have hnb14 := NB467_468.out
   have hnc14 := NB468_467.out
   have hcz15_0 := cz0 BK467
   have hcz15_1 := cz1 BK467
   have hcz15_2 := cz2 BK467
   have hfz15_0 := fz BK467 0
   have hfz15_1 := fz BK467 1
   have hfz15_2 := fz BK467 2
   go_wp2
   go_meet
   case rel => exact ⟨_, (a1_0), (by first | rfl | (simp; done) | (simp [*]; done)), H', ⟨by first | omega | exact Nat.le_refl _⟩, ⟨bkS BK466⟩, ⟨bkS BK467⟩, ⟨bkS BK468⟩, ⟨bS HB⟩⟩
 case rest =>
  clear HC3
  try clear c1
  try clear p2
  try clear c3
  try clear c7
  try clear c8
  try clear c9
  try clear c11
  try clear c12
  try clear c14
  try clear hcz10_0
  try clear hcz10_1
  try clear hcz10_2
  try clear hcz13_0
  try clear hcz13_1
  try clear hcz13_2
  try clear hcz15_0
  try clear hcz15_1
  try clear hcz15_2
  try clear hfz10_0
  try clear hfz10_1
  try clear hfz10_2
  try clear hfz13_0
  try clear hfz13_1
  try clear hfz13_2
  try clear hfz15_0
  try clear hfz15_1
  try clear hfz15_2
  obtain ⟨kq, x10_2, rfl, HA, HJ2, BK466, BK467, BK468, HB⟩ := hcut
  cases kq with
  | zero => exact absurd HA.out (by simp [congr_Add.j0])
  | succ kj2 =>
   have H := HA.out
   clear HA
   simp only [congr_Add.j0] at H
   by_cases c16 : x10_2 = true
   ·
    subst c16
    have H1 : ((congr_none.f).bind fun bt469 => (some (bt469.1, bt469.2.1, bt469.2.2))) = some (r1, r2, r3) := by rw [if_pos rfl] at H; exact H
    clear H
    have H := H1
    clear H1
    replace H := Option.bind_eq_some_iff.mp H
    obtain ⟨⟨t469, t470, t471⟩, A170, H⟩ := H
    replace H : (some (t469, t470, t471)) = some (r1, r2, r3) := H
    have A17 := Aside0.mk A170
    clear A170
    simp only [Option.some.injEq, Prod.mk.injEq] at H
    obtain ⟨rfl, rfl, rfl⟩ := H
    go_wp2_with (first | ((with_reducible refine gate_callee (f := 56) rfl ?_); refine goesL_ (some 11) rfl rfl Tryd.func56 (by kernel_rfl) rfl #[] rfl mS ?_; (with_reducible refine (congr_none.calls  t469 t470 t471 _ A17.out).mono ?_); rintro e w18 ⟨rfl, hb⟩; refine ⟨_, rfl, ?_⟩; replace BK466 := kB BK466 hb; replace BK467 := kB BK467 hb; replace BK468 := kB BK468 hb; replace HB := kW HB hb; (try clear hb); (try clear hb2); (try clear hk); (try clear hi); have hnb19 := NB468_466.out; have hnc19 := NB466_468.out; have hnb20 := NB468_467.out; have hnc20 := NB467_468.out; have hcz21_0 := cz0 BK468; have hcz21_1 := cz1 BK468; have hcz21_2 := cz2 BK468; have hfz21_0 := fz BK468 0; have hfz21_1 := fz BK468 1; have hfz21_2 := fz BK468 2))
    refine bodyPost_ret (results_cell_row rfl _ _ gb468 23 #[.bool t469, .int .i64 t470, .int .i64 t471] (0, 0) _ rfl (by (with_reducible repeat (first | refine b1 ?_ _ | refine b2 ?_ | refine b3 ?_ _)); refine blk_put (cs := #[.bool t469, .int .i64 t470, .int .i64 0]) ?_ 2 _ rfl; (with_reducible repeat (first | refine b1 ?_ _ | refine b2 ?_ | refine b3 ?_ _)); refine blk_put (cs := #[.bool t469, .int .i64 0, .int .i64 0]) ?_ 1 _ rfl; (with_reducible repeat (first | refine b1 ?_ _ | refine b2 ?_ | refine b3 ?_ _)); refine blk_put (cs := #[.bool false, .int .i64 0, .int .i64 0]) ?_ 0 _ rfl; (with_reducible repeat (first | refine b1 ?_ _ | refine b2 ?_ | refine b3 ?_ _)); exact BK468.out) Tryd.underlying23 rfl (by kernel_rfl)) rfl ?_
    exact ⟨eS, bS HB⟩
   ·
    replace c16 := Bool.eq_false_iff.mpr c16
    subst c16
    have H1 : ((congr_gcd_uint64.f kj2 (IntKind.u64.wrap (a0_1)) (IntKind.u64.wrap (a1_1))).bind fun t472 => ((congr_by.f kj2 t472 (wrap64 (a0_2 + a1_2))).bind fun bt473 => (some (bt473.1, bt473.2.1, bt473.2.2)))) = some (r1, r2, r3) := by rw [if_neg (show ¬ (false = true) by decide)] at H; exact H
    clear H
    have H := H1
    clear H1
    replace H := Option.bind_eq_some_iff.mp H
    obtain ⟨t472, A220, H⟩ := H
    replace H : ((congr_by.f kj2 t472 (wrap64 (a0_2 + a1_2))).bind fun bt473 => (some (bt473.1, bt473.2.1, bt473.2.2))) = some (r1, r2, r3) := H
    have A22 := Aside0.mk A220
    clear A220
    replace H := Option.bind_eq_some_iff.mp H
    obtain ⟨⟨t473, t474, t475⟩, A230, H⟩ := H
    replace H : (some (t473, t474, t475)) = some (r1, r2, r3) := H
    have A23 := Aside0.mk A230
    clear A230
    simp only [Option.some.injEq, Prod.mk.injEq] at H
    obtain ⟨rfl, rfl, rfl⟩ := H
    try go_wp2
    replace BK466 := Aside0.mk (blk_drew BK466.out)
    replace BK467 := Aside0.mk (blk_drew BK467.out)
    replace BK468 := Aside0.mk (blk_drew BK468.out)
    replace HB := Aside0.mk (below_drew1 HB.out)
    refine start_ (n := 14) (S := fun w' => w'.cell? ⟨gb466, 0, none⟩ = some (.bool a0_0) ∧ w'.cell? ⟨gb466, 1, none⟩ = some (.int .i64 a0_1) ∧ w'.cell? ⟨gb466, 2, none⟩ = some (.int .i64 a0_2) ∧ w'.cell? ⟨gb467, 0, none⟩ = some (.bool a1_0) ∧ w'.cell? ⟨gb467, 1, none⟩ = some (.int .i64 a1_1) ∧ w'.cell? ⟨gb467, 2, none⟩ = some (.int .i64 a1_2)) (ds := []) #[false, false, false, false, false, false, false, false, false, false, false, false, false, false] (by kernel_rfl) rfl rfl ⟨cz0 BK466, cz1 BK466, cz2 BK466, cz0 BK467, cz1 BK467, cz2 BK467⟩ (fun hHeld => ?_); refine with_tabW congr_Add.tab3 congr_Add.bits3 (fun HT_ HW_ => ?_)
    generalize wc.drew = w24 at BK466 BK467 BK468 HB hHeld ⊢
    refine pure_ (i := 0) (N := some 12) (v := ?_) (a' := ?_) #[true, false, false, false, false, false, false, false, false, false, false, false, false, false] rfl rfl (any_of HT_.out (by kernel_rfl)) (fun _ _ _ h => h) (Or.inl ⟨by rfl, ?_⟩) ?_ ?_
    rotate_left
    ·
     intro w'
     go_simp
     with_reducible rfl
    rotate_left
    ·
     simp only [Act.put, lA, lB, lC, i64_w, i32_w]
     rfl
    refine pure_ (i := 3) (N := some 15) (v := ?_) (a' := ?_) #[true, false, false, true, false, false, false, false, false, false, false, false, false, false] rfl rfl (any_of HT_.out (by kernel_rfl)) (fun _ _ _ h => h) (Or.inl ⟨by rfl, ?_⟩) ?_ ?_
    rotate_left
    ·
     intro w'
     go_simp
     with_reducible rfl
    rotate_left
    ·
     simp only [Act.put, lA, lB, lC, i64_w, i32_w]
     rfl
    refine pure_ (i := 7) (N := some 19) (v := ?_) (a' := ?_) #[true, false, false, true, false, false, false, true, false, false, false, false, false, false] rfl rfl (any_of HT_.out (by kernel_rfl)) (fun _ _ _ h => h) (Or.inl ⟨by rfl, ?_⟩) ?_ ?_
    rotate_left
    ·
     intro w'
     go_simp
     with_reducible rfl
    rotate_left
    ·
     simp only [Act.put, lA, lB, lC, i64_w, i32_w]
     rfl
    refine pure_ (i := 9) (N := some 21) (v := ?_) (a' := ?_) #[true, false, false, true, false, false, false, true, false, true, false, false, false, false] rfl rfl (any_of HT_.out (by kernel_rfl)) (fun _ _ _ h => h) (Or.inl ⟨by rfl, ?_⟩) ?_ ?_
    rotate_left
    ·
     intro w'
     go_simp
     with_reducible rfl
    rotate_left
    ·
     simp only [Act.put, lA, lB, lC, i64_w, i32_w]
     rfl
    refine take_ (i := 1) (N := some 13) (v := ?_) (a' := ?_) #[true, true, false, true, false, false, false, true, false, true, false, false, false, false] rfl rfl (take_ofW HT_.out HW_.out (by kernel_rfl)) (fun _ _ _ h => h) (Or.inl ⟨by rfl, ?_⟩) hHeld ?_ ?_
    rotate_left
    ·
     rintro w' ⟨s0, s1, s2, s3, s4, s5⟩
     go_simp
     with_reducible rfl
    rotate_left
    ·
     simp only [Act.put, lA, lB, lC, i64_w, i32_w]
     rfl
    refine pure_ (i := 2) (N := some 14) (v := ?_) (a' := ?_) #[true, true, true, true, false, false, false, true, false, true, false, false, false, false] rfl rfl (any_of HT_.out (by kernel_rfl)) (fun _ _ _ h => h) (Or.inl ⟨by rfl, ?_⟩) ?_ ?_
    rotate_left
    ·
     intro w'
     go_simp
     with_reducible rfl
    rotate_left
    ·
     simp only [Act.put, lA, lB, lC, i64_w, i32_w]
     rfl
    refine take_ (i := 4) (N := some 16) (v := ?_) (a' := ?_) #[true, true, true, true, true, false, false, true, false, true, false, false, false, false] rfl rfl (take_ofW HT_.out HW_.out (by kernel_rfl)) (fun _ _ _ h => h) (Or.inl ⟨by rfl, ?_⟩) hHeld ?_ ?_
    rotate_left
    ·
     rintro w' ⟨s0, s1, s2, s3, s4, s5⟩
     go_simp
     with_reducible rfl
    rotate_left
    ·
     simp only [Act.put, lA, lB, lC, i64_w, i32_w]
     rfl
    refine pure_ (i := 5) (N := some 17) (v := ?_) (a' := ?_) #[true, true, true, true, true, true, false, true, false, true, false, false, false, false] rfl rfl (any_of HT_.out (by kernel_rfl)) (fun _ _ _ h => h) (Or.inl ⟨by rfl, ?_⟩) ?_ ?_
    rotate_left
    ·
     intro w'
     go_simp
     with_reducible rfl
    rotate_left
    ·
     simp only [Act.put, lA, lB, lC, i64_w, i32_w]
     rfl
    refine take_ (i := 8) (N := some 20) (v := ?_) (a' := ?_) #[true, true, true, true, true, true, false, true, true, true, false, false, false, false] rfl rfl (take_ofW HT_.out HW_.out (by kernel_rfl)) (fun _ _ _ h => h) (Or.inl ⟨by rfl, ?_⟩) hHeld ?_ ?_
    rotate_left
    ·
     rintro w' ⟨s0, s1, s2, s3, s4, s5⟩
     go_simp
     with_reducible rfl
    rotate_left
    ·
     simp only [Act.put, lA, lB, lC, i64_w, i32_w]
     rfl
    refine take_ (i := 10) (N := some 22) (v := ?_) (a' := ?_) #[true, true, true, true, true, true, false, true, true, true, true, false, false, false] rfl rfl (take_ofW HT_.out HW_.out (by kernel_rfl)) (fun _ _ _ h => h) (Or.inl ⟨by rfl, ?_⟩) hHeld ?_ ?_
    rotate_left
    ·
     rintro w' ⟨s0, s1, s2, s3, s4, s5⟩
     go_simp
     with_reducible rfl
    rotate_left
    ·
     simp only [Act.put, lA, lB, lC, i64_w, i32_w]
     rfl
    refine pure_ (i := 11) (N := some 23) (v := ?_) (a' := ?_) #[true, true, true, true, true, true, false, true, true, true, true, true, false, false] rfl rfl (any_of HT_.out (by kernel_rfl)) (fun _ _ _ h => h) (Or.inl ⟨by rfl, ?_⟩) ?_ ?_
    rotate_left
    ·
     intro w'
     go_simp
     with_reducible rfl
    rotate_left
    ·
     simp only [Act.put, lA, lB, lC, i64_w, i32_w]
     rfl
    refine one_ (i := 6) (N := some 18) #[true, true, true, true, true, true, true, true, true, true, true, true, false, false] rfl rfl (one_of HT_.out (by kernel_rfl)) (by decide) (fun K hK => ?_)
    refine goes_ Tryd.func62 (by kernel_rfl) rfl #[.int .u64 (IntKind.u64.wrap (a0_1)), .int .u64 (IntKind.u64.wrap (a1_1))] (by rfl) rfl rfl mS ?_
    with_reducible refine (congr_gcd_uint64.calls kj2 (IntKind.u64.wrap (a0_1)) (IntKind.u64.wrap (a1_1)) t472 _ A22.out).mono ?_
    rintro e w' ⟨rfl, ⟨nd, rfl⟩⟩
    refine ⟨_, rfl, ?_⟩
    refine hK.out _ _ ⟨cz0 BK466, cz1 BK466, cz2 BK466, cz0 BK467, cz1 BK467, cz2 BK467⟩ (fun hHeld => ?_)
    clear hK K
    refine norm_ (a' := ?_) ?_ ?_
    rotate_left
    ·
     show Act.put _ (some 18) _ = _
     simp only [Act.put, lA, lB, lC, i64_w, i32_w]
     rfl
    refine one_ (i := 12) (N := some 24) #[true, true, true, true, true, true, true, true, true, true, true, true, true, false] rfl rfl (one_of HT_.out (by kernel_rfl)) (by decide) (fun K hK => ?_)
    refine goes_ Tryd.func60 (by kernel_rfl) rfl #[.int .u64 t472, .int .i64 (wrap64 (a0_2 + a1_2))] (by rfl) rfl rfl mS ?_
    with_reducible refine (congr_by.calls kj2 t472 (wrap64 (a0_2 + a1_2)) t473 t474 t475 _ A23.out).mono ?_
    rintro e w25 ⟨rfl, hb⟩
    refine ⟨_, rfl, ?_⟩
    replace BK466 := kB BK466 hb
    replace BK467 := kB BK467 hb
    replace BK468 := kB BK468 hb
    replace HB := kW HB hb
    (try clear hb)
    (try clear hb2)
    (try clear hk)
    (try clear hi)
    refine hK.out _ _ ⟨cz0 BK466, cz1 BK466, cz2 BK466, cz0 BK467, cz1 BK467, cz2 BK467⟩ (fun hHeld => ?_)
    clear hK K
    refine norm_ (a' := ?_) ?_ ?_
    rotate_left
    ·
     show Act.put _ (some 24) _ = _
     simp only [Act.put, lA, lB, lC, i64_w, i32_w]
     rfl
    refine one_ (i := 13) (N := none) #[true, true, true, true, true, true, true, true, true, true, true, true, true, true] rfl rfl (one_of HT_.out (by kernel_rfl)) (by decide) (fun K hK => ?_)
    have hs26 : w25.cell? ⟨gb468, 0, none⟩ = some (.bool false) := cz0 BK468
    have hfs26 := fz BK468 0
    have hns26_0 := NB466_468.out
    have hns26_1 := NB467_468.out
    have hms26_0 := NB468_466.out
    have hms26_1 := NB468_467.out
    have hs27 : w25.cell? ⟨gb468, 1, none⟩ = some (.int .i64 0) := cz1 BK468
    have hfs27 := fz BK468 1
    have hns27_0 := NB466_468.out
    have hns27_1 := NB467_468.out
    have hms27_0 := NB468_466.out
    have hms27_1 := NB468_467.out
    have hs28 : w25.cell? ⟨gb468, 2, none⟩ = some (.int .i64 0) := cz2 BK468
    have hfs28 := fz BK468 2
    have hns28_0 := NB466_468.out
    have hns28_1 := NB467_468.out
    have hms28_0 := NB468_466.out
    have hms28_1 := NB468_467.out
    refine skip_ (w1 := ?_) (by rfl) rfl ?_ ?_
    rotate_left
    ·
     go_simp
     rfl
    refine hK.out _ _ ⟨((cell_far (p := ⟨gb468, _, none⟩) NB466_468.out _).trans (((cell_far (p := ⟨gb468, _, none⟩) NB466_468.out _).trans (((cell_far (p := ⟨gb468, _, none⟩) NB466_468.out _).trans (hHeld.1)))))), ((cell_far (p := ⟨gb468, _, none⟩) NB466_468.out _).trans (((cell_far (p := ⟨gb468, _, none⟩) NB466_468.out _).trans (((cell_far (p := ⟨gb468, _, none⟩) NB466_468.out _).trans (hHeld.2.1)))))), ((cell_far (p := ⟨gb468, _, none⟩) NB466_468.out _).trans (((cell_far (p := ⟨gb468, _, none⟩) NB466_468.out _).trans (((cell_far (p := ⟨gb468, _, none⟩) NB466_468.out _).trans (hHeld.2.2.1)))))), ((cell_far (p := ⟨gb468, _, none⟩) NB467_468.out _).trans (((cell_far (p := ⟨gb468, _, none⟩) NB467_468.out _).trans (((cell_far (p := ⟨gb468, _, none⟩) NB467_468.out _).trans (hHeld.2.2.2.1)))))), ((cell_far (p := ⟨gb468, _, none⟩) NB467_468.out _).trans (((cell_far (p := ⟨gb468, _, none⟩) NB467_468.out _).trans (((cell_far (p := ⟨gb468, _, none⟩) NB467_468.out _).trans (hHeld.2.2.2.2.1)))))), ((cell_far (p := ⟨gb468, _, none⟩) NB467_468.out _).trans (((cell_far (p := ⟨gb468, _, none⟩) NB467_468.out _).trans (((cell_far (p := ⟨gb468, _, none⟩) NB467_468.out _).trans (hHeld.2.2.2.2.2))))))⟩ (fun hHeld => ?_)
    clear hK K
    refine done_ (done_of HT_.out (by kernel_rfl)) ?_
    try go_wp2
    refine bodyPost_ret (results_cell_row rfl _ _ gb468 23 #[.bool t473, .int .i64 t474, .int .i64 t475] (0, 0) _ rfl (by (with_reducible repeat (first | refine b1 ?_ _ | refine b2 ?_ | refine b3 ?_ _)); refine blk_put (cs := #[.bool t473, .int .i64 t474, .int .i64 0]) ?_ 2 _ rfl; (with_reducible repeat (first | refine b1 ?_ _ | refine b2 ?_ | refine b3 ?_ _)); refine blk_put (cs := #[.bool t473, .int .i64 0, .int .i64 0]) ?_ 1 _ rfl; (with_reducible repeat (first | refine b1 ?_ _ | refine b2 ?_ | refine b3 ?_ _)); refine blk_put (cs := #[.bool false, .int .i64 0, .int .i64 0]) ?_ 0 _ rfl; (with_reducible repeat (first | refine b1 ?_ _ | refine b2 ?_ | refine b3 ?_ _)); exact BK468.out) Tryd.underlying23 rfl (by kernel_rfl)) rfl ?_
    exact ⟨eS, bS HB⟩

def congr_Sub.j0 : Nat → Bool → Bool → Int → Int → Bool → Int → Int → Option (Bool × Int × Int)
 | 0, _, _, _, _, _, _, _ => none
 | k + 1, x10, x489000, x489001, x489002, x490000, x490001, x490002 => if x10 = true then ((congr_none.f).bind fun bt491 => (some (bt491.1, bt491.2.1, bt491.2.2))) else ((congr_gcd_uint64.f k (IntKind.u64.wrap (x489001)) (IntKind.u64.wrap (x490001))).bind fun t494 => ((congr_by.f k t494 (wrap64 (x489002 - x490002))).bind fun bt495 => (some (bt495.1, bt495.2.1, bt495.2.2))))
def congr_Sub.f (k : Nat) (a0_0 : Bool) (a0_1 : Int) (a0_2 : Int) (a1_0 : Bool) (a1_1 : Int) (a1_2 : Int) : Option (Bool × Int × Int) := if a0_0 = true then (congr_Sub.j0 k true a0_0 a0_1 a0_2 a1_0 a1_1 a1_2) else (congr_Sub.j0 k a1_0 a0_0 a0_1 a0_2 a1_0 a1_1 a1_2)
def congr_Sub.T3 : Bool × List (List Nat × List Nat) := (true, [([], []), ([0], [0]), ([1], [1]), ([], []), ([3], [3]), ([4], [4]), ([2, 5], [2, 5]), ([], []), ([7], [7]), ([], []), ([9], [9]), ([8, 10], [8, 10]), ([6, 11, 6], [6, 11]), ([12, 12, 0, 1, 2, 3, 4, 5, 6, 7, 8, 9, 10, 11, 12], [12])])
def congr_Sub.B3 : List Nat := [0, 1, 3, 0, 8, 24, 63, 0, 128, 0, 512, 1920, 4095, 8191]
theorem congr_Sub.tab3 : rtab .any (opsOf Tryd.f37 3) = congr_Sub.T3 := by kernel_rfl
theorem congr_Sub.bits3 : waitsOk congr_Sub.T3.2 congr_Sub.B3 = true := by kernel_rfl
set_option maxHeartbeats 8000000 in
set_option maxRecDepth 100000 in
theorem congr_Sub.calls (k : Nat) (a0_0 : Bool) (a0_1 : Int) (a0_2 : Int) (a1_0 : Bool) (a1_1 : Int) (a1_2 : Int) (r1 : Bool) (r2 : Int) (r3 : Int) (w : World) (h : congr_Sub.f k a0_0 a0_1 a0_2 a1_0 a1_1 a1_2 = some (r1, r2, r3)) :
  Calls Tryd.prog 37 #[.agg #[.bool a0_0, .int .i64 a0_1, .int .i64 a0_2], .agg #[.bool a1_0, .int .i64 a1_1, .int .i64 a1_2]] w fun e w' => e = .returned (.agg #[.bool r1, .int .i64 r2, .int .i64 r3]) ∧ Below w.heap.size w w' := by
 have hu23 := Tryd.underlying23
 have HB := Aside0.mk (Below.refl w.heap.size w)
 have H : (if a0_0 = true then (congr_Sub.j0 k true a0_0 a0_1 a0_2 a1_0 a1_1 a1_2) else (congr_Sub.j0 k a1_0 a0_0 a0_1 a0_2 a1_0 a1_1 a1_2)) = some (r1, r2, r3) := h
 clear h
 have HC3 := Aside0.mk H
 clear H
 go_enter Tryd.func37, Tryd.ntmps37
 go_upto_region 1 with (first | ((with_reducible refine gate_dst (N := 2) rfl ?_); refine box_event ?hg (N := 2) ?hd (cs := #[.bool a0_0, .int .i64 a0_1, .int .i64 a0_2]) (t := 23) ?hr ?_; (case hd => rfl); (case hg => rfl); (case hr => first | (go_simp; done) | (go_simp; rfl)); intro gb488 hg w4 hbox hb; have n0_ := kW HB hb; have n1_ := Aside0.mk (hbox); have n2_ := Aside0.mk ((by rw [hg]; exact (below_size (bS HB)) : w.heap.size ≤ gb488)); have n3_ := Aside0.mk ((by rw [hg]; exact (below_size (bS HB)) : w.heap.size ≤ gb488)); clear HB; have HB := n0_; have BK488 := n1_; have GW488 := n2_; have GE488 := n3_; clear n0_ n1_ n2_ n3_; clear hb hbox hg) | ((with_reducible refine gate_dst (N := 3) rfl ?_); refine box_event ?hg (N := 3) ?hd (cs := #[.bool a1_0, .int .i64 a1_1, .int .i64 a1_2]) (t := 23) ?hr ?_; (case hd => rfl); (case hg => rfl); (case hr => first | (go_simp; done) | (go_simp; rfl)); intro gb489 hg w5 hbox hb; have n0_ := kB BK488 hb; have n1_ := kW HB hb; have n2_ := Aside0.mk (hbox); have n3_ := Aside0.mk ((by rw [hg]; exact (below_size (bS HB)) : w.heap.size ≤ gb489)); have n4_ := Aside0.mk ((by rw [hg]; exact (below_size (bS HB)) : w.heap.size ≤ gb489)); have n5_ := Aside0.mk ((by rw [hg]; exact Nat.ne_of_lt (blk_lt (bkS BK488)) : gb488 ≠ gb489)); have n6_ := Aside0.mk ((by rw [hg]; exact Nat.ne_of_gt (blk_lt (bkS BK488)) : gb489 ≠ gb488)); clear BK488; clear HB; have BK488 := n0_; have HB := n1_; have BK489 := n2_; have GW489 := n3_; have GE489 := n4_; have NB488_489 := n5_; have NB489_488 := n6_; clear n0_ n1_ n2_ n3_ n4_ n5_ n6_; clear hb hbox hg) | ((with_reducible refine gate_dst (N := 4) rfl ?_); refine box_event ?hg (N := 4) ?hd (cs := #[.bool false, .int .i64 0, .int .i64 0]) (t := 23) ?hr ?_; (case hd => rfl); (case hg => rfl); (case hr => first | (go_simp; done) | (go_simp; rfl)); intro gb490 hg w6 hbox hb; have n0_ := kB BK488 hb; have n1_ := kB BK489 hb; have n2_ := kW HB hb; have n3_ := Aside0.mk (hbox); have n4_ := Aside0.mk ((by rw [hg]; exact (below_size (bS HB)) : w.heap.size ≤ gb490)); have n5_ := Aside0.mk ((by rw [hg]; exact (below_size (bS HB)) : w.heap.size ≤ gb490)); have n6_ := Aside0.mk ((by rw [hg]; exact Nat.ne_of_lt (blk_lt (bkS BK488)) : gb488 ≠ gb490)); have n7_ := Aside0.mk ((by rw [hg]; exact Nat.ne_of_gt (blk_lt (bkS BK488)) : gb490 ≠ gb488)); have n8_ := Aside0.mk ((by rw [hg]; exact Nat.ne_of_lt (blk_lt (bkS BK489)) : gb489 ≠ gb490)); have n9_ := Aside0.mk ((by rw [hg]; exact Nat.ne_of_gt (blk_lt (bkS BK489)) : gb490 ≠ gb489)); clear BK488; clear BK489; clear HB; have BK488 := n0_; have BK489 := n1_; have HB := n2_; have BK490 := n3_; have GW490 := n4_; have GE490 := n5_; have NB488_490 := n6_; have NB490_488 := n7_; have NB489_490 := n8_; have NB490_489 := n9_; clear n0_ n1_ n2_ n3_ n4_ n5_ n6_ n7_ n8_ n9_; clear hb hbox hg))
 (try simp only [Act.put, lA, lB, lC])
 go_cut [10] (fun v10 wc => ∃ (kq : Nat) (x10_2 : Bool), v10 = .bool x10_2 ∧ Aside0 (congr_Sub.j0 kq x10_2 a0_0 a0_1 a0_2 a1_0 a1_1 a1_2 = some (r1, r2, r3)) ∧ Aside0 (kq ≤ k) ∧ Aside0 (wc.heap[gb488]? = some (.cells #[.bool a0_0, .int .i64 a0_1, .int .i64 a0_2] 23 (0, 0))) ∧ Aside0 (wc.heap[gb489]? = some (.cells #[.bool a1_0, .int .i64 a1_1, .int .i64 a1_2] 23 (0, 0))) ∧ Aside0 (wc.heap[gb490]? = some (.cells #[.bool false, .int .i64 0, .int .i64 0] 23 (0, 0))) ∧ Aside0 (Below w.heap.size w wc))
 case first =>
  have H := HC3.out
  clear HC3
  by_cases c7 : a0_0 = true
  ·
   subst c7
   have H1 : (congr_Sub.j0 k true true a0_1 a0_2 a1_0 a1_1 a1_2) = some (r1, r2, r3) := by rw [if_pos rfl] at H; exact H
   clear H
   have H := H1
   clear H1
   have H' := Aside0.mk H
   clear H
   have hnb8 := NB488_489.out
   have hnc8 := NB489_488.out
   have hnb9 := NB488_490.out
   have hnc9 := NB490_488.out
   have hcz10_0 := cz0 BK488
   have hcz10_1 := cz1 BK488
   have hcz10_2 := cz2 BK488
   have hfz10_0 := fz BK488 0
   have hfz10_1 := fz BK488 1
   have hfz10_2 := fz BK488 2
   go_wp2
   go_meet
   case rel => exact ⟨_, (true), (by first | rfl | (simp; done) | (simp [*]; done)), H', ⟨by first | omega | exact Nat.le_refl _⟩, ⟨bkS BK488⟩, ⟨bkS BK489⟩, ⟨bkS BK490⟩, ⟨bS HB⟩⟩
  ·
   replace c7 := Bool.eq_false_iff.mpr c7
   subst c7
   have H1 : (congr_Sub.j0 k a1_0 false a0_1 a0_2 a1_0 a1_1 a1_2) = some (r1, r2, r3) := by rw [if_neg (show ¬ (false = true) by decide)] at H; exact H
   clear H
   have H := H1
   clear H1
   have H' := Aside0.mk H
   clear H
   have hnb11 := NB488_489.out
   have hnc11 := NB489_488.out
   have hnb12 := NB488_490.out
   have hnc12 := NB490_488.out
   have hcz13_0 := cz0 BK488
   have hcz13_1 := cz1 BK488
   have hcz13_2 := cz2 BK488
   have hfz13_0 := fz BK488 0
   have hfz13_1 := fz BK488 1
   have hfz13_2 := fz BK488 2
   have hnb14 := NB489_490.out
   have hnc14 := NB490_489.out
   have hcz15_0 := cz0 BK489
   have hcz15_1 := cz1 BK489
   have hcz15_2 := cz2 BK489
   have hfz15_0 := fz BK489 0
   have hfz15_1 := fz BK489 1
   have hfz15_2 := fz BK489 2
   go_wp2
   go_meet
   case rel => exact ⟨_, (a1_0), (by first | rfl | (simp; done) | (simp [*]; done)), H', ⟨by first | omega | exact Nat.le_refl _⟩, ⟨bkS BK488⟩, ⟨bkS BK489⟩, ⟨bkS BK490⟩, ⟨bS HB⟩⟩
 case rest =>
  clear HC3
  try clear c1
  try clear p2
  try clear c3
  try clear c7
  try clear c8
  try clear c9
  try clear c11
  try clear c12
  try clear c14
  try clear hcz10_0
  try clear hcz10_1
  try clear hcz10_2
  try clear hcz13_0
  try clear hcz13_1
  try clear hcz13_2
  try clear hcz15_0
  try clear hcz15_1
  try clear hcz15_2
  try clear hfz10_0
  try clear hfz10_1
  try clear hfz10_2
  try clear hfz13_0
  try clear hfz13_1
  try clear hfz13_2
  try clear hfz15_0
  try clear hfz15_1
  try clear hfz15_2
  obtain ⟨kq, x10_2, rfl, HA, HJ2, BK488, BK489, BK490, HB⟩ := hcut
  cases kq with
  | zero => exact absurd HA.out (by simp [congr_Sub.j0])
  | succ kj2 =>
   have H := HA.out
   clear HA
   simp only [congr_Sub.j0] at H
   by_cases c16 : x10_2 = true
   ·
    subst c16
    have H1 : ((congr_none.f).bind fun bt491 => (some (bt491.1, bt491.2.1, bt491.2.2))) = some (r1, r2, r3) := by rw [if_pos rfl] at H; exact H
    clear H
    have H := H1
    clear H1
    replace H := Option.bind_eq_some_iff.mp H
    obtain ⟨⟨t491, t492, t493⟩, A170, H⟩ := H
    replace H : (some (t491, t492, t493)) = some (r1, r2, r3) := H
    have A17 := Aside0.mk A170
    clear A170
    simp only [Option.some.injEq, Prod.mk.injEq] at H
    obtain ⟨rfl, rfl, rfl⟩ := H
    go_wp2_with (first | ((with_reducible refine gate_callee (f := 56) rfl ?_); refine goesL_ (some 11) rfl rfl Tryd.func56 (by kernel_rfl) rfl #[] rfl mS ?_; (with_reducible refine (congr_none.calls  t491 t492 t493 _ A17.out).mono ?_); rintro e w18 ⟨rfl, hb⟩; refine ⟨_, rfl, ?_⟩; replace BK488 := kB BK488 hb; replace BK489 := kB BK489 hb; replace BK490 := kB BK490 hb; replace HB := kW HB hb; (try clear hb); (try clear hb2); (try clear hk); (try clear hi); have hnb19 := NB490_488.out; have hnc19 := NB488_490.out; have hnb20 := NB490_489.out; have hnc20 := NB489_490.out; have hcz21_0 := cz0 BK490; have hcz21_1 := cz1 BK490; have hcz21_2 := cz2 BK490; have hfz21_0 := fz BK490 0; have hfz21_1 := fz BK490 1; have hfz21_2 := fz BK490 2))
    refine bodyPost_ret (results_cell_row rfl _ _ gb490 23 #[.bool t491, .int .i64 t492, .int .i64 t493] (0, 0) _ rfl (by (with_reducible repeat (first | refine b1 ?_ _ | refine b2 ?_ | refine b3 ?_ _)); refine blk_put (cs := #[.bool t491, .int .i64 t492, .int .i64 0]) ?_ 2 _ rfl; (with_reducible repeat (first | refine b1 ?_ _ | refine b2 ?_ | refine b3 ?_ _)); refine blk_put (cs := #[.bool t491, .int .i64 0, .int .i64 0]) ?_ 1 _ rfl; (with_reducible repeat (first | refine b1 ?_ _ | refine b2 ?_ | refine b3 ?_ _)); refine blk_put (cs := #[.bool false, .int .i64 0, .int .i64 0]) ?_ 0 _ rfl; (with_reducible repeat (first | refine b1 ?_ _ | refine b2 ?_ | refine b3 ?_ _)); exact BK490.out) Tryd.underlying23 rfl (by kernel_rfl)) rfl ?_
    exact ⟨eS, bS HB⟩
   ·
    replace c16 := Bool.eq_false_iff.mpr c16
    subst c16
    have H1 : ((congr_gcd_uint64.f kj2 (IntKind.u64.wrap (a0_1)) (IntKind.u64.wrap (a1_1))).bind fun t494 => ((congr_by.f kj2 t494 (wrap64 (a0_2 - a1_2))).bind fun bt495 => (some (bt495.1, bt495.2.1, bt495.2.2)))) = some (r1, r2, r3) := by rw [if_neg (show ¬ (false = true) by decide)] at H; exact H
    clear H
    have H := H1
    clear H1
    replace H := Option.bind_eq_some_iff.mp H
    obtain ⟨t494, A220, H⟩ := H
    replace H : ((congr_by.f kj2 t494 (wrap64 (a0_2 - a1_2))).bind fun bt495 => (some (bt495.1, bt495.2.1, bt495.2.2))) = some (r1, r2, r3) := H
    have A22 := Aside0.mk A220
    clear A220
    replace H := Option.bind_eq_some_iff.mp H
    obtain ⟨⟨t495, t496, t497⟩, A230, H⟩ := H
    replace H : (some (t495, t496, t497)) = some (r1, r2, r3) := H
    have A23 := Aside0.mk A230
    clear A230
    simp only [Option.some.injEq, Prod.mk.injEq] at H
    obtain ⟨rfl, rfl, rfl⟩ := H
    try go_wp2
    replace BK488 := Aside0.mk (blk_drew BK488.out)
    replace BK489 := Aside0.mk (blk_drew BK489.out)
    replace BK490 := Aside0.mk (blk_drew BK490.out)
    replace HB := Aside0.mk (below_drew1 HB.out)
    refine start_ (n := 14) (S := fun w' => w'.cell? ⟨gb488, 0, none⟩ = some (.bool a0_0) ∧ w'.cell? ⟨gb488, 1, none⟩ = some (.int .i64 a0_1) ∧ w'.cell? ⟨gb488, 2, none⟩ = some (.int .i64 a0_2) ∧ w'.cell? ⟨gb489, 0, none⟩ = some (.bool a1_0) ∧ w'.cell? ⟨gb489, 1, none⟩ = some (.int .i64 a1_1) ∧ w'.cell? ⟨gb489, 2, none⟩ = some (.int .i64 a1_2)) (ds := []) #[false, false, false, false, false, false, false, false, false, false, false, false, false, false] (by kernel_rfl) rfl rfl ⟨cz0 BK488, cz1 BK488, cz2 BK488, cz0 BK489, cz1 BK489, cz2 BK489⟩ (fun hHeld => ?_); refine with_tabW congr_Sub.tab3 congr_Sub.bits3 (fun HT_ HW_ => ?_)
    generalize wc.drew = w24 at BK488 BK489 BK490 HB hHeld ⊢
    refine pure_ (i := 0) (N := some 12) (v := ?_) (a' := ?_) #[true, false, false, false, false, false, false, false, false, false, false, false, false, false] rfl rfl (any_of HT_.out (by kernel_rfl)) (fun _ _ _ h => h) (Or.inl ⟨by rfl, ?_⟩) ?_ ?_
    rotate_left
    ·
     intro w'
     go_simp
     with_reducible rfl
    rotate_left
    ·
     simp only [Act.put, lA, lB, lC, i64_w, i32_w]
     rfl
    refine pure_ (i := 3) (N := some 15) (v := ?_) (a' := ?_) #[true, false, false, true, false, false, false, false, false, false, false, false, false, false] rfl rfl (any_of HT_.out (by kernel_rfl)) (fun _ _ _ h => h) (Or.inl ⟨by rfl, ?_⟩) ?_ ?_
    rotate_left
    ·
     intro w'
     go_simp
     with_reducible rfl
    rotate_left
    ·
     simp only [Act.put, lA, lB, lC, i64_w, i32_w]
     rfl
    refine pure_ (i := 7) (N := some 19) (v := ?_) (a' := ?_) #[true, false, false, true, false, false, false, true, false, false, false, false, false, false] rfl rfl (any_of HT_.out (by kernel_rfl)) (fun _ _ _ h => h) (Or.inl ⟨by rfl, ?_⟩) ?_ ?_
    rotate_left
    ·
     intro w'
     go_simp
     with_reducible rfl
    rotate_left
    ·
     simp only [Act.put, lA, lB, lC, i64_w, i32_w]
     rfl
    refine pure_ (i := 9) (N := some 21) (v := ?_) (a' := ?_) #[true, false, false, true, false, false, false, true, false, true, false, false, false, false] rfl rfl (any_of HT_.out (by kernel_rfl)) (fun _ _ _ h => h) (Or.inl ⟨by rfl, ?_⟩) ?_ ?_
    rotate_left
    ·
     intro w'
     go_simp
     with_reducible rfl
    rotate_left
    ·
     simp only [Act.put, lA, lB, lC, i64_w, i32_w]
     rfl
    refine take_ (i := 1) (N := some 13) (v := ?_) (a' := ?_) #[true, true, false, true, false, false, false, true, false, true, false, false, false, false] rfl rfl (take_ofW HT_.out HW_.out (by kernel_rfl)) (fun _ _ _ h => h) (Or.inl ⟨by rfl, ?_⟩) hHeld ?_ ?_
    rotate_left
    ·
     rintro w' ⟨s0, s1, s2, s3, s4, s5⟩
     go_simp
     with_reducible rfl
    rotate_left
    ·
     simp only [Act.put, lA, lB, lC, i64_w, i32_w]
     rfl
    refine pure_ (i := 2) (N := some 14) (v := ?_) (a' := ?_) #[true, true, true, true, false, false, false, true, false, true, false, false, false, false] rfl rfl (any_of HT_.out (by kernel_rfl)) (fun _ _ _ h => h) (Or.inl ⟨by rfl, ?_⟩) ?_ ?_
    rotate_left
    ·
     intro w'
     go_simp
     with_reducible rfl
    rotate_left
    ·
     simp only [Act.put, lA, lB, lC, i64_w, i32_w]
     rfl
    refine take_ (i := 4) (N := some 16) (v := ?_) (a' := ?_) #[true, true, true, true, true, false, false, true, false, true, false, false, false, false] rfl rfl (take_ofW HT_.out HW_.out (by kernel_rfl)) (fun _ _ _ h => h) (Or.inl ⟨by rfl, ?_⟩) hHeld ?_ ?_
    rotate_left
    ·
     rintro w' ⟨s0, s1, s2, s3, s4, s5⟩
     go_simp
     with_reducible rfl
    rotate_left
    ·
     simp only [Act.put, lA, lB, lC, i64_w, i32_w]
     rfl
    refine pure_ (i := 5) (N := some 17) (v := ?_) (a' := ?_) #[true, true, true, true, true, true, false, true, false, true, false, false, false, false] rfl rfl (any_of HT_.out (by kernel_rfl)) (fun _ _ _ h => h) (Or.inl ⟨by rfl, ?_⟩) ?_ ?_
    rotate_left
    ·
     intro w'
     go_simp
     with_reducible rfl
    rotate_left
    ·
     simp only [Act.put, lA, lB, lC, i64_w, i32_w]
     rfl
    refine take_ (i := 8) (N := some 20) (v := ?_) (a' := ?_) #[true, true, true, true, true, true, false, true, true, true, false, false, false, false] rfl rfl (take_ofW HT_.out HW_.out (by kernel_rfl)) (fun _ _ _ h => h) (Or.inl ⟨by rfl, ?_⟩) hHeld ?_ ?_
    rotate_left
    ·
     rintro w' ⟨s0, s1, s2, s3, s4, s5⟩
     go_simp
     with_reducible rfl
    rotate_left
    ·
     simp only [Act.put, lA, lB, lC, i64_w, i32_w]
     rfl
    refine take_ (i := 10) (N := some 22) (v := ?_) (a' := ?_) #[true, true, true, true, true, true, false, true, true, true, true, false, false, false] rfl rfl (take_ofW HT_.out HW_.out (by kernel_rfl)) (fun _ _ _ h => h) (Or.inl ⟨by rfl, ?_⟩) hHeld ?_ ?_
    rotate_left
    ·
     rintro w' ⟨s0, s1, s2, s3, s4, s5⟩
     go_simp
     with_reducible rfl
    rotate_left
    ·
     simp only [Act.put, lA, lB, lC, i64_w, i32_w]
     rfl
    refine pure_ (i := 11) (N := some 23) (v := ?_) (a' := ?_) #[true, true, true, true, true, true, false, true, true, true, true, true, false, false] rfl rfl (any_of HT_.out (by kernel_rfl)) (fun _ _ _ h => h) (Or.inl ⟨by rfl, ?_⟩) ?_ ?_
    rotate_left
    ·
     intro w'
     go_simp
     with_reducible rfl
    rotate_left
    ·
     simp only [Act.put, lA, lB, lC, i64_w, i32_w]
     rfl
    refine one_ (i := 6) (N := some 18) #[true, true, true, true, true, true, true, true, true, true, true, true, false, false] rfl rfl (one_of HT_.out (by kernel_rfl)) (by decide) (fun K hK => ?_)
    refine goes_ Tryd.func62 (by kernel_rfl) rfl #[.int .u64 (IntKind.u64.wrap (a0_1)), .int .u64 (IntKind.u64.wrap (a1_1))] (by rfl) rfl rfl mS ?_
    with_reducible refine (congr_gcd_uint64.calls kj2 (IntKind.u64.wrap (a0_1)) (IntKind.u64.wrap (a1_1)) t494 _ A22.out).mono ?_
    rintro e w' ⟨rfl, ⟨nd, rfl⟩⟩
    refine ⟨_, rfl, ?_⟩
    refine hK.out _ _ ⟨cz0 BK488, cz1 BK488, cz2 BK488, cz0 BK489, cz1 BK489, cz2 BK489⟩ (fun hHeld => ?_)
    clear hK K
    refine norm_ (a' := ?_) ?_ ?_
    rotate_left
    ·
     show Act.put _ (some 18) _ = _
     simp only [Act.put, lA, lB, lC, i64_w, i32_w]
     rfl
    refine one_ (i := 12) (N := some 24) #[true, true, true, true, true, true, true, true, true, true, true, true, true, false] rfl rfl (one_of HT_.out (by kernel_rfl)) (by decide) (fun K hK => ?_)
    refine goes_ Tryd.func60 (by kernel_rfl) rfl #[.int .u64 t494, .int .i64 (wrap64 (a0_2 - a1_2))] (by rfl) rfl rfl mS ?_
    with_reducible refine (congr_by.calls kj2 t494 (wrap64 (a0_2 - a1_2)) t495 t496 t497 _ A23.out).mono ?_
    rintro e w25 ⟨rfl, hb⟩
    refine ⟨_, rfl, ?_⟩
    replace BK488 := kB BK488 hb
    replace BK489 := kB BK489 hb
    replace BK490 := kB BK490 hb
    replace HB := kW HB hb
    (try clear hb)
    (try clear hb2)
    (try clear hk)
    (try clear hi)
    refine hK.out _ _ ⟨cz0 BK488, cz1 BK488, cz2 BK488, cz0 BK489, cz1 BK489, cz2 BK489⟩ (fun hHeld => ?_)
    clear hK K
    refine norm_ (a' := ?_) ?_ ?_
    rotate_left
    ·
     show Act.put _ (some 24) _ = _
     simp only [Act.put, lA, lB, lC, i64_w, i32_w]
     rfl
    refine one_ (i := 13) (N := none) #[true, true, true, true, true, true, true, true, true, true, true, true, true, true] rfl rfl (one_of HT_.out (by kernel_rfl)) (by decide) (fun K hK => ?_)
    have hs26 : w25.cell? ⟨gb490, 0, none⟩ = some (.bool false) := cz0 BK490
    have hfs26 := fz BK490 0
    have hns26_0 := NB488_490.out
    have hns26_1 := NB489_490.out
    have hms26_0 := NB490_488.out
    have hms26_1 := NB490_489.out
    have hs27 : w25.cell? ⟨gb490, 1, none⟩ = some (.int .i64 0) := cz1 BK490
    have hfs27 := fz BK490 1
    have hns27_0 := NB488_490.out
    have hns27_1 := NB489_490.out
    have hms27_0 := NB490_488.out
    have hms27_1 := NB490_489.out
    have hs28 : w25.cell? ⟨gb490, 2, none⟩ = some (.int .i64 0) := cz2 BK490
    have hfs28 := fz BK490 2
    have hns28_0 := NB488_490.out
    have hns28_1 := NB489_490.out
    have hms28_0 := NB490_488.out
    have hms28_1 := NB490_489.out
    refine skip_ (w1 := ?_) (by rfl) rfl ?_ ?_
    rotate_left
    ·
     go_simp
     rfl
    refine hK.out _ _ ⟨((cell_far (p := ⟨gb490, _, none⟩) NB488_490.out _).trans (((cell_far (p := ⟨gb490, _, none⟩) NB488_490.out _).trans (((cell_far (p := ⟨gb490, _, none⟩) NB488_490.out _).trans (hHeld.1)))))), ((cell_far (p := ⟨gb490, _, none⟩) NB488_490.out _).trans (((cell_far (p := ⟨gb490, _, none⟩) NB488_490.out _).trans (((cell_far (p := ⟨gb490, _, none⟩) NB488_490.out _).trans (hHeld.2.1)))))), ((cell_far (p := ⟨gb490, _, none⟩) NB488_490.out _).trans (((cell_far (p := ⟨gb490, _, none⟩) NB488_490.out _).trans (((cell_far (p := ⟨gb490, _, none⟩) NB488_490.out _).trans (hHeld.2.2.1)))))), ((cell_far (p := ⟨gb490, _, none⟩) NB489_490.out _).trans (((cell_far (p := ⟨gb490, _, none⟩) NB489_490.out _).trans (((cell_far (p := ⟨gb490, _, none⟩) NB489_490.out _).trans (hHeld.2.2.2.1)))))), ((cell_far (p := ⟨gb490, _, none⟩) NB489_490.out _).trans (((cell_far (p := ⟨gb490, _, none⟩) NB489_490.out _).trans (((cell_far (p := ⟨gb490, _, none⟩) NB489_490.out _).trans (hHeld.2.2.2.2.1)))))), ((cell_far (p := ⟨gb490, _, none⟩) NB489_490.out _).trans (((cell_far (p := ⟨gb490, _, none⟩) NB489_490.out _).trans (((cell_far (p := ⟨gb490, _, none⟩) NB489_490.out _).trans (hHeld.2.2.2.2.2))))))⟩ (fun hHeld => ?_)
    clear hK K
    refine done_ (done_of HT_.out (by kernel_rfl)) ?_
    try go_wp2
    refine bodyPost_ret (results_cell_row rfl _ _ gb490 23 #[.bool t495, .int .i64 t496, .int .i64 t497] (0, 0) _ rfl (by (with_reducible repeat (first | refine b1 ?_ _ | refine b2 ?_ | refine b3 ?_ _)); refine blk_put (cs := #[.bool t495, .int .i64 t496, .int .i64 0]) ?_ 2 _ rfl; (with_reducible repeat (first | refine b1 ?_ _ | refine b2 ?_ | refine b3 ?_ _)); refine blk_put (cs := #[.bool t495, .int .i64 0, .int .i64 0]) ?_ 1 _ rfl; (with_reducible repeat (first | refine b1 ?_ _ | refine b2 ?_ | refine b3 ?_ _)); refine blk_put (cs := #[.bool false, .int .i64 0, .int .i64 0]) ?_ 0 _ rfl; (with_reducible repeat (first | refine b1 ?_ _ | refine b2 ?_ | refine b3 ?_ _)); exact BK490.out) Tryd.underlying23 rfl (by kernel_rfl)) rfl ?_
    exact ⟨eS, bS HB⟩

def congr_all.f  : Option (Bool × Int × Int) := some (false, 1, 0)
set_option maxHeartbeats 8000000 in
set_option maxRecDepth 100000 in
theorem congr_all.calls  (r1 : Bool) (r2 : Int) (r3 : Int) (w : World) (h : congr_all.f  = some (r1, r2, r3)) :
  Calls Tryd.prog 84 #[] w fun e w' => e = .returned (.agg #[.bool r1, .int .i64 r2, .int .i64 r3]) ∧ Below w.heap.size w w' := by
 have hu23 := Tryd.underlying23
 have HB := Aside0.mk (Below.refl w.heap.size w)
 have H : (some (false, 1, 0)) = some (r1, r2, r3) := h
 clear h
 simp only [Option.some.injEq, Prod.mk.injEq] at H
 obtain ⟨rfl, rfl, rfl⟩ := H
 go_enter Tryd.func84, Tryd.ntmps84
 go_wp2_with (first | ((with_reducible refine gate_dst (N := 0) rfl ?_); refine box_event ?hg (N := 0) ?hd (cs := #[.bool false, .int .i64 0, .int .i64 0]) (t := 23) ?hr ?_; (case hd => rfl); (case hg => rfl); (case hr => first | (go_simp; done) | (go_simp; rfl)); intro gb548 hg w1 hbox hb; have n0_ := kW HB hb; have n1_ := Aside0.mk (hbox); have n2_ := Aside0.mk ((by rw [hg]; exact (below_size (bS HB)) : w.heap.size ≤ gb548)); have n3_ := Aside0.mk ((by rw [hg]; exact (below_size (bS HB)) : w.heap.size ≤ gb548)); clear HB; have HB := n0_; have BK548 := n1_; have GW548 := n2_; have GE548 := n3_; clear n0_ n1_ n2_ n3_; clear hb hbox hg; have hcz2_0 := cz0 BK548; have hcz2_1 := cz1 BK548; have hcz2_2 := cz2 BK548; have hfz2_0 := fz BK548 0; have hfz2_1 := fz BK548 1; have hfz2_2 := fz BK548 2))
 refine bodyPost_ret (results_cell_row rfl _ _ gb548 23 #[.bool false, .int .i64 1, .int .i64 0] (0, 0) _ rfl (by (with_reducible repeat (first | refine b1 ?_ _ | refine b2 ?_ | refine b3 ?_ _)); refine blk_put (cs := #[.bool false, .int .i64 1, .int .i64 0]) ?_ 2 _ rfl; (with_reducible repeat (first | refine b1 ?_ _ | refine b2 ?_ | refine b3 ?_ _)); refine blk_put (cs := #[.bool false, .int .i64 0, .int .i64 0]) ?_ 1 _ rfl; (with_reducible repeat (first | refine b1 ?_ _ | refine b2 ?_ | refine b3 ?_ _)); refine blk_put (cs := #[.bool false, .int .i64 0, .int .i64 0]) ?_ 0 _ rfl; (with_reducible repeat (first | refine b1 ?_ _ | refine b2 ?_ | refine b3 ?_ _)); exact BK548.out) Tryd.underlying23 rfl (by kernel_rfl)) rfl ?_
 exact ⟨eS, bS HB⟩

end Go.Proofs.YtfmmjekhknaniaaDoor.Pr

namespace Go.Proofs.YtfmmjekhknaniaaDoor.Pr
open Go.RowKit Go.Proofs.YtfmmjekhknaniaaDoor.Given Go.Proofs.YtfmmjekhknaniaaDoorW.PrintWords Go.Proofs.YtfmmjekhknaniaaDoorW.PrintLast Go.Proofs.YtfmmjekhknaniaaDoorW.PrintMore
attribute [local go_sem] max2_int min2_int max_two min_two max_three min_three max_four min_four   -- for this text's walks alone
set_option linter.unusedVariables false
set_option linter.unusedSimpArgs false

attribute [local go_sem high] eqA23
mutual
def congr_Div.j0 : Nat → Int → Bool → Bool → Int → Int → Bool → Int → Int → Option (Bool × Int × Int)
 | 0, _, _, _, _, _, _, _, _ => none
 | k + 1, x5, x8, x550000, x550001, x550002, x551000, x551001, x551002 => if x8 = true then ((congr_none.f).bind fun bt552 => (some (bt552.1, bt552.2.1, bt552.2.2))) else (if x551001 = 0 then (if x550001 = 0 then (if x5 = 0 then (none) else ((congr_constant.f (wrap64 (Int.tdiv x550002 x5))).bind fun bt555 => (some (bt555.1, bt555.2.1, bt555.2.2)))) else (if x5 = 0 then (none) else (if (Int.tmod x550001 x5) = 0 then (congr_Div.j1 k x5 ((Int.tmod x550002 x5) == 0) x550000 x550001 x550002) else (congr_Div.j1 k x5 false x550000 x550001 x550002)))) else ((congr_all.f).bind fun bt564 => (some (bt564.1, bt564.2.1, bt564.2.2))))
def congr_Div.j1 : Nat → Int → Bool → Bool → Int → Int → Option (Bool × Int × Int)
 | 0, _, _, _, _, _ => none
 | k + 1, x5, x35, x550000, x550001, x550002 => if x35 = true then (if x5 = 0 then (none) else ((congr_Of.f k (wrap64 (Int.tdiv x550001 x5)) (wrap64 (Int.tdiv x550002 x5))).bind fun bt558 => (some (bt558.1, bt558.2.1, bt558.2.2)))) else ((congr_all.f).bind fun bt561 => (some (bt561.1, bt561.2.1, bt561.2.2)))
end
def congr_Div.f (k : Nat) (a0_0 : Bool) (a0_1 : Int) (a0_2 : Int) (a1_0 : Bool) (a1_1 : Int) (a1_2 : Int) : Option (Bool × Int × Int) := if a0_0 = true then (congr_Div.j0 k a1_2 true a0_0 a0_1 a0_2 a1_0 a1_1 a1_2) else (if a1_0 = true then (congr_Div.j0 k a1_2 true a0_0 a0_1 a0_2 a1_0 a1_1 a1_2) else (congr_Div.j0 k a1_2 (!a1_0 && (a1_1 == 0 && (a1_2 == 0))) a0_0 a0_1 a0_2 a1_0 a1_1 a1_2))
def congr_Div.T9 : Bool × List (List Nat × List Nat) := (true, [([], []), ([0], [0]), ([], []), ([1, 2], [1, 2]), ([], []), ([4], [4]), ([], []), ([5, 6], [5, 6]), ([3, 7], [3, 7]), ([8, 8, 0, 1, 2, 3, 4, 5, 6, 7, 8], [8])])
def congr_Div.B9 : List Nat := [0, 1, 0, 7, 0, 16, 0, 112, 255, 511]
theorem congr_Div.tab9 : rtab .any (opsOf Tryd.f41 9) = congr_Div.T9 := by kernel_rfl
theorem congr_Div.bits9 : waitsOk congr_Div.T9.2 congr_Div.B9 = true := by kernel_rfl
set_option maxHeartbeats 8000000 in
set_option maxRecDepth 100000 in
theorem congr_Div.calls (k : Nat) (a0_0 : Bool) (a0_1 : Int) (a0_2 : Int) (a1_0 : Bool) (a1_1 : Int) (a1_2 : Int) (r1 : Bool) (r2 : Int) (r3 : Int) (w : World) (h : congr_Div.f k a0_0 a0_1 a0_2 a1_0 a1_1 a1_2 = some (r1, r2, r3)) :
  Calls Tryd.prog 41 #[.agg #[.bool a0_0, .int .i64 a0_1, .int .i64 a0_2], .agg #[.bool a1_0, .int .i64 a1_1, .int .i64 a1_2]] w fun e w' => e = .returned (.agg #[.bool r1, .int .i64 r2, .int .i64 r3]) ∧ Below w.heap.size w w' := by
 have hu23 := Tryd.underlying23
 have HB := Aside0.mk (Below.refl w.heap.size w)
 have H : (if a0_0 = true then (congr_Div.j0 k a1_2 true a0_0 a0_1 a0_2 a1_0 a1_1 a1_2) else (if a1_0 = true then (congr_Div.j0 k a1_2 true a0_0 a0_1 a0_2 a1_0 a1_1 a1_2) else (congr_Div.j0 k a1_2 (!a1_0 && (a1_1 == 0 && (a1_2 == 0))) a0_0 a0_1 a0_2 a1_0 a1_1 a1_2))) = some (r1, r2, r3) := h
 clear h
 have HC3 := Aside0.mk H
 clear H
 go_enter Tryd.func41, Tryd.ntmps41
 go_upto_region 2 with (first | ((with_reducible refine gate_dst (N := 2) rfl ?_); refine box_event ?hg (N := 2) ?hd (cs := #[.bool a0_0, .int .i64 a0_1, .int .i64 a0_2]) (t := 23) ?hr ?_; (case hd => rfl); (case hg => rfl); (case hr => first | (go_simp; done) | (go_simp; rfl)); intro gb549 hg w4 hbox hb; have n0_ := kW HB hb; have n1_ := Aside0.mk (hbox); have n2_ := Aside0.mk ((by rw [hg]; exact (below_size (bS HB)) : w.heap.size ≤ gb549)); have n3_ := Aside0.mk ((by rw [hg]; exact (below_size (bS HB)) : w.heap.size ≤ gb549)); clear HB; have HB := n0_; have BK549 := n1_; have GW549 := n2_; have GE549 := n3_; clear n0_ n1_ n2_ n3_; clear hb hbox hg) | ((with_reducible refine gate_dst (N := 3) rfl ?_); refine box_event ?hg (N := 3) ?hd (cs := #[.bool a1_0, .int .i64 a1_1, .int .i64 a1_2]) (t := 23) ?hr ?_; (case hd => rfl); (case hg => rfl); (case hr => first | (go_simp; done) | (go_simp; rfl)); intro gb550 hg w5 hbox hb; have n0_ := kB BK549 hb; have n1_ := kW HB hb; have n2_ := Aside0.mk (hbox); have n3_ := Aside0.mk ((by rw [hg]; exact (below_size (bS HB)) : w.heap.size ≤ gb550)); have n4_ := Aside0.mk ((by rw [hg]; exact (below_size (bS HB)) : w.heap.size ≤ gb550)); have n5_ := Aside0.mk ((by rw [hg]; exact Nat.ne_of_lt (blk_lt (bkS BK549)) : gb549 ≠ gb550)); have n6_ := Aside0.mk ((by rw [hg]; exact Nat.ne_of_gt (blk_lt (bkS BK549)) : gb550 ≠ gb549)); clear BK549; clear HB; have BK549 := n0_; have HB := n1_; have BK550 := n2_; have GW550 := n3_; have GE550 := n4_; have NB549_550 := n5_; have NB550_549 := n6_; clear n0_ n1_ n2_ n3_ n4_ n5_ n6_; clear hb hbox hg) | ((with_reducible refine gate_dst (N := 4) rfl ?_); refine box_event ?hg (N := 4) ?hd (cs := #[.bool false, .int .i64 0, .int .i64 0]) (t := 23) ?hr ?_; (case hd => rfl); (case hg => rfl); (case hr => first | (go_simp; done) | (go_simp; rfl)); intro gb551 hg w6 hbox hb; have n0_ := kB BK549 hb; have n1_ := kB BK550 hb; have n2_ := kW HB hb; have n3_ := Aside0.mk (hbox); have n4_ := Aside0.mk ((by rw [hg]; exact (below_size (bS HB)) : w.heap.size ≤ gb551)); have n5_ := Aside0.mk ((by rw [hg]; exact (below_size (bS HB)) : w.heap.size ≤ gb551)); have n6_ := Aside0.mk ((by rw [hg]; exact Nat.ne_of_lt (blk_lt (bkS BK549)) : gb549 ≠ gb551)); have n7_ := Aside0.mk ((by rw [hg]; exact Nat.ne_of_gt (blk_lt (bkS BK549)) : gb551 ≠ gb549)); have n8_ := Aside0.mk ((by rw [hg]; exact Nat.ne_of_lt (blk_lt (bkS BK550)) : gb550 ≠ gb551)); have n9_ := Aside0.mk ((by rw [hg]; exact Nat.ne_of_gt (blk_lt (bkS BK550)) : gb551 ≠ gb550)); clear BK549; clear BK550; clear HB; have BK549 := n0_; have BK550 := n1_; have HB := n2_; have BK551 := n3_; have GW551 := n4_; have GE551 := n5_; have NB549_551 := n6_; have NB551_549 := n7_; have NB550_551 := n8_; have NB551_550 := n9_; clear n0_ n1_ n2_ n3_ n4_ n5_ n6_ n7_ n8_ n9_; clear hb hbox hg; have hnb7 := NB550_549.out; have hnc7 := NB549_550.out; have hnb8 := NB550_551.out; have hnc8 := NB551_550.out; have hcz9_0 := cz0 BK550; have hcz9_1 := cz1 BK550; have hcz9_2 := cz2 BK550; have hfz9_0 := fz BK550 0; have hfz9_1 := fz BK550 1; have hfz9_2 := fz BK550 2))
 (try simp only [Act.put, lA, lB, lC])
 go_cut [8] (fun v8 wc => ∃ (kq : Nat) (x8_2 : Bool), v8 = .bool x8_2 ∧ Aside0 (congr_Div.j0 kq a1_2 x8_2 a0_0 a0_1 a0_2 a1_0 a1_1 a1_2 = some (r1, r2, r3)) ∧ Aside0 (kq ≤ k) ∧ Aside0 (wc.heap[gb549]? = some (.cells #[.bool a0_0, .int .i64 a0_1, .int .i64 a0_2] 23 (0, 0))) ∧ Aside0 (wc.heap[gb550]? = some (.cells #[.bool a1_0, .int .i64 a1_1, .int .i64 a1_2] 23 (0, 0))) ∧ Aside0 (wc.heap[gb551]? = some (.cells #[.bool false, .int .i64 0, .int .i64 0] 23 (0, 0))) ∧ Aside0 (Below w.heap.size w wc))
 case first =>
  have H := HC3.out
  clear HC3
  by_cases c10 : a0_0 = true
  ·
   subst c10
   have H1 : (congr_Div.j0 k a1_2 true true a0_1 a0_2 a1_0 a1_1 a1_2) = some (r1, r2, r3) := by rw [if_pos rfl] at H; exact H
   clear H
   have H := H1
   clear H1
   have H' := Aside0.mk H
   clear H
   have hnb11 := NB549_550.out
   have hnc11 := NB550_549.out
   have hnb12 := NB549_551.out
   have hnc12 := NB551_549.out
   have hcz13_0 := cz0 BK549
   have hcz13_1 := cz1 BK549
   have hcz13_2 := cz2 BK549
   have hfz13_0 := fz BK549 0
   have hfz13_1 := fz BK549 1
   have hfz13_2 := fz BK549 2
   go_wp2
   go_meet
   case rel => exact ⟨_, (true), (by first | rfl | (simp; done) | (simp [*]; done)), H', ⟨by first | omega | exact Nat.le_refl _⟩, ⟨bkS BK549⟩, ⟨bkS BK550⟩, ⟨bkS BK551⟩, ⟨bS HB⟩⟩
  ·
   replace c10 := Bool.eq_false_iff.mpr c10
   subst c10
   have H1 : (if a1_0 = true then (congr_Div.j0 k a1_2 true false a0_1 a0_2 a1_0 a1_1 a1_2) else (congr_Div.j0 k a1_2 (!a1_0 && (a1_1 == 0 && (a1_2 == 0))) false a0_1 a0_2 a1_0 a1_1 a1_2)) = some (r1, r2, r3) := by rw [if_neg (show ¬ (false = true) by decide)] at H; exact H
   clear H
   have H := H1
   clear H1
   by_cases c14 : a1_0 = true
   ·
    subst c14
    have H1 : (congr_Div.j0 k a1_2 true false a0_1 a0_2 true a1_1 a1_2) = some (r1, r2, r3) := by rw [if_pos rfl] at H; exact H
    clear H
    have H := H1
    clear H1
    have H' := Aside0.mk H
    clear H
    have hnb15 := NB549_550.out
    have hnc15 := NB550_549.out
    have hnb16 := NB549_551.out
    have hnc16 := NB551_549.out
    have hcz17_0 := cz0 BK549
    have hcz17_1 := cz1 BK549
    have hcz17_2 := cz2 BK549
    have hfz17_0 := fz BK549 0
    have hfz17_1 := fz BK549 1
    have hfz17_2 := fz BK549 2
    have hnb18 := NB550_551.out
    have hnc18 := NB551_550.out
    have hcz19_0 := cz0 BK550
    have hcz19_1 := cz1 BK550
    have hcz19_2 := cz2 BK550
    have hfz19_0 := fz BK550 0
    have hfz19_1 := fz BK550 1
    have hfz19_2 := fz BK550 2
    go_wp2
    go_meet
    case rel => exact ⟨_, (true), (by first | rfl | (simp; done) | (simp [*]; done)), H', ⟨by first | omega | exact Nat.le_refl _⟩, ⟨bkS BK549⟩, ⟨bkS BK550⟩, ⟨bkS BK551⟩, ⟨bS HB⟩⟩
   ·
    replace c14 := Bool.eq_false_iff.mpr c14
    subst c14
    have H1 : (congr_Div.j0 k a1_2 (!false && (a1_1 == 0 && (a1_2 == 0))) false a0_1 a0_2 false a1_1 a1_2) = some (r1, r2, r3) := by rw [if_neg (show ¬ (false = true) by decide)] at H; exact H
    clear H
    have H := H1
    clear H1
    have H' := Aside0.mk H
    clear H
    have hnb20 := NB549_550.out
    have hnc20 := NB550_549.out
    have hnb21 := NB549_551.out
    have hnc21 := NB551_549.out
    have hcz22_0 := cz0 BK549
    have hcz22_1 := cz1 BK549
    have hcz22_2 := cz2 BK549
    have hfz22_0 := fz BK549 0
    have hfz22_1 := fz BK549 1
    have hfz22_2 := fz BK549 2
    have hnb23 := NB550_551.out
    have hnc23 := NB551_550.out
    have hcz24_0 := cz0 BK550
    have hcz24_1 := cz1 BK550
    have hcz24_2 := cz2 BK550
    have hfz24_0 := fz BK550 0
    have hfz24_1 := fz BK550 1
    have hfz24_2 := fz BK550 2
    go_wp2
    go_meet
    case rel => exact ⟨_, ((!false && (a1_1 == 0 && (a1_2 == 0)))), (by first | rfl | (simp; done) | (simp [*]; done)), H', ⟨by first | omega | exact Nat.le_refl _⟩, ⟨bkS BK549⟩, ⟨bkS BK550⟩, ⟨bkS BK551⟩, ⟨bS HB⟩⟩
 case rest =>
  clear HC3
  try clear c1
  try clear c2
  try clear p2
  try clear c4
  try clear c7
  try clear c8
  try clear c10
  try clear c11
  try clear c12
  try clear c14
  try clear c15
  try clear c16
  try clear c18
  try clear c20
  try clear c21
  try clear c23
  try clear hcz13_0
  try clear hcz13_1
  try clear hcz13_2
  try clear hcz17_0
  try clear hcz17_1
  try clear hcz17_2
  try clear hcz19_0
  try clear hcz19_1
  try clear hcz19_2
  try clear hcz22_0
  try clear hcz22_1
  try clear hcz22_2
  try clear hcz24_0
  try clear hcz24_1
  try clear hcz24_2
  try clear hcz9_0
  try clear hcz9_1
  try clear hcz9_2
  try clear hfz13_0
  try clear hfz13_1
  try clear hfz13_2
  try clear hfz17_0
  try clear hfz17_1
  try clear hfz17_2
  try clear hfz19_0
  try clear hfz19_1
  try clear hfz19_2
  try clear hfz22_0
  try clear hfz22_1
  try clear hfz22_2
  try clear hfz24_0
  try clear hfz24_1
  try clear hfz24_2
  try clear hfz9_0
  try clear hfz9_1
  try clear hfz9_2
  obtain ⟨kq, x8_2, rfl, HA, HJ2, BK549, BK550, BK551, HB⟩ := hcut
  cases kq with
  | zero => exact absurd HA.out (by simp [congr_Div.j0])
  | succ kj2 =>
   have H := HA.out
   clear HA
   simp only [congr_Div.j0] at H
   by_cases c25 : x8_2 = true
   ·
    subst c25
    have H1 : ((congr_none.f).bind fun bt552 => (some (bt552.1, bt552.2.1, bt552.2.2))) = some (r1, r2, r3) := by rw [if_pos rfl] at H; exact H
    clear H
    have H := H1
    clear H1
    replace H := Option.bind_eq_some_iff.mp H
    obtain ⟨⟨t552, t553, t554⟩, A260, H⟩ := H
    replace H : (some (t552, t553, t554)) = some (r1, r2, r3) := H
    have A26 := Aside0.mk A260
    clear A260
    simp only [Option.some.injEq, Prod.mk.injEq] at H
    obtain ⟨rfl, rfl, rfl⟩ := H
    go_wp2_with (first | ((with_reducible refine gate_callee (f := 56) rfl ?_); refine goesL_ (some 20) rfl rfl Tryd.func56 (by kernel_rfl) rfl #[] rfl mS ?_; (with_reducible refine (congr_none.calls  t552 t553 t554 _ A26.out).mono ?_); rintro e w27 ⟨rfl, hb⟩; refine ⟨_, rfl, ?_⟩; replace BK549 := kB BK549 hb; replace BK550 := kB BK550 hb; replace BK551 := kB BK551 hb; replace HB := kW HB hb; (try clear hb); (try clear hb2); (try clear hk); (try clear hi); have hnb28 := NB551_549.out; have hnc28 := NB549_551.out; have hnb29 := NB551_550.out; have hnc29 := NB550_551.out; have hcz30_0 := cz0 BK551; have hcz30_1 := cz1 BK551; have hcz30_2 := cz2 BK551; have hfz30_0 := fz BK551 0; have hfz30_1 := fz BK551 1; have hfz30_2 := fz BK551 2))
    refine bodyPost_ret (results_cell_row rfl _ _ gb551 23 #[.bool t552, .int .i64 t553, .int .i64 t554] (0, 0) _ rfl (by (with_reducible repeat (first | refine b1 ?_ _ | refine b2 ?_ | refine b3 ?_ _)); refine blk_put (cs := #[.bool t552, .int .i64 t553, .int .i64 0]) ?_ 2 _ rfl; (with_reducible repeat (first | refine b1 ?_ _ | refine b2 ?_ | refine b3 ?_ _)); refine blk_put (cs := #[.bool t552, .int .i64 0, .int .i64 0]) ?_ 1 _ rfl; (with_reducible repeat (first | refine b1 ?_ _ | refine b2 ?_ | refine b3 ?_ _)); refine blk_put (cs := #[.bool false, .int .i64 0, .int .i64 0]) ?_ 0 _ rfl; (with_reducible repeat (first | refine b1 ?_ _ | refine b2 ?_ | refine b3 ?_ _)); exact BK551.out) Tryd.underlying23 rfl (by kernel_rfl)) rfl ?_
    exact ⟨eS, bS HB⟩
   ·
    replace c25 := Bool.eq_false_iff.mpr c25
    subst c25
    have H1 : (if a1_1 = 0 then (if a0_1 = 0 then (if a1_2 = 0 then (none) else ((congr_constant.f (wrap64 (Int.tdiv a0_2 a1_2))).bind fun bt555 => (some (bt555.1, bt555.2.1, bt555.2.2)))) else (if a1_2 = 0 then (none) else (if (Int.tmod a0_1 a1_2) = 0 then (congr_Div.j1 kj2 a1_2 ((Int.tmod a0_2 a1_2) == 0) a0_0 a0_1 a0_2) else (congr_Div.j1 kj2 a1_2 false a0_0 a0_1 a0_2)))) else ((congr_all.f).bind fun bt564 => (some (bt564.1, bt564.2.1, bt564.2.2)))) = some (r1, r2, r3) := by rw [if_neg (show ¬ (false = true) by decide)] at H; exact H
    clear H
    have H := H1
    clear H1
    by_cases c31 : a1_1 = 0
    ·
     rw [if_pos c31] at H
     have c31b0 : (a1_1 == 0) = true := beq_iff_eq.mpr c31
     have c31b1 : (a1_1 != 0) = false := bne_eq_false_iff_eq.mpr c31
     clear c31
     by_cases c32 : a0_1 = 0
     ·
      rw [if_pos c32] at H
      have c32b0 : (a0_1 == 0) = true := beq_iff_eq.mpr c32
      have c32b1 : (a0_1 != 0) = false := bne_eq_false_iff_eq.mpr c32
      clear c32
      by_cases c33 : a1_2 = 0
      ·
       rw [if_pos c33] at H
       exact absurd H (by simp)
      ·
       rw [if_neg c33] at H
       have c33b0 : (a1_2 == 0) = false := beq_eq_false_iff_ne.mpr c33
       have c33b1 : (a1_2 != 0) = true := bne_iff_ne.mpr c33
       replace H := Option.bind_eq_some_iff.mp H
       obtain ⟨⟨t555, t556, t557⟩, A340, H⟩ := H
       replace H : (some (t555, t556, t557)) = some (r1, r2, r3) := H
       have A34 := Aside0.mk A340
       clear A340
       simp only [Option.some.injEq, Prod.mk.injEq] at H
       obtain ⟨rfl, rfl, rfl⟩ := H
       have hnb35 := NB550_549.out
       have hnc35 := NB549_550.out
       have hnb36 := NB550_551.out
       have hnc36 := NB551_550.out
       have hcz37_0 : wc.cell? ⟨gb550, 0, none⟩ = some (.bool a1_0) := cz0 BK550
       have hcz37_1 : wc.cell? ⟨gb550, 1, none⟩ = some (.int .i64 a1_1) := cz1 BK550
       have hcz37_2 : wc.cell? ⟨gb550, 2, none⟩ = some (.int .i64 a1_2) := cz2 BK550
       have hfz37_0 := fz BK550 0
       have hfz37_1 := fz BK550 1
       have hfz37_2 := fz BK550 2
       have hnb38 := NB549_551.out
       have hnc38 := NB551_549.out
       have hcz39_0 : wc.cell? ⟨gb549, 0, none⟩ = some (.bool a0_0) := cz0 BK549
       have hcz39_1 : wc.cell? ⟨gb549, 1, none⟩ = some (.int .i64 a0_1) := cz1 BK549
       have hcz39_2 : wc.cell? ⟨gb549, 2, none⟩ = some (.int .i64 a0_2) := cz2 BK549
       have hfz39_0 := fz BK549 0
       have hfz39_1 := fz BK549 1
       have hfz39_2 := fz BK549 2
       go_wp2_with (first | ((with_reducible refine gate_callee (f := 50) rfl ?_); refine goesL_ (some 34) rfl rfl Tryd.func50 (by kernel_rfl) rfl #[.int .i64 (wrap64 (Int.tdiv a0_2 a1_2))] rfl mS ?_; (with_reducible refine (congr_constant.calls (wrap64 (Int.tdiv a0_2 a1_2)) t555 t556 t557 _ A34.out).mono ?_); rintro e w40 ⟨rfl, hb⟩; refine ⟨_, rfl, ?_⟩; replace BK549 := kB BK549 hb; replace BK550 := kB BK550 hb; replace BK551 := kB BK551 hb; replace HB := kW HB hb; (try clear hb); (try clear hb2); (try clear hk); (try clear hi); have hcz41_0 := cz0 BK551; have hcz41_1 := cz1 BK551; have hcz41_2 := cz2 BK551; have hfz41_0 := fz BK551 0; have hfz41_1 := fz BK551 1; have hfz41_2 := fz BK551 2))
       refine bodyPost_ret (results_cell_row rfl _ _ gb551 23 #[.bool t555, .int .i64 t556, .int .i64 t557] (0, 0) _ rfl (by (with_reducible repeat (first | refine b1 ?_ _ | refine b2 ?_ | refine b3 ?_ _)); refine blk_put (cs := #[.bool t555, .int .i64 t556, .int .i64 0]) ?_ 2 _ rfl; (with_reducible repeat (first | refine b1 ?_ _ | refine b2 ?_ | refine b3 ?_ _)); refine blk_put (cs := #[.bool t555, .int .i64 0, .int .i64 0]) ?_ 1 _ rfl; (with_reducible repeat (first | refine b1 ?_ _ | refine b2 ?_ | refine b3 ?_ _)); refine blk_put (cs := #[.bool false, .int .i64 0, .int .i64 0]) ?_ 0 _ rfl; (with_reducible repeat (first | refine b1 ?_ _ | refine b2 ?_ | refine b3 ?_ _)); exact BK551.out) Tryd.underlying23 rfl (by kernel_rfl)) rfl ?_
       exact ⟨eS, bS HB⟩
     ·
      rw [if_neg c32] at H
      have c32b0 : (a0_1 == 0) = false := beq_eq_false_iff_ne.mpr c32
      have c32b1 : (a0_1 != 0) = true := bne_iff_ne.mpr c32
      have HC42 := Aside0.mk H
      clear H
      have hnb43 := NB550_549.out
      have hnc43 := NB549_550.out
      have hnb44 := NB550_551.out
      have hnc44 := NB551_550.out
      have hcz45_0 : wc.cell? ⟨gb550, 0, none⟩ = some (.bool a1_0) := cz0 BK550
      have hcz45_1 : wc.cell? ⟨gb550, 1, none⟩ = some (.int .i64 a1_1) := cz1 BK550
      have hcz45_2 : wc.cell? ⟨gb550, 2, none⟩ = some (.int .i64 a1_2) := cz2 BK550
      have hfz45_0 := fz BK550 0
      have hfz45_1 := fz BK550 1
      have hfz45_2 := fz BK550 2
      have hnb46 := NB549_551.out
      have hnc46 := NB551_549.out
      have hcz47_0 : wc.cell? ⟨gb549, 0, none⟩ = some (.bool a0_0) := cz0 BK549
      have hcz47_1 : wc.cell? ⟨gb549, 1, none⟩ = some (.int .i64 a0_1) := cz1 BK549
      have hcz47_2 : wc.cell? ⟨gb549, 2, none⟩ = some (.int .i64 a0_2) := cz2 BK549
      have hfz47_0 := fz BK549 0
      have hfz47_1 := fz BK549 1
      have hfz47_2 := fz BK549 2
      go_upto_region 8 with (fail)
      go_cut [35] (fun v35 wc => ∃ (kq : Nat) (x35_41 : Bool), v35 = .bool x35_41 ∧ Aside0 (congr_Div.j1 kq a1_2 x35_41 a0_0 a0_1 a0_2 = some (r1, r2, r3)) ∧ Aside0 (kq ≤ kj2) ∧ Aside0 (wc.heap[gb549]? = some (.cells #[.bool a0_0, .int .i64 a0_1, .int .i64 a0_2] 23 (0, 0))) ∧ Aside0 (wc.heap[gb550]? = some (.cells #[.bool a1_0, .int .i64 a1_1, .int .i64 a1_2] 23 (0, 0))) ∧ Aside0 (wc.heap[gb551]? = some (.cells #[.bool false, .int .i64 0, .int .i64 0] 23 (0, 0))) ∧ Aside0 (Below w.heap.size w wc))
      case first =>
       have H := HC42.out
       clear HC42
       by_cases c48 : a1_2 = 0
       ·
        rw [if_pos c48] at H
        exact absurd H (by simp)
       ·
        rw [if_neg c48] at H
        have c48b0 : (a1_2 == 0) = false := beq_eq_false_iff_ne.mpr c48
        have c48b1 : (a1_2 != 0) = true := bne_iff_ne.mpr c48
        (first | rw [c48b0] | (simp only [i64_w, i32_w]; rw [c48b0]) | skip)
        by_cases c49 : (Int.tmod a0_1 a1_2) = 0
        ·
         rw [if_pos c49] at H
         have c49b0 : ((Int.tmod a0_1 a1_2) == 0) = true := beq_iff_eq.mpr c49
         have c49b1 : ((Int.tmod a0_1 a1_2) != 0) = false := bne_eq_false_iff_eq.mpr c49
         clear c49
         have H' := Aside0.mk H
         clear H
         have hnb50 := NB549_550.out
         have hnc50 := NB550_549.out
         have hnb51 := NB549_551.out
         have hnc51 := NB551_549.out
         have hcz52_0 : wc.cell? ⟨gb549, 0, none⟩ = some (.bool a0_0) := cz0 BK549
         have hcz52_1 : wc.cell? ⟨gb549, 1, none⟩ = some (.int .i64 a0_1) := cz1 BK549
         have hcz52_2 : wc.cell? ⟨gb549, 2, none⟩ = some (.int .i64 a0_2) := cz2 BK549
         have hfz52_0 := fz BK549 0
         have hfz52_1 := fz BK549 1
         have hfz52_2 := fz BK549 2
         go_wp2
         go_meet
         case rel => exact ⟨_, (((Int.tmod a0_2 a1_2) == 0)), (by first | rfl | (simp; done) | (simp [*]; done)), H', ⟨by have := HJ2.out; first | omega | exact Nat.le_refl _⟩, ⟨bkS BK549⟩, ⟨bkS BK550⟩, ⟨bkS BK551⟩, ⟨bS HB⟩⟩
        ·
         rw [if_neg c49] at H
         have c49b0 : ((Int.tmod a0_1 a1_2) == 0) = false := beq_eq_false_iff_ne.mpr c49
         have c49b1 : ((Int.tmod a0_1 a1_2) != 0) = true := bne_iff_ne.mpr c49
         have H' := Aside0.mk H
         clear H
         have hnb53 := NB549_550.out
         have hnc53 := NB550_549.out
         have hnb54 := NB549_551.out
         have hnc54 := NB551_549.out
         have hcz55_0 : wc.cell? ⟨gb549, 0, none⟩ = some (.bool a0_0) := cz0 BK549
         have hcz55_1 : wc.cell? ⟨gb549, 1, none⟩ = some (.int .i64 a0_1) := cz1 BK549
         have hcz55_2 : wc.cell? ⟨gb549, 2, none⟩ = some (.int .i64 a0_2) := cz2 BK549
         have hfz55_0 := fz BK549 0
         have hfz55_1 := fz BK549 1
         have hfz55_2 := fz BK549 2
         go_wp2
         go_meet
         case rel => exact ⟨_, (false), (by first | rfl | (simp; done) | (simp [*]; done)), H', ⟨by have := HJ2.out; first | omega | exact Nat.le_refl _⟩, ⟨bkS BK549⟩, ⟨bkS BK550⟩, ⟨bkS BK551⟩, ⟨bS HB⟩⟩
      case rest =>
       clear HC42
       try clear c1
       try clear c2
       try clear p2
       try clear c3
       try clear c4
       try clear c5
       try clear p6
       try clear c7
       try clear c8
       try clear c10
       try clear c11
       try clear c12
       try clear c14
       try clear c15
       try clear c16
       try clear c18
       try clear c20
       try clear c21
       try clear c23
       try clear c25
       try clear c28
       try clear c29
       try clear c31
       try clear c31b0
       try clear c31b1
       try clear c32
       try clear c32b0
       try clear c32b1
       try clear c33
       try clear c33b0
       try clear c33b1
       try clear c35
       try clear c36
       try clear c38
       try clear c41
       try clear c43
       try clear c44
       try clear c46
       try clear c48
       try clear c48b0
       try clear c48b1
       try clear c49
       try clear c49b0
       try clear c49b1
       try clear c50
       try clear c51
       try clear c53
       try clear c54
       try clear hcz13_0
       try clear hcz13_1
       try clear hcz13_2
       try clear hcz17_0
       try clear hcz17_1
       try clear hcz17_2
       try clear hcz19_0
       try clear hcz19_1
       try clear hcz19_2
       try clear hcz22_0
       try clear hcz22_1
       try clear hcz22_2
       try clear hcz24_0
       try clear hcz24_1
       try clear hcz24_2
       try clear hcz30_0
       try clear hcz30_1
       try clear hcz30_2
       try clear hcz37_0
       try clear hcz37_1
       try clear hcz37_2
       try clear hcz39_0
       try clear hcz39_1
       try clear hcz39_2
       try clear hcz41_0
       try clear hcz41_1
       try clear hcz41_2
       try clear hcz45_0
       try clear hcz45_1
       try clear hcz45_2
       try clear hcz47_0
       try clear hcz47_1
       try clear hcz47_2
       try clear hcz52_0
       try clear hcz52_1
       try clear hcz52_2
       try clear hcz55_0
       try clear hcz55_1
       try clear hcz55_2
       try clear hcz9_0
       try clear hcz9_1
       try clear hcz9_2
       try clear hfz13_0
       try clear hfz13_1
       try clear hfz13_2
       try clear hfz17_0
       try clear hfz17_1
       try clear hfz17_2
       try clear hfz19_0
       try clear hfz19_1
       try clear hfz19_2
       try clear hfz22_0
       try clear hfz22_1
       try clear hfz22_2
       try clear hfz24_0
       try clear hfz24_1
       try clear hfz24_2
       try clear hfz30_0
       try clear hfz30_1
       try clear hfz30_2
       try clear hfz37_0
       try clear hfz37_1
       try clear hfz37_2
       try clear hfz39_0
       try clear hfz39_1
       try clear hfz39_2
       try clear hfz41_0
       try clear hfz41_1
       try clear hfz41_2
       try clear hfz45_0
       try clear hfz45_1
       try clear hfz45_2
       try clear hfz47_0
       try clear hfz47_1
       try clear hfz47_2
       try clear hfz52_0
       try clear hfz52_1
       try clear hfz52_2
       try clear hfz55_0
       try clear hfz55_1
       try clear hfz55_2
       try clear hfz9_0
       try clear hfz9_1
       try clear hfz9_2
       try clear p2
       obtain ⟨kq, x35_41, rfl, HA, HJ41, BK549, BK550, BK551, HB⟩ := hcut
       cases kq with
       | zero => exact absurd HA.out (by simp [congr_Div.j1])
       | succ kj41 =>
        have H := HA.out
        clear HA
        simp only [congr_Div.j1] at H
        by_cases c56 : x35_41 = true
        ·
         subst c56
         have H1 : (if a1_2 = 0 then (none) else ((congr_Of.f kj41 (wrap64 (Int.tdiv a0_1 a1_2)) (wrap64 (Int.tdiv a0_2 a1_2))).bind fun bt558 => (some (bt558.1, bt558.2.1, bt558.2.2)))) = some (r1, r2, r3) := by rw [if_pos rfl] at H; exact H
         clear H
         have H := H1
         clear H1
         by_cases c57 : a1_2 = 0
         ·
          rw [if_pos c57] at H
          exact absurd H (by simp)
         ·
          rw [if_neg c57] at H
          have c57b0 : (a1_2 == 0) = false := beq_eq_false_iff_ne.mpr c57
          have c57b1 : (a1_2 != 0) = true := bne_iff_ne.mpr c57
          replace H := Option.bind_eq_some_iff.mp H
          obtain ⟨⟨t558, t559, t560⟩, A580, H⟩ := H
          replace H : (some (t558, t559, t560)) = some (r1, r2, r3) := H
          have A58 := Aside0.mk A580
          clear A580
          simp only [Option.some.injEq, Prod.mk.injEq] at H
          obtain ⟨rfl, rfl, rfl⟩ := H
          try go_wp2
          replace BK549 := Aside0.mk (blk_drew BK549.out)
          replace BK550 := Aside0.mk (blk_drew BK550.out)
          replace BK551 := Aside0.mk (blk_drew BK551.out)
          replace HB := Aside0.mk (below_drew1 HB.out)
          refine start_ (n := 10) (S := fun w' => w'.cell? ⟨gb549, 0, none⟩ = some (.bool a0_0) ∧ w'.cell? ⟨gb549, 1, none⟩ = some (.int .i64 a0_1) ∧ w'.cell? ⟨gb549, 2, none⟩ = some (.int .i64 a0_2)) (ds := []) #[false, false, false, false, false, false, false, false, false, false] (by kernel_rfl) rfl rfl ⟨cz0 BK549, cz1 BK549, cz2 BK549⟩ (fun hHeld => ?_); refine with_tabW congr_Div.tab9 congr_Div.bits9 (fun HT_ HW_ => ?_)
          generalize wc.drew = w59 at BK549 BK550 BK551 HB hHeld ⊢
          refine pure_ (i := 0) (N := some 48) (v := ?_) (a' := ?_) #[true, false, false, false, false, false, false, false, false, false] rfl rfl (any_of HT_.out (by kernel_rfl)) (fun _ _ _ h => h) (Or.inl ⟨by rfl, ?_⟩) ?_ ?_
          rotate_left
          ·
           intro w'
           go_simp
           with_reducible rfl
          rotate_left
          ·
           simp only [Act.put, lA, lB, lC, i64_w, i32_w]
           rfl
          refine pure_ (i := 2) (N := some 50) (v := ?_) (a' := ?_) #[true, false, true, false, false, false, false, false, false, false] rfl rfl (any_of HT_.out (by kernel_rfl)) (fun _ _ _ h => h) (Or.inl ⟨by rfl, ?_⟩) ?_ ?_
          rotate_left
          ·
           intro w'
           go_simp
           with_reducible rfl
          rotate_left
          ·
           simp only [Act.put, lA, lB, lC, i64_w, i32_w]
           rfl
          refine pure_ (i := 4) (N := some 52) (v := ?_) (a' := ?_) #[true, false, true, false, true, false, false, false, false, false] rfl rfl (any_of HT_.out (by kernel_rfl)) (fun _ _ _ h => h) (Or.inl ⟨by rfl, ?_⟩) ?_ ?_
          rotate_left
          ·
           intro w'
           go_simp
           with_reducible rfl
          rotate_left
          ·
           simp only [Act.put, lA, lB, lC, i64_w, i32_w]
           rfl
          refine pure_ (i := 6) (N := some 54) (v := ?_) (a' := ?_) #[true, false, true, false, true, false, true, false, false, false] rfl rfl (any_of HT_.out (by kernel_rfl)) (fun _ _ _ h => h) (Or.inl ⟨by rfl, ?_⟩) ?_ ?_
          rotate_left
          ·
           intro w'
           go_simp
           with_reducible rfl
          rotate_left
          ·
           simp only [Act.put, lA, lB, lC, i64_w, i32_w]
           rfl
          refine take_ (i := 1) (N := some 49) (v := ?_) (a' := ?_) #[true, true, true, false, true, false, true, false, false, false] rfl rfl (take_ofW HT_.out HW_.out (by kernel_rfl)) (fun _ _ _ h => h) (Or.inl ⟨by rfl, ?_⟩) hHeld ?_ ?_
          rotate_left
          ·
           rintro w' ⟨s0, s1, s2⟩
           go_simp
           with_reducible rfl
          rotate_left
          ·
           simp only [Act.put, lA, lB, lC, i64_w, i32_w]
           rfl
          refine pure_ (i := 3) (N := some 51) (v := ?_) (a' := ?_) #[true, true, true, true, true, false, true, false, false, false] rfl rfl (any_of HT_.out (by kernel_rfl)) (fun _ _ _ h => h) (Or.inl ⟨by rfl, ?_⟩) ?_ ?_
          rotate_left
          ·
           intro w'
           go_simp
           with_reducible rfl
          rotate_left
          ·
           simp only [Act.put, lA, lB, lC, i64_w, i32_w]
           rfl
          refine take_ (i := 5) (N := some 53) (v := ?_) (a' := ?_) #[true, true, true, true, true, true, true, false, false, false] rfl rfl (take_ofW HT_.out HW_.out (by kernel_rfl)) (fun _ _ _ h => h) (Or.inl ⟨by rfl, ?_⟩) hHeld ?_ ?_
          rotate_left
          ·
           rintro w' ⟨s0, s1, s2⟩
           go_simp
           with_reducible rfl
          rotate_left
          ·
           simp only [Act.put, lA, lB, lC, i64_w, i32_w]
           rfl
          refine pure_ (i := 7) (N := some 55) (v := ?_) (a' := ?_) #[true, true, true, true, true, true, true, true, false, false] rfl rfl (any_of HT_.out (by kernel_rfl)) (fun _ _ _ h => h) (Or.inl ⟨by rfl, ?_⟩) ?_ ?_
          rotate_left
          ·
           intro w'
           go_simp
           with_reducible rfl
          rotate_left
          ·
           simp only [Act.put, lA, lB, lC, i64_w, i32_w]
           rfl
          refine one_ (i := 8) (N := some 56) #[true, true, true, true, true, true, true, true, true, false] rfl rfl (one_of HT_.out (by kernel_rfl)) (by decide) (fun K hK => ?_)
          refine goes_ Tryd.func10 (by kernel_rfl) rfl #[.int .i64 (wrap64 (Int.tdiv a0_1 a1_2)), .int .i64 (wrap64 (Int.tdiv a0_2 a1_2))] (by rfl) rfl rfl mS ?_
          with_reducible refine (congr_Of.calls kj41 (wrap64 (Int.tdiv a0_1 a1_2)) (wrap64 (Int.tdiv a0_2 a1_2)) t558 t559 t560 _ A58.out).mono ?_
          rintro e w60 ⟨rfl, hb⟩
          refine ⟨_, rfl, ?_⟩
          replace BK549 := kB BK549 hb
          replace BK550 := kB BK550 hb
          replace BK551 := kB BK551 hb
          replace HB := kW HB hb
          (try clear hb)
          (try clear hb2)
          (try clear hk)
          (try clear hi)
          refine hK.out _ _ ⟨cz0 BK549, cz1 BK549, cz2 BK549⟩ (fun hHeld => ?_)
          clear hK K
          refine norm_ (a' := ?_) ?_ ?_
          rotate_left
          ·
           show Act.put _ (some 56) _ = _
           simp only [Act.put, lA, lB, lC, i64_w, i32_w]
           rfl
          refine one_ (i := 9) (N := none) #[true, true, true, true, true, true, true, true, true, true] rfl rfl (one_of HT_.out (by kernel_rfl)) (by decide) (fun K hK => ?_)
          have hs61 : w60.cell? ⟨gb551, 0, none⟩ = some (.bool false) := cz0 BK551
          have hfs61 := fz BK551 0
          have hns61_0 := NB549_551.out
          have hns61_1 := NB550_551.out
          have hms61_0 := NB551_549.out
          have hms61_1 := NB551_550.out
          have hs62 : w60.cell? ⟨gb551, 1, none⟩ = some (.int .i64 0) := cz1 BK551
          have hfs62 := fz BK551 1
          have hns62_0 := NB549_551.out
          have hns62_1 := NB550_551.out
          have hms62_0 := NB551_549.out
          have hms62_1 := NB551_550.out
          have hs63 : w60.cell? ⟨gb551, 2, none⟩ = some (.int .i64 0) := cz2 BK551
          have hfs63 := fz BK551 2
          have hns63_0 := NB549_551.out
          have hns63_1 := NB550_551.out
          have hms63_0 := NB551_549.out
          have hms63_1 := NB551_550.out
          refine skip_ (w1 := ?_) (by rfl) rfl ?_ ?_
          rotate_left
          ·
           go_simp
           rfl
          refine hK.out _ _ ⟨((cell_far (p := ⟨gb551, _, none⟩) NB549_551.out _).trans (((cell_far (p := ⟨gb551, _, none⟩) NB549_551.out _).trans (((cell_far (p := ⟨gb551, _, none⟩) NB549_551.out _).trans (hHeld.1)))))), ((cell_far (p := ⟨gb551, _, none⟩) NB549_551.out _).trans (((cell_far (p := ⟨gb551, _, none⟩) NB549_551.out _).trans (((cell_far (p := ⟨gb551, _, none⟩) NB549_551.out _).trans (hHeld.2.1)))))), ((cell_far (p := ⟨gb551, _, none⟩) NB549_551.out _).trans (((cell_far (p := ⟨gb551, _, none⟩) NB549_551.out _).trans (((cell_far (p := ⟨gb551, _, none⟩) NB549_551.out _).trans (hHeld.2.2))))))⟩ (fun hHeld => ?_)
          clear hK K
          refine done_ (done_of HT_.out (by kernel_rfl)) ?_
          try go_wp2
          refine bodyPost_ret (results_cell_row rfl _ _ gb551 23 #[.bool t558, .int .i64 t559, .int .i64 t560] (0, 0) _ rfl (by (with_reducible repeat (first | refine b1 ?_ _ | refine b2 ?_ | refine b3 ?_ _)); refine blk_put (cs := #[.bool t558, .int .i64 t559, .int .i64 0]) ?_ 2 _ rfl; (with_reducible repeat (first | refine b1 ?_ _ | refine b2 ?_ | refine b3 ?_ _)); refine blk_put (cs := #[.bool t558, .int .i64 0, .int .i64 0]) ?_ 1 _ rfl; (with_reducible repeat (first | refine b1 ?_ _ | refine b2 ?_ | refine b3 ?_ _)); refine blk_put (cs := #[.bool false, .int .i64 0, .int .i64 0]) ?_ 0 _ rfl; (with_reducible repeat (first | refine b1 ?_ _ | refine b2 ?_ | refine b3 ?_ _)); exact BK551.out) Tryd.underlying23 rfl (by kernel_rfl)) rfl ?_
          exact ⟨eS, bS HB⟩
        ·
         replace c56 := Bool.eq_false_iff.mpr c56
         subst c56
         have H1 : ((congr_all.f).bind fun bt561 => (some (bt561.1, bt561.2.1, bt561.2.2))) = some (r1, r2, r3) := by rw [if_neg (show ¬ (false = true) by decide)] at H; exact H
         clear H
         have H := H1
         clear H1
         replace H := Option.bind_eq_some_iff.mp H
         obtain ⟨⟨t561, t562, t563⟩, A640, H⟩ := H
         replace H : (some (t561, t562, t563)) = some (r1, r2, r3) := H
         have A64 := Aside0.mk A640
         clear A640
         simp only [Option.some.injEq, Prod.mk.injEq] at H
         obtain ⟨rfl, rfl, rfl⟩ := H
         go_wp2_with (first | ((with_reducible refine gate_callee (f := 84) rfl ?_); refine goesL_ (some 57) rfl rfl Tryd.func84 (by kernel_rfl) rfl #[] rfl mS ?_; (with_reducible refine (congr_all.calls  t561 t562 t563 _ A64.out).mono ?_); rintro e w65 ⟨rfl, hb⟩; refine ⟨_, rfl, ?_⟩; replace BK549 := kB BK549 hb; replace BK550 := kB BK550 hb; replace BK551 := kB BK551 hb; replace HB := kW HB hb; (try clear hb); (try clear hb2); (try clear hk); (try clear hi); have hnb66 := NB551_549.out; have hnc66 := NB549_551.out; have hnb67 := NB551_550.out; have hnc67 := NB550_551.out; have hcz68_0 := cz0 BK551; have hcz68_1 := cz1 BK551; have hcz68_2 := cz2 BK551; have hfz68_0 := fz BK551 0; have hfz68_1 := fz BK551 1; have hfz68_2 := fz BK551 2))
         refine bodyPost_ret (results_cell_row rfl _ _ gb551 23 #[.bool t561, .int .i64 t562, .int .i64 t563] (0, 0) _ rfl (by (with_reducible repeat (first | refine b1 ?_ _ | refine b2 ?_ | refine b3 ?_ _)); refine blk_put (cs := #[.bool t561, .int .i64 t562, .int .i64 0]) ?_ 2 _ rfl; (with_reducible repeat (first | refine b1 ?_ _ | refine b2 ?_ | refine b3 ?_ _)); refine blk_put (cs := #[.bool t561, .int .i64 0, .int .i64 0]) ?_ 1 _ rfl; (with_reducible repeat (first | refine b1 ?_ _ | refine b2 ?_ | refine b3 ?_ _)); refine blk_put (cs := #[.bool false, .int .i64 0, .int .i64 0]) ?_ 0 _ rfl; (with_reducible repeat (first | refine b1 ?_ _ | refine b2 ?_ | refine b3 ?_ _)); exact BK551.out) Tryd.underlying23 rfl (by kernel_rfl)) rfl ?_
         exact ⟨eS, bS HB⟩
    ·
     rw [if_neg c31] at H
     have c31b0 : (a1_1 == 0) = false := beq_eq_false_iff_ne.mpr c31
     have c31b1 : (a1_1 != 0) = true := bne_iff_ne.mpr c31
     replace H := Option.bind_eq_some_iff.mp H
     obtain ⟨⟨t564, t565, t566⟩, A690, H⟩ := H
     replace H : (some (t564, t565, t566)) = some (r1, r2, r3) := H
     have A69 := Aside0.mk A690
     clear A690
     simp only [Option.some.injEq, Prod.mk.injEq] at H
     obtain ⟨rfl, rfl, rfl⟩ := H
     have hnb70 := NB550_549.out
     have hnc70 := NB549_550.out
     have hnb71 := NB550_551.out
     have hnc71 := NB551_550.out
     have hcz72_0 : wc.cell? ⟨gb550, 0, none⟩ = some (.bool a1_0) := cz0 BK550
     have hcz72_1 : wc.cell? ⟨gb550, 1, none⟩ = some (.int .i64 a1_1) := cz1 BK550
     have hcz72_2 : wc.cell? ⟨gb550, 2, none⟩ = some (.int .i64 a1_2) := cz2 BK550
     have hfz72_0 := fz BK550 0
     have hfz72_1 := fz BK550 1
     have hfz72_2 := fz BK550 2
     go_wp2_with (first | ((with_reducible refine gate_callee (f := 84) rfl ?_); refine goesL_ (some 25) rfl rfl Tryd.func84 (by kernel_rfl) rfl #[] rfl mS ?_; (with_reducible refine (congr_all.calls  t564 t565 t566 _ A69.out).mono ?_); rintro e w73 ⟨rfl, hb⟩; refine ⟨_, rfl, ?_⟩; replace BK549 := kB BK549 hb; replace BK550 := kB BK550 hb; replace BK551 := kB BK551 hb; replace HB := kW HB hb; (try clear hb); (try clear hb2); (try clear hk); (try clear hi); have hnb74 := NB551_549.out; have hnc74 := NB549_551.out; have hcz75_0 := cz0 BK551; have hcz75_1 := cz1 BK551; have hcz75_2 := cz2 BK551; have hfz75_0 := fz BK551 0; have hfz75_1 := fz BK551 1; have hfz75_2 := fz BK551 2))
     refine bodyPost_ret (results_cell_row rfl _ _ gb551 23 #[.bool t564, .int .i64 t565, .int .i64 t566] (0, 0) _ rfl (by (with_reducible repeat (first | refine b1 ?_ _ | refine b2 ?_ | refine b3 ?_ _)); refine blk_put (cs := #[.bool t564, .int .i64 t565, .int .i64 0]) ?_ 2 _ rfl; (with_reducible repeat (first | refine b1 ?_ _ | refine b2 ?_ | refine b3 ?_ _)); refine blk_put (cs := #[.bool t564, .int .i64 0, .int .i64 0]) ?_ 1 _ rfl; (with_reducible repeat (first | refine b1 ?_ _ | refine b2 ?_ | refine b3 ?_ _)); refine blk_put (cs := #[.bool false, .int .i64 0, .int .i64 0]) ?_ 0 _ rfl; (with_reducible repeat (first | refine b1 ?_ _ | refine b2 ?_ | refine b3 ?_ _)); exact BK551.out) Tryd.underlying23 rfl (by kernel_rfl)) rfl ?_
     exact ⟨eS, bS HB⟩

mutual
def congr_Mod.j1 : Nat → Bool → Int → Int → Bool → Int → Int → Option (Bool × Int × Int)
 | 0, _, _, _, _, _, _ => none
 | k + 1, x585000, x585001, x585002, x586000, x586001, x586002 => (congr_gcd_uint64.f k (IntKind.u64.wrap (x585001)) (IntKind.u64.wrap (x586001))).bind fun t593 => ((congr_size.f x586002).bind fun t594 => ((congr_gcd_uint64.f k t593 t594).bind fun t595 => ((congr_by.f k t595 x585002).bind fun bt596 => (some (bt596.1, bt596.2.1, bt596.2.2)))))
def congr_Mod.j0 : Nat → Bool → Bool → Int → Int → Bool → Int → Int → Option (Bool × Int × Int)
 | 0, _, _, _, _, _, _, _ => none
 | k + 1, x5, x585000, x585001, x585002, x586000, x586001, x586002 => if x5 = true then ((congr_none.f).bind fun bt587 => (some (bt587.1, bt587.2.1, bt587.2.2))) else (if x585001 = 0 then (if x586001 = 0 then (if x586002 = 0 then (none) else ((congr_constant.f (Int.tmod x585002 x586002)).bind fun bt590 => (some (bt590.1, bt590.2.1, bt590.2.2)))) else (congr_Mod.j1 k x585000 x585001 x585002 x586000 x586001 x586002)) else (congr_Mod.j1 k x585000 x585001 x585002 x586000 x586001 x586002))
end
def congr_Mod.f (k : Nat) (a0_0 : Bool) (a0_1 : Int) (a0_2 : Int) (a1_0 : Bool) (a1_1 : Int) (a1_2 : Int) : Option (Bool × Int × Int) := if a0_0 = true then (congr_Mod.j0 k true a0_0 a0_1 a0_2 a1_0 a1_1 a1_2) else (if a1_0 = true then (congr_Mod.j0 k true a0_0 a0_1 a0_2 a1_0 a1_1 a1_2) else (congr_Mod.j0 k (!a1_0 && (a1_1 == 0 && (a1_2 == 0))) a0_0 a0_1 a0_2 a1_0 a1_1 a1_2))
def congr_Mod.T5 : Bool × List (List Nat × List Nat) := (true, [([], []), ([0], [0]), ([1], [1]), ([], []), ([3], [3]), ([4], [4]), ([2, 5], [2, 5]), ([], []), ([7], [7]), ([8, 6], [8]), ([6, 9, 9], [6, 9]), ([], []), ([11], [11]), ([10, 12, 10], [10, 12]), ([13, 13, 0, 1, 2, 3, 4, 5, 6, 7, 8, 9, 10, 11, 12, 13], [13])])
def congr_Mod.B5 : List Nat := [0, 1, 3, 0, 8, 24, 63, 0, 128, 511, 1023, 0, 2048, 8191, 16383]
theorem congr_Mod.tab5 : rtab .any (opsOf Tryd.f43 5) = congr_Mod.T5 := by kernel_rfl
theorem congr_Mod.bits5 : waitsOk congr_Mod.T5.2 congr_Mod.B5 = true := by kernel_rfl
set_option maxHeartbeats 8000000 in
set_option maxRecDepth 100000 in
theorem congr_Mod.calls (k : Nat) (a0_0 : Bool) (a0_1 : Int) (a0_2 : Int) (a1_0 : Bool) (a1_1 : Int) (a1_2 : Int) (r1 : Bool) (r2 : Int) (r3 : Int) (w : World) (h : congr_Mod.f k a0_0 a0_1 a0_2 a1_0 a1_1 a1_2 = some (r1, r2, r3)) :
  Calls Tryd.prog 43 #[.agg #[.bool a0_0, .int .i64 a0_1, .int .i64 a0_2], .agg #[.bool a1_0, .int .i64 a1_1, .int .i64 a1_2]] w fun e w' => e = .returned (.agg #[.bool r1, .int .i64 r2, .int .i64 r3]) ∧ Below w.heap.size w w' := by
 have hu23 := Tryd.underlying23
 have HB := Aside0.mk (Below.refl w.heap.size w)
 have H : (if a0_0 = true then (congr_Mod.j0 k true a0_0 a0_1 a0_2 a1_0 a1_1 a1_2) else (if a1_0 = true then (congr_Mod.j0 k true a0_0 a0_1 a0_2 a1_0 a1_1 a1_2) else (congr_Mod.j0 k (!a1_0 && (a1_1 == 0 && (a1_2 == 0))) a0_0 a0_1 a0_2 a1_0 a1_1 a1_2))) = some (r1, r2, r3) := h
 clear h
 have HC3 := Aside0.mk H
 clear H
 go_enter Tryd.func43, Tryd.ntmps43
 go_upto_block 0 with (first | ((with_reducible refine gate_dst (N := 2) rfl ?_); refine box_event ?hg (N := 2) ?hd (cs := #[.bool a0_0, .int .i64 a0_1, .int .i64 a0_2]) (t := 23) ?hr ?_; (case hd => rfl); (case hg => rfl); (case hr => first | (go_simp; done) | (go_simp; rfl)); intro gb584 hg w4 hbox hb; have n0_ := kW HB hb; have n1_ := Aside0.mk (hbox); have n2_ := Aside0.mk ((by rw [hg]; exact (below_size (bS HB)) : w.heap.size ≤ gb584)); have n3_ := Aside0.mk ((by rw [hg]; exact (below_size (bS HB)) : w.heap.size ≤ gb584)); clear HB; have HB := n0_; have BK584 := n1_; have GW584 := n2_; have GE584 := n3_; clear n0_ n1_ n2_ n3_; clear hb hbox hg) | ((with_reducible refine gate_dst (N := 3) rfl ?_); refine box_event ?hg (N := 3) ?hd (cs := #[.bool a1_0, .int .i64 a1_1, .int .i64 a1_2]) (t := 23) ?hr ?_; (case hd => rfl); (case hg => rfl); (case hr => first | (go_simp; done) | (go_simp; rfl)); intro gb585 hg w5 hbox hb; have n0_ := kB BK584 hb; have n1_ := kW HB hb; have n2_ := Aside0.mk (hbox); have n3_ := Aside0.mk ((by rw [hg]; exact (below_size (bS HB)) : w.heap.size ≤ gb585)); have n4_ := Aside0.mk ((by rw [hg]; exact (below_size (bS HB)) : w.heap.size ≤ gb585)); have n5_ := Aside0.mk ((by rw [hg]; exact Nat.ne_of_lt (blk_lt (bkS BK584)) : gb584 ≠ gb585)); have n6_ := Aside0.mk ((by rw [hg]; exact Nat.ne_of_gt (blk_lt (bkS BK584)) : gb585 ≠ gb584)); clear BK584; clear HB; have BK584 := n0_; have HB := n1_; have BK585 := n2_; have GW585 := n3_; have GE585 := n4_; have NB584_585 := n5_; have NB585_584 := n6_; clear n0_ n1_ n2_ n3_ n4_ n5_ n6_; clear hb hbox hg) | ((with_reducible refine gate_dst (N := 4) rfl ?_); refine box_event ?hg (N := 4) ?hd (cs := #[.bool false, .int .i64 0, .int .i64 0]) (t := 23) ?hr ?_; (case hd => rfl); (case hg => rfl); (case hr => first | (go_simp; done) | (go_simp; rfl)); intro gb586 hg w6 hbox hb; have n0_ := kB BK584 hb; have n1_ := kB BK585 hb; have n2_ := kW HB hb; have n3_ := Aside0.mk (hbox); have n4_ := Aside0.mk ((by rw [hg]; exact (below_size (bS HB)) : w.heap.size ≤ gb586)); have n5_ := Aside0.mk ((by rw [hg]; exact (below_size (bS HB)) : w.heap.size ≤ gb586)); have n6_ := Aside0.mk ((by rw [hg]; exact Nat.ne_of_lt (blk_lt (bkS BK584)) : gb584 ≠ gb586)); have n7_ := Aside0.mk ((by rw [hg]; exact Nat.ne_of_gt (blk_lt (bkS BK584)) : gb586 ≠ gb584)); have n8_ := Aside0.mk ((by rw [hg]; exact Nat.ne_of_lt (blk_lt (bkS BK585)) : gb585 ≠ gb586)); have n9_ := Aside0.mk ((by rw [hg]; exact Nat.ne_of_gt (blk_lt (bkS BK585)) : gb586 ≠ gb585)); clear BK584; clear BK585; clear HB; have BK584 := n0_; have BK585 := n1_; have HB := n2_; have BK586 := n3_; have GW586 := n4_; have GE586 := n5_; have NB584_586 := n6_; have NB586_584 := n7_; have NB585_586 := n8_; have NB586_585 := n9_; clear n0_ n1_ n2_ n3_ n4_ n5_ n6_ n7_ n8_ n9_; clear hb hbox hg))
 (try simp only [Act.put, lA, lB, lC])
 go_cut [] (fun wc => ∃ (kq : Nat) (x587000_2 : Bool) (x587001_2 : Int) (x587002_2 : Int), Aside0 (congr_Mod.j1 kq a0_0 a0_1 a0_2 a1_0 a1_1 a1_2 = some (r1, r2, r3)) ∧ Aside0 (kq ≤ k) ∧ Aside0 (wc.heap[gb584]? = some (.cells #[.bool a0_0, .int .i64 a0_1, .int .i64 a0_2] 23 (0, 0))) ∧ Aside0 (wc.heap[gb585]? = some (.cells #[.bool a1_0, .int .i64 a1_1, .int .i64 a1_2] 23 (0, 0))) ∧ Aside0 (wc.heap[gb586]? = some (.cells #[.bool x587000_2, .int .i64 x587001_2, .int .i64 x587002_2] 23 (0, 0))) ∧ Aside0 (Below w.heap.size w wc))
 case first =>
  have H := HC3.out
  clear HC3
  have HC7 := Aside0.mk H
  clear H
  go_upto_region 1 with (fail)
  go_cut [5] (fun v5 wc => ∃ (kq : Nat) (x5_6 : Bool), v5 = .bool x5_6 ∧ Aside0 (congr_Mod.j0 kq x5_6 a0_0 a0_1 a0_2 a1_0 a1_1 a1_2 = some (r1, r2, r3)) ∧ Aside0 (kq ≤ k) ∧ Aside0 (wc.heap[gb584]? = some (.cells #[.bool a0_0, .int .i64 a0_1, .int .i64 a0_2] 23 (0, 0))) ∧ Aside0 (wc.heap[gb585]? = some (.cells #[.bool a1_0, .int .i64 a1_1, .int .i64 a1_2] 23 (0, 0))) ∧ Aside0 (wc.heap[gb586]? = some (.cells #[.bool false, .int .i64 0, .int .i64 0] 23 (0, 0))) ∧ Aside0 (Below w.heap.size w wc))
  case first =>
   have H := HC7.out
   clear HC7
   by_cases c8 : a0_0 = true
   ·
    subst c8
    have H1 : (congr_Mod.j0 k true true a0_1 a0_2 a1_0 a1_1 a1_2) = some (r1, r2, r3) := by rw [if_pos rfl] at H; exact H
    clear H
    have H := H1
    clear H1
    have H' := Aside0.mk H
    clear H
    have hnb9 := NB584_585.out
    have hnc9 := NB585_584.out
    have hnb10 := NB584_586.out
    have hnc10 := NB586_584.out
    have hcz11_0 := cz0 BK584
    have hcz11_1 := cz1 BK584
    have hcz11_2 := cz2 BK584
    have hfz11_0 := fz BK584 0
    have hfz11_1 := fz BK584 1
    have hfz11_2 := fz BK584 2
    go_wp2
    go_meet
    case rel => exact ⟨_, (true), (by first | rfl | (simp; done) | (simp [*]; done)), H', ⟨by first | omega | exact Nat.le_refl _⟩, ⟨bkS BK584⟩, ⟨bkS BK585⟩, ⟨bkS BK586⟩, ⟨bS HB⟩⟩
   ·
    replace c8 := Bool.eq_false_iff.mpr c8
    subst c8
    have H1 : (if a1_0 = true then (congr_Mod.j0 k true false a0_1 a0_2 a1_0 a1_1 a1_2) else (congr_Mod.j0 k (!a1_0 && (a1_1 == 0 && (a1_2 == 0))) false a0_1 a0_2 a1_0 a1_1 a1_2)) = some (r1, r2, r3) := by rw [if_neg (show ¬ (false = true) by decide)] at H; exact H
    clear H
    have H := H1
    clear H1
    by_cases c12 : a1_0 = true
    ·
     subst c12
     have H1 : (congr_Mod.j0 k true false a0_1 a0_2 true a1_1 a1_2) = some (r1, r2, r3) := by rw [if_pos rfl] at H; exact H
     clear H
     have H := H1
     clear H1
     have H' := Aside0.mk H
     clear H
     have hnb13 := NB584_585.out
     have hnc13 := NB585_584.out
     have hnb14 := NB584_586.out
     have hnc14 := NB586_584.out
     have hcz15_0 := cz0 BK584
     have hcz15_1 := cz1 BK584
     have hcz15_2 := cz2 BK584
     have hfz15_0 := fz BK584 0
     have hfz15_1 := fz BK584 1
     have hfz15_2 := fz BK584 2
     have hnb16 := NB585_586.out
     have hnc16 := NB586_585.out
     have hcz17_0 := cz0 BK585
     have hcz17_1 := cz1 BK585
     have hcz17_2 := cz2 BK585
     have hfz17_0 := fz BK585 0
     have hfz17_1 := fz BK585 1
     have hfz17_2 := fz BK585 2
     go_wp2
     go_meet
     case rel => exact ⟨_, (true), (by first | rfl | (simp; done) | (simp [*]; done)), H', ⟨by first | omega | exact Nat.le_refl _⟩, ⟨bkS BK584⟩, ⟨bkS BK585⟩, ⟨bkS BK586⟩, ⟨bS HB⟩⟩
    ·
     replace c12 := Bool.eq_false_iff.mpr c12
     subst c12
     have H1 : (congr_Mod.j0 k (!false && (a1_1 == 0 && (a1_2 == 0))) false a0_1 a0_2 false a1_1 a1_2) = some (r1, r2, r3) := by rw [if_neg (show ¬ (false = true) by decide)] at H; exact H
     clear H
     have H := H1
     clear H1
     have H' := Aside0.mk H
     clear H
     have hnb18 := NB584_585.out
     have hnc18 := NB585_584.out
     have hnb19 := NB584_586.out
     have hnc19 := NB586_584.out
     have hcz20_0 := cz0 BK584
     have hcz20_1 := cz1 BK584
     have hcz20_2 := cz2 BK584
     have hfz20_0 := fz BK584 0
     have hfz20_1 := fz BK584 1
     have hfz20_2 := fz BK584 2
     have hnb21 := NB585_586.out
     have hnc21 := NB586_585.out
     have hcz22_0 := cz0 BK585
     have hcz22_1 := cz1 BK585
     have hcz22_2 := cz2 BK585
     have hfz22_0 := fz BK585 0
     have hfz22_1 := fz BK585 1
     have hfz22_2 := fz BK585 2
     go_wp2
     go_meet
     case rel => exact ⟨_, ((!false && (a1_1 == 0 && (a1_2 == 0)))), (by first | rfl | (simp; done) | (simp [*]; done)), H', ⟨by first | omega | exact Nat.le_refl _⟩, ⟨bkS BK584⟩, ⟨bkS BK585⟩, ⟨bkS BK586⟩, ⟨bS HB⟩⟩
  case rest =>
   clear HC7
   try clear c1
   try clear c2
   try clear p2
   try clear c4
   try clear c8
   try clear c9
   try clear c10
   try clear c12
   try clear c13
   try clear c14
   try clear c16
   try clear c18
   try clear c19
   try clear c21
   try clear hcz11_0
   try clear hcz11_1
   try clear hcz11_2
   try clear hcz15_0
   try clear hcz15_1
   try clear hcz15_2
   try clear hcz17_0
   try clear hcz17_1
   try clear hcz17_2
   try clear hcz20_0
   try clear hcz20_1
   try clear hcz20_2
   try clear hcz22_0
   try clear hcz22_1
   try clear hcz22_2
   try clear hfz11_0
   try clear hfz11_1
   try clear hfz11_2
   try clear hfz15_0
   try clear hfz15_1
   try clear hfz15_2
   try clear hfz17_0
   try clear hfz17_1
   try clear hfz17_2
   try clear hfz20_0
   try clear hfz20_1
   try clear hfz20_2
   try clear hfz22_0
   try clear hfz22_1
   try clear hfz22_2
   obtain ⟨kq, x5_6, rfl, HA, HJ6, BK584, BK585, BK586, HB⟩ := hcut
   cases kq with
   | zero => exact absurd HA.out (by simp [congr_Mod.j0])
   | succ kj6 =>
    have H := HA.out
    clear HA
    simp only [congr_Mod.j0] at H
    by_cases c23 : x5_6 = true
    ·
     subst c23
     have H1 : ((congr_none.f).bind fun bt587 => (some (bt587.1, bt587.2.1, bt587.2.2))) = some (r1, r2, r3) := by rw [if_pos rfl] at H; exact H
     clear H
     have H := H1
     clear H1
     replace H := Option.bind_eq_some_iff.mp H
     obtain ⟨⟨t587, t588, t589⟩, A240, H⟩ := H
     replace H : (some (t587, t588, t589)) = some (r1, r2, r3) := H
     have A24 := Aside0.mk A240
     clear A240
     simp only [Option.some.injEq, Prod.mk.injEq] at H
     obtain ⟨rfl, rfl, rfl⟩ := H
     go_wp2_with (first | ((with_reducible refine gate_callee (f := 56) rfl ?_); refine goesL_ (some 17) rfl rfl Tryd.func56 (by kernel_rfl) rfl #[] rfl mS ?_; (with_reducible refine (congr_none.calls  t587 t588 t589 _ A24.out).mono ?_); rintro e w25 ⟨rfl, hb⟩; refine ⟨_, rfl, ?_⟩; replace BK584 := kB BK584 hb; replace BK585 := kB BK585 hb; replace BK586 := kB BK586 hb; replace HB := kW HB hb; (try clear hb); (try clear hb2); (try clear hk); (try clear hi); have hnb26 := NB586_584.out; have hnc26 := NB584_586.out; have hnb27 := NB586_585.out; have hnc27 := NB585_586.out; have hcz28_0 := cz0 BK586; have hcz28_1 := cz1 BK586; have hcz28_2 := cz2 BK586; have hfz28_0 := fz BK586 0; have hfz28_1 := fz BK586 1; have hfz28_2 := fz BK586 2))
     refine bodyPost_ret (results_cell_row rfl _ _ gb586 23 #[.bool t587, .int .i64 t588, .int .i64 t589] (0, 0) _ rfl (by (with_reducible repeat (first | refine b1 ?_ _ | refine b2 ?_ | refine b3 ?_ _)); refine blk_put (cs := #[.bool t587, .int .i64 t588, .int .i64 0]) ?_ 2 _ rfl; (with_reducible repeat (first | refine b1 ?_ _ | refine b2 ?_ | refine b3 ?_ _)); refine blk_put (cs := #[.bool t587, .int .i64 0, .int .i64 0]) ?_ 1 _ rfl; (with_reducible repeat (first | refine b1 ?_ _ | refine b2 ?_ | refine b3 ?_ _)); refine blk_put (cs := #[.bool false, .int .i64 0, .int .i64 0]) ?_ 0 _ rfl; (with_reducible repeat (first | refine b1 ?_ _ | refine b2 ?_ | refine b3 ?_ _)); exact BK586.out) Tryd.underlying23 rfl (by kernel_rfl)) rfl ?_
     exact ⟨eS, bS HB⟩
    ·
     replace c23 := Bool.eq_false_iff.mpr c23
     subst c23
     have H1 : (if a0_1 = 0 then (if a1_1 = 0 then (if a1_2 = 0 then (none) else ((congr_constant.f (Int.tmod a0_2 a1_2)).bind fun bt590 => (some (bt590.1, bt590.2.1, bt590.2.2)))) else (congr_Mod.j1 kj6 a0_0 a0_1 a0_2 a1_0 a1_1 a1_2)) else (congr_Mod.j1 kj6 a0_0 a0_1 a0_2 a1_0 a1_1 a1_2)) = some (r1, r2, r3) := by rw [if_neg (show ¬ (false = true) by decide)] at H; exact H
     clear H
     have H := H1
     clear H1
     by_cases c29 : a0_1 = 0
     ·
      rw [if_pos c29] at H
      have c29b0 : (a0_1 == 0) = true := beq_iff_eq.mpr c29
      have c29b1 : (a0_1 != 0) = false := bne_eq_false_iff_eq.mpr c29
      clear c29
      by_cases c30 : a1_1 = 0
      ·
       rw [if_pos c30] at H
       have c30b0 : (a1_1 == 0) = true := beq_iff_eq.mpr c30
       have c30b1 : (a1_1 != 0) = false := bne_eq_false_iff_eq.mpr c30
       clear c30
       by_cases c31 : a1_2 = 0
       ·
        rw [if_pos c31] at H
        exact absurd H (by simp)
       ·
        rw [if_neg c31] at H
        have c31b0 : (a1_2 == 0) = false := beq_eq_false_iff_ne.mpr c31
        have c31b1 : (a1_2 != 0) = true := bne_iff_ne.mpr c31
        replace H := Option.bind_eq_some_iff.mp H
        obtain ⟨⟨t590, t591, t592⟩, A320, H⟩ := H
        replace H : (some (t590, t591, t592)) = some (r1, r2, r3) := H
        have A32 := Aside0.mk A320
        clear A320
        simp only [Option.some.injEq, Prod.mk.injEq] at H
        obtain ⟨rfl, rfl, rfl⟩ := H
        have hnb33 := NB584_585.out
        have hnc33 := NB585_584.out
        have hnb34 := NB584_586.out
        have hnc34 := NB586_584.out
        have hcz35_0 : wc.cell? ⟨gb584, 0, none⟩ = some (.bool a0_0) := cz0 BK584
        have hcz35_1 : wc.cell? ⟨gb584, 1, none⟩ = some (.int .i64 a0_1) := cz1 BK584
        have hcz35_2 : wc.cell? ⟨gb584, 2, none⟩ = some (.int .i64 a0_2) := cz2 BK584
        have hfz35_0 := fz BK584 0
        have hfz35_1 := fz BK584 1
        have hfz35_2 := fz BK584 2
        have hnb36 := NB585_586.out
        have hnc36 := NB586_585.out
        have hcz37_0 : wc.cell? ⟨gb585, 0, none⟩ = some (.bool a1_0) := cz0 BK585
        have hcz37_1 : wc.cell? ⟨gb585, 1, none⟩ = some (.int .i64 a1_1) := cz1 BK585
        have hcz37_2 : wc.cell? ⟨gb585, 2, none⟩ = some (.int .i64 a1_2) := cz2 BK585
        have hfz37_0 := fz BK585 0
        have hfz37_1 := fz BK585 1
        have hfz37_2 := fz BK585 2
        go_wp2_with (first | ((with_reducible refine gate_callee (f := 50) rfl ?_); refine goesL_ (some 32) rfl rfl Tryd.func50 (by kernel_rfl) rfl #[.int .i64 (Int.tmod a0_2 a1_2)] rfl mS ?_; (with_reducible refine (congr_constant.calls (Int.tmod a0_2 a1_2) t590 t591 t592 _ A32.out).mono ?_); rintro e w38 ⟨rfl, hb⟩; refine ⟨_, rfl, ?_⟩; replace BK584 := kB BK584 hb; replace BK585 := kB BK585 hb; replace BK586 := kB BK586 hb; replace HB := kW HB hb; (try clear hb); (try clear hb2); (try clear hk); (try clear hi); have hcz39_0 := cz0 BK586; have hcz39_1 := cz1 BK586; have hcz39_2 := cz2 BK586; have hfz39_0 := fz BK586 0; have hfz39_1 := fz BK586 1; have hfz39_2 := fz BK586 2))
        refine bodyPost_ret (results_cell_row rfl _ _ gb586 23 #[.bool t590, .int .i64 t591, .int .i64 t592] (0, 0) _ rfl (by (with_reducible repeat (first | refine b1 ?_ _ | refine b2 ?_ | refine b3 ?_ _)); refine blk_put (cs := #[.bool t590, .int .i64 t591, .int .i64 0]) ?_ 2 _ rfl; (with_reducible repeat (first | refine b1 ?_ _ | refine b2 ?_ | refine b3 ?_ _)); refine blk_put (cs := #[.bool t590, .int .i64 0, .int .i64 0]) ?_ 1 _ rfl; (with_reducible repeat (first | refine b1 ?_ _ | refine b2 ?_ | refine b3 ?_ _)); refine blk_put (cs := #[.bool false, .int .i64 0, .int .i64 0]) ?_ 0 _ rfl; (with_reducible repeat (first | refine b1 ?_ _ | refine b2 ?_ | refine b3 ?_ _)); exact BK586.out) Tryd.underlying23 rfl (by kernel_rfl)) rfl ?_
        exact ⟨eS, bS HB⟩
      ·
       rw [if_neg c30] at H
       have c30b0 : (a1_1 == 0) = false := beq_eq_false_iff_ne.mpr c30
       have c30b1 : (a1_1 != 0) = true := bne_iff_ne.mpr c30
       have H' := Aside0.mk H
       clear H
       have hnb40 := NB584_585.out
       have hnc40 := NB585_584.out
       have hnb41 := NB584_586.out
       have hnc41 := NB586_584.out
       have hcz42_0 : wc.cell? ⟨gb584, 0, none⟩ = some (.bool a0_0) := cz0 BK584
       have hcz42_1 : wc.cell? ⟨gb584, 1, none⟩ = some (.int .i64 a0_1) := cz1 BK584
       have hcz42_2 : wc.cell? ⟨gb584, 2, none⟩ = some (.int .i64 a0_2) := cz2 BK584
       have hfz42_0 := fz BK584 0
       have hfz42_1 := fz BK584 1
       have hfz42_2 := fz BK584 2
       have hnb43 := NB585_586.out
       have hnc43 := NB586_585.out
       have hcz44_0 : wc.cell? ⟨gb585, 0, none⟩ = some (.bool a1_0) := cz0 BK585
       have hcz44_1 : wc.cell? ⟨gb585, 1, none⟩ = some (.int .i64 a1_1) := cz1 BK585
       have hcz44_2 : wc.cell? ⟨gb585, 2, none⟩ = some (.int .i64 a1_2) := cz2 BK585
       have hfz44_0 := fz BK585 0
       have hfz44_1 := fz BK585 1
       have hfz44_2 := fz BK585 2
       go_wp2
       go_meet
       case rel => exact ⟨_, (false), (0), (0), H', ⟨by have := HJ6.out; first | omega | exact Nat.le_refl _⟩, ⟨bkS BK584⟩, ⟨bkS BK585⟩, ⟨bkS BK586⟩, ⟨bS HB⟩⟩
     ·
      rw [if_neg c29] at H
      have c29b0 : (a0_1 == 0) = false := beq_eq_false_iff_ne.mpr c29
      have c29b1 : (a0_1 != 0) = true := bne_iff_ne.mpr c29
      have H' := Aside0.mk H
      clear H
      have hnb45 := NB584_585.out
      have hnc45 := NB585_584.out
      have hnb46 := NB584_586.out
      have hnc46 := NB586_584.out
      have hcz47_0 : wc.cell? ⟨gb584, 0, none⟩ = some (.bool a0_0) := cz0 BK584
      have hcz47_1 : wc.cell? ⟨gb584, 1, none⟩ = some (.int .i64 a0_1) := cz1 BK584
      have hcz47_2 : wc.cell? ⟨gb584, 2, none⟩ = some (.int .i64 a0_2) := cz2 BK584
      have hfz47_0 := fz BK584 0
      have hfz47_1 := fz BK584 1
      have hfz47_2 := fz BK584 2
      go_wp2
      go_meet
      case rel => exact ⟨_, (false), (0), (0), H', ⟨by have := HJ6.out; first | omega | exact Nat.le_refl _⟩, ⟨bkS BK584⟩, ⟨bkS BK585⟩, ⟨bkS BK586⟩, ⟨bS HB⟩⟩
 case rest =>
  clear HC3
  try clear c1
  try clear c2
  try clear p2
  try clear c3
  try clear c4
  try clear c5
  try clear c8
  try clear c9
  try clear c10
  try clear c12
  try clear c13
  try clear c14
  try clear c16
  try clear c18
  try clear c19
  try clear c21
  try clear c23
  try clear c26
  try clear c27
  try clear c29
  try clear c29b0
  try clear c29b1
  try clear c30
  try clear c30b0
  try clear c30b1
  try clear c31
  try clear c31b0
  try clear c31b1
  try clear c33
  try clear c34
  try clear c36
  try clear c40
  try clear c41
  try clear c43
  try clear c45
  try clear c46
  try clear hcz11_0
  try clear hcz11_1
  try clear hcz11_2
  try clear hcz15_0
  try clear hcz15_1
  try clear hcz15_2
  try clear hcz17_0
  try clear hcz17_1
  try clear hcz17_2
  try clear hcz20_0
  try clear hcz20_1
  try clear hcz20_2
  try clear hcz22_0
  try clear hcz22_1
  try clear hcz22_2
  try clear hcz28_0
  try clear hcz28_1
  try clear hcz28_2
  try clear hcz35_0
  try clear hcz35_1
  try clear hcz35_2
  try clear hcz37_0
  try clear hcz37_1
  try clear hcz37_2
  try clear hcz39_0
  try clear hcz39_1
  try clear hcz39_2
  try clear hcz42_0
  try clear hcz42_1
  try clear hcz42_2
  try clear hcz44_0
  try clear hcz44_1
  try clear hcz44_2
  try clear hcz47_0
  try clear hcz47_1
  try clear hcz47_2
  try clear hfz11_0
  try clear hfz11_1
  try clear hfz11_2
  try clear hfz15_0
  try clear hfz15_1
  try clear hfz15_2
  try clear hfz17_0
  try clear hfz17_1
  try clear hfz17_2
  try clear hfz20_0
  try clear hfz20_1
  try clear hfz20_2
  try clear hfz22_0
  try clear hfz22_1
  try clear hfz22_2
  try clear hfz28_0
  try clear hfz28_1
  try clear hfz28_2
  try clear hfz35_0
  try clear hfz35_1
  try clear hfz35_2
  try clear hfz37_0
  try clear hfz37_1
  try clear hfz37_2
  try clear hfz39_0
  try clear hfz39_1
  try clear hfz39_2
  try clear hfz42_0
  try clear hfz42_1
  try clear hfz42_2
  try clear hfz44_0
  try clear hfz44_1
  try clear hfz44_2
  try clear hfz47_0
  try clear hfz47_1
  try clear hfz47_2
  try clear p2
  obtain ⟨kq, x587000_2, x587001_2, x587002_2, HA, HJ2, BK584, BK585, BK586, HB⟩ := hcut
  cases kq with
  | zero => exact absurd HA.out (by simp [congr_Mod.j1])
  | succ kj2 =>
   have H := HA.out
   clear HA
   simp only [congr_Mod.j1] at H
   replace H := Option.bind_eq_some_iff.mp H
   obtain ⟨t593, A480, H⟩ := H
   replace H : ((congr_size.f a1_2).bind fun t594 => ((congr_gcd_uint64.f kj2 t593 t594).bind fun t595 => ((congr_by.f kj2 t595 a0_2).bind fun bt596 => (some (bt596.1, bt596.2.1, bt596.2.2))))) = some (r1, r2, r3) := H
   have A48 := Aside0.mk A480
   clear A480
   replace H := Option.bind_eq_some_iff.mp H
   obtain ⟨t594, A490, H⟩ := H
   replace H : ((congr_gcd_uint64.f kj2 t593 t594).bind fun t595 => ((congr_by.f kj2 t595 a0_2).bind fun bt596 => (some (bt596.1, bt596.2.1, bt596.2.2)))) = some (r1, r2, r3) := H
   have A49 := Aside0.mk A490
   clear A490
   replace H := Option.bind_eq_some_iff.mp H
   obtain ⟨t595, A500, H⟩ := H
   replace H : ((congr_by.f kj2 t595 a0_2).bind fun bt596 => (some (bt596.1, bt596.2.1, bt596.2.2))) = some (r1, r2, r3) := H
   have A50 := Aside0.mk A500
   clear A500
   replace H := Option.bind_eq_some_iff.mp H
   obtain ⟨⟨t596, t597, t598⟩, A510, H⟩ := H
   replace H : (some (t596, t597, t598)) = some (r1, r2, r3) := H
   have A51 := Aside0.mk A510
   clear A510
   simp only [Option.some.injEq, Prod.mk.injEq] at H
   obtain ⟨rfl, rfl, rfl⟩ := H
   try go_wp2
   replace BK584 := Aside0.mk (blk_drew BK584.out)
   replace BK585 := Aside0.mk (blk_drew BK585.out)
   replace BK586 := Aside0.mk (blk_drew BK586.out)
   replace HB := Aside0.mk (below_drew1 HB.out)
   refine start_ (n := 15) (S := fun w' => w'.cell? ⟨gb584, 0, none⟩ = some (.bool a0_0) ∧ w'.cell? ⟨gb584, 1, none⟩ = some (.int .i64 a0_1) ∧ w'.cell? ⟨gb584, 2, none⟩ = some (.int .i64 a0_2) ∧ w'.cell? ⟨gb585, 0, none⟩ = some (.bool a1_0) ∧ w'.cell? ⟨gb585, 1, none⟩ = some (.int .i64 a1_1) ∧ w'.cell? ⟨gb585, 2, none⟩ = some (.int .i64 a1_2)) (ds := []) #[false, false, false, false, false, false, false, false, false, false, false, false, false, false, false] (by kernel_rfl) rfl rfl ⟨cz0 BK584, cz1 BK584, cz2 BK584, cz0 BK585, cz1 BK585, cz2 BK585⟩ (fun hHeld => ?_); refine with_tabW congr_Mod.tab5 congr_Mod.bits5 (fun HT_ HW_ => ?_)
   generalize wc.drew = w52 at BK584 BK585 BK586 HB hHeld ⊢
   refine pure_ (i := 0) (N := some 33) (v := ?_) (a' := ?_) #[true, false, false, false, false, false, false, false, false, false, false, false, false, false, false] rfl rfl (any_of HT_.out (by kernel_rfl)) (fun _ _ _ h => h) (Or.inl ⟨by rfl, ?_⟩) ?_ ?_
   rotate_left
   ·
    intro w'
    go_simp
    with_reducible rfl
   rotate_left
   ·
    simp only [Act.put, lA, lB, lC, i64_w, i32_w]
    rfl
   refine pure_ (i := 3) (N := some 36) (v := ?_) (a' := ?_) #[true, false, false, true, false, false, false, false, false, false, false, false, false, false, false] rfl rfl (any_of HT_.out (by kernel_rfl)) (fun _ _ _ h => h) (Or.inl ⟨by rfl, ?_⟩) ?_ ?_
   rotate_left
   ·
    intro w'
    go_simp
    with_reducible rfl
   rotate_left
   ·
    simp only [Act.put, lA, lB, lC, i64_w, i32_w]
    rfl
   refine pure_ (i := 7) (N := some 40) (v := ?_) (a' := ?_) #[true, false, false, true, false, false, false, true, false, false, false, false, false, false, false] rfl rfl (any_of HT_.out (by kernel_rfl)) (fun _ _ _ h => h) (Or.inl ⟨by rfl, ?_⟩) ?_ ?_
   rotate_left
   ·
    intro w'
    go_simp
    with_reducible rfl
   rotate_left
   ·
    simp only [Act.put, lA, lB, lC, i64_w, i32_w]
    rfl
   refine pure_ (i := 11) (N := some 44) (v := ?_) (a' := ?_) #[true, false, false, true, false, false, false, true, false, false, false, true, false, false, false] rfl rfl (any_of HT_.out (by kernel_rfl)) (fun _ _ _ h => h) (Or.inl ⟨by rfl, ?_⟩) ?_ ?_
   rotate_left
   ·
    intro w'
    go_simp
    with_reducible rfl
   rotate_left
   ·
    simp only [Act.put, lA, lB, lC, i64_w, i32_w]
    rfl
   refine take_ (i := 1) (N := some 34) (v := ?_) (a' := ?_) #[true, true, false, true, false, false, false, true, false, false, false, true, false, false, false] rfl rfl (take_ofW HT_.out HW_.out (by kernel_rfl)) (fun _ _ _ h => h) (Or.inl ⟨by rfl, ?_⟩) hHeld ?_ ?_
   rotate_left
   ·
    rintro w' ⟨s0, s1, s2, s3, s4, s5⟩
    go_simp
    with_reducible rfl
   rotate_left
   ·
    simp only [Act.put, lA, lB, lC, i64_w, i32_w]
    rfl
   refine pure_ (i := 2) (N := some 35) (v := ?_) (a' := ?_) #[true, true, true, true, false, false, false, true, false, false, false, true, false, false, false] rfl rfl (any_of HT_.out (by kernel_rfl)) (fun _ _ _ h => h) (Or.inl ⟨by rfl, ?_⟩) ?_ ?_
   rotate_left
   ·
    intro w'
    go_simp
    with_reducible rfl
   rotate_left
   ·
    simp only [Act.put, lA, lB, lC, i64_w, i32_w]
    rfl
   refine take_ (i := 4) (N := some 37) (v := ?_) (a' := ?_) #[true, true, true, true, true, false, false, true, false, false, false, true, false, false, false] rfl rfl (take_ofW HT_.out HW_.out (by kernel_rfl)) (fun _ _ _ h => h) (Or.inl ⟨by rfl, ?_⟩) hHeld ?_ ?_
   rotate_left
   ·
    rintro w' ⟨s0, s1, s2, s3, s4, s5⟩
    go_simp
    with_reducible rfl
   rotate_left
   ·
    simp only [Act.put, lA, lB, lC, i64_w, i32_w]
    rfl
   refine pure_ (i := 5) (N := some 38) (v := ?_) (a' := ?_) #[true, true, true, true, true, true, false, true, false, false, false, true, false, false, false] rfl rfl (any_of HT_.out (by kernel_rfl)) (fun _ _ _ h => h) (Or.inl ⟨by rfl, ?_⟩) ?_ ?_
   rotate_left
   ·
    intro w'
    go_simp
    with_reducible rfl
   rotate_left
   ·
    simp only [Act.put, lA, lB, lC, i64_w, i32_w]
    rfl
   refine take_ (i := 8) (N := some 41) (v := ?_) (a' := ?_) #[true, true, true, true, true, true, false, true, true, false, false, true, false, false, false] rfl rfl (take_ofW HT_.out HW_.out (by kernel_rfl)) (fun _ _ _ h => h) (Or.inl ⟨by rfl, ?_⟩) hHeld ?_ ?_
   rotate_left
   ·
    rintro w' ⟨s0, s1, s2, s3, s4, s5⟩
    go_simp
    with_reducible rfl
   rotate_left
   ·
    simp only [Act.put, lA, lB, lC, i64_w, i32_w]
    rfl
   refine take_ (i := 12) (N := some 45) (v := ?_) (a' := ?_) #[true, true, true, true, true, true, false, true, true, false, false, true, true, false, false] rfl rfl (take_ofW HT_.out HW_.out (by kernel_rfl)) (fun _ _ _ h => h) (Or.inl ⟨by rfl, ?_⟩) hHeld ?_ ?_
   rotate_left
   ·
    rintro w' ⟨s0, s1, s2, s3, s4, s5⟩
    go_simp
    with_reducible rfl
   rotate_left
   ·
    simp only [Act.put, lA, lB, lC, i64_w, i32_w]
    rfl
   refine one_ (i := 6) (N := some 39) #[true, true, true, true, true, true, true, true, true, false, false, true, true, false, false] rfl rfl (one_of HT_.out (by kernel_rfl)) (by decide) (fun K hK => ?_)
   refine goes_ Tryd.func62 (by kernel_rfl) rfl #[.int .u64 (IntKind.u64.wrap (a0_1)), .int .u64 (IntKind.u64.wrap (a1_1))] (by rfl) rfl rfl mS ?_
   with_reducible refine (congr_gcd_uint64.calls kj2 (IntKind.u64.wrap (a0_1)) (IntKind.u64.wrap (a1_1)) t593 _ A48.out).mono ?_
   rintro e w' ⟨rfl, ⟨nd, rfl⟩⟩
   refine ⟨_, rfl, ?_⟩
   refine hK.out _ _ ⟨cz0 BK584, cz1 BK584, cz2 BK584, cz0 BK585, cz1 BK585, cz2 BK585⟩ (fun hHeld => ?_)
   clear hK K
   refine norm_ (a' := ?_) ?_ ?_
   rotate_left
   ·
    show Act.put _ (some 39) _ = _
    simp only [Act.put, lA, lB, lC, i64_w, i32_w]
    rfl
   refine one_ (i := 9) (N := some 42) #[true, true, true, true, true, true, true, true, true, true, false, true, true, false, false] rfl rfl (one_of HT_.out (by kernel_rfl)) (by decide) (fun K hK => ?_)
   refine goes_ Tryd.func52 (by kernel_rfl) rfl #[.int .i64 a1_2] (by rfl) rfl rfl mS ?_
   with_reducible refine (congr_size.calls a1_2 t594 _ A49.out).mono ?_
   rintro e w' ⟨rfl, ⟨nd, rfl⟩⟩
   refine ⟨_, rfl, ?_⟩
   refine hK.out _ _ ⟨cz0 BK584, cz1 BK584, cz2 BK584, cz0 BK585, cz1 BK585, cz2 BK585⟩ (fun hHeld => ?_)
   clear hK K
   refine norm_ (a' := ?_) ?_ ?_
   rotate_left
   ·
    show Act.put _ (some 42) _ = _
    simp only [Act.put, lA, lB, lC, i64_w, i32_w]
    rfl
   refine one_ (i := 10) (N := some 43) #[true, true, true, true, true, true, true, true, true, true, true, true, true, false, false] rfl rfl (one_of HT_.out (by kernel_rfl)) (by decide) (fun K hK => ?_)
   refine goes_ Tryd.func62 (by kernel_rfl) rfl #[.int .u64 t593, .int .u64 t594] (by rfl) rfl rfl mS ?_
   with_reducible refine (congr_gcd_uint64.calls kj2 t593 t594 t595 _ A50.out).mono ?_
   rintro e w' ⟨rfl, ⟨nd, rfl⟩⟩
   refine ⟨_, rfl, ?_⟩
   refine hK.out _ _ ⟨cz0 BK584, cz1 BK584, cz2 BK584, cz0 BK585, cz1 BK585, cz2 BK585⟩ (fun hHeld => ?_)
   clear hK K
   refine norm_ (a' := ?_) ?_ ?_
   rotate_left
   ·
    show Act.put _ (some 43) _ = _
    simp only [Act.put, lA, lB, lC, i64_w, i32_w]
    rfl
   refine one_ (i := 13) (N := some 46) #[true, true, true, true, true, true, true, true, true, true, true, true, true, true, false] rfl rfl (one_of HT_.out (by kernel_rfl)) (by decide) (fun K hK => ?_)
   refine goes_ Tryd.func60 (by kernel_rfl) rfl #[.int .u64 t595, .int .i64 a0_2] (by rfl) rfl rfl mS ?_
   with_reducible refine (congr_by.calls kj2 t595 a0_2 t596 t597 t598 _ A51.out).mono ?_
   rintro e w53 ⟨rfl, hb⟩
   refine ⟨_, rfl, ?_⟩
   replace BK584 := kB BK584 hb
   replace BK585 := kB BK585 hb
   replace BK586 := kB BK586 hb
   replace HB := kW HB hb
   (try clear hb)
   (try clear hb2)
   (try clear hk)
   (try clear hi)
   refine hK.out _ _ ⟨cz0 BK584, cz1 BK584, cz2 BK584, cz0 BK585, cz1 BK585, cz2 BK585⟩ (fun hHeld => ?_)
   clear hK K
   refine norm_ (a' := ?_) ?_ ?_
   rotate_left
   ·
    show Act.put _ (some 46) _ = _
    simp only [Act.put, lA, lB, lC, i64_w, i32_w]
    rfl
   refine one_ (i := 14) (N := none) #[true, true, true, true, true, true, true, true, true, true, true, true, true, true, true] rfl rfl (one_of HT_.out (by kernel_rfl)) (by decide) (fun K hK => ?_)
   have hs54 : w53.cell? ⟨gb586, 0, none⟩ = some (.bool x587000_2) := cz0 BK586
   have hfs54 := fz BK586 0
   have hns54_0 := NB584_586.out
   have hns54_1 := NB585_586.out
   have hms54_0 := NB586_584.out
   have hms54_1 := NB586_585.out
   have hs55 : w53.cell? ⟨gb586, 1, none⟩ = some (.int .i64 x587001_2) := cz1 BK586
   have hfs55 := fz BK586 1
   have hns55_0 := NB584_586.out
   have hns55_1 := NB585_586.out
   have hms55_0 := NB586_584.out
   have hms55_1 := NB586_585.out
   have hs56 : w53.cell? ⟨gb586, 2, none⟩ = some (.int .i64 x587002_2) := cz2 BK586
   have hfs56 := fz BK586 2
   have hns56_0 := NB584_586.out
   have hns56_1 := NB585_586.out
   have hms56_0 := NB586_584.out
   have hms56_1 := NB586_585.out
   refine skip_ (w1 := ?_) (by rfl) rfl ?_ ?_
   rotate_left
   ·
    go_simp
    rfl
   refine hK.out _ _ ⟨((cell_far (p := ⟨gb586, _, none⟩) NB584_586.out _).trans (((cell_far (p := ⟨gb586, _, none⟩) NB584_586.out _).trans (((cell_far (p := ⟨gb586, _, none⟩) NB584_586.out _).trans (hHeld.1)))))), ((cell_far (p := ⟨gb586, _, none⟩) NB584_586.out _).trans (((cell_far (p := ⟨gb586, _, none⟩) NB584_586.out _).trans (((cell_far (p := ⟨gb586, _, none⟩) NB584_586.out _).trans (hHeld.2.1)))))), ((cell_far (p := ⟨gb586, _, none⟩) NB584_586.out _).trans (((cell_far (p := ⟨gb586, _, none⟩) NB584_586.out _).trans (((cell_far (p := ⟨gb586, _, none⟩) NB584_586.out _).trans (hHeld.2.2.1)))))), ((cell_far (p := ⟨gb586, _, none⟩) NB585_586.out _).trans (((cell_far (p := ⟨gb586, _, none⟩) NB585_586.out _).trans (((cell_far (p := ⟨gb586, _, none⟩) NB585_586.out _).trans (hHeld.2.2.2.1)))))), ((cell_far (p := ⟨gb586, _, none⟩) NB585_586.out _).trans (((cell_far (p := ⟨gb586, _, none⟩) NB585_586.out _).trans (((cell_far (p := ⟨gb586, _, none⟩) NB585_586.out _).trans (hHeld.2.2.2.2.1)))))), ((cell_far (p := ⟨gb586, _, none⟩) NB585_586.out _).trans (((cell_far (p := ⟨gb586, _, none⟩) NB585_586.out _).trans (((cell_far (p := ⟨gb586, _, none⟩) NB585_586.out _).trans (hHeld.2.2.2.2.2))))))⟩ (fun hHeld => ?_)
   clear hK K
   refine done_ (done_of HT_.out (by kernel_rfl)) ?_
   try go_wp2
   refine bodyPost_ret (results_cell_row rfl _ _ gb586 23 #[.bool t596, .int .i64 t597, .int .i64 t598] (0, 0) _ rfl (by (with_reducible repeat (first | refine b1 ?_ _ | refine b2 ?_ | refine b3 ?_ _)); refine blk_put (cs := #[.bool t596, .int .i64 t597, .int .i64 x587002_2]) ?_ 2 _ rfl; (with_reducible repeat (first | refine b1 ?_ _ | refine b2 ?_ | refine b3 ?_ _)); refine blk_put (cs := #[.bool t596, .int .i64 x587001_2, .int .i64 x587002_2]) ?_ 1 _ rfl; (with_reducible repeat (first | refine b1 ?_ _ | refine b2 ?_ | refine b3 ?_ _)); refine blk_put (cs := #[.bool x587000_2, .int .i64 x587001_2, .int .i64 x587002_2]) ?_ 0 _ rfl; (with_reducible repeat (first | refine b1 ?_ _ | refine b2 ?_ | refine b3 ?_ _)); exact BK586.out) Tryd.underlying23 rfl (by kernel_rfl)) rfl ?_
   exact ⟨eS, bS HB⟩

end Go.Proofs.YtfmmjekhknaniaaDoor.Pr

namespace Go.Proofs.YtfmmjekhknaniaaDoor.Core
open Go.RowKit Go.Proofs.YtfmmjekhknaniaaDoor.Pr Go.Proofs.YtfmmjekhknaniaaDoorW.PrintWords

theorem Leq_f {a b : Cg} (ha : Fit a) (hb : Fit b) : Ev (fun k => congr_Leq.f k a.1 a.2.1 a.2.2 b.1 b.2.1 b.2.2) (leqB a b) := by
  unfold congr_Leq.f
  by_cases h1 : a.1 = true
  · simp only [if_pos h1]
    rw [show leqB a b = true from leqB_iff.mpr (Sub.none _ h1)]; exact Ev.now _
  · simp only [if_neg h1]
    by_cases h2 : b.1 = true
    · simp only [if_pos h2]
      have : leqB a b = false := by
        cases hb' : leqB a b
        · rfl
        · have := none_of_sub ha (leqB_iff.mp hb') h2
          rw [this] at h1; exact absurd rfl h1
      rw [this]; exact Ev.now _
    · simp only [if_neg h2]
      refine Ev.bind (Join_f ha hb) ?_
      have : ((joinS a b).1 == b.1 && ((joinS a b).2.1 == b.2.1 && ((joinS a b).2.2 == b.2.2))) = leqB a b :=
        beq_bool (by rw [eq3, leqB_iff]; exact join_eq_iff ha hb)
      rw [this]; exact Ev.now _

theorem rof_f {g r : Int} (h0 : 0 ≤ g) (h1 : g ≤ 18446744073709551615) (h2 : -9223372036854775808 ≤ r) (h3 : r ≤ 9223372036854775807) (k : Nat) :
    gimbalref31_of.f (k + 8) g r = some (norm g r) := by
  unfold gimbalref31_of.f
  rw [rsize_f h2 h3]
  simp only [Option.bind_some]
  rw [class_ab h0 h1 h2 h3]; rfl

theorem rJoin_f {a b : Cg} (ha : Fit a) (hb : Fit b) : Ev (fun k => gimbalref31_Join.f k a.1 a.2.1 a.2.2 b.1 b.2.1 b.2.2) (joinS a b) := by
  have ma := fit_mod ha
  have mb := fit_mod hb
  unfold gimbalref31_Join.f joinS
  by_cases h1 : a.1 = true
  · simp only [if_pos h1]; exact Ev.now _
  · simp only [if_neg h1]
    by_cases h2 : b.1 = true
    · simp only [if_pos h2]; exact Ev.now _
    · simp only [if_neg h2]
      rw [rsize_f (x := a.2.1) (by omega) (by omega), rsize_f (x := b.2.1) (by omega) (by omega), w64_id (n := a.2.2 - b.2.2) (by omega) (by omega), rsize_f (x := a.2.2 - b.2.2) (by omega) (by omega), ab_of_nonneg (x := a.2.1) (by omega), ab_of_nonneg (x := b.2.1) (by omega)]
      simp only [Option.bind_some]
      refine Ev.bind (rgcd_f (by omega) (by omega)) ?_
      have := rgcd_f (G_nonneg a.2.1 b.2.1) (ab_nonneg (a.2.2 - b.2.2))
      rw [G_ab] at this
      refine Ev.bind this ?_
      exact Ev.bind (ev_of 8 (rof_f (G_nonneg _ _) (apart_le ha hb) (by omega) (by omega))) (Ev.now _)

theorem Neg_f {a : Cg} (ha : Fit a) (k : Nat) : congr_Neg.f (k + 1) a.1 a.2.1 a.2.2 = some (negS a) := by
  have ma := fit_mod ha
  unfold congr_Neg.f negS
  by_cases h1 : a.1 = true
  · rw [if_pos h1, if_pos h1, eta3, fit_of_none ha h1]
  · rw [if_neg h1, if_neg h1, u64_id (by omega) (by omega), w64_id (by omega) (by omega), by_f (by omega) (by omega) (by omega) (by omega)]; rfl
theorem addsub_j {m n : Int} (hm : 0 ≤ m ∧ m ≤ 4294967295) (hn : 0 ≤ n ∧ n ≤ 4294967295) : G m n ≤ 18446744073709551615 :=
  G_le hm.1 hn.1 (by omega) (by omega)

theorem Add_f {a b : Cg} (ha : Fit a) (hb : Fit b) : Ev (fun k => congr_Add.f k a.1 a.2.1 a.2.2 b.1 b.2.1 b.2.2) (addS a b) := by
  have ma := fit_mod ha
  have mb := fit_mod hb
  obtain ⟨K, hK⟩ := gcd_f (a := a.2.1) (b := b.2.1) (by omega) (by omega)
  refine ⟨K + 5, fun k hk => ?_⟩
  obtain ⟨j, rfl⟩ : ∃ j, k = j + 2 := ⟨k - 2, by omega⟩
  dsimp only at hK ⊢
  unfold congr_Add.f addS
  by_cases h1 : a.1 = true
  · rw [if_pos h1, if_pos h1]; simp [congr_Add.j0, congr_none.f]
  · rw [if_neg h1, if_neg h1]
    simp only [congr_Add.j0]
    by_cases h2 : b.1 = true
    · rw [if_pos h2, if_pos h2]; rfl
    · rw [if_neg h2, if_neg h2, u64_id (n := a.2.1) (by omega) (by omega), u64_id (n := b.2.1) (by omega) (by omega), w64_id (by omega) (by omega), hK _ (by omega)]
      simp only [Option.bind_some]
      rw [by_f (G_nonneg _ _) (addsub_j (by omega) (by omega)) (by omega) (by omega)]; rfl
theorem Sub_f {a b : Cg} (ha : Fit a) (hb : Fit b) : Ev (fun k => congr_Sub.f k a.1 a.2.1 a.2.2 b.1 b.2.1 b.2.2) (subS a b) := by
  have ma := fit_mod ha
  have mb := fit_mod hb
  obtain ⟨K, hK⟩ := gcd_f (a := a.2.1) (b := b.2.1) (by omega) (by omega)
  refine ⟨K + 5, fun k hk => ?_⟩
  obtain ⟨j, rfl⟩ : ∃ j, k = j + 2 := ⟨k - 2, by omega⟩
  dsimp only at hK ⊢
  unfold congr_Sub.f subS
  by_cases h1 : a.1 = true
  · rw [if_pos h1, if_pos h1]; simp [congr_Sub.j0, congr_none.f]
  · rw [if_neg h1, if_neg h1]
    simp only [congr_Sub.j0]
    by_cases h2 : b.1 = true
    · rw [if_pos h2, if_pos h2]; rfl
    · rw [if_neg h2, if_neg h2, u64_id (n := a.2.1) (by omega) (by omega), u64_id (n := b.2.1) (by omega) (by omega), w64_id (by omega) (by omega), hK _ (by omega)]
      simp only [Option.bind_some]
      rw [by_f (G_nonneg _ _) (addsub_j (by omega) (by omega)) (by omega) (by omega)]; rfl
theorem zero_beq (b : Cg) : (!b.1 && (b.2.1 == 0 && (b.2.2 == 0))) = true ↔ b.1 = false ∧ b.2.1 = 0 ∧ b.2.2 = 0 := by simp

theorem tdiv_range {x d m : Int} (h : -m ≤ x) (h' : x ≤ m) : -m ≤ Int.tdiv x d ∧ Int.tdiv x d ≤ m := by
  have e : (Int.tdiv x d).natAbs ≤ x.natAbs := by rw [Int.natAbs_tdiv]; exact Nat.div_le_self _ _
  omega

theorem Div_f {a b : Cg} (ha : Fit a) (hb : Fit b) (k : Nat) : congr_Div.f (k + 9) a.1 a.2.1 a.2.2 b.1 b.2.1 b.2.2 = some (divS a b) := by
  have ma := fit_mod ha
  have mb := fit_mod hb
  unfold congr_Div.f divS
  by_cases h1 : a.1 = true
  · rw [if_pos h1, if_pos h1]; simp [congr_Div.j0, congr_none.f]
  rw [if_neg h1, if_neg h1]
  by_cases h2 : b.1 = true
  · rw [if_pos h2, if_pos h2]; simp [congr_Div.j0, congr_none.f]
  rw [if_neg h2, if_neg h2]
  by_cases h3 : b.2.1 = 0 ∧ b.2.2 = 0
  · rw [if_pos h3, (zero_beq b).mpr ⟨bfalse h2, h3⟩]; simp [congr_Div.j0, congr_none.f]
  rw [if_neg h3]
  have hz : (!b.1 && (b.2.1 == 0 && (b.2.2 == 0))) = false := by
    cases hq : (!b.1 && (b.2.1 == 0 && (b.2.2 == 0)))
    · rfl
    · exact absurd ((zero_beq b).mp hq).2 h3
  rw [hz]
  simp only [congr_Div.j0, Bool.false_eq_true, if_false]
  by_cases h4 : b.2.1 = 0
  · have hd : b.2.2 ≠ 0 := fun e => h3 ⟨h4, e⟩
    have t1 := tdiv_range (x := a.2.2) (d := b.2.2) (m := 4294967295) (by omega) (by omega)
    have t2 := tdiv_range (x := a.2.1) (d := b.2.2) (m := 4294967295) (by omega) (by omega)
    rw [if_pos h4, if_neg (show ¬ (b.2.1 ≠ 0) by omega)]
    by_cases h5 : a.2.1 = 0
    · rw [if_pos h5, if_neg hd, if_pos (Or.inl h5), w64_id (by omega) (by omega), constant_f, h5, Int.zero_tdiv]; rfl
    · rw [if_neg h5, if_neg hd]
      by_cases h6 : Int.tmod a.2.1 b.2.2 = 0
      · rw [if_pos h6]
        simp only [congr_Div.j1]
        rw [tmod_zero_iff] at h6
        by_cases h7 : Int.tmod a.2.2 b.2.2 = 0
        · rw [show (Int.tmod a.2.2 b.2.2 == 0) = true by simp [h7], if_pos rfl, if_neg hd, w64_id (by omega) (by omega), w64_id (by omega) (by omega), Of_f (by omega) (by omega) (by omega) (by omega)]
          rw [tmod_zero_iff] at h7
          rw [if_pos (Or.inr ⟨h6, h7⟩)]; rfl
        · rw [show (Int.tmod a.2.2 b.2.2 == 0) = false by simp [h7], if_neg (by simp)]
          rw [tmod_zero_iff] at h7
          rw [if_neg (by rintro (e | e); exact h5 e; exact h7 e.2)]; rfl
      · rw [if_neg h6]
        rw [tmod_zero_iff] at h6
        simp only [congr_Div.j1, Bool.false_eq_true, if_false]
        rw [if_neg (by rintro (e | e); exact h5 e; exact h6 e.1)]; rfl
  · rw [if_neg h4, if_pos h4]; rfl

theorem Mod_f {a b : Cg} (ha : Fit a) (hb : Fit b) : Ev (fun k => congr_Mod.f k a.1 a.2.1 a.2.2 b.1 b.2.1 b.2.2) (modS a b) := by
  have ma := fit_mod ha
  have mb := fit_mod hb
  obtain ⟨K, hK⟩ := gcd_f (a := a.2.1) (b := b.2.1) (by omega) (by omega)
  obtain ⟨L, hL⟩ := gcd_f (G_nonneg a.2.1 b.2.1) (ab_nonneg b.2.2)
  rw [G_ab] at hL
  refine ⟨K + L + 5, fun k hk => ?_⟩
  obtain ⟨j, rfl⟩ : ∃ j, k = j + 3 := ⟨k - 3, by omega⟩
  dsimp only at hK hL ⊢
  unfold congr_Mod.f modS
  by_cases h1 : a.1 = true
  · rw [if_pos h1, if_pos h1]; simp [congr_Mod.j0, congr_none.f]
  rw [if_neg h1, if_neg h1]
  by_cases h2 : b.1 = true
  · rw [if_pos h2, if_pos h2]; simp [congr_Mod.j0, congr_none.f]
  rw [if_neg h2, if_neg h2]
  by_cases h3 : b.2.1 = 0 ∧ b.2.2 = 0
  · rw [if_pos h3, (zero_beq b).mpr ⟨bfalse h2, h3⟩]; simp [congr_Mod.j0, congr_none.f]
  rw [if_neg h3]
  have hz : (!b.1 && (b.2.1 == 0 && (b.2.2 == 0))) = false := by
    cases hq : (!b.1 && (b.2.1 == 0 && (b.2.2 == 0)))
    · rfl
    · exact absurd ((zero_beq b).mp hq).2 h3
  rw [hz]
  have tail : congr_Mod.j1 (j + 2) a.1 a.2.1 a.2.2 b.1 b.2.1 b.2.2 = some (norm (G (G a.2.1 b.2.1) b.2.2) a.2.2) := by
    simp only [congr_Mod.j1]
    rw [u64_id (n := a.2.1) (by omega) (by omega), u64_id (n := b.2.1) (by omega) (by omega), hK _ (by omega)]
    simp only [Option.bind_some]
    rw [size_f (by omega) (by omega)]
    simp only [Option.bind_some]
    rw [hL _ (by omega)]
    simp only [Option.bind_some]
    rw [by_f (G_nonneg _ _) ?_ (by omega) (by omega)]; rfl
    rw [← G_ab]
    exact G_le (G_nonneg _ _) (ab_nonneg _) (addsub_j (by omega) (by omega)) (ab_le (by omega) (by omega))
  simp only [congr_Mod.j0, Bool.false_eq_true, if_false]
  by_cases h4 : a.2.1 = 0
  · rw [if_pos h4]
    by_cases h5 : b.2.1 = 0
    · rw [if_pos h5, if_neg (fun e => h3 ⟨h5, e⟩), if_pos ⟨h4, h5⟩, constant_f]; rfl
    · rw [if_neg h5, if_neg (fun e => h5 e.2), tail]
  · rw [if_neg h4, if_neg (fun e => h4 e.1), tail]

theorem Abs_f {a : Cg} (ha : Fit a) : Ev (fun k => congr_Abs.f k a.1 a.2.1 a.2.2) (absS a) := by
  have ma := fit_mod ha
  have mr := fit_rem ha
  obtain ⟨K, hK⟩ := Join_f ha (fit_neg ha)
  refine ⟨K + 5, fun k hk => ?_⟩
  obtain ⟨j, rfl⟩ : ∃ j, k = j + 3 := ⟨k - 3, by omega⟩
  dsimp only at hK ⊢
  unfold congr_Abs.f absS
  by_cases h1 : a.1 = true
  · have e := fit_of_none ha h1
    rw [if_pos h1, if_pos h1, e]; simp [congr_Abs.j0]
  rw [if_neg h1, if_neg h1]
  by_cases h2 : a.2.1 = 0
  · rw [if_pos h2, show (a.2.1 == 0) = true by simp [h2]]
    simp only [congr_Abs.j0, if_true]
    by_cases h3 : a.2.2 < 0
    · rw [if_pos h3, w64_id (by omega) (by omega), constant_f]
      unfold ab; rw [if_pos h3]; rfl
    · rw [if_neg h3, ab_of_nonneg (by omega)]
      have e := norm_self ha (bfalse h1)
      rw [h2] at e
      rw [e]
  · rw [if_neg h2, show (a.2.1 == 0) = false by simp [h2]]
    simp only [congr_Abs.j0, Bool.false_eq_true, if_false]
    rw [show j + 2 = (j + 1) + 1 by omega, Neg_f ha]
    simp only [Option.bind_some]
    rw [hK _ (by omega)]; rfl

end Go.Proofs.YtfmmjekhknaniaaDoor.Core

namespace Go.Proofs.YtfmmjekhknaniaaDoor.Pr
open Go.RowKit Go.Proofs.YtfmmjekhknaniaaDoor.Given Go.Proofs.YtfmmjekhknaniaaDoorW.PrintWords Go.Proofs.YtfmmjekhknaniaaDoorW.PrintLast Go.Proofs.YtfmmjekhknaniaaDoorW.PrintMore
attribute [local go_sem] max2_int min2_int max_two min_two max_three min_three max_four min_four   -- for this text's walks alone
set_option linter.unusedVariables false
set_option linter.unusedSimpArgs false

def bits_Mul64.f (a0 : Int) (a1 : Int) : Option (Int × Int) := some (IntKind.u64.wrap ((IntKind.u64.wrap ((IntKind.u64.wrap ((a0 / 4294967296) * (a1 / 4294967296))) + ((IntKind.u64.wrap ((IntKind.u64.wrap ((a0 / 4294967296) * (Go.bits .and .u64 a1 4294967295))) + ((IntKind.u64.wrap ((Go.bits .and .u64 a0 4294967295) * (Go.bits .and .u64 a1 4294967295))) / 4294967296))) / 4294967296))) + ((IntKind.u64.wrap ((Go.bits .and .u64 (IntKind.u64.wrap ((IntKind.u64.wrap ((a0 / 4294967296) * (Go.bits .and .u64 a1 4294967295))) + ((IntKind.u64.wrap ((Go.bits .and .u64 a0 4294967295) * (Go.bits .and .u64 a1 4294967295))) / 4294967296))) 4294967295) + (IntKind.u64.wrap ((Go.bits .and .u64 a0 4294967295) * (a1 / 4294967296))))) / 4294967296)), IntKind.u64.wrap (a0 * a1))
set_option maxHeartbeats 8000000 in
set_option maxRecDepth 100000 in
theorem bits_Mul64.calls (a0 : Int) (a1 : Int) (r1 : Int) (r2 : Int) (w : World) (h : bits_Mul64.f a0 a1 = some (r1, r2)) :
  Calls Tryd.prog 63 #[.int .u64 a0, .int .u64 a1] w fun e w' => e = .returned (.tuple #[.int .u64 r1, .int .u64 r2]) ∧ Drawn0 w w' := by
 have H : (some (IntKind.u64.wrap ((IntKind.u64.wrap ((IntKind.u64.wrap ((a0 / 4294967296) * (a1 / 4294967296))) + ((IntKind.u64.wrap ((IntKind.u64.wrap ((a0 / 4294967296) * (Go.bits .and .u64 a1 4294967295))) + ((IntKind.u64.wrap ((Go.bits .and .u64 a0 4294967295) * (Go.bits .and .u64 a1 4294967295))) / 4294967296))) / 4294967296))) + ((IntKind.u64.wrap ((Go.bits .and .u64 (IntKind.u64.wrap ((IntKind.u64.wrap ((a0 / 4294967296) * (Go.bits .and .u64 a1 4294967295))) + ((IntKind.u64.wrap ((Go.bits .and .u64 a0 4294967295) * (Go.bits .and .u64 a1 4294967295))) / 4294967296))) 4294967295) + (IntKind.u64.wrap ((Go.bits .and .u64 a0 4294967295) * (a1 / 4294967296))))) / 4294967296)), IntKind.u64.wrap (a0 * a1))) = some (r1, r2) := h
 clear h
 simp only [Option.some.injEq, Prod.mk.injEq] at H
 obtain ⟨rfl, rfl⟩ := H
 go_enter Tryd.func63, Tryd.ntmps63
 go_wp2
 go_ret2
 exact ⟨by first | rfl | (simp; done) | (simp [*]; done), by repeat (first | exact Drawn0.refl _ | apply Drawn0.step)⟩

def congr_inverse.l0 : Nat → Int → Int → Int → Int → Int → Option (Int)
 | 0, _, _, _, _, _ => none
 | k + 1, x1, x5, x6, x7, x8 => if x8 = 0 then ((congr_rest.f x5 x1).bind fun t196 => (some t196)) else (congr_inverse.l0 k x1 x6 (wrap64 (x5 - (wrap64 ((wrap64 (Int.tdiv x7 x8)) * x6)))) x8 (wrap64 (x7 - (wrap64 ((wrap64 (Int.tdiv x7 x8)) * x8)))))
def congr_inverse.f (k : Nat) (a0 : Int) (a1 : Int) : Option (Int) := congr_inverse.l0 k a1 1 0 (wrap64 (a0)) (wrap64 (a1))
set_option maxHeartbeats 8000000 in
set_option maxRecDepth 100000 in
theorem congr_inverse.calls (k : Nat) (a0 : Int) (a1 : Int) (r : Int) (w : World) (h : congr_inverse.f k a0 a1 = some r) :
  Calls Tryd.prog 64 #[.int .u64 a0, .int .u64 a1] w fun e w' => e = .returned (.int .u64 r) ∧ Drawn0 w w' := by
 have H : (congr_inverse.l0 k a1 1 0 (wrap64 (a0)) (wrap64 (a1))) = some r := h
 clear h
 have H' := Aside0.mk H
 clear H
 go_enter Tryd.func64, Tryd.ntmps64
 go_wp2
 go_loopg [5, 6, 7, 8] k (fun kq v5 v6 v7 v8 w' => ∃ (x5_1 : Int) (x6_1 : Int) (x7_1 : Int) (x8_1 : Int), v5 = .int .i64 x5_1 ∧ v6 = .int .i64 x6_1 ∧ v7 = .int .i64 x7_1 ∧ v8 = .int .i64 x8_1 ∧ Aside0 (congr_inverse.l0 kq a1 x5_1 x6_1 x7_1 x8_1 = some r) ∧ Aside0 (kq ≤ k) ∧ Drawn0 w w')
 case atStart => exact ⟨(1), (0), (wrap64 (a0)), (wrap64 (a1)), (by first | rfl | (simp; done) | (simp [*]; done)), (by first | rfl | (simp; done) | (simp [*]; done)), (by first | rfl | (simp; done) | (simp [*]; done)), (by first | rfl | (simp; done) | (simp [*]; done)), H', ⟨Nat.le_refl _⟩, by repeat (first | exact Drawn0.refl _ | apply Drawn0.step)⟩
 case round =>
  clear H'
  try clear p2
  obtain ⟨x5_1, x6_1, x7_1, x8_1, rfl, rfl, rfl, rfl, HA, HK1, ⟨m1, rfl⟩⟩ := hrel
  cases gk with
  | zero => exact absurd HA.out (by simp [congr_inverse.l0])
  | succ k1 =>
   have H := HA.out
   clear HA
   simp only [congr_inverse.l0] at H
   by_cases c3 : x8_1 = 0
   ·
    rw [if_pos c3] at H
    have c3b0 : (x8_1 == 0) = true := beq_iff_eq.mpr c3
    have c3b1 : (x8_1 != 0) = false := bne_eq_false_iff_eq.mpr c3
    clear c3
    replace H := Option.bind_eq_some_iff.mp H
    obtain ⟨t196, A40, H⟩ := H
    replace H : (some t196) = some r := H
    have A4 := Aside0.mk A40
    clear A40
    obtain rfl := Option.some.inj H
    go_wp2_with (first | ((with_reducible refine gate_callee (f := 53) rfl ?_); refine goesL_ (some 33) rfl rfl Tryd.func53 (by kernel_rfl) rfl #[.int .i64 x5_1, .int .u64 a1] rfl mS ?_; (with_reducible refine (congr_rest.calls x5_1 a1 t196 _ A4.out).mono ?_); rintro e w' ⟨rfl, ⟨nd, rfl⟩⟩; refine ⟨_, rfl, ?_⟩))
    go_ret
    exact ⟨by first | rfl | (simp; done) | (simp [*]; done), by repeat (first | exact Drawn0.refl _ | apply Drawn0.step)⟩
   ·
    rw [if_neg c3] at H
    have c3b0 : (x8_1 == 0) = false := beq_eq_false_iff_ne.mpr c3
    have c3b1 : (x8_1 != 0) = true := bne_iff_ne.mpr c3
    have H' := Aside0.mk H
    clear H
    go_wp2
    go_roundg k1
    case measure => have := HK1.out; omega
    case rel => exact ⟨(x6_1), (wrap64 (x5_1 - (wrap64 ((wrap64 (Int.tdiv x7_1 x8_1)) * x6_1)))), (x8_1), (wrap64 (x7_1 - (wrap64 ((wrap64 (Int.tdiv x7_1 x8_1)) * x8_1)))), (by first | rfl | (simp; done) | (simp [*]; done)), (by first | rfl | (simp; done) | (simp [*]; done)), (by first | rfl | (simp; done) | (simp [*]; done)), (by first | rfl | (simp; done) | (simp [*]; done)), H', ⟨by have := HK1.out; omega⟩, by repeat (first | exact Drawn0.refl _ | apply Drawn0.step)⟩

end Go.Proofs.YtfmmjekhknaniaaDoor.Pr

