/- This claim's own texts, joined, with only what the claim uses: Hx57, FnD, FnE, Hx22, Hx24, Hx25, Hx33, Hx34, Hx35. -/
import Derived.Test.YtfmmjekhknaniaaDoorSounP5
import Derived.Test.YtfmmjekhknaniaaDoorSounP6
namespace Go.Proofs.YtfmmjekhknaniaaDoor.Pr
open Go.RowKit Go.Proofs.YtfmmjekhknaniaaDoor.Given Go.Proofs.YtfmmjekhknaniaaDoorW.PrintWords Go.Proofs.YtfmmjekhknaniaaDoorW.PrintLast Go.Proofs.YtfmmjekhknaniaaDoorW.PrintMore
attribute [local go_sem] max2_int min2_int max_two min_two max_three min_three max_four min_four   -- for this text's walks alone
set_option linter.unusedVariables false
set_option linter.unusedSimpArgs false

mutual
def congr_Mul.j0 : Nat → Bool → Bool → Int → Int → Bool → Int → Int → Option (Bool × Int × Int)
 | 0, _, _, _, _, _, _, _ => none
 | k + 1, x13, x516000, x516001, x516002, x517000, x517001, x517002 => if x13 = true then ((congr_none.f).bind fun bt518 => (some (bt518.1, bt518.2.1, bt518.2.2))) else ((congr_size.f x517002).bind fun t521 => ((congr_gcd_uint64.f k (IntKind.u64.wrap ((IntKind.u64.wrap (x516001)) * (IntKind.u64.wrap (x517001)))) (IntKind.u64.wrap ((IntKind.u64.wrap (x516001)) * t521))).bind fun t522 => ((congr_size.f x516002).bind fun t523 => ((congr_gcd_uint64.f k t522 (IntKind.u64.wrap ((IntKind.u64.wrap (x517001)) * t523))).bind fun t524 => ((congr_times.f x516002 x517002).bind fun bt525 => (if t524 = 0 then (if bt525.1 = 0 then (congr_Mul.j1 k (decide (bt525.2.1 > 4611686018427387904)) bt525.1 bt525.2.1 bt525.2.2) else (congr_Mul.j1 k true bt525.1 bt525.2.1 bt525.2.2)) else ((congr_words_rest.f bt525.1 bt525.2.1 t524).bind fun t538 => (if bt525.2.2 = true then (if t538 > 0 then ((congr_of.f k t524 (IntKind.u64.wrap (t524 - t538))).bind fun bt539 => (some (bt539.1, bt539.2.1, bt539.2.2))) else ((congr_of.f k t524 t538).bind fun bt542 => (some (bt542.1, bt542.2.1, bt542.2.2)))) else ((congr_of.f k t524 t538).bind fun bt545 => (some (bt545.1, bt545.2.1, bt545.2.2)))))))))))
def congr_Mul.j1 : Nat → Bool → Int → Int → Bool → Option (Bool × Int × Int)
 | 0, _, _, _, _ => none
 | k + 1, x54, x529000, x529001, x529002 => if x54 = true then ((congr_none.f).bind fun bt529 => (some (bt529.1, bt529.2.1, bt529.2.2))) else (if x529002 = true then ((congr_constant.f (wrap64 (-(wrap64 (x529001))))).bind fun bt532 => (some (bt532.1, bt532.2.1, bt532.2.2))) else ((congr_constant.f (wrap64 (x529001))).bind fun bt535 => (some (bt535.1, bt535.2.1, bt535.2.2))))
end
def congr_Mul.f (k : Nat) (a0_0 : Bool) (a0_1 : Int) (a0_2 : Int) (a1_0 : Bool) (a1_1 : Int) (a1_2 : Int) : Option (Bool × Int × Int) := if a0_0 = true then (congr_Mul.j0 k true a0_0 a0_1 a0_2 a1_0 a1_1 a1_2) else (congr_Mul.j0 k a1_0 a0_0 a0_1 a0_2 a1_0 a1_1 a1_2)
set_option maxHeartbeats 8000000 in
set_option maxRecDepth 100000 in
theorem congr_Mul.calls (k : Nat) (a0_0 : Bool) (a0_1 : Int) (a0_2 : Int) (a1_0 : Bool) (a1_1 : Int) (a1_2 : Int) (r1 : Bool) (r2 : Int) (r3 : Int) (w : World) (h : congr_Mul.f k a0_0 a0_1 a0_2 a1_0 a1_1 a1_2 = some (r1, r2, r3)) :
  Calls Tryd.prog 39 #[.agg #[.bool a0_0, .int .i64 a0_1, .int .i64 a0_2], .agg #[.bool a1_0, .int .i64 a1_1, .int .i64 a1_2]] w fun e w' => e = .returned (.agg #[.bool r1, .int .i64 r2, .int .i64 r3]) ∧ Below w.heap.size w w' := by
 have hu23 := Tryd.underlying23
 have hu74 := Tryd.underlying74
 have hu67 := Tryd.underlying67
 have HB := Aside0.mk (Below.refl w.heap.size w)
 have H : (if a0_0 = true then (congr_Mul.j0 k true a0_0 a0_1 a0_2 a1_0 a1_1 a1_2) else (congr_Mul.j0 k a1_0 a0_0 a0_1 a0_2 a1_0 a1_1 a1_2)) = some (r1, r2, r3) := h
 clear h
 have HC3 := Aside0.mk H
 clear H
 go_enter Tryd.func39, Tryd.ntmps39
 go_upto_region 1 with (first | ((with_reducible refine gate_dst (N := 2) rfl ?_); refine box_event ?hg (N := 2) ?hd (cs := #[.bool a0_0, .int .i64 a0_1, .int .i64 a0_2]) (t := 23) ?hr ?_; (case hd => rfl); (case hg => rfl); (case hr => first | (go_simp; done) | (go_simp; rfl)); intro gb515 hg w4 hbox hb; have n0_ := kW HB hb; have n1_ := Aside0.mk (hbox); have n2_ := Aside0.mk ((by rw [hg]; exact (below_size (bS HB)) : w.heap.size ≤ gb515)); have n3_ := Aside0.mk ((by rw [hg]; exact (below_size (bS HB)) : w.heap.size ≤ gb515)); clear HB; have HB := n0_; have BK515 := n1_; have GW515 := n2_; have GE515 := n3_; clear n0_ n1_ n2_ n3_; clear hb hbox hg) | ((with_reducible refine gate_dst (N := 3) rfl ?_); refine box_event ?hg (N := 3) ?hd (cs := #[.bool a1_0, .int .i64 a1_1, .int .i64 a1_2]) (t := 23) ?hr ?_; (case hd => rfl); (case hg => rfl); (case hr => first | (go_simp; done) | (go_simp; rfl)); intro gb516 hg w5 hbox hb; have n0_ := kB BK515 hb; have n1_ := kW HB hb; have n2_ := Aside0.mk (hbox); have n3_ := Aside0.mk ((by rw [hg]; exact (below_size (bS HB)) : w.heap.size ≤ gb516)); have n4_ := Aside0.mk ((by rw [hg]; exact (below_size (bS HB)) : w.heap.size ≤ gb516)); have n5_ := Aside0.mk ((by rw [hg]; exact Nat.ne_of_lt (blk_lt (bkS BK515)) : gb515 ≠ gb516)); have n6_ := Aside0.mk ((by rw [hg]; exact Nat.ne_of_gt (blk_lt (bkS BK515)) : gb516 ≠ gb515)); clear BK515; clear HB; have BK515 := n0_; have HB := n1_; have BK516 := n2_; have GW516 := n3_; have GE516 := n4_; have NB515_516 := n5_; have NB516_515 := n6_; clear n0_ n1_ n2_ n3_ n4_ n5_ n6_; clear hb hbox hg) | ((with_reducible refine gate_dst (N := 4) rfl ?_); refine box_event ?hg (N := 4) ?hd (cs := #[.bool false, .int .i64 0, .int .i64 0]) (t := 23) ?hr ?_; (case hd => rfl); (case hg => rfl); (case hr => first | (go_simp; done) | (go_simp; rfl)); intro gb517 hg w6 hbox hb; have n0_ := kB BK515 hb; have n1_ := kB BK516 hb; have n2_ := kW HB hb; have n3_ := Aside0.mk (hbox); have n4_ := Aside0.mk ((by rw [hg]; exact (below_size (bS HB)) : w.heap.size ≤ gb517)); have n5_ := Aside0.mk ((by rw [hg]; exact (below_size (bS HB)) : w.heap.size ≤ gb517)); have n6_ := Aside0.mk ((by rw [hg]; exact Nat.ne_of_lt (blk_lt (bkS BK515)) : gb515 ≠ gb517)); have n7_ := Aside0.mk ((by rw [hg]; exact Nat.ne_of_gt (blk_lt (bkS BK515)) : gb517 ≠ gb515)); have n8_ := Aside0.mk ((by rw [hg]; exact Nat.ne_of_lt (blk_lt (bkS BK516)) : gb516 ≠ gb517)); have n9_ := Aside0.mk ((by rw [hg]; exact Nat.ne_of_gt (blk_lt (bkS BK516)) : gb517 ≠ gb516)); clear BK515; clear BK516; clear HB; have BK515 := n0_; have BK516 := n1_; have HB := n2_; have BK517 := n3_; have GW517 := n4_; have GE517 := n5_; have NB515_517 := n6_; have NB517_515 := n7_; have NB516_517 := n8_; have NB517_516 := n9_; clear n0_ n1_ n2_ n3_ n4_ n5_ n6_ n7_ n8_ n9_; clear hb hbox hg))
 repeat (go_quiet (first | ((with_reducible refine gate_dst (N := 2) rfl ?_); refine box_event ?hg (N := 2) ?hd (cs := #[.bool a0_0, .int .i64 a0_1, .int .i64 a0_2]) (t := 23) ?hr ?_; (case hd => rfl); (case hg => rfl); (case hr => first | (go_simp; done) | (go_simp; rfl)); intro gb515 hg w4 hbox hb; have n0_ := kW HB hb; have n1_ := Aside0.mk (hbox); have n2_ := Aside0.mk ((by rw [hg]; exact (below_size (bS HB)) : w.heap.size ≤ gb515)); have n3_ := Aside0.mk ((by rw [hg]; exact (below_size (bS HB)) : w.heap.size ≤ gb515)); clear HB; have HB := n0_; have BK515 := n1_; have GW515 := n2_; have GE515 := n3_; clear n0_ n1_ n2_ n3_; clear hb hbox hg) | ((with_reducible refine gate_dst (N := 3) rfl ?_); refine box_event ?hg (N := 3) ?hd (cs := #[.bool a1_0, .int .i64 a1_1, .int .i64 a1_2]) (t := 23) ?hr ?_; (case hd => rfl); (case hg => rfl); (case hr => first | (go_simp; done) | (go_simp; rfl)); intro gb516 hg w5 hbox hb; have n0_ := kB BK515 hb; have n1_ := kW HB hb; have n2_ := Aside0.mk (hbox); have n3_ := Aside0.mk ((by rw [hg]; exact (below_size (bS HB)) : w.heap.size ≤ gb516)); have n4_ := Aside0.mk ((by rw [hg]; exact (below_size (bS HB)) : w.heap.size ≤ gb516)); have n5_ := Aside0.mk ((by rw [hg]; exact Nat.ne_of_lt (blk_lt (bkS BK515)) : gb515 ≠ gb516)); have n6_ := Aside0.mk ((by rw [hg]; exact Nat.ne_of_gt (blk_lt (bkS BK515)) : gb516 ≠ gb515)); clear BK515; clear HB; have BK515 := n0_; have HB := n1_; have BK516 := n2_; have GW516 := n3_; have GE516 := n4_; have NB515_516 := n5_; have NB516_515 := n6_; clear n0_ n1_ n2_ n3_ n4_ n5_ n6_; clear hb hbox hg) | ((with_reducible refine gate_dst (N := 4) rfl ?_); refine box_event ?hg (N := 4) ?hd (cs := #[.bool false, .int .i64 0, .int .i64 0]) (t := 23) ?hr ?_; (case hd => rfl); (case hg => rfl); (case hr => first | (go_simp; done) | (go_simp; rfl)); intro gb517 hg w6 hbox hb; have n0_ := kB BK515 hb; have n1_ := kB BK516 hb; have n2_ := kW HB hb; have n3_ := Aside0.mk (hbox); have n4_ := Aside0.mk ((by rw [hg]; exact (below_size (bS HB)) : w.heap.size ≤ gb517)); have n5_ := Aside0.mk ((by rw [hg]; exact (below_size (bS HB)) : w.heap.size ≤ gb517)); have n6_ := Aside0.mk ((by rw [hg]; exact Nat.ne_of_lt (blk_lt (bkS BK515)) : gb515 ≠ gb517)); have n7_ := Aside0.mk ((by rw [hg]; exact Nat.ne_of_gt (blk_lt (bkS BK515)) : gb517 ≠ gb515)); have n8_ := Aside0.mk ((by rw [hg]; exact Nat.ne_of_lt (blk_lt (bkS BK516)) : gb516 ≠ gb517)); have n9_ := Aside0.mk ((by rw [hg]; exact Nat.ne_of_gt (blk_lt (bkS BK516)) : gb517 ≠ gb516)); clear BK515; clear BK516; clear HB; have BK515 := n0_; have BK516 := n1_; have HB := n2_; have BK517 := n3_; have GW517 := n4_; have GE517 := n5_; have NB515_517 := n6_; have NB517_515 := n7_; have NB516_517 := n8_; have NB517_516 := n9_; clear n0_ n1_ n2_ n3_ n4_ n5_ n6_ n7_ n8_ n9_; clear hb hbox hg)); go_upto_region 1 with (first | ((with_reducible refine gate_dst (N := 2) rfl ?_); refine box_event ?hg (N := 2) ?hd (cs := #[.bool a0_0, .int .i64 a0_1, .int .i64 a0_2]) (t := 23) ?hr ?_; (case hd => rfl); (case hg => rfl); (case hr => first | (go_simp; done) | (go_simp; rfl)); intro gb515 hg w4 hbox hb; have n0_ := kW HB hb; have n1_ := Aside0.mk (hbox); have n2_ := Aside0.mk ((by rw [hg]; exact (below_size (bS HB)) : w.heap.size ≤ gb515)); have n3_ := Aside0.mk ((by rw [hg]; exact (below_size (bS HB)) : w.heap.size ≤ gb515)); clear HB; have HB := n0_; have BK515 := n1_; have GW515 := n2_; have GE515 := n3_; clear n0_ n1_ n2_ n3_; clear hb hbox hg) | ((with_reducible refine gate_dst (N := 3) rfl ?_); refine box_event ?hg (N := 3) ?hd (cs := #[.bool a1_0, .int .i64 a1_1, .int .i64 a1_2]) (t := 23) ?hr ?_; (case hd => rfl); (case hg => rfl); (case hr => first | (go_simp; done) | (go_simp; rfl)); intro gb516 hg w5 hbox hb; have n0_ := kB BK515 hb; have n1_ := kW HB hb; have n2_ := Aside0.mk (hbox); have n3_ := Aside0.mk ((by rw [hg]; exact (below_size (bS HB)) : w.heap.size ≤ gb516)); have n4_ := Aside0.mk ((by rw [hg]; exact (below_size (bS HB)) : w.heap.size ≤ gb516)); have n5_ := Aside0.mk ((by rw [hg]; exact Nat.ne_of_lt (blk_lt (bkS BK515)) : gb515 ≠ gb516)); have n6_ := Aside0.mk ((by rw [hg]; exact Nat.ne_of_gt (blk_lt (bkS BK515)) : gb516 ≠ gb515)); clear BK515; clear HB; have BK515 := n0_; have HB := n1_; have BK516 := n2_; have GW516 := n3_; have GE516 := n4_; have NB515_516 := n5_; have NB516_515 := n6_; clear n0_ n1_ n2_ n3_ n4_ n5_ n6_; clear hb hbox hg) | ((with_reducible refine gate_dst (N := 4) rfl ?_); refine box_event ?hg (N := 4) ?hd (cs := #[.bool false, .int .i64 0, .int .i64 0]) (t := 23) ?hr ?_; (case hd => rfl); (case hg => rfl); (case hr => first | (go_simp; done) | (go_simp; rfl)); intro gb517 hg w6 hbox hb; have n0_ := kB BK515 hb; have n1_ := kB BK516 hb; have n2_ := kW HB hb; have n3_ := Aside0.mk (hbox); have n4_ := Aside0.mk ((by rw [hg]; exact (below_size (bS HB)) : w.heap.size ≤ gb517)); have n5_ := Aside0.mk ((by rw [hg]; exact (below_size (bS HB)) : w.heap.size ≤ gb517)); have n6_ := Aside0.mk ((by rw [hg]; exact Nat.ne_of_lt (blk_lt (bkS BK515)) : gb515 ≠ gb517)); have n7_ := Aside0.mk ((by rw [hg]; exact Nat.ne_of_gt (blk_lt (bkS BK515)) : gb517 ≠ gb515)); have n8_ := Aside0.mk ((by rw [hg]; exact Nat.ne_of_lt (blk_lt (bkS BK516)) : gb516 ≠ gb517)); have n9_ := Aside0.mk ((by rw [hg]; exact Nat.ne_of_gt (blk_lt (bkS BK516)) : gb517 ≠ gb516)); clear BK515; clear BK516; clear HB; have BK515 := n0_; have BK516 := n1_; have HB := n2_; have BK517 := n3_; have GW517 := n4_; have GE517 := n5_; have NB515_517 := n6_; have NB517_515 := n7_; have NB516_517 := n8_; have NB517_516 := n9_; clear n0_ n1_ n2_ n3_ n4_ n5_ n6_ n7_ n8_ n9_; clear hb hbox hg)))
 (try simp only [Act.put, lA, lB, lC])
 go_cut [13] (fun v13 wc => ∃ (kq : Nat) (x13_2 : Bool), v13 = .bool x13_2 ∧ Aside0 (congr_Mul.j0 kq x13_2 a0_0 a0_1 a0_2 a1_0 a1_1 a1_2 = some (r1, r2, r3)) ∧ Aside0 (kq ≤ k) ∧ Aside0 (wc.heap[gb515]? = some (.cells #[.bool a0_0, .int .i64 a0_1, .int .i64 a0_2] 23 (0, 0))) ∧ Aside0 (wc.heap[gb516]? = some (.cells #[.bool a1_0, .int .i64 a1_1, .int .i64 a1_2] 23 (0, 0))) ∧ Aside0 (wc.heap[gb517]? = some (.cells #[.bool false, .int .i64 0, .int .i64 0] 23 (0, 0))) ∧ Aside0 (Below w.heap.size w wc))
 case first =>
  have H := HC3.out
  clear HC3
  by_cases c7 : a0_0 = true
  ·
   subst c7
   have H1 : (congr_Mul.j0 k true true a0_1 a0_2 a1_0 a1_1 a1_2) = some (r1, r2, r3) := by rw [if_pos rfl] at H; exact H
   clear H
   have H := H1
   clear H1
   have H' := Aside0.mk H
   clear H
   have hnb8 := NB515_516.out
   have hnc8 := NB516_515.out
   have hnb9 := NB515_517.out
   have hnc9 := NB517_515.out
   have hcz10_0 := cz0 BK515
   have hcz10_1 := cz1 BK515
   have hcz10_2 := cz2 BK515
   have hfz10_0 := fz BK515 0
   have hfz10_1 := fz BK515 1
   have hfz10_2 := fz BK515 2
   go_wp2
   repeat (go_quiet (fail); try go_wp2)
   go_meet
   case rel => exact ⟨_, (true), (by first | rfl | (simp; done) | (simp [*]; done)), H', ⟨by first | omega | exact Nat.le_refl _⟩, ⟨bkS BK515⟩, ⟨bkS BK516⟩, ⟨bkS BK517⟩, ⟨bS HB⟩⟩
  ·
   replace c7 := Bool.eq_false_iff.mpr c7
   subst c7
   have H1 : (congr_Mul.j0 k a1_0 false a0_1 a0_2 a1_0 a1_1 a1_2) = some (r1, r2, r3) := by rw [if_neg (show ¬ (false = true) by decide)] at H; exact H
   clear H
   have H := H1
   clear H1
   have H' := Aside0.mk H
   clear H
   have hnb11 := NB515_516.out
   have hnc11 := NB516_515.out
   have hnb12 := NB515_517.out
   have hnc12 := NB517_515.out
   have hcz13_0 := cz0 BK515
   have hcz13_1 := cz1 BK515
   have hcz13_2 := cz2 BK515
   have hfz13_0 := fz BK515 0
   have hfz13_1 := fz BK515 1
   have hfz13_2 := fz BK515 2
   have hnb14 := NB516_517.out
   have hnc14 := NB517_516.out
   have hcz15_0 := cz0 BK516
   have hcz15_1 := cz1 BK516
   have hcz15_2 := cz2 BK516
   have hfz15_0 := fz BK516 0
   have hfz15_1 := fz BK516 1
   have hfz15_2 := fz BK516 2
   go_wp2
   repeat (go_quiet (fail); try go_wp2)
   go_meet
   case rel => exact ⟨_, (a1_0), (by first | rfl | (simp; done) | (simp [*]; done)), H', ⟨by first | omega | exact Nat.le_refl _⟩, ⟨bkS BK515⟩, ⟨bkS BK516⟩, ⟨bkS BK517⟩, ⟨bS HB⟩⟩
 case rest =>
  clear HC3
  try clear c1
  try clear p2
  try clear c3
  try clear c7
  try clear c8
  try clear c9
  try clear c11
  try clear c12
  try clear c14
  try clear hcz10_0
  try clear hcz10_1
  try clear hcz10_2
  try clear hcz13_0
  try clear hcz13_1
  try clear hcz13_2
  try clear hcz15_0
  try clear hcz15_1
  try clear hcz15_2
  try clear hfz10_0
  try clear hfz10_1
  try clear hfz10_2
  try clear hfz13_0
  try clear hfz13_1
  try clear hfz13_2
  try clear hfz15_0
  try clear hfz15_1
  try clear hfz15_2
  obtain ⟨kq, x13_2, rfl, HA, HJ2, BK515, BK516, BK517, HB⟩ := hcut
  cases kq with
  | zero => exact absurd HA.out (by simp [congr_Mul.j0])
  | succ kj2 =>
   have H := HA.out
   clear HA
   simp only [congr_Mul.j0] at H
   by_cases c16 : x13_2 = true
   ·
    subst c16
    have H1 : ((congr_none.f).bind fun bt518 => (some (bt518.1, bt518.2.1, bt518.2.2))) = some (r1, r2, r3) := by rw [if_pos rfl] at H; exact H
    clear H
    have H := H1
    clear H1
    replace H := Option.bind_eq_some_iff.mp H
    obtain ⟨⟨t518, t519, t520⟩, A170, H⟩ := H
    replace H : (some (t518, t519, t520)) = some (r1, r2, r3) := H
    have A17 := Aside0.mk A170
    clear A170
    simp only [Option.some.injEq, Prod.mk.injEq] at H
    obtain ⟨rfl, rfl, rfl⟩ := H
    go_wp2_with (first | (go_at_call 56; (with_reducible refine (congr_none.calls  t518 t519 t520 _ A17.out).mono ?_); rintro e w18 ⟨rfl, hb⟩; replace BK515 := kB BK515 hb; replace BK516 := kB BK516 hb; replace BK517 := kB BK517 hb; replace HB := kW HB hb; (try clear hb); (try clear hb2); (try clear hk); (try clear hi); have hnb19 := NB517_515.out; have hnc19 := NB515_517.out; have hnb20 := NB517_516.out; have hnc20 := NB516_517.out; have hcz21_0 := cz0 BK517; have hcz21_1 := cz1 BK517; have hcz21_2 := cz2 BK517; have hfz21_0 := fz BK517 0; have hfz21_1 := fz BK517 1; have hfz21_2 := fz BK517 2))
    repeat (go_quiet (first | (go_at_call 56; (with_reducible refine (congr_none.calls  t518 t519 t520 _ A17.out).mono ?_); rintro e w18 ⟨rfl, hb⟩; replace BK515 := kB BK515 hb; replace BK516 := kB BK516 hb; replace BK517 := kB BK517 hb; replace HB := kW HB hb; (try clear hb); (try clear hb2); (try clear hk); (try clear hi); have hnb19 := NB517_515.out; have hnc19 := NB515_517.out; have hnb20 := NB517_516.out; have hnc20 := NB516_517.out; have hcz21_0 := cz0 BK517; have hcz21_1 := cz1 BK517; have hcz21_2 := cz2 BK517; have hfz21_0 := fz BK517 0; have hfz21_1 := fz BK517 1; have hfz21_2 := fz BK517 2)); try go_wp2_with (first | (go_at_call 56; (with_reducible refine (congr_none.calls  t518 t519 t520 _ A17.out).mono ?_); rintro e w18 ⟨rfl, hb⟩; replace BK515 := kB BK515 hb; replace BK516 := kB BK516 hb; replace BK517 := kB BK517 hb; replace HB := kW HB hb; (try clear hb); (try clear hb2); (try clear hk); (try clear hi); have hnb19 := NB517_515.out; have hnc19 := NB515_517.out; have hnb20 := NB517_516.out; have hnc20 := NB516_517.out; have hcz21_0 := cz0 BK517; have hcz21_1 := cz1 BK517; have hcz21_2 := cz2 BK517; have hfz21_0 := fz BK517 0; have hfz21_1 := fz BK517 1; have hfz21_2 := fz BK517 2)))
    refine bodyPost_ret (results_cell_row rfl _ _ gb517 23 #[.bool t518, .int .i64 t519, .int .i64 t520] (0, 0) _ rfl (by (with_reducible repeat (first | refine b1 ?_ _ | refine b2 ?_ | refine b3 ?_ _)); refine blk_put (cs := #[.bool t518, .int .i64 t519, .int .i64 0]) ?_ 2 _ rfl; (with_reducible repeat (first | refine b1 ?_ _ | refine b2 ?_ | refine b3 ?_ _)); refine blk_put (cs := #[.bool t518, .int .i64 0, .int .i64 0]) ?_ 1 _ rfl; (with_reducible repeat (first | refine b1 ?_ _ | refine b2 ?_ | refine b3 ?_ _)); refine blk_put (cs := #[.bool false, .int .i64 0, .int .i64 0]) ?_ 0 _ rfl; (with_reducible repeat (first | refine b1 ?_ _ | refine b2 ?_ | refine b3 ?_ _)); exact BK517.out) Tryd.underlying23 rfl (by kernel_rfl)) rfl ?_
    exact ⟨eS, bS HB⟩
   ·
    replace c16 := Bool.eq_false_iff.mpr c16
    subst c16
    have H1 : ((congr_size.f a1_2).bind fun t521 => ((congr_gcd_uint64.f kj2 (IntKind.u64.wrap ((IntKind.u64.wrap (a0_1)) * (IntKind.u64.wrap (a1_1)))) (IntKind.u64.wrap ((IntKind.u64.wrap (a0_1)) * t521))).bind fun t522 => ((congr_size.f a0_2).bind fun t523 => ((congr_gcd_uint64.f kj2 t522 (IntKind.u64.wrap ((IntKind.u64.wrap (a1_1)) * t523))).bind fun t524 => ((congr_times.f a0_2 a1_2).bind fun bt525 => (if t524 = 0 then (if bt525.1 = 0 then (congr_Mul.j1 kj2 (decide (bt525.2.1 > 4611686018427387904)) bt525.1 bt525.2.1 bt525.2.2) else (congr_Mul.j1 kj2 true bt525.1 bt525.2.1 bt525.2.2)) else ((congr_words_rest.f bt525.1 bt525.2.1 t524).bind fun t538 => (if bt525.2.2 = true then (if t538 > 0 then ((congr_of.f kj2 t524 (IntKind.u64.wrap (t524 - t538))).bind fun bt539 => (some (bt539.1, bt539.2.1, bt539.2.2))) else ((congr_of.f kj2 t524 t538).bind fun bt542 => (some (bt542.1, bt542.2.1, bt542.2.2)))) else ((congr_of.f kj2 t524 t538).bind fun bt545 => (some (bt545.1, bt545.2.1, bt545.2.2))))))))))) = some (r1, r2, r3) := by rw [if_neg (show ¬ (false = true) by decide)] at H; exact H
    clear H
    have H := H1
    clear H1
    replace H := Option.bind_eq_some_iff.mp H
    obtain ⟨t521, A220, H⟩ := H
    replace H : ((congr_gcd_uint64.f kj2 (IntKind.u64.wrap ((IntKind.u64.wrap (a0_1)) * (IntKind.u64.wrap (a1_1)))) (IntKind.u64.wrap ((IntKind.u64.wrap (a0_1)) * t521))).bind fun t522 => ((congr_size.f a0_2).bind fun t523 => ((congr_gcd_uint64.f kj2 t522 (IntKind.u64.wrap ((IntKind.u64.wrap (a1_1)) * t523))).bind fun t524 => ((congr_times.f a0_2 a1_2).bind fun bt525 => (if t524 = 0 then (if bt525.1 = 0 then (congr_Mul.j1 kj2 (decide (bt525.2.1 > 4611686018427387904)) bt525.1 bt525.2.1 bt525.2.2) else (congr_Mul.j1 kj2 true bt525.1 bt525.2.1 bt525.2.2)) else ((congr_words_rest.f bt525.1 bt525.2.1 t524).bind fun t538 => (if bt525.2.2 = true then (if t538 > 0 then ((congr_of.f kj2 t524 (IntKind.u64.wrap (t524 - t538))).bind fun bt539 => (some (bt539.1, bt539.2.1, bt539.2.2))) else ((congr_of.f kj2 t524 t538).bind fun bt542 => (some (bt542.1, bt542.2.1, bt542.2.2)))) else ((congr_of.f kj2 t524 t538).bind fun bt545 => (some (bt545.1, bt545.2.1, bt545.2.2)))))))))) = some (r1, r2, r3) := H
    have A22 := Aside0.mk A220
    clear A220
    replace H := Option.bind_eq_some_iff.mp H
    obtain ⟨t522, A230, H⟩ := H
    replace H : ((congr_size.f a0_2).bind fun t523 => ((congr_gcd_uint64.f kj2 t522 (IntKind.u64.wrap ((IntKind.u64.wrap (a1_1)) * t523))).bind fun t524 => ((congr_times.f a0_2 a1_2).bind fun bt525 => (if t524 = 0 then (if bt525.1 = 0 then (congr_Mul.j1 kj2 (decide (bt525.2.1 > 4611686018427387904)) bt525.1 bt525.2.1 bt525.2.2) else (congr_Mul.j1 kj2 true bt525.1 bt525.2.1 bt525.2.2)) else ((congr_words_rest.f bt525.1 bt525.2.1 t524).bind fun t538 => (if bt525.2.2 = true then (if t538 > 0 then ((congr_of.f kj2 t524 (IntKind.u64.wrap (t524 - t538))).bind fun bt539 => (some (bt539.1, bt539.2.1, bt539.2.2))) else ((congr_of.f kj2 t524 t538).bind fun bt542 => (some (bt542.1, bt542.2.1, bt542.2.2)))) else ((congr_of.f kj2 t524 t538).bind fun bt545 => (some (bt545.1, bt545.2.1, bt545.2.2))))))))) = some (r1, r2, r3) := H
    have A23 := Aside0.mk A230
    clear A230
    replace H := Option.bind_eq_some_iff.mp H
    obtain ⟨t523, A240, H⟩ := H
    replace H : ((congr_gcd_uint64.f kj2 t522 (IntKind.u64.wrap ((IntKind.u64.wrap (a1_1)) * t523))).bind fun t524 => ((congr_times.f a0_2 a1_2).bind fun bt525 => (if t524 = 0 then (if bt525.1 = 0 then (congr_Mul.j1 kj2 (decide (bt525.2.1 > 4611686018427387904)) bt525.1 bt525.2.1 bt525.2.2) else (congr_Mul.j1 kj2 true bt525.1 bt525.2.1 bt525.2.2)) else ((congr_words_rest.f bt525.1 bt525.2.1 t524).bind fun t538 => (if bt525.2.2 = true then (if t538 > 0 then ((congr_of.f kj2 t524 (IntKind.u64.wrap (t524 - t538))).bind fun bt539 => (some (bt539.1, bt539.2.1, bt539.2.2))) else ((congr_of.f kj2 t524 t538).bind fun bt542 => (some (bt542.1, bt542.2.1, bt542.2.2)))) else ((congr_of.f kj2 t524 t538).bind fun bt545 => (some (bt545.1, bt545.2.1, bt545.2.2)))))))) = some (r1, r2, r3) := H
    have A24 := Aside0.mk A240
    clear A240
    replace H := Option.bind_eq_some_iff.mp H
    obtain ⟨t524, A250, H⟩ := H
    replace H : ((congr_times.f a0_2 a1_2).bind fun bt525 => (if t524 = 0 then (if bt525.1 = 0 then (congr_Mul.j1 kj2 (decide (bt525.2.1 > 4611686018427387904)) bt525.1 bt525.2.1 bt525.2.2) else (congr_Mul.j1 kj2 true bt525.1 bt525.2.1 bt525.2.2)) else ((congr_words_rest.f bt525.1 bt525.2.1 t524).bind fun t538 => (if bt525.2.2 = true then (if t538 > 0 then ((congr_of.f kj2 t524 (IntKind.u64.wrap (t524 - t538))).bind fun bt539 => (some (bt539.1, bt539.2.1, bt539.2.2))) else ((congr_of.f kj2 t524 t538).bind fun bt542 => (some (bt542.1, bt542.2.1, bt542.2.2)))) else ((congr_of.f kj2 t524 t538).bind fun bt545 => (some (bt545.1, bt545.2.1, bt545.2.2))))))) = some (r1, r2, r3) := H
    have A25 := Aside0.mk A250
    clear A250
    replace H := Option.bind_eq_some_iff.mp H
    obtain ⟨⟨t525, t526, t527⟩, A260, H⟩ := H
    replace H : (if t524 = 0 then (if t525 = 0 then (congr_Mul.j1 kj2 (decide (t526 > 4611686018427387904)) t525 t526 t527) else (congr_Mul.j1 kj2 true t525 t526 t527)) else ((congr_words_rest.f t525 t526 t524).bind fun t538 => (if t527 = true then (if t538 > 0 then ((congr_of.f kj2 t524 (IntKind.u64.wrap (t524 - t538))).bind fun bt539 => (some (bt539.1, bt539.2.1, bt539.2.2))) else ((congr_of.f kj2 t524 t538).bind fun bt542 => (some (bt542.1, bt542.2.1, bt542.2.2)))) else ((congr_of.f kj2 t524 t538).bind fun bt545 => (some (bt545.1, bt545.2.1, bt545.2.2)))))) = some (r1, r2, r3) := H
    have A26 := Aside0.mk A260
    clear A260
    by_cases c27 : t524 = 0
    ·
     rw [if_pos c27] at H
     have c27b0 : (t524 == 0) = true := beq_iff_eq.mpr c27
     have c27b1 : (t524 != 0) = false := bne_eq_false_iff_eq.mpr c27
     clear c27
     have HC28 := Aside0.mk H
     clear H
     have hnb29 := NB515_516.out
     have hnc29 := NB516_515.out
     have hnb30 := NB515_517.out
     have hnc30 := NB517_515.out
     have hcz31_0 : wc.cell? ⟨gb515, 0, none⟩ = some (.bool a0_0) := cz0 BK515
     have hcz31_1 : wc.cell? ⟨gb515, 1, none⟩ = some (.int .i64 a0_1) := cz1 BK515
     have hcz31_2 : wc.cell? ⟨gb515, 2, none⟩ = some (.int .i64 a0_2) := cz2 BK515
     have hfz31_0 := fz BK515 0
     have hfz31_1 := fz BK515 1
     have hfz31_2 := fz BK515 2
     have hnb32 := NB516_517.out
     have hnc32 := NB517_516.out
     have hcz33_0 : wc.cell? ⟨gb516, 0, none⟩ = some (.bool a1_0) := cz0 BK516
     have hcz33_1 : wc.cell? ⟨gb516, 1, none⟩ = some (.int .i64 a1_1) := cz1 BK516
     have hcz33_2 : wc.cell? ⟨gb516, 2, none⟩ = some (.int .i64 a1_2) := cz2 BK516
     have hfz33_0 := fz BK516 0
     have hfz33_1 := fz BK516 1
     have hfz33_2 := fz BK516 2
     go_upto_region 6 with (first | (go_at_call 52; (with_reducible refine (congr_size.calls a1_2 t521 _ A22.out).mono ?_); rintro e w' ⟨rfl, ⟨nd, rfl⟩⟩; (try first | exact ⟨rfl, _, World.drewN_drewN _ _ _⟩ | exact ⟨rfl, _, Eq.trans (World.drewN_drewN _ _ _) (congrArg (World.drewN _) (Nat.add_assoc _ _ _))⟩)) | (go_at_call 62; (with_reducible refine (congr_gcd_uint64.calls kj2 (IntKind.u64.wrap ((IntKind.u64.wrap (a0_1)) * (IntKind.u64.wrap (a1_1)))) (IntKind.u64.wrap ((IntKind.u64.wrap (a0_1)) * t521)) t522 _ A23.out).mono ?_); rintro e w' ⟨rfl, ⟨nd, rfl⟩⟩; (try first | exact ⟨rfl, _, World.drewN_drewN _ _ _⟩ | exact ⟨rfl, _, Eq.trans (World.drewN_drewN _ _ _) (congrArg (World.drewN _) (Nat.add_assoc _ _ _))⟩)) | (go_at_call 52; (with_reducible refine (congr_size.calls a0_2 t523 _ A24.out).mono ?_); rintro e w' ⟨rfl, ⟨nd, rfl⟩⟩; (try first | exact ⟨rfl, _, World.drewN_drewN _ _ _⟩ | exact ⟨rfl, _, Eq.trans (World.drewN_drewN _ _ _) (congrArg (World.drewN _) (Nat.add_assoc _ _ _))⟩)) | (go_at_call 62; (with_reducible refine (congr_gcd_uint64.calls kj2 t522 (IntKind.u64.wrap ((IntKind.u64.wrap (a1_1)) * t523)) t524 _ A25.out).mono ?_); rintro e w' ⟨rfl, ⟨nd, rfl⟩⟩; (try first | exact ⟨rfl, _, World.drewN_drewN _ _ _⟩ | exact ⟨rfl, _, Eq.trans (World.drewN_drewN _ _ _) (congrArg (World.drewN _) (Nat.add_assoc _ _ _))⟩)) | (go_at_call 83; (with_reducible refine (congr_times.calls a0_2 a1_2 t525 t526 t527 _ A26.out).mono ?_); rintro e w34 ⟨rfl, hb⟩; replace BK515 := kB BK515 hb; replace BK516 := kB BK516 hb; replace BK517 := kB BK517 hb; replace HB := kW HB hb; (try clear hb); (try clear hb2); (try clear hk); (try clear hi)) | ((with_reducible refine gate_dst (N := 6) rfl ?_); refine box_event ?hg (N := 6) ?hd (cs := #[.int .u64 0, .int .u64 0, .bool false]) (t := 74) ?hr ?_; (case hd => rfl); (case hg => rfl); (case hr => first | (go_simp; done) | (go_simp; rfl)); intro gb528 hg w35 hbox hb; have n0_ := kB BK515 hb; have n1_ := kB BK516 hb; have n2_ := kB BK517 hb; have n3_ := kW HB hb; have n4_ := Aside0.mk (hbox); have n5_ := Aside0.mk ((by rw [hg]; exact (below_size (bS HB)) : w.heap.size ≤ gb528)); have n6_ := Aside0.mk ((by rw [hg]; exact (below_size (bS HB)) : w.heap.size ≤ gb528)); have n7_ := Aside0.mk ((by rw [hg]; exact Nat.ne_of_lt (blk_lt (bkS BK515)) : gb515 ≠ gb528)); have n8_ := Aside0.mk ((by rw [hg]; exact Nat.ne_of_gt (blk_lt (bkS BK515)) : gb528 ≠ gb515)); have n9_ := Aside0.mk ((by rw [hg]; exact Nat.ne_of_lt (blk_lt (bkS BK516)) : gb516 ≠ gb528)); have n10_ := Aside0.mk ((by rw [hg]; exact Nat.ne_of_gt (blk_lt (bkS BK516)) : gb528 ≠ gb516)); have n11_ := Aside0.mk ((by rw [hg]; exact Nat.ne_of_lt (blk_lt (bkS BK517)) : gb517 ≠ gb528)); have n12_ := Aside0.mk ((by rw [hg]; exact Nat.ne_of_gt (blk_lt (bkS BK517)) : gb528 ≠ gb517)); clear BK515; clear BK516; clear BK517; clear HB; have BK515 := n0_; have BK516 := n1_; have BK517 := n2_; have HB := n3_; have BK528 := n4_; have GW528 := n5_; have GE528 := n6_; have NB515_528 := n7_; have NB528_515 := n8_; have NB516_528 := n9_; have NB528_516 := n10_; have NB517_528 := n11_; have NB528_517 := n12_; clear n0_ n1_ n2_ n3_ n4_ n5_ n6_ n7_ n8_ n9_ n10_ n11_ n12_; clear hb hbox hg; have hnb36 := NB528_515.out; have hnc36 := NB515_528.out; have hnb37 := NB528_516.out; have hnc37 := NB516_528.out; have hnb38 := NB528_517.out; have hnc38 := NB517_528.out; have hcz39_0 := cz0 BK528; have hcz39_1 := cz1 BK528; have hcz39_2 := cz2 BK528; have hfz39_0 := fz BK528 0; have hfz39_1 := fz BK528 1; have hfz39_2 := fz BK528 2))
     repeat (go_quiet (first | (go_at_call 52; (with_reducible refine (congr_size.calls a1_2 t521 _ A22.out).mono ?_); rintro e w' ⟨rfl, ⟨nd, rfl⟩⟩; (try first | exact ⟨rfl, _, World.drewN_drewN _ _ _⟩ | exact ⟨rfl, _, Eq.trans (World.drewN_drewN _ _ _) (congrArg (World.drewN _) (Nat.add_assoc _ _ _))⟩)) | (go_at_call 62; (with_reducible refine (congr_gcd_uint64.calls kj2 (IntKind.u64.wrap ((IntKind.u64.wrap (a0_1)) * (IntKind.u64.wrap (a1_1)))) (IntKind.u64.wrap ((IntKind.u64.wrap (a0_1)) * t521)) t522 _ A23.out).mono ?_); rintro e w' ⟨rfl, ⟨nd, rfl⟩⟩; (try first | exact ⟨rfl, _, World.drewN_drewN _ _ _⟩ | exact ⟨rfl, _, Eq.trans (World.drewN_drewN _ _ _) (congrArg (World.drewN _) (Nat.add_assoc _ _ _))⟩)) | (go_at_call 52; (with_reducible refine (congr_size.calls a0_2 t523 _ A24.out).mono ?_); rintro e w' ⟨rfl, ⟨nd, rfl⟩⟩; (try first | exact ⟨rfl, _, World.drewN_drewN _ _ _⟩ | exact ⟨rfl, _, Eq.trans (World.drewN_drewN _ _ _) (congrArg (World.drewN _) (Nat.add_assoc _ _ _))⟩)) | (go_at_call 62; (with_reducible refine (congr_gcd_uint64.calls kj2 t522 (IntKind.u64.wrap ((IntKind.u64.wrap (a1_1)) * t523)) t524 _ A25.out).mono ?_); rintro e w' ⟨rfl, ⟨nd, rfl⟩⟩; (try first | exact ⟨rfl, _, World.drewN_drewN _ _ _⟩ | exact ⟨rfl, _, Eq.trans (World.drewN_drewN _ _ _) (congrArg (World.drewN _) (Nat.add_assoc _ _ _))⟩)) | (go_at_call 83; (with_reducible refine (congr_times.calls a0_2 a1_2 t525 t526 t527 _ A26.out).mono ?_); rintro e w34 ⟨rfl, hb⟩; replace BK515 := kB BK515 hb; replace BK516 := kB BK516 hb; replace BK517 := kB BK517 hb; replace HB := kW HB hb; (try clear hb); (try clear hb2); (try clear hk); (try clear hi)) | ((with_reducible refine gate_dst (N := 6) rfl ?_); refine box_event ?hg (N := 6) ?hd (cs := #[.int .u64 0, .int .u64 0, .bool false]) (t := 74) ?hr ?_; (case hd => rfl); (case hg => rfl); (case hr => first | (go_simp; done) | (go_simp; rfl)); intro gb528 hg w35 hbox hb; have n0_ := kB BK515 hb; have n1_ := kB BK516 hb; have n2_ := kB BK517 hb; have n3_ := kW HB hb; have n4_ := Aside0.mk (hbox); have n5_ := Aside0.mk ((by rw [hg]; exact (below_size (bS HB)) : w.heap.size ≤ gb528)); have n6_ := Aside0.mk ((by rw [hg]; exact (below_size (bS HB)) : w.heap.size ≤ gb528)); have n7_ := Aside0.mk ((by rw [hg]; exact Nat.ne_of_lt (blk_lt (bkS BK515)) : gb515 ≠ gb528)); have n8_ := Aside0.mk ((by rw [hg]; exact Nat.ne_of_gt (blk_lt (bkS BK515)) : gb528 ≠ gb515)); have n9_ := Aside0.mk ((by rw [hg]; exact Nat.ne_of_lt (blk_lt (bkS BK516)) : gb516 ≠ gb528)); have n10_ := Aside0.mk ((by rw [hg]; exact Nat.ne_of_gt (blk_lt (bkS BK516)) : gb528 ≠ gb516)); have n11_ := Aside0.mk ((by rw [hg]; exact Nat.ne_of_lt (blk_lt (bkS BK517)) : gb517 ≠ gb528)); have n12_ := Aside0.mk ((by rw [hg]; exact Nat.ne_of_gt (blk_lt (bkS BK517)) : gb528 ≠ gb517)); clear BK515; clear BK516; clear BK517; clear HB; have BK515 := n0_; have BK516 := n1_; have BK517 := n2_; have HB := n3_; have BK528 := n4_; have GW528 := n5_; have GE528 := n6_; have NB515_528 := n7_; have NB528_515 := n8_; have NB516_528 := n9_; have NB528_516 := n10_; have NB517_528 := n11_; have NB528_517 := n12_; clear n0_ n1_ n2_ n3_ n4_ n5_ n6_ n7_ n8_ n9_ n10_ n11_ n12_; clear hb hbox hg; have hnb36 := NB528_515.out; have hnc36 := NB515_528.out; have hnb37 := NB528_516.out; have hnc37 := NB516_528.out; have hnb38 := NB528_517.out; have hnc38 := NB517_528.out; have hcz39_0 := cz0 BK528; have hcz39_1 := cz1 BK528; have hcz39_2 := cz2 BK528; have hfz39_0 := fz BK528 0; have hfz39_1 := fz BK528 1; have hfz39_2 := fz BK528 2)); go_upto_region 6 with (first | (go_at_call 52; (with_reducible refine (congr_size.calls a1_2 t521 _ A22.out).mono ?_); rintro e w' ⟨rfl, ⟨nd, rfl⟩⟩; (try first | exact ⟨rfl, _, World.drewN_drewN _ _ _⟩ | exact ⟨rfl, _, Eq.trans (World.drewN_drewN _ _ _) (congrArg (World.drewN _) (Nat.add_assoc _ _ _))⟩)) | (go_at_call 62; (with_reducible refine (congr_gcd_uint64.calls kj2 (IntKind.u64.wrap ((IntKind.u64.wrap (a0_1)) * (IntKind.u64.wrap (a1_1)))) (IntKind.u64.wrap ((IntKind.u64.wrap (a0_1)) * t521)) t522 _ A23.out).mono ?_); rintro e w' ⟨rfl, ⟨nd, rfl⟩⟩; (try first | exact ⟨rfl, _, World.drewN_drewN _ _ _⟩ | exact ⟨rfl, _, Eq.trans (World.drewN_drewN _ _ _) (congrArg (World.drewN _) (Nat.add_assoc _ _ _))⟩)) | (go_at_call 52; (with_reducible refine (congr_size.calls a0_2 t523 _ A24.out).mono ?_); rintro e w' ⟨rfl, ⟨nd, rfl⟩⟩; (try first | exact ⟨rfl, _, World.drewN_drewN _ _ _⟩ | exact ⟨rfl, _, Eq.trans (World.drewN_drewN _ _ _) (congrArg (World.drewN _) (Nat.add_assoc _ _ _))⟩)) | (go_at_call 62; (with_reducible refine (congr_gcd_uint64.calls kj2 t522 (IntKind.u64.wrap ((IntKind.u64.wrap (a1_1)) * t523)) t524 _ A25.out).mono ?_); rintro e w' ⟨rfl, ⟨nd, rfl⟩⟩; (try first | exact ⟨rfl, _, World.drewN_drewN _ _ _⟩ | exact ⟨rfl, _, Eq.trans (World.drewN_drewN _ _ _) (congrArg (World.drewN _) (Nat.add_assoc _ _ _))⟩)) | (go_at_call 83; (with_reducible refine (congr_times.calls a0_2 a1_2 t525 t526 t527 _ A26.out).mono ?_); rintro e w34 ⟨rfl, hb⟩; replace BK515 := kB BK515 hb; replace BK516 := kB BK516 hb; replace BK517 := kB BK517 hb; replace HB := kW HB hb; (try clear hb); (try clear hb2); (try clear hk); (try clear hi)) | ((with_reducible refine gate_dst (N := 6) rfl ?_); refine box_event ?hg (N := 6) ?hd (cs := #[.int .u64 0, .int .u64 0, .bool false]) (t := 74) ?hr ?_; (case hd => rfl); (case hg => rfl); (case hr => first | (go_simp; done) | (go_simp; rfl)); intro gb528 hg w35 hbox hb; have n0_ := kB BK515 hb; have n1_ := kB BK516 hb; have n2_ := kB BK517 hb; have n3_ := kW HB hb; have n4_ := Aside0.mk (hbox); have n5_ := Aside0.mk ((by rw [hg]; exact (below_size (bS HB)) : w.heap.size ≤ gb528)); have n6_ := Aside0.mk ((by rw [hg]; exact (below_size (bS HB)) : w.heap.size ≤ gb528)); have n7_ := Aside0.mk ((by rw [hg]; exact Nat.ne_of_lt (blk_lt (bkS BK515)) : gb515 ≠ gb528)); have n8_ := Aside0.mk ((by rw [hg]; exact Nat.ne_of_gt (blk_lt (bkS BK515)) : gb528 ≠ gb515)); have n9_ := Aside0.mk ((by rw [hg]; exact Nat.ne_of_lt (blk_lt (bkS BK516)) : gb516 ≠ gb528)); have n10_ := Aside0.mk ((by rw [hg]; exact Nat.ne_of_gt (blk_lt (bkS BK516)) : gb528 ≠ gb516)); have n11_ := Aside0.mk ((by rw [hg]; exact Nat.ne_of_lt (blk_lt (bkS BK517)) : gb517 ≠ gb528)); have n12_ := Aside0.mk ((by rw [hg]; exact Nat.ne_of_gt (blk_lt (bkS BK517)) : gb528 ≠ gb517)); clear BK515; clear BK516; clear BK517; clear HB; have BK515 := n0_; have BK516 := n1_; have BK517 := n2_; have HB := n3_; have BK528 := n4_; have GW528 := n5_; have GE528 := n6_; have NB515_528 := n7_; have NB528_515 := n8_; have NB516_528 := n9_; have NB528_516 := n10_; have NB517_528 := n11_; have NB528_517 := n12_; clear n0_ n1_ n2_ n3_ n4_ n5_ n6_ n7_ n8_ n9_ n10_ n11_ n12_; clear hb hbox hg; have hnb36 := NB528_515.out; have hnc36 := NB515_528.out; have hnb37 := NB528_516.out; have hnc37 := NB516_528.out; have hnb38 := NB528_517.out; have hnc38 := NB517_528.out; have hcz39_0 := cz0 BK528; have hcz39_1 := cz1 BK528; have hcz39_2 := cz2 BK528; have hfz39_0 := fz BK528 0; have hfz39_1 := fz BK528 1; have hfz39_2 := fz BK528 2)))
     (try simp only [Act.put, lA, lB, lC])
     go_cut [54] (fun v54 wc => ∃ (kq : Nat) (x54_27 : Bool), v54 = .bool x54_27 ∧ Aside0 (congr_Mul.j1 kq x54_27 t525 t526 t527 = some (r1, r2, r3)) ∧ Aside0 (kq ≤ kj2) ∧ Aside0 (wc.heap[gb515]? = some (.cells #[.bool a0_0, .int .i64 a0_1, .int .i64 a0_2] 23 (0, 0))) ∧ Aside0 (wc.heap[gb516]? = some (.cells #[.bool a1_0, .int .i64 a1_1, .int .i64 a1_2] 23 (0, 0))) ∧ Aside0 (wc.heap[gb517]? = some (.cells #[.bool false, .int .i64 0, .int .i64 0] 23 (0, 0))) ∧ Aside0 (wc.heap[gb528]? = some (.cells #[.int .u64 t525, .int .u64 t526, .bool t527] 74 (0, 0))) ∧ Aside0 (Below w.heap.size w wc))
     case first =>
      have H := HC28.out
      clear HC28
      by_cases c40 : t525 = 0
      ·
       rw [if_pos c40] at H
       have c40b0 : (t525 == 0) = true := beq_iff_eq.mpr c40
       have c40b1 : (t525 != 0) = false := bne_eq_false_iff_eq.mpr c40
       clear c40
       (first | rw [c40b0] | (simp only [i64_w, i32_w]; rw [c40b0]) | skip)
       have H' := Aside0.mk H
       clear H
       have hnb41 := NB528_515.out
       have hnc41 := NB515_528.out
       have hnb42 := NB528_516.out
       have hnc42 := NB516_528.out
       have hnb43 := NB528_517.out
       have hnc43 := NB517_528.out
       have hcz44_0 := cz0 BK528
       have hcz44_1 := cz1 BK528
       have hcz44_2 := cz2 BK528
       have hfz44_0 := fz BK528 0
       have hfz44_1 := fz BK528 1
       have hfz44_2 := fz BK528 2
       go_wp2
       repeat (go_quiet (fail); try go_wp2)
       go_meet
       case rel => exact ⟨_, (decide (t526 > 4611686018427387904)), (by first | rfl | (simp; done) | (simp [*]; done)), H', ⟨by have := HJ2.out; first | omega | exact Nat.le_refl _⟩, ⟨bkS BK515⟩, ⟨bkS BK516⟩, ⟨bkS BK517⟩, ⟨by (with_reducible repeat (first | refine b1 ?_ _ | refine b2 ?_ | refine b3 ?_ _)); refine blk_put (cs := #[.int .u64 t525, .int .u64 t526, .bool false]) ?_ 2 _ rfl; (with_reducible repeat (first | refine b1 ?_ _ | refine b2 ?_ | refine b3 ?_ _)); refine blk_put (cs := #[.int .u64 t525, .int .u64 0, .bool false]) ?_ 1 _ rfl; (with_reducible repeat (first | refine b1 ?_ _ | refine b2 ?_ | refine b3 ?_ _)); refine blk_put (cs := #[.int .u64 0, .int .u64 0, .bool false]) ?_ 0 _ rfl; (with_reducible repeat (first | refine b1 ?_ _ | refine b2 ?_ | refine b3 ?_ _)); exact BK528.out⟩, ⟨bS HB⟩⟩
      ·
       rw [if_neg c40] at H
       have c40b0 : (t525 == 0) = false := beq_eq_false_iff_ne.mpr c40
       have c40b1 : (t525 != 0) = true := bne_iff_ne.mpr c40
       (first | rw [c40b0] | (simp only [i64_w, i32_w]; rw [c40b0]) | skip)
       have H' := Aside0.mk H
       clear H
       have hnb45 := NB528_515.out
       have hnc45 := NB515_528.out
       have hnb46 := NB528_516.out
       have hnc46 := NB516_528.out
       have hnb47 := NB528_517.out
       have hnc47 := NB517_528.out
       have hcz48_0 := cz0 BK528
       have hcz48_1 := cz1 BK528
       have hcz48_2 := cz2 BK528
       have hfz48_0 := fz BK528 0
       have hfz48_1 := fz BK528 1
       have hfz48_2 := fz BK528 2
       go_wp2
       repeat (go_quiet (fail); try go_wp2)
       go_meet
       case rel => exact ⟨_, (true), (by first | rfl | (simp; done) | (simp [*]; done)), H', ⟨by have := HJ2.out; first | omega | exact Nat.le_refl _⟩, ⟨bkS BK515⟩, ⟨bkS BK516⟩, ⟨bkS BK517⟩, ⟨by (with_reducible repeat (first | refine b1 ?_ _ | refine b2 ?_ | refine b3 ?_ _)); refine blk_put (cs := #[.int .u64 t525, .int .u64 t526, .bool false]) ?_ 2 _ rfl; (with_reducible repeat (first | refine b1 ?_ _ | refine b2 ?_ | refine b3 ?_ _)); refine blk_put (cs := #[.int .u64 t525, .int .u64 0, .bool false]) ?_ 1 _ rfl; (with_reducible repeat (first | refine b1 ?_ _ | refine b2 ?_ | refine b3 ?_ _)); refine blk_put (cs := #[.int .u64 0, .int .u64 0, .bool false]) ?_ 0 _ rfl; (with_reducible repeat (first | refine b1 ?_ _ | refine b2 ?_ | refine b3 ?_ _)); exact BK528.out⟩, ⟨bS HB⟩⟩
     case rest =>
      clear HC28
      try clear c1
      try clear c2
      try clear p2
      try clear c3
      try clear c4
      try clear c7
      try clear c8
      try clear c9
      try clear c11
      try clear c12
      try clear c14
      try clear c16
      try clear c19
      try clear c20
      try clear c27
      try clear c27b0
      try clear c27b1
      try clear c29
      try clear c30
      try clear c32
      try clear c36
      try clear c37
      try clear c38
      try clear c39
      try clear c40
      try clear c40b0
      try clear c40b1
      try clear c41
      try clear c42
      try clear c43
      try clear c45
      try clear c46
      try clear c47
      try clear hcz10_0
      try clear hcz10_1
      try clear hcz10_2
      try clear hcz13_0
      try clear hcz13_1
      try clear hcz13_2
      try clear hcz15_0
      try clear hcz15_1
      try clear hcz15_2
      try clear hcz21_0
      try clear hcz21_1
      try clear hcz21_2
      try clear hcz31_0
      try clear hcz31_1
      try clear hcz31_2
      try clear hcz33_0
      try clear hcz33_1
      try clear hcz33_2
      try clear hcz39_0
      try clear hcz39_1
      try clear hcz39_2
      try clear hcz44_0
      try clear hcz44_1
      try clear hcz44_2
      try clear hcz48_0
      try clear hcz48_1
      try clear hcz48_2
      try clear hfz10_0
      try clear hfz10_1
      try clear hfz10_2
      try clear hfz13_0
      try clear hfz13_1
      try clear hfz13_2
      try clear hfz15_0
      try clear hfz15_1
      try clear hfz15_2
      try clear hfz21_0
      try clear hfz21_1
      try clear hfz21_2
      try clear hfz31_0
      try clear hfz31_1
      try clear hfz31_2
      try clear hfz33_0
      try clear hfz33_1
      try clear hfz33_2
      try clear hfz39_0
      try clear hfz39_1
      try clear hfz39_2
      try clear hfz44_0
      try clear hfz44_1
      try clear hfz44_2
      try clear hfz48_0
      try clear hfz48_1
      try clear hfz48_2
      try clear p2
      obtain ⟨kq, x54_27, rfl, HA, HJ27, BK515, BK516, BK517, BK528, HB⟩ := hcut
      cases kq with
      | zero => exact absurd HA.out (by simp [congr_Mul.j1])
      | succ kj27 =>
       have H := HA.out
       clear HA
       simp only [congr_Mul.j1] at H
       by_cases c49 : x54_27 = true
       ·
        subst c49
        have H1 : ((congr_none.f).bind fun bt529 => (some (bt529.1, bt529.2.1, bt529.2.2))) = some (r1, r2, r3) := by rw [if_pos rfl] at H; exact H
        clear H
        have H := H1
        clear H1
        replace H := Option.bind_eq_some_iff.mp H
        obtain ⟨⟨t529, t530, t531⟩, A500, H⟩ := H
        replace H : (some (t529, t530, t531)) = some (r1, r2, r3) := H
        have A50 := Aside0.mk A500
        clear A500
        simp only [Option.some.injEq, Prod.mk.injEq] at H
        obtain ⟨rfl, rfl, rfl⟩ := H
        go_wp2_with (first | (go_at_call 56; (with_reducible refine (congr_none.calls  t529 t530 t531 _ A50.out).mono ?_); rintro e w51 ⟨rfl, hb⟩; replace BK515 := kB BK515 hb; replace BK516 := kB BK516 hb; replace BK517 := kB BK517 hb; replace BK528 := kB BK528 hb; replace HB := kW HB hb; (try clear hb); (try clear hb2); (try clear hk); (try clear hi); have hnb52 := NB517_515.out; have hnc52 := NB515_517.out; have hnb53 := NB517_516.out; have hnc53 := NB516_517.out; have hnb54 := NB517_528.out; have hnc54 := NB528_517.out; have hcz55_0 := cz0 BK517; have hcz55_1 := cz1 BK517; have hcz55_2 := cz2 BK517; have hfz55_0 := fz BK517 0; have hfz55_1 := fz BK517 1; have hfz55_2 := fz BK517 2))
        repeat (go_quiet (first | (go_at_call 56; (with_reducible refine (congr_none.calls  t529 t530 t531 _ A50.out).mono ?_); rintro e w51 ⟨rfl, hb⟩; replace BK515 := kB BK515 hb; replace BK516 := kB BK516 hb; replace BK517 := kB BK517 hb; replace BK528 := kB BK528 hb; replace HB := kW HB hb; (try clear hb); (try clear hb2); (try clear hk); (try clear hi); have hnb52 := NB517_515.out; have hnc52 := NB515_517.out; have hnb53 := NB517_516.out; have hnc53 := NB516_517.out; have hnb54 := NB517_528.out; have hnc54 := NB528_517.out; have hcz55_0 := cz0 BK517; have hcz55_1 := cz1 BK517; have hcz55_2 := cz2 BK517; have hfz55_0 := fz BK517 0; have hfz55_1 := fz BK517 1; have hfz55_2 := fz BK517 2)); try go_wp2_with (first | (go_at_call 56; (with_reducible refine (congr_none.calls  t529 t530 t531 _ A50.out).mono ?_); rintro e w51 ⟨rfl, hb⟩; replace BK515 := kB BK515 hb; replace BK516 := kB BK516 hb; replace BK517 := kB BK517 hb; replace BK528 := kB BK528 hb; replace HB := kW HB hb; (try clear hb); (try clear hb2); (try clear hk); (try clear hi); have hnb52 := NB517_515.out; have hnc52 := NB515_517.out; have hnb53 := NB517_516.out; have hnc53 := NB516_517.out; have hnb54 := NB517_528.out; have hnc54 := NB528_517.out; have hcz55_0 := cz0 BK517; have hcz55_1 := cz1 BK517; have hcz55_2 := cz2 BK517; have hfz55_0 := fz BK517 0; have hfz55_1 := fz BK517 1; have hfz55_2 := fz BK517 2)))
        refine bodyPost_ret (results_cell_row rfl _ _ gb517 23 #[.bool t529, .int .i64 t530, .int .i64 t531] (0, 0) _ rfl (by (with_reducible repeat (first | refine b1 ?_ _ | refine b2 ?_ | refine b3 ?_ _)); refine blk_put (cs := #[.bool t529, .int .i64 t530, .int .i64 0]) ?_ 2 _ rfl; (with_reducible repeat (first | refine b1 ?_ _ | refine b2 ?_ | refine b3 ?_ _)); refine blk_put (cs := #[.bool t529, .int .i64 0, .int .i64 0]) ?_ 1 _ rfl; (with_reducible repeat (first | refine b1 ?_ _ | refine b2 ?_ | refine b3 ?_ _)); refine blk_put (cs := #[.bool false, .int .i64 0, .int .i64 0]) ?_ 0 _ rfl; (with_reducible repeat (first | refine b1 ?_ _ | refine b2 ?_ | refine b3 ?_ _)); exact BK517.out) Tryd.underlying23 rfl (by kernel_rfl)) rfl ?_
        exact ⟨eS, bS HB⟩
       ·
        replace c49 := Bool.eq_false_iff.mpr c49
        subst c49
        have H1 : (if t527 = true then ((congr_constant.f (wrap64 (-(wrap64 (t526))))).bind fun bt532 => (some (bt532.1, bt532.2.1, bt532.2.2))) else ((congr_constant.f (wrap64 (t526))).bind fun bt535 => (some (bt535.1, bt535.2.1, bt535.2.2)))) = some (r1, r2, r3) := by rw [if_neg (show ¬ (false = true) by decide)] at H; exact H
        clear H
        have H := H1
        clear H1
        by_cases c56 : t527 = true
        ·
         subst c56
         have H1 : ((congr_constant.f (wrap64 (-(wrap64 (t526))))).bind fun bt532 => (some (bt532.1, bt532.2.1, bt532.2.2))) = some (r1, r2, r3) := by rw [if_pos rfl] at H; exact H
         clear H
         have H := H1
         clear H1
         replace H := Option.bind_eq_some_iff.mp H
         obtain ⟨⟨t532, t533, t534⟩, A570, H⟩ := H
         replace H : (some (t532, t533, t534)) = some (r1, r2, r3) := H
         have A57 := Aside0.mk A570
         clear A570
         simp only [Option.some.injEq, Prod.mk.injEq] at H
         obtain ⟨rfl, rfl, rfl⟩ := H
         have hnb58 := NB528_515.out
         have hnc58 := NB515_528.out
         have hnb59 := NB528_516.out
         have hnc59 := NB516_528.out
         have hnb60 := NB528_517.out
         have hnc60 := NB517_528.out
         have hcz61_0 : wc.cell? ⟨gb528, 0, none⟩ = some (.int .u64 t525) := cz0 BK528
         have hcz61_1 : wc.cell? ⟨gb528, 1, none⟩ = some (.int .u64 t526) := cz1 BK528
         have hcz61_2 : wc.cell? ⟨gb528, 2, none⟩ = some (.bool true) := cz2 BK528
         have hfz61_0 := fz BK528 0
         have hfz61_1 := fz BK528 1
         have hfz61_2 := fz BK528 2
         go_wp2_with (first | (go_at_call 50; (with_reducible refine (congr_constant.calls (wrap64 (-(wrap64 (t526)))) t532 t533 t534 _ A57.out).mono ?_); rintro e w62 ⟨rfl, hb⟩; replace BK515 := kB BK515 hb; replace BK516 := kB BK516 hb; replace BK517 := kB BK517 hb; replace BK528 := kB BK528 hb; replace HB := kW HB hb; (try clear hb); (try clear hb2); (try clear hk); (try clear hi); have hnb63 := NB517_515.out; have hnc63 := NB515_517.out; have hnb64 := NB517_516.out; have hnc64 := NB516_517.out; have hcz65_0 := cz0 BK517; have hcz65_1 := cz1 BK517; have hcz65_2 := cz2 BK517; have hfz65_0 := fz BK517 0; have hfz65_1 := fz BK517 1; have hfz65_2 := fz BK517 2))
         repeat (go_quiet (first | (go_at_call 50; (with_reducible refine (congr_constant.calls (wrap64 (-(wrap64 (t526)))) t532 t533 t534 _ A57.out).mono ?_); rintro e w62 ⟨rfl, hb⟩; replace BK515 := kB BK515 hb; replace BK516 := kB BK516 hb; replace BK517 := kB BK517 hb; replace BK528 := kB BK528 hb; replace HB := kW HB hb; (try clear hb); (try clear hb2); (try clear hk); (try clear hi); have hnb63 := NB517_515.out; have hnc63 := NB515_517.out; have hnb64 := NB517_516.out; have hnc64 := NB516_517.out; have hcz65_0 := cz0 BK517; have hcz65_1 := cz1 BK517; have hcz65_2 := cz2 BK517; have hfz65_0 := fz BK517 0; have hfz65_1 := fz BK517 1; have hfz65_2 := fz BK517 2)); try go_wp2_with (first | (go_at_call 50; (with_reducible refine (congr_constant.calls (wrap64 (-(wrap64 (t526)))) t532 t533 t534 _ A57.out).mono ?_); rintro e w62 ⟨rfl, hb⟩; replace BK515 := kB BK515 hb; replace BK516 := kB BK516 hb; replace BK517 := kB BK517 hb; replace BK528 := kB BK528 hb; replace HB := kW HB hb; (try clear hb); (try clear hb2); (try clear hk); (try clear hi); have hnb63 := NB517_515.out; have hnc63 := NB515_517.out; have hnb64 := NB517_516.out; have hnc64 := NB516_517.out; have hcz65_0 := cz0 BK517; have hcz65_1 := cz1 BK517; have hcz65_2 := cz2 BK517; have hfz65_0 := fz BK517 0; have hfz65_1 := fz BK517 1; have hfz65_2 := fz BK517 2)))
         refine bodyPost_ret (results_cell_row rfl _ _ gb517 23 #[.bool t532, .int .i64 t533, .int .i64 t534] (0, 0) _ rfl (by (with_reducible repeat (first | refine b1 ?_ _ | refine b2 ?_ | refine b3 ?_ _)); refine blk_put (cs := #[.bool t532, .int .i64 t533, .int .i64 0]) ?_ 2 _ rfl; (with_reducible repeat (first | refine b1 ?_ _ | refine b2 ?_ | refine b3 ?_ _)); refine blk_put (cs := #[.bool t532, .int .i64 0, .int .i64 0]) ?_ 1 _ rfl; (with_reducible repeat (first | refine b1 ?_ _ | refine b2 ?_ | refine b3 ?_ _)); refine blk_put (cs := #[.bool false, .int .i64 0, .int .i64 0]) ?_ 0 _ rfl; (with_reducible repeat (first | refine b1 ?_ _ | refine b2 ?_ | refine b3 ?_ _)); exact BK517.out) Tryd.underlying23 rfl (by kernel_rfl)) rfl ?_
         exact ⟨eS, bS HB⟩
        ·
         replace c56 := Bool.eq_false_iff.mpr c56
         subst c56
         have H1 : ((congr_constant.f (wrap64 (t526))).bind fun bt535 => (some (bt535.1, bt535.2.1, bt535.2.2))) = some (r1, r2, r3) := by rw [if_neg (show ¬ (false = true) by decide)] at H; exact H
         clear H
         have H := H1
         clear H1
         replace H := Option.bind_eq_some_iff.mp H
         obtain ⟨⟨t535, t536, t537⟩, A660, H⟩ := H
         replace H : (some (t535, t536, t537)) = some (r1, r2, r3) := H
         have A66 := Aside0.mk A660
         clear A660
         simp only [Option.some.injEq, Prod.mk.injEq] at H
         obtain ⟨rfl, rfl, rfl⟩ := H
         have hnb67 := NB528_515.out
         have hnc67 := NB515_528.out
         have hnb68 := NB528_516.out
         have hnc68 := NB516_528.out
         have hnb69 := NB528_517.out
         have hnc69 := NB517_528.out
         have hcz70_0 : wc.cell? ⟨gb528, 0, none⟩ = some (.int .u64 t525) := cz0 BK528
         have hcz70_1 : wc.cell? ⟨gb528, 1, none⟩ = some (.int .u64 t526) := cz1 BK528
         have hcz70_2 : wc.cell? ⟨gb528, 2, none⟩ = some (.bool false) := cz2 BK528
         have hfz70_0 := fz BK528 0
         have hfz70_1 := fz BK528 1
         have hfz70_2 := fz BK528 2
         go_wp2_with (first | (go_at_call 50; (with_reducible refine (congr_constant.calls (wrap64 (t526)) t535 t536 t537 _ A66.out).mono ?_); rintro e w71 ⟨rfl, hb⟩; replace BK515 := kB BK515 hb; replace BK516 := kB BK516 hb; replace BK517 := kB BK517 hb; replace BK528 := kB BK528 hb; replace HB := kW HB hb; (try clear hb); (try clear hb2); (try clear hk); (try clear hi); have hnb72 := NB517_515.out; have hnc72 := NB515_517.out; have hnb73 := NB517_516.out; have hnc73 := NB516_517.out; have hcz74_0 := cz0 BK517; have hcz74_1 := cz1 BK517; have hcz74_2 := cz2 BK517; have hfz74_0 := fz BK517 0; have hfz74_1 := fz BK517 1; have hfz74_2 := fz BK517 2))
         repeat (go_quiet (first | (go_at_call 50; (with_reducible refine (congr_constant.calls (wrap64 (t526)) t535 t536 t537 _ A66.out).mono ?_); rintro e w71 ⟨rfl, hb⟩; replace BK515 := kB BK515 hb; replace BK516 := kB BK516 hb; replace BK517 := kB BK517 hb; replace BK528 := kB BK528 hb; replace HB := kW HB hb; (try clear hb); (try clear hb2); (try clear hk); (try clear hi); have hnb72 := NB517_515.out; have hnc72 := NB515_517.out; have hnb73 := NB517_516.out; have hnc73 := NB516_517.out; have hcz74_0 := cz0 BK517; have hcz74_1 := cz1 BK517; have hcz74_2 := cz2 BK517; have hfz74_0 := fz BK517 0; have hfz74_1 := fz BK517 1; have hfz74_2 := fz BK517 2)); try go_wp2_with (first | (go_at_call 50; (with_reducible refine (congr_constant.calls (wrap64 (t526)) t535 t536 t537 _ A66.out).mono ?_); rintro e w71 ⟨rfl, hb⟩; replace BK515 := kB BK515 hb; replace BK516 := kB BK516 hb; replace BK517 := kB BK517 hb; replace BK528 := kB BK528 hb; replace HB := kW HB hb; (try clear hb); (try clear hb2); (try clear hk); (try clear hi); have hnb72 := NB517_515.out; have hnc72 := NB515_517.out; have hnb73 := NB517_516.out; have hnc73 := NB516_517.out; have hcz74_0 := cz0 BK517; have hcz74_1 := cz1 BK517; have hcz74_2 := cz2 BK517; have hfz74_0 := fz BK517 0; have hfz74_1 := fz BK517 1; have hfz74_2 := fz BK517 2)))
         refine bodyPost_ret (results_cell_row rfl _ _ gb517 23 #[.bool t535, .int .i64 t536, .int .i64 t537] (0, 0) _ rfl (by (with_reducible repeat (first | refine b1 ?_ _ | refine b2 ?_ | refine b3 ?_ _)); refine blk_put (cs := #[.bool t535, .int .i64 t536, .int .i64 0]) ?_ 2 _ rfl; (with_reducible repeat (first | refine b1 ?_ _ | refine b2 ?_ | refine b3 ?_ _)); refine blk_put (cs := #[.bool t535, .int .i64 0, .int .i64 0]) ?_ 1 _ rfl; (with_reducible repeat (first | refine b1 ?_ _ | refine b2 ?_ | refine b3 ?_ _)); refine blk_put (cs := #[.bool false, .int .i64 0, .int .i64 0]) ?_ 0 _ rfl; (with_reducible repeat (first | refine b1 ?_ _ | refine b2 ?_ | refine b3 ?_ _)); exact BK517.out) Tryd.underlying23 rfl (by kernel_rfl)) rfl ?_
         exact ⟨eS, bS HB⟩
    ·
     rw [if_neg c27] at H
     have c27b0 : (t524 == 0) = false := beq_eq_false_iff_ne.mpr c27
     have c27b1 : (t524 != 0) = true := bne_iff_ne.mpr c27
     replace H := Option.bind_eq_some_iff.mp H
     obtain ⟨t538, A750, H⟩ := H
     replace H : (if t527 = true then (if t538 > 0 then ((congr_of.f kj2 t524 (IntKind.u64.wrap (t524 - t538))).bind fun bt539 => (some (bt539.1, bt539.2.1, bt539.2.2))) else ((congr_of.f kj2 t524 t538).bind fun bt542 => (some (bt542.1, bt542.2.1, bt542.2.2)))) else ((congr_of.f kj2 t524 t538).bind fun bt545 => (some (bt545.1, bt545.2.1, bt545.2.2)))) = some (r1, r2, r3) := H
     have A75 := Aside0.mk A750
     clear A750
     by_cases c76 : t527 = true
     ·
      subst c76
      have H1 : (if t538 > 0 then ((congr_of.f kj2 t524 (IntKind.u64.wrap (t524 - t538))).bind fun bt539 => (some (bt539.1, bt539.2.1, bt539.2.2))) else ((congr_of.f kj2 t524 t538).bind fun bt542 => (some (bt542.1, bt542.2.1, bt542.2.2)))) = some (r1, r2, r3) := by rw [if_pos rfl] at H; exact H
      clear H
      have H := H1
      clear H1
      by_cases c77 : t538 > 0
      ·
       rw [if_pos c77] at H
       have c77b0 : decide (0 < t538) = true := decide_eq_true c77
       clear c77
       replace H := Option.bind_eq_some_iff.mp H
       obtain ⟨⟨t539, t540, t541⟩, A780, H⟩ := H
       replace H : (some (t539, t540, t541)) = some (r1, r2, r3) := H
       have A78 := Aside0.mk A780
       clear A780
       simp only [Option.some.injEq, Prod.mk.injEq] at H
       obtain ⟨rfl, rfl, rfl⟩ := H
       have hnb79 := NB515_516.out
       have hnc79 := NB516_515.out
       have hnb80 := NB515_517.out
       have hnc80 := NB517_515.out
       have hcz81_0 : wc.cell? ⟨gb515, 0, none⟩ = some (.bool a0_0) := cz0 BK515
       have hcz81_1 : wc.cell? ⟨gb515, 1, none⟩ = some (.int .i64 a0_1) := cz1 BK515
       have hcz81_2 : wc.cell? ⟨gb515, 2, none⟩ = some (.int .i64 a0_2) := cz2 BK515
       have hfz81_0 := fz BK515 0
       have hfz81_1 := fz BK515 1
       have hfz81_2 := fz BK515 2
       have hnb82 := NB516_517.out
       have hnc82 := NB517_516.out
       have hcz83_0 : wc.cell? ⟨gb516, 0, none⟩ = some (.bool a1_0) := cz0 BK516
       have hcz83_1 : wc.cell? ⟨gb516, 1, none⟩ = some (.int .i64 a1_1) := cz1 BK516
       have hcz83_2 : wc.cell? ⟨gb516, 2, none⟩ = some (.int .i64 a1_2) := cz2 BK516
       have hfz83_0 := fz BK516 0
       have hfz83_1 := fz BK516 1
       have hfz83_2 := fz BK516 2
       go_wp2_with (first | (go_at_call 52; (with_reducible refine (congr_size.calls a1_2 t521 _ A22.out).mono ?_); rintro e w' ⟨rfl, ⟨nd, rfl⟩⟩; (try first | exact ⟨rfl, _, World.drewN_drewN _ _ _⟩ | exact ⟨rfl, _, Eq.trans (World.drewN_drewN _ _ _) (congrArg (World.drewN _) (Nat.add_assoc _ _ _))⟩)) | (go_at_call 62; (with_reducible refine (congr_gcd_uint64.calls kj2 (IntKind.u64.wrap ((IntKind.u64.wrap (a0_1)) * (IntKind.u64.wrap (a1_1)))) (IntKind.u64.wrap ((IntKind.u64.wrap (a0_1)) * t521)) t522 _ A23.out).mono ?_); rintro e w' ⟨rfl, ⟨nd, rfl⟩⟩; (try first | exact ⟨rfl, _, World.drewN_drewN _ _ _⟩ | exact ⟨rfl, _, Eq.trans (World.drewN_drewN _ _ _) (congrArg (World.drewN _) (Nat.add_assoc _ _ _))⟩)) | (go_at_call 52; (with_reducible refine (congr_size.calls a0_2 t523 _ A24.out).mono ?_); rintro e w' ⟨rfl, ⟨nd, rfl⟩⟩; (try first | exact ⟨rfl, _, World.drewN_drewN _ _ _⟩ | exact ⟨rfl, _, Eq.trans (World.drewN_drewN _ _ _) (congrArg (World.drewN _) (Nat.add_assoc _ _ _))⟩)) | (go_at_call 62; (with_reducible refine (congr_gcd_uint64.calls kj2 t522 (IntKind.u64.wrap ((IntKind.u64.wrap (a1_1)) * t523)) t524 _ A25.out).mono ?_); rintro e w' ⟨rfl, ⟨nd, rfl⟩⟩; (try first | exact ⟨rfl, _, World.drewN_drewN _ _ _⟩ | exact ⟨rfl, _, Eq.trans (World.drewN_drewN _ _ _) (congrArg (World.drewN _) (Nat.add_assoc _ _ _))⟩)) | (go_at_call 83; (with_reducible refine (congr_times.calls a0_2 a1_2 t525 t526 true _ A26.out).mono ?_); rintro e w84 ⟨rfl, hb⟩; replace BK515 := kB BK515 hb; replace BK516 := kB BK516 hb; replace BK517 := kB BK517 hb; replace HB := kW HB hb; (try clear hb); (try clear hb2); (try clear hk); (try clear hi)) | ((with_reducible refine gate_dst (N := 6) rfl ?_); refine box_event ?hg (N := 6) ?hd (cs := #[.int .u64 0, .int .u64 0, .bool false]) (t := 74) ?hr ?_; (case hd => rfl); (case hg => rfl); (case hr => first | (go_simp; done) | (go_simp; rfl)); intro gb528 hg w85 hbox hb; have n0_ := kB BK515 hb; have n1_ := kB BK516 hb; have n2_ := kB BK517 hb; have n3_ := kW HB hb; have n4_ := Aside0.mk (hbox); have n5_ := Aside0.mk ((by rw [hg]; exact (below_size (bS HB)) : w.heap.size ≤ gb528)); have n6_ := Aside0.mk ((by rw [hg]; exact (below_size (bS HB)) : w.heap.size ≤ gb528)); have n7_ := Aside0.mk ((by rw [hg]; exact Nat.ne_of_lt (blk_lt (bkS BK515)) : gb515 ≠ gb528)); have n8_ := Aside0.mk ((by rw [hg]; exact Nat.ne_of_gt (blk_lt (bkS BK515)) : gb528 ≠ gb515)); have n9_ := Aside0.mk ((by rw [hg]; exact Nat.ne_of_lt (blk_lt (bkS BK516)) : gb516 ≠ gb528)); have n10_ := Aside0.mk ((by rw [hg]; exact Nat.ne_of_gt (blk_lt (bkS BK516)) : gb528 ≠ gb516)); have n11_ := Aside0.mk ((by rw [hg]; exact Nat.ne_of_lt (blk_lt (bkS BK517)) : gb517 ≠ gb528)); have n12_ := Aside0.mk ((by rw [hg]; exact Nat.ne_of_gt (blk_lt (bkS BK517)) : gb528 ≠ gb517)); clear BK515; clear BK516; clear BK517; clear HB; have BK515 := n0_; have BK516 := n1_; have BK517 := n2_; have HB := n3_; have BK528 := n4_; have GW528 := n5_; have GE528 := n6_; have NB515_528 := n7_; have NB528_515 := n8_; have NB516_528 := n9_; have NB528_516 := n10_; have NB517_528 := n11_; have NB528_517 := n12_; clear n0_ n1_ n2_ n3_ n4_ n5_ n6_ n7_ n8_ n9_ n10_ n11_ n12_; clear hb hbox hg; have hnb86 := NB528_515.out; have hnc86 := NB515_528.out; have hnb87 := NB528_516.out; have hnc87 := NB516_528.out; have hnb88 := NB528_517.out; have hnc88 := NB517_528.out; have hcz89_0 := cz0 BK528; have hcz89_1 := cz1 BK528; have hcz89_2 := cz2 BK528; have hfz89_0 := fz BK528 0; have hfz89_1 := fz BK528 1; have hfz89_2 := fz BK528 2) | (go_at_call 65; (with_reducible refine (congr_words_rest.calls t525 t526 t524 t538 _ A75.out).mono ?_); rintro e w90 ⟨rfl, hb⟩; have n0_ := kB BK515 hb; have n1_ := kB BK516 hb; have n2_ := kB BK517 hb; have n3_ := Aside0.mk (blk_below (g := gb528) (o := .cells #[.int .u64 t525, .int .u64 t526, .bool true] 74 (0, 0)) (by (with_reducible repeat (first | refine b1 ?_ _ | refine b2 ?_ | refine b3 ?_ _)); refine blk_put (cs := #[.int .u64 t525, .int .u64 t526, .bool false]) ?_ 2 _ rfl; (with_reducible repeat (first | refine b1 ?_ _ | refine b2 ?_ | refine b3 ?_ _)); refine blk_put (cs := #[.int .u64 t525, .int .u64 0, .bool false]) ?_ 1 _ rfl; (with_reducible repeat (first | refine b1 ?_ _ | refine b2 ?_ | refine b3 ?_ _)); refine blk_put (cs := #[.int .u64 0, .int .u64 0, .bool false]) ?_ 0 _ rfl; (with_reducible repeat (first | refine b1 ?_ _ | refine b2 ?_ | refine b3 ?_ _)); exact BK528.out) hb); have n4_ := kW HB hb; clear BK515; clear BK516; clear BK517; clear BK528; clear HB; have BK515 := n0_; have BK516 := n1_; have BK517 := n2_; have BK528 := n3_; have HB := n4_; clear n0_ n1_ n2_ n3_ n4_; (try clear hb); (try clear hb2); (try clear hk); (try clear hi); have hcz91_0 := cz0 BK528; have hcz91_1 := cz1 BK528; have hcz91_2 := cz2 BK528; have hfz91_0 := fz BK528 0; have hfz91_1 := fz BK528 1; have hfz91_2 := fz BK528 2) | (go_at_call 51; (with_reducible refine (congr_of.calls kj2 t524 (IntKind.u64.wrap (t524 - t538)) t539 t540 t541 _ A78.out).mono ?_); rintro e w92 ⟨rfl, hb⟩; replace BK515 := kB BK515 hb; replace BK516 := kB BK516 hb; replace BK517 := kB BK517 hb; replace BK528 := kB BK528 hb; replace HB := kW HB hb; (try clear hb); (try clear hb2); (try clear hk); (try clear hi); have hcz93_0 := cz0 BK517; have hcz93_1 := cz1 BK517; have hcz93_2 := cz2 BK517; have hfz93_0 := fz BK517 0; have hfz93_1 := fz BK517 1; have hfz93_2 := fz BK517 2))
       repeat (go_quiet (first | (go_at_call 52; (with_reducible refine (congr_size.calls a1_2 t521 _ A22.out).mono ?_); rintro e w' ⟨rfl, ⟨nd, rfl⟩⟩; (try first | exact ⟨rfl, _, World.drewN_drewN _ _ _⟩ | exact ⟨rfl, _, Eq.trans (World.drewN_drewN _ _ _) (congrArg (World.drewN _) (Nat.add_assoc _ _ _))⟩)) | (go_at_call 62; (with_reducible refine (congr_gcd_uint64.calls kj2 (IntKind.u64.wrap ((IntKind.u64.wrap (a0_1)) * (IntKind.u64.wrap (a1_1)))) (IntKind.u64.wrap ((IntKind.u64.wrap (a0_1)) * t521)) t522 _ A23.out).mono ?_); rintro e w' ⟨rfl, ⟨nd, rfl⟩⟩; (try first | exact ⟨rfl, _, World.drewN_drewN _ _ _⟩ | exact ⟨rfl, _, Eq.trans (World.drewN_drewN _ _ _) (congrArg (World.drewN _) (Nat.add_assoc _ _ _))⟩)) | (go_at_call 52; (with_reducible refine (congr_size.calls a0_2 t523 _ A24.out).mono ?_); rintro e w' ⟨rfl, ⟨nd, rfl⟩⟩; (try first | exact ⟨rfl, _, World.drewN_drewN _ _ _⟩ | exact ⟨rfl, _, Eq.trans (World.drewN_drewN _ _ _) (congrArg (World.drewN _) (Nat.add_assoc _ _ _))⟩)) | (go_at_call 62; (with_reducible refine (congr_gcd_uint64.calls kj2 t522 (IntKind.u64.wrap ((IntKind.u64.wrap (a1_1)) * t523)) t524 _ A25.out).mono ?_); rintro e w' ⟨rfl, ⟨nd, rfl⟩⟩; (try first | exact ⟨rfl, _, World.drewN_drewN _ _ _⟩ | exact ⟨rfl, _, Eq.trans (World.drewN_drewN _ _ _) (congrArg (World.drewN _) (Nat.add_assoc _ _ _))⟩)) | (go_at_call 83; (with_reducible refine (congr_times.calls a0_2 a1_2 t525 t526 true _ A26.out).mono ?_); rintro e w84 ⟨rfl, hb⟩; replace BK515 := kB BK515 hb; replace BK516 := kB BK516 hb; replace BK517 := kB BK517 hb; replace HB := kW HB hb; (try clear hb); (try clear hb2); (try clear hk); (try clear hi)) | ((with_reducible refine gate_dst (N := 6) rfl ?_); refine box_event ?hg (N := 6) ?hd (cs := #[.int .u64 0, .int .u64 0, .bool false]) (t := 74) ?hr ?_; (case hd => rfl); (case hg => rfl); (case hr => first | (go_simp; done) | (go_simp; rfl)); intro gb528 hg w85 hbox hb; have n0_ := kB BK515 hb; have n1_ := kB BK516 hb; have n2_ := kB BK517 hb; have n3_ := kW HB hb; have n4_ := Aside0.mk (hbox); have n5_ := Aside0.mk ((by rw [hg]; exact (below_size (bS HB)) : w.heap.size ≤ gb528)); have n6_ := Aside0.mk ((by rw [hg]; exact (below_size (bS HB)) : w.heap.size ≤ gb528)); have n7_ := Aside0.mk ((by rw [hg]; exact Nat.ne_of_lt (blk_lt (bkS BK515)) : gb515 ≠ gb528)); have n8_ := Aside0.mk ((by rw [hg]; exact Nat.ne_of_gt (blk_lt (bkS BK515)) : gb528 ≠ gb515)); have n9_ := Aside0.mk ((by rw [hg]; exact Nat.ne_of_lt (blk_lt (bkS BK516)) : gb516 ≠ gb528)); have n10_ := Aside0.mk ((by rw [hg]; exact Nat.ne_of_gt (blk_lt (bkS BK516)) : gb528 ≠ gb516)); have n11_ := Aside0.mk ((by rw [hg]; exact Nat.ne_of_lt (blk_lt (bkS BK517)) : gb517 ≠ gb528)); have n12_ := Aside0.mk ((by rw [hg]; exact Nat.ne_of_gt (blk_lt (bkS BK517)) : gb528 ≠ gb517)); clear BK515; clear BK516; clear BK517; clear HB; have BK515 := n0_; have BK516 := n1_; have BK517 := n2_; have HB := n3_; have BK528 := n4_; have GW528 := n5_; have GE528 := n6_; have NB515_528 := n7_; have NB528_515 := n8_; have NB516_528 := n9_; have NB528_516 := n10_; have NB517_528 := n11_; have NB528_517 := n12_; clear n0_ n1_ n2_ n3_ n4_ n5_ n6_ n7_ n8_ n9_ n10_ n11_ n12_; clear hb hbox hg; have hnb86 := NB528_515.out; have hnc86 := NB515_528.out; have hnb87 := NB528_516.out; have hnc87 := NB516_528.out; have hnb88 := NB528_517.out; have hnc88 := NB517_528.out; have hcz89_0 := cz0 BK528; have hcz89_1 := cz1 BK528; have hcz89_2 := cz2 BK528; have hfz89_0 := fz BK528 0; have hfz89_1 := fz BK528 1; have hfz89_2 := fz BK528 2) | (go_at_call 65; (with_reducible refine (congr_words_rest.calls t525 t526 t524 t538 _ A75.out).mono ?_); rintro e w90 ⟨rfl, hb⟩; have n0_ := kB BK515 hb; have n1_ := kB BK516 hb; have n2_ := kB BK517 hb; have n3_ := Aside0.mk (blk_below (g := gb528) (o := .cells #[.int .u64 t525, .int .u64 t526, .bool true] 74 (0, 0)) (by (with_reducible repeat (first | refine b1 ?_ _ | refine b2 ?_ | refine b3 ?_ _)); refine blk_put (cs := #[.int .u64 t525, .int .u64 t526, .bool false]) ?_ 2 _ rfl; (with_reducible repeat (first | refine b1 ?_ _ | refine b2 ?_ | refine b3 ?_ _)); refine blk_put (cs := #[.int .u64 t525, .int .u64 0, .bool false]) ?_ 1 _ rfl; (with_reducible repeat (first | refine b1 ?_ _ | refine b2 ?_ | refine b3 ?_ _)); refine blk_put (cs := #[.int .u64 0, .int .u64 0, .bool false]) ?_ 0 _ rfl; (with_reducible repeat (first | refine b1 ?_ _ | refine b2 ?_ | refine b3 ?_ _)); exact BK528.out) hb); have n4_ := kW HB hb; clear BK515; clear BK516; clear BK517; clear BK528; clear HB; have BK515 := n0_; have BK516 := n1_; have BK517 := n2_; have BK528 := n3_; have HB := n4_; clear n0_ n1_ n2_ n3_ n4_; (try clear hb); (try clear hb2); (try clear hk); (try clear hi); have hcz91_0 := cz0 BK528; have hcz91_1 := cz1 BK528; have hcz91_2 := cz2 BK528; have hfz91_0 := fz BK528 0; have hfz91_1 := fz BK528 1; have hfz91_2 := fz BK528 2) | (go_at_call 51; (with_reducible refine (congr_of.calls kj2 t524 (IntKind.u64.wrap (t524 - t538)) t539 t540 t541 _ A78.out).mono ?_); rintro e w92 ⟨rfl, hb⟩; replace BK515 := kB BK515 hb; replace BK516 := kB BK516 hb; replace BK517 := kB BK517 hb; replace BK528 := kB BK528 hb; replace HB := kW HB hb; (try clear hb); (try clear hb2); (try clear hk); (try clear hi); have hcz93_0 := cz0 BK517; have hcz93_1 := cz1 BK517; have hcz93_2 := cz2 BK517; have hfz93_0 := fz BK517 0; have hfz93_1 := fz BK517 1; have hfz93_2 := fz BK517 2)); try go_wp2_with (first | (go_at_call 52; (with_reducible refine (congr_size.calls a1_2 t521 _ A22.out).mono ?_); rintro e w' ⟨rfl, ⟨nd, rfl⟩⟩; (try first | exact ⟨rfl, _, World.drewN_drewN _ _ _⟩ | exact ⟨rfl, _, Eq.trans (World.drewN_drewN _ _ _) (congrArg (World.drewN _) (Nat.add_assoc _ _ _))⟩)) | (go_at_call 62; (with_reducible refine (congr_gcd_uint64.calls kj2 (IntKind.u64.wrap ((IntKind.u64.wrap (a0_1)) * (IntKind.u64.wrap (a1_1)))) (IntKind.u64.wrap ((IntKind.u64.wrap (a0_1)) * t521)) t522 _ A23.out).mono ?_); rintro e w' ⟨rfl, ⟨nd, rfl⟩⟩; (try first | exact ⟨rfl, _, World.drewN_drewN _ _ _⟩ | exact ⟨rfl, _, Eq.trans (World.drewN_drewN _ _ _) (congrArg (World.drewN _) (Nat.add_assoc _ _ _))⟩)) | (go_at_call 52; (with_reducible refine (congr_size.calls a0_2 t523 _ A24.out).mono ?_); rintro e w' ⟨rfl, ⟨nd, rfl⟩⟩; (try first | exact ⟨rfl, _, World.drewN_drewN _ _ _⟩ | exact ⟨rfl, _, Eq.trans (World.drewN_drewN _ _ _) (congrArg (World.drewN _) (Nat.add_assoc _ _ _))⟩)) | (go_at_call 62; (with_reducible refine (congr_gcd_uint64.calls kj2 t522 (IntKind.u64.wrap ((IntKind.u64.wrap (a1_1)) * t523)) t524 _ A25.out).mono ?_); rintro e w' ⟨rfl, ⟨nd, rfl⟩⟩; (try first | exact ⟨rfl, _, World.drewN_drewN _ _ _⟩ | exact ⟨rfl, _, Eq.trans (World.drewN_drewN _ _ _) (congrArg (World.drewN _) (Nat.add_assoc _ _ _))⟩)) | (go_at_call 83; (with_reducible refine (congr_times.calls a0_2 a1_2 t525 t526 true _ A26.out).mono ?_); rintro e w84 ⟨rfl, hb⟩; replace BK515 := kB BK515 hb; replace BK516 := kB BK516 hb; replace BK517 := kB BK517 hb; replace HB := kW HB hb; (try clear hb); (try clear hb2); (try clear hk); (try clear hi)) | ((with_reducible refine gate_dst (N := 6) rfl ?_); refine box_event ?hg (N := 6) ?hd (cs := #[.int .u64 0, .int .u64 0, .bool false]) (t := 74) ?hr ?_; (case hd => rfl); (case hg => rfl); (case hr => first | (go_simp; done) | (go_simp; rfl)); intro gb528 hg w85 hbox hb; have n0_ := kB BK515 hb; have n1_ := kB BK516 hb; have n2_ := kB BK517 hb; have n3_ := kW HB hb; have n4_ := Aside0.mk (hbox); have n5_ := Aside0.mk ((by rw [hg]; exact (below_size (bS HB)) : w.heap.size ≤ gb528)); have n6_ := Aside0.mk ((by rw [hg]; exact (below_size (bS HB)) : w.heap.size ≤ gb528)); have n7_ := Aside0.mk ((by rw [hg]; exact Nat.ne_of_lt (blk_lt (bkS BK515)) : gb515 ≠ gb528)); have n8_ := Aside0.mk ((by rw [hg]; exact Nat.ne_of_gt (blk_lt (bkS BK515)) : gb528 ≠ gb515)); have n9_ := Aside0.mk ((by rw [hg]; exact Nat.ne_of_lt (blk_lt (bkS BK516)) : gb516 ≠ gb528)); have n10_ := Aside0.mk ((by rw [hg]; exact Nat.ne_of_gt (blk_lt (bkS BK516)) : gb528 ≠ gb516)); have n11_ := Aside0.mk ((by rw [hg]; exact Nat.ne_of_lt (blk_lt (bkS BK517)) : gb517 ≠ gb528)); have n12_ := Aside0.mk ((by rw [hg]; exact Nat.ne_of_gt (blk_lt (bkS BK517)) : gb528 ≠ gb517)); clear BK515; clear BK516; clear BK517; clear HB; have BK515 := n0_; have BK516 := n1_; have BK517 := n2_; have HB := n3_; have BK528 := n4_; have GW528 := n5_; have GE528 := n6_; have NB515_528 := n7_; have NB528_515 := n8_; have NB516_528 := n9_; have NB528_516 := n10_; have NB517_528 := n11_; have NB528_517 := n12_; clear n0_ n1_ n2_ n3_ n4_ n5_ n6_ n7_ n8_ n9_ n10_ n11_ n12_; clear hb hbox hg; have hnb86 := NB528_515.out; have hnc86 := NB515_528.out; have hnb87 := NB528_516.out; have hnc87 := NB516_528.out; have hnb88 := NB528_517.out; have hnc88 := NB517_528.out; have hcz89_0 := cz0 BK528; have hcz89_1 := cz1 BK528; have hcz89_2 := cz2 BK528; have hfz89_0 := fz BK528 0; have hfz89_1 := fz BK528 1; have hfz89_2 := fz BK528 2) | (go_at_call 65; (with_reducible refine (congr_words_rest.calls t525 t526 t524 t538 _ A75.out).mono ?_); rintro e w90 ⟨rfl, hb⟩; have n0_ := kB BK515 hb; have n1_ := kB BK516 hb; have n2_ := kB BK517 hb; have n3_ := Aside0.mk (blk_below (g := gb528) (o := .cells #[.int .u64 t525, .int .u64 t526, .bool true] 74 (0, 0)) (by (with_reducible repeat (first | refine b1 ?_ _ | refine b2 ?_ | refine b3 ?_ _)); refine blk_put (cs := #[.int .u64 t525, .int .u64 t526, .bool false]) ?_ 2 _ rfl; (with_reducible repeat (first | refine b1 ?_ _ | refine b2 ?_ | refine b3 ?_ _)); refine blk_put (cs := #[.int .u64 t525, .int .u64 0, .bool false]) ?_ 1 _ rfl; (with_reducible repeat (first | refine b1 ?_ _ | refine b2 ?_ | refine b3 ?_ _)); refine blk_put (cs := #[.int .u64 0, .int .u64 0, .bool false]) ?_ 0 _ rfl; (with_reducible repeat (first | refine b1 ?_ _ | refine b2 ?_ | refine b3 ?_ _)); exact BK528.out) hb); have n4_ := kW HB hb; clear BK515; clear BK516; clear BK517; clear BK528; clear HB; have BK515 := n0_; have BK516 := n1_; have BK517 := n2_; have BK528 := n3_; have HB := n4_; clear n0_ n1_ n2_ n3_ n4_; (try clear hb); (try clear hb2); (try clear hk); (try clear hi); have hcz91_0 := cz0 BK528; have hcz91_1 := cz1 BK528; have hcz91_2 := cz2 BK528; have hfz91_0 := fz BK528 0; have hfz91_1 := fz BK528 1; have hfz91_2 := fz BK528 2) | (go_at_call 51; (with_reducible refine (congr_of.calls kj2 t524 (IntKind.u64.wrap (t524 - t538)) t539 t540 t541 _ A78.out).mono ?_); rintro e w92 ⟨rfl, hb⟩; replace BK515 := kB BK515 hb; replace BK516 := kB BK516 hb; replace BK517 := kB BK517 hb; replace BK528 := kB BK528 hb; replace HB := kW HB hb; (try clear hb); (try clear hb2); (try clear hk); (try clear hi); have hcz93_0 := cz0 BK517; have hcz93_1 := cz1 BK517; have hcz93_2 := cz2 BK517; have hfz93_0 := fz BK517 0; have hfz93_1 := fz BK517 1; have hfz93_2 := fz BK517 2)))
       refine bodyPost_ret (results_cell_row rfl _ _ gb517 23 #[.bool t539, .int .i64 t540, .int .i64 t541] (0, 0) _ rfl (by (with_reducible repeat (first | refine b1 ?_ _ | refine b2 ?_ | refine b3 ?_ _)); refine blk_put (cs := #[.bool t539, .int .i64 t540, .int .i64 0]) ?_ 2 _ rfl; (with_reducible repeat (first | refine b1 ?_ _ | refine b2 ?_ | refine b3 ?_ _)); refine blk_put (cs := #[.bool t539, .int .i64 0, .int .i64 0]) ?_ 1 _ rfl; (with_reducible repeat (first | refine b1 ?_ _ | refine b2 ?_ | refine b3 ?_ _)); refine blk_put (cs := #[.bool false, .int .i64 0, .int .i64 0]) ?_ 0 _ rfl; (with_reducible repeat (first | refine b1 ?_ _ | refine b2 ?_ | refine b3 ?_ _)); exact BK517.out) Tryd.underlying23 rfl (by kernel_rfl)) rfl ?_
       exact ⟨eS, bS HB⟩
      ·
       rw [if_neg c77] at H
       have c77b0 : decide (0 < t538) = false := decide_eq_false c77
       clear c77
       replace H := Option.bind_eq_some_iff.mp H
       obtain ⟨⟨t542, t543, t544⟩, A940, H⟩ := H
       replace H : (some (t542, t543, t544)) = some (r1, r2, r3) := H
       have A94 := Aside0.mk A940
       clear A940
       simp only [Option.some.injEq, Prod.mk.injEq] at H
       obtain ⟨rfl, rfl, rfl⟩ := H
       have hnb95 := NB515_516.out
       have hnc95 := NB516_515.out
       have hnb96 := NB515_517.out
       have hnc96 := NB517_515.out
       have hcz97_0 : wc.cell? ⟨gb515, 0, none⟩ = some (.bool a0_0) := cz0 BK515
       have hcz97_1 : wc.cell? ⟨gb515, 1, none⟩ = some (.int .i64 a0_1) := cz1 BK515
       have hcz97_2 : wc.cell? ⟨gb515, 2, none⟩ = some (.int .i64 a0_2) := cz2 BK515
       have hfz97_0 := fz BK515 0
       have hfz97_1 := fz BK515 1
       have hfz97_2 := fz BK515 2
       have hnb98 := NB516_517.out
       have hnc98 := NB517_516.out
       have hcz99_0 : wc.cell? ⟨gb516, 0, none⟩ = some (.bool a1_0) := cz0 BK516
       have hcz99_1 : wc.cell? ⟨gb516, 1, none⟩ = some (.int .i64 a1_1) := cz1 BK516
       have hcz99_2 : wc.cell? ⟨gb516, 2, none⟩ = some (.int .i64 a1_2) := cz2 BK516
       have hfz99_0 := fz BK516 0
       have hfz99_1 := fz BK516 1
       have hfz99_2 := fz BK516 2
       go_wp2_with (first | (go_at_call 52; (with_reducible refine (congr_size.calls a1_2 t521 _ A22.out).mono ?_); rintro e w' ⟨rfl, ⟨nd, rfl⟩⟩; (try first | exact ⟨rfl, _, World.drewN_drewN _ _ _⟩ | exact ⟨rfl, _, Eq.trans (World.drewN_drewN _ _ _) (congrArg (World.drewN _) (Nat.add_assoc _ _ _))⟩)) | (go_at_call 62; (with_reducible refine (congr_gcd_uint64.calls kj2 (IntKind.u64.wrap ((IntKind.u64.wrap (a0_1)) * (IntKind.u64.wrap (a1_1)))) (IntKind.u64.wrap ((IntKind.u64.wrap (a0_1)) * t521)) t522 _ A23.out).mono ?_); rintro e w' ⟨rfl, ⟨nd, rfl⟩⟩; (try first | exact ⟨rfl, _, World.drewN_drewN _ _ _⟩ | exact ⟨rfl, _, Eq.trans (World.drewN_drewN _ _ _) (congrArg (World.drewN _) (Nat.add_assoc _ _ _))⟩)) | (go_at_call 52; (with_reducible refine (congr_size.calls a0_2 t523 _ A24.out).mono ?_); rintro e w' ⟨rfl, ⟨nd, rfl⟩⟩; (try first | exact ⟨rfl, _, World.drewN_drewN _ _ _⟩ | exact ⟨rfl, _, Eq.trans (World.drewN_drewN _ _ _) (congrArg (World.drewN _) (Nat.add_assoc _ _ _))⟩)) | (go_at_call 62; (with_reducible refine (congr_gcd_uint64.calls kj2 t522 (IntKind.u64.wrap ((IntKind.u64.wrap (a1_1)) * t523)) t524 _ A25.out).mono ?_); rintro e w' ⟨rfl, ⟨nd, rfl⟩⟩; (try first | exact ⟨rfl, _, World.drewN_drewN _ _ _⟩ | exact ⟨rfl, _, Eq.trans (World.drewN_drewN _ _ _) (congrArg (World.drewN _) (Nat.add_assoc _ _ _))⟩)) | (go_at_call 83; (with_reducible refine (congr_times.calls a0_2 a1_2 t525 t526 true _ A26.out).mono ?_); rintro e w100 ⟨rfl, hb⟩; replace BK515 := kB BK515 hb; replace BK516 := kB BK516 hb; replace BK517 := kB BK517 hb; replace HB := kW HB hb; (try clear hb); (try clear hb2); (try clear hk); (try clear hi)) | ((with_reducible refine gate_dst (N := 6) rfl ?_); refine box_event ?hg (N := 6) ?hd (cs := #[.int .u64 0, .int .u64 0, .bool false]) (t := 74) ?hr ?_; (case hd => rfl); (case hg => rfl); (case hr => first | (go_simp; done) | (go_simp; rfl)); intro gb528 hg w101 hbox hb; have n0_ := kB BK515 hb; have n1_ := kB BK516 hb; have n2_ := kB BK517 hb; have n3_ := kW HB hb; have n4_ := Aside0.mk (hbox); have n5_ := Aside0.mk ((by rw [hg]; exact (below_size (bS HB)) : w.heap.size ≤ gb528)); have n6_ := Aside0.mk ((by rw [hg]; exact (below_size (bS HB)) : w.heap.size ≤ gb528)); have n7_ := Aside0.mk ((by rw [hg]; exact Nat.ne_of_lt (blk_lt (bkS BK515)) : gb515 ≠ gb528)); have n8_ := Aside0.mk ((by rw [hg]; exact Nat.ne_of_gt (blk_lt (bkS BK515)) : gb528 ≠ gb515)); have n9_ := Aside0.mk ((by rw [hg]; exact Nat.ne_of_lt (blk_lt (bkS BK516)) : gb516 ≠ gb528)); have n10_ := Aside0.mk ((by rw [hg]; exact Nat.ne_of_gt (blk_lt (bkS BK516)) : gb528 ≠ gb516)); have n11_ := Aside0.mk ((by rw [hg]; exact Nat.ne_of_lt (blk_lt (bkS BK517)) : gb517 ≠ gb528)); have n12_ := Aside0.mk ((by rw [hg]; exact Nat.ne_of_gt (blk_lt (bkS BK517)) : gb528 ≠ gb517)); clear BK515; clear BK516; clear BK517; clear HB; have BK515 := n0_; have BK516 := n1_; have BK517 := n2_; have HB := n3_; have BK528 := n4_; have GW528 := n5_; have GE528 := n6_; have NB515_528 := n7_; have NB528_515 := n8_; have NB516_528 := n9_; have NB528_516 := n10_; have NB517_528 := n11_; have NB528_517 := n12_; clear n0_ n1_ n2_ n3_ n4_ n5_ n6_ n7_ n8_ n9_ n10_ n11_ n12_; clear hb hbox hg; have hnb102 := NB528_515.out; have hnc102 := NB515_528.out; have hnb103 := NB528_516.out; have hnc103 := NB516_528.out; have hnb104 := NB528_517.out; have hnc104 := NB517_528.out; have hcz105_0 := cz0 BK528; have hcz105_1 := cz1 BK528; have hcz105_2 := cz2 BK528; have hfz105_0 := fz BK528 0; have hfz105_1 := fz BK528 1; have hfz105_2 := fz BK528 2) | (go_at_call 65; (with_reducible refine (congr_words_rest.calls t525 t526 t524 t538 _ A75.out).mono ?_); rintro e w106 ⟨rfl, hb⟩; have n0_ := kB BK515 hb; have n1_ := kB BK516 hb; have n2_ := kB BK517 hb; have n3_ := Aside0.mk (blk_below (g := gb528) (o := .cells #[.int .u64 t525, .int .u64 t526, .bool true] 74 (0, 0)) (by (with_reducible repeat (first | refine b1 ?_ _ | refine b2 ?_ | refine b3 ?_ _)); refine blk_put (cs := #[.int .u64 t525, .int .u64 t526, .bool false]) ?_ 2 _ rfl; (with_reducible repeat (first | refine b1 ?_ _ | refine b2 ?_ | refine b3 ?_ _)); refine blk_put (cs := #[.int .u64 t525, .int .u64 0, .bool false]) ?_ 1 _ rfl; (with_reducible repeat (first | refine b1 ?_ _ | refine b2 ?_ | refine b3 ?_ _)); refine blk_put (cs := #[.int .u64 0, .int .u64 0, .bool false]) ?_ 0 _ rfl; (with_reducible repeat (first | refine b1 ?_ _ | refine b2 ?_ | refine b3 ?_ _)); exact BK528.out) hb); have n4_ := kW HB hb; clear BK515; clear BK516; clear BK517; clear BK528; clear HB; have BK515 := n0_; have BK516 := n1_; have BK517 := n2_; have BK528 := n3_; have HB := n4_; clear n0_ n1_ n2_ n3_ n4_; (try clear hb); (try clear hb2); (try clear hk); (try clear hi); have hcz107_0 := cz0 BK528; have hcz107_1 := cz1 BK528; have hcz107_2 := cz2 BK528; have hfz107_0 := fz BK528 0; have hfz107_1 := fz BK528 1; have hfz107_2 := fz BK528 2) | (go_at_call 51; (with_reducible refine (congr_of.calls kj2 t524 t538 t542 t543 t544 _ A94.out).mono ?_); rintro e w108 ⟨rfl, hb⟩; replace BK515 := kB BK515 hb; replace BK516 := kB BK516 hb; replace BK517 := kB BK517 hb; replace BK528 := kB BK528 hb; replace HB := kW HB hb; (try clear hb); (try clear hb2); (try clear hk); (try clear hi); have hcz109_0 := cz0 BK517; have hcz109_1 := cz1 BK517; have hcz109_2 := cz2 BK517; have hfz109_0 := fz BK517 0; have hfz109_1 := fz BK517 1; have hfz109_2 := fz BK517 2))
       repeat (go_quiet (first | (go_at_call 52; (with_reducible refine (congr_size.calls a1_2 t521 _ A22.out).mono ?_); rintro e w' ⟨rfl, ⟨nd, rfl⟩⟩; (try first | exact ⟨rfl, _, World.drewN_drewN _ _ _⟩ | exact ⟨rfl, _, Eq.trans (World.drewN_drewN _ _ _) (congrArg (World.drewN _) (Nat.add_assoc _ _ _))⟩)) | (go_at_call 62; (with_reducible refine (congr_gcd_uint64.calls kj2 (IntKind.u64.wrap ((IntKind.u64.wrap (a0_1)) * (IntKind.u64.wrap (a1_1)))) (IntKind.u64.wrap ((IntKind.u64.wrap (a0_1)) * t521)) t522 _ A23.out).mono ?_); rintro e w' ⟨rfl, ⟨nd, rfl⟩⟩; (try first | exact ⟨rfl, _, World.drewN_drewN _ _ _⟩ | exact ⟨rfl, _, Eq.trans (World.drewN_drewN _ _ _) (congrArg (World.drewN _) (Nat.add_assoc _ _ _))⟩)) | (go_at_call 52; (with_reducible refine (congr_size.calls a0_2 t523 _ A24.out).mono ?_); rintro e w' ⟨rfl, ⟨nd, rfl⟩⟩; (try first | exact ⟨rfl, _, World.drewN_drewN _ _ _⟩ | exact ⟨rfl, _, Eq.trans (World.drewN_drewN _ _ _) (congrArg (World.drewN _) (Nat.add_assoc _ _ _))⟩)) | (go_at_call 62; (with_reducible refine (congr_gcd_uint64.calls kj2 t522 (IntKind.u64.wrap ((IntKind.u64.wrap (a1_1)) * t523)) t524 _ A25.out).mono ?_); rintro e w' ⟨rfl, ⟨nd, rfl⟩⟩; (try first | exact ⟨rfl, _, World.drewN_drewN _ _ _⟩ | exact ⟨rfl, _, Eq.trans (World.drewN_drewN _ _ _) (congrArg (World.drewN _) (Nat.add_assoc _ _ _))⟩)) | (go_at_call 83; (with_reducible refine (congr_times.calls a0_2 a1_2 t525 t526 true _ A26.out).mono ?_); rintro e w100 ⟨rfl, hb⟩; replace BK515 := kB BK515 hb; replace BK516 := kB BK516 hb; replace BK517 := kB BK517 hb; replace HB := kW HB hb; (try clear hb); (try clear hb2); (try clear hk); (try clear hi)) | ((with_reducible refine gate_dst (N := 6) rfl ?_); refine box_event ?hg (N := 6) ?hd (cs := #[.int .u64 0, .int .u64 0, .bool false]) (t := 74) ?hr ?_; (case hd => rfl); (case hg => rfl); (case hr => first | (go_simp; done) | (go_simp; rfl)); intro gb528 hg w101 hbox hb; have n0_ := kB BK515 hb; have n1_ := kB BK516 hb; have n2_ := kB BK517 hb; have n3_ := kW HB hb; have n4_ := Aside0.mk (hbox); have n5_ := Aside0.mk ((by rw [hg]; exact (below_size (bS HB)) : w.heap.size ≤ gb528)); have n6_ := Aside0.mk ((by rw [hg]; exact (below_size (bS HB)) : w.heap.size ≤ gb528)); have n7_ := Aside0.mk ((by rw [hg]; exact Nat.ne_of_lt (blk_lt (bkS BK515)) : gb515 ≠ gb528)); have n8_ := Aside0.mk ((by rw [hg]; exact Nat.ne_of_gt (blk_lt (bkS BK515)) : gb528 ≠ gb515)); have n9_ := Aside0.mk ((by rw [hg]; exact Nat.ne_of_lt (blk_lt (bkS BK516)) : gb516 ≠ gb528)); have n10_ := Aside0.mk ((by rw [hg]; exact Nat.ne_of_gt (blk_lt (bkS BK516)) : gb528 ≠ gb516)); have n11_ := Aside0.mk ((by rw [hg]; exact Nat.ne_of_lt (blk_lt (bkS BK517)) : gb517 ≠ gb528)); have n12_ := Aside0.mk ((by rw [hg]; exact Nat.ne_of_gt (blk_lt (bkS BK517)) : gb528 ≠ gb517)); clear BK515; clear BK516; clear BK517; clear HB; have BK515 := n0_; have BK516 := n1_; have BK517 := n2_; have HB := n3_; have BK528 := n4_; have GW528 := n5_; have GE528 := n6_; have NB515_528 := n7_; have NB528_515 := n8_; have NB516_528 := n9_; have NB528_516 := n10_; have NB517_528 := n11_; have NB528_517 := n12_; clear n0_ n1_ n2_ n3_ n4_ n5_ n6_ n7_ n8_ n9_ n10_ n11_ n12_; clear hb hbox hg; have hnb102 := NB528_515.out; have hnc102 := NB515_528.out; have hnb103 := NB528_516.out; have hnc103 := NB516_528.out; have hnb104 := NB528_517.out; have hnc104 := NB517_528.out; have hcz105_0 := cz0 BK528; have hcz105_1 := cz1 BK528; have hcz105_2 := cz2 BK528; have hfz105_0 := fz BK528 0; have hfz105_1 := fz BK528 1; have hfz105_2 := fz BK528 2) | (go_at_call 65; (with_reducible refine (congr_words_rest.calls t525 t526 t524 t538 _ A75.out).mono ?_); rintro e w106 ⟨rfl, hb⟩; have n0_ := kB BK515 hb; have n1_ := kB BK516 hb; have n2_ := kB BK517 hb; have n3_ := Aside0.mk (blk_below (g := gb528) (o := .cells #[.int .u64 t525, .int .u64 t526, .bool true] 74 (0, 0)) (by (with_reducible repeat (first | refine b1 ?_ _ | refine b2 ?_ | refine b3 ?_ _)); refine blk_put (cs := #[.int .u64 t525, .int .u64 t526, .bool false]) ?_ 2 _ rfl; (with_reducible repeat (first | refine b1 ?_ _ | refine b2 ?_ | refine b3 ?_ _)); refine blk_put (cs := #[.int .u64 t525, .int .u64 0, .bool false]) ?_ 1 _ rfl; (with_reducible repeat (first | refine b1 ?_ _ | refine b2 ?_ | refine b3 ?_ _)); refine blk_put (cs := #[.int .u64 0, .int .u64 0, .bool false]) ?_ 0 _ rfl; (with_reducible repeat (first | refine b1 ?_ _ | refine b2 ?_ | refine b3 ?_ _)); exact BK528.out) hb); have n4_ := kW HB hb; clear BK515; clear BK516; clear BK517; clear BK528; clear HB; have BK515 := n0_; have BK516 := n1_; have BK517 := n2_; have BK528 := n3_; have HB := n4_; clear n0_ n1_ n2_ n3_ n4_; (try clear hb); (try clear hb2); (try clear hk); (try clear hi); have hcz107_0 := cz0 BK528; have hcz107_1 := cz1 BK528; have hcz107_2 := cz2 BK528; have hfz107_0 := fz BK528 0; have hfz107_1 := fz BK528 1; have hfz107_2 := fz BK528 2) | (go_at_call 51; (with_reducible refine (congr_of.calls kj2 t524 t538 t542 t543 t544 _ A94.out).mono ?_); rintro e w108 ⟨rfl, hb⟩; replace BK515 := kB BK515 hb; replace BK516 := kB BK516 hb; replace BK517 := kB BK517 hb; replace BK528 := kB BK528 hb; replace HB := kW HB hb; (try clear hb); (try clear hb2); (try clear hk); (try clear hi); have hcz109_0 := cz0 BK517; have hcz109_1 := cz1 BK517; have hcz109_2 := cz2 BK517; have hfz109_0 := fz BK517 0; have hfz109_1 := fz BK517 1; have hfz109_2 := fz BK517 2)); try go_wp2_with (first | (go_at_call 52; (with_reducible refine (congr_size.calls a1_2 t521 _ A22.out).mono ?_); rintro e w' ⟨rfl, ⟨nd, rfl⟩⟩; (try first | exact ⟨rfl, _, World.drewN_drewN _ _ _⟩ | exact ⟨rfl, _, Eq.trans (World.drewN_drewN _ _ _) (congrArg (World.drewN _) (Nat.add_assoc _ _ _))⟩)) | (go_at_call 62; (with_reducible refine (congr_gcd_uint64.calls kj2 (IntKind.u64.wrap ((IntKind.u64.wrap (a0_1)) * (IntKind.u64.wrap (a1_1)))) (IntKind.u64.wrap ((IntKind.u64.wrap (a0_1)) * t521)) t522 _ A23.out).mono ?_); rintro e w' ⟨rfl, ⟨nd, rfl⟩⟩; (try first | exact ⟨rfl, _, World.drewN_drewN _ _ _⟩ | exact ⟨rfl, _, Eq.trans (World.drewN_drewN _ _ _) (congrArg (World.drewN _) (Nat.add_assoc _ _ _))⟩)) | (go_at_call 52; (with_reducible refine (congr_size.calls a0_2 t523 _ A24.out).mono ?_); rintro e w' ⟨rfl, ⟨nd, rfl⟩⟩; (try first | exact ⟨rfl, _, World.drewN_drewN _ _ _⟩ | exact ⟨rfl, _, Eq.trans (World.drewN_drewN _ _ _) (congrArg (World.drewN _) (Nat.add_assoc _ _ _))⟩)) | (go_at_call 62; (with_reducible refine (congr_gcd_uint64.calls kj2 t522 (IntKind.u64.wrap ((IntKind.u64.wrap (a1_1)) * t523)) t524 _ A25.out).mono ?_); rintro e w' ⟨rfl, ⟨nd, rfl⟩⟩; (try first | exact ⟨rfl, _, World.drewN_drewN _ _ _⟩ | exact ⟨rfl, _, Eq.trans (World.drewN_drewN _ _ _) (congrArg (World.drewN _) (Nat.add_assoc _ _ _))⟩)) | (go_at_call 83; (with_reducible refine (congr_times.calls a0_2 a1_2 t525 t526 true _ A26.out).mono ?_); rintro e w100 ⟨rfl, hb⟩; replace BK515 := kB BK515 hb; replace BK516 := kB BK516 hb; replace BK517 := kB BK517 hb; replace HB := kW HB hb; (try clear hb); (try clear hb2); (try clear hk); (try clear hi)) | ((with_reducible refine gate_dst (N := 6) rfl ?_); refine box_event ?hg (N := 6) ?hd (cs := #[.int .u64 0, .int .u64 0, .bool false]) (t := 74) ?hr ?_; (case hd => rfl); (case hg => rfl); (case hr => first | (go_simp; done) | (go_simp; rfl)); intro gb528 hg w101 hbox hb; have n0_ := kB BK515 hb; have n1_ := kB BK516 hb; have n2_ := kB BK517 hb; have n3_ := kW HB hb; have n4_ := Aside0.mk (hbox); have n5_ := Aside0.mk ((by rw [hg]; exact (below_size (bS HB)) : w.heap.size ≤ gb528)); have n6_ := Aside0.mk ((by rw [hg]; exact (below_size (bS HB)) : w.heap.size ≤ gb528)); have n7_ := Aside0.mk ((by rw [hg]; exact Nat.ne_of_lt (blk_lt (bkS BK515)) : gb515 ≠ gb528)); have n8_ := Aside0.mk ((by rw [hg]; exact Nat.ne_of_gt (blk_lt (bkS BK515)) : gb528 ≠ gb515)); have n9_ := Aside0.mk ((by rw [hg]; exact Nat.ne_of_lt (blk_lt (bkS BK516)) : gb516 ≠ gb528)); have n10_ := Aside0.mk ((by rw [hg]; exact Nat.ne_of_gt (blk_lt (bkS BK516)) : gb528 ≠ gb516)); have n11_ := Aside0.mk ((by rw [hg]; exact Nat.ne_of_lt (blk_lt (bkS BK517)) : gb517 ≠ gb528)); have n12_ := Aside0.mk ((by rw [hg]; exact Nat.ne_of_gt (blk_lt (bkS BK517)) : gb528 ≠ gb517)); clear BK515; clear BK516; clear BK517; clear HB; have BK515 := n0_; have BK516 := n1_; have BK517 := n2_; have HB := n3_; have BK528 := n4_; have GW528 := n5_; have GE528 := n6_; have NB515_528 := n7_; have NB528_515 := n8_; have NB516_528 := n9_; have NB528_516 := n10_; have NB517_528 := n11_; have NB528_517 := n12_; clear n0_ n1_ n2_ n3_ n4_ n5_ n6_ n7_ n8_ n9_ n10_ n11_ n12_; clear hb hbox hg; have hnb102 := NB528_515.out; have hnc102 := NB515_528.out; have hnb103 := NB528_516.out; have hnc103 := NB516_528.out; have hnb104 := NB528_517.out; have hnc104 := NB517_528.out; have hcz105_0 := cz0 BK528; have hcz105_1 := cz1 BK528; have hcz105_2 := cz2 BK528; have hfz105_0 := fz BK528 0; have hfz105_1 := fz BK528 1; have hfz105_2 := fz BK528 2) | (go_at_call 65; (with_reducible refine (congr_words_rest.calls t525 t526 t524 t538 _ A75.out).mono ?_); rintro e w106 ⟨rfl, hb⟩; have n0_ := kB BK515 hb; have n1_ := kB BK516 hb; have n2_ := kB BK517 hb; have n3_ := Aside0.mk (blk_below (g := gb528) (o := .cells #[.int .u64 t525, .int .u64 t526, .bool true] 74 (0, 0)) (by (with_reducible repeat (first | refine b1 ?_ _ | refine b2 ?_ | refine b3 ?_ _)); refine blk_put (cs := #[.int .u64 t525, .int .u64 t526, .bool false]) ?_ 2 _ rfl; (with_reducible repeat (first | refine b1 ?_ _ | refine b2 ?_ | refine b3 ?_ _)); refine blk_put (cs := #[.int .u64 t525, .int .u64 0, .bool false]) ?_ 1 _ rfl; (with_reducible repeat (first | refine b1 ?_ _ | refine b2 ?_ | refine b3 ?_ _)); refine blk_put (cs := #[.int .u64 0, .int .u64 0, .bool false]) ?_ 0 _ rfl; (with_reducible repeat (first | refine b1 ?_ _ | refine b2 ?_ | refine b3 ?_ _)); exact BK528.out) hb); have n4_ := kW HB hb; clear BK515; clear BK516; clear BK517; clear BK528; clear HB; have BK515 := n0_; have BK516 := n1_; have BK517 := n2_; have BK528 := n3_; have HB := n4_; clear n0_ n1_ n2_ n3_ n4_; (try clear hb); (try clear hb2); (try clear hk); (try clear hi); have hcz107_0 := cz0 BK528; have hcz107_1 := cz1 BK528; have hcz107_2 := cz2 BK528; have hfz107_0 := fz BK528 0; have hfz107_1 := fz BK528 1; have hfz107_2 := fz BK528 2) | (go_at_call 51; (with_reducible refine (congr_of.calls kj2 t524 t538 t542 t543 t544 _ A94.out).mono ?_); rintro e w108 ⟨rfl, hb⟩; replace BK515 := kB BK515 hb; replace BK516 := kB BK516 hb; replace BK517 := kB BK517 hb; replace BK528 := kB BK528 hb; replace HB := kW HB hb; (try clear hb); (try clear hb2); (try clear hk); (try clear hi); have hcz109_0 := cz0 BK517; have hcz109_1 := cz1 BK517; have hcz109_2 := cz2 BK517; have hfz109_0 := fz BK517 0; have hfz109_1 := fz BK517 1; have hfz109_2 := fz BK517 2)))
       refine bodyPost_ret (results_cell_row rfl _ _ gb517 23 #[.bool t542, .int .i64 t543, .int .i64 t544] (0, 0) _ rfl (by (with_reducible repeat (first | refine b1 ?_ _ | refine b2 ?_ | refine b3 ?_ _)); refine blk_put (cs := #[.bool t542, .int .i64 t543, .int .i64 0]) ?_ 2 _ rfl; (with_reducible repeat (first | refine b1 ?_ _ | refine b2 ?_ | refine b3 ?_ _)); refine blk_put (cs := #[.bool t542, .int .i64 0, .int .i64 0]) ?_ 1 _ rfl; (with_reducible repeat (first | refine b1 ?_ _ | refine b2 ?_ | refine b3 ?_ _)); refine blk_put (cs := #[.bool false, .int .i64 0, .int .i64 0]) ?_ 0 _ rfl; (with_reducible repeat (first | refine b1 ?_ _ | refine b2 ?_ | refine b3 ?_ _)); exact BK517.out) Tryd.underlying23 rfl (by kernel_rfl)) rfl ?_
       exact ⟨eS, bS HB⟩
     ·
      replace c76 := Bool.eq_false_iff.mpr c76
      subst c76
      have H1 : ((congr_of.f kj2 t524 t538).bind fun bt545 => (some (bt545.1, bt545.2.1, bt545.2.2))) = some (r1, r2, r3) := by rw [if_neg (show ¬ (false = true) by decide)] at H; exact H
      clear H
      have H := H1
      clear H1
      replace H := Option.bind_eq_some_iff.mp H
      obtain ⟨⟨t545, t546, t547⟩, A1100, H⟩ := H
      replace H : (some (t545, t546, t547)) = some (r1, r2, r3) := H
      have A110 := Aside0.mk A1100
      clear A1100
      simp only [Option.some.injEq, Prod.mk.injEq] at H
      obtain ⟨rfl, rfl, rfl⟩ := H
      have hnb111 := NB515_516.out
      have hnc111 := NB516_515.out
      have hnb112 := NB515_517.out
      have hnc112 := NB517_515.out
      have hcz113_0 : wc.cell? ⟨gb515, 0, none⟩ = some (.bool a0_0) := cz0 BK515
      have hcz113_1 : wc.cell? ⟨gb515, 1, none⟩ = some (.int .i64 a0_1) := cz1 BK515
      have hcz113_2 : wc.cell? ⟨gb515, 2, none⟩ = some (.int .i64 a0_2) := cz2 BK515
      have hfz113_0 := fz BK515 0
      have hfz113_1 := fz BK515 1
      have hfz113_2 := fz BK515 2
      have hnb114 := NB516_517.out
      have hnc114 := NB517_516.out
      have hcz115_0 : wc.cell? ⟨gb516, 0, none⟩ = some (.bool a1_0) := cz0 BK516
      have hcz115_1 : wc.cell? ⟨gb516, 1, none⟩ = some (.int .i64 a1_1) := cz1 BK516
      have hcz115_2 : wc.cell? ⟨gb516, 2, none⟩ = some (.int .i64 a1_2) := cz2 BK516
      have hfz115_0 := fz BK516 0
      have hfz115_1 := fz BK516 1
      have hfz115_2 := fz BK516 2
      go_wp2_with (first | (go_at_call 52; (with_reducible refine (congr_size.calls a1_2 t521 _ A22.out).mono ?_); rintro e w' ⟨rfl, ⟨nd, rfl⟩⟩; (try first | exact ⟨rfl, _, World.drewN_drewN _ _ _⟩ | exact ⟨rfl, _, Eq.trans (World.drewN_drewN _ _ _) (congrArg (World.drewN _) (Nat.add_assoc _ _ _))⟩)) | (go_at_call 62; (with_reducible refine (congr_gcd_uint64.calls kj2 (IntKind.u64.wrap ((IntKind.u64.wrap (a0_1)) * (IntKind.u64.wrap (a1_1)))) (IntKind.u64.wrap ((IntKind.u64.wrap (a0_1)) * t521)) t522 _ A23.out).mono ?_); rintro e w' ⟨rfl, ⟨nd, rfl⟩⟩; (try first | exact ⟨rfl, _, World.drewN_drewN _ _ _⟩ | exact ⟨rfl, _, Eq.trans (World.drewN_drewN _ _ _) (congrArg (World.drewN _) (Nat.add_assoc _ _ _))⟩)) | (go_at_call 52; (with_reducible refine (congr_size.calls a0_2 t523 _ A24.out).mono ?_); rintro e w' ⟨rfl, ⟨nd, rfl⟩⟩; (try first | exact ⟨rfl, _, World.drewN_drewN _ _ _⟩ | exact ⟨rfl, _, Eq.trans (World.drewN_drewN _ _ _) (congrArg (World.drewN _) (Nat.add_assoc _ _ _))⟩)) | (go_at_call 62; (with_reducible refine (congr_gcd_uint64.calls kj2 t522 (IntKind.u64.wrap ((IntKind.u64.wrap (a1_1)) * t523)) t524 _ A25.out).mono ?_); rintro e w' ⟨rfl, ⟨nd, rfl⟩⟩; (try first | exact ⟨rfl, _, World.drewN_drewN _ _ _⟩ | exact ⟨rfl, _, Eq.trans (World.drewN_drewN _ _ _) (congrArg (World.drewN _) (Nat.add_assoc _ _ _))⟩)) | (go_at_call 83; (with_reducible refine (congr_times.calls a0_2 a1_2 t525 t526 false _ A26.out).mono ?_); rintro e w116 ⟨rfl, hb⟩; replace BK515 := kB BK515 hb; replace BK516 := kB BK516 hb; replace BK517 := kB BK517 hb; replace HB := kW HB hb; (try clear hb); (try clear hb2); (try clear hk); (try clear hi)) | ((with_reducible refine gate_dst (N := 6) rfl ?_); refine box_event ?hg (N := 6) ?hd (cs := #[.int .u64 0, .int .u64 0, .bool false]) (t := 74) ?hr ?_; (case hd => rfl); (case hg => rfl); (case hr => first | (go_simp; done) | (go_simp; rfl)); intro gb528 hg w117 hbox hb; have n0_ := kB BK515 hb; have n1_ := kB BK516 hb; have n2_ := kB BK517 hb; have n3_ := kW HB hb; have n4_ := Aside0.mk (hbox); have n5_ := Aside0.mk ((by rw [hg]; exact (below_size (bS HB)) : w.heap.size ≤ gb528)); have n6_ := Aside0.mk ((by rw [hg]; exact (below_size (bS HB)) : w.heap.size ≤ gb528)); have n7_ := Aside0.mk ((by rw [hg]; exact Nat.ne_of_lt (blk_lt (bkS BK515)) : gb515 ≠ gb528)); have n8_ := Aside0.mk ((by rw [hg]; exact Nat.ne_of_gt (blk_lt (bkS BK515)) : gb528 ≠ gb515)); have n9_ := Aside0.mk ((by rw [hg]; exact Nat.ne_of_lt (blk_lt (bkS BK516)) : gb516 ≠ gb528)); have n10_ := Aside0.mk ((by rw [hg]; exact Nat.ne_of_gt (blk_lt (bkS BK516)) : gb528 ≠ gb516)); have n11_ := Aside0.mk ((by rw [hg]; exact Nat.ne_of_lt (blk_lt (bkS BK517)) : gb517 ≠ gb528)); have n12_ := Aside0.mk ((by rw [hg]; exact Nat.ne_of_gt (blk_lt (bkS BK517)) : gb528 ≠ gb517)); clear BK515; clear BK516; clear BK517; clear HB; have BK515 := n0_; have BK516 := n1_; have BK517 := n2_; have HB := n3_; have BK528 := n4_; have GW528 := n5_; have GE528 := n6_; have NB515_528 := n7_; have NB528_515 := n8_; have NB516_528 := n9_; have NB528_516 := n10_; have NB517_528 := n11_; have NB528_517 := n12_; clear n0_ n1_ n2_ n3_ n4_ n5_ n6_ n7_ n8_ n9_ n10_ n11_ n12_; clear hb hbox hg; have hnb118 := NB528_515.out; have hnc118 := NB515_528.out; have hnb119 := NB528_516.out; have hnc119 := NB516_528.out; have hnb120 := NB528_517.out; have hnc120 := NB517_528.out; have hcz121_0 := cz0 BK528; have hcz121_1 := cz1 BK528; have hcz121_2 := cz2 BK528; have hfz121_0 := fz BK528 0; have hfz121_1 := fz BK528 1; have hfz121_2 := fz BK528 2) | (go_at_call 65; (with_reducible refine (congr_words_rest.calls t525 t526 t524 t538 _ A75.out).mono ?_); rintro e w122 ⟨rfl, hb⟩; have n0_ := kB BK515 hb; have n1_ := kB BK516 hb; have n2_ := kB BK517 hb; have n3_ := Aside0.mk (blk_below (g := gb528) (o := .cells #[.int .u64 t525, .int .u64 t526, .bool false] 74 (0, 0)) (by (with_reducible repeat (first | refine b1 ?_ _ | refine b2 ?_ | refine b3 ?_ _)); refine blk_put (cs := #[.int .u64 t525, .int .u64 t526, .bool false]) ?_ 2 _ rfl; (with_reducible repeat (first | refine b1 ?_ _ | refine b2 ?_ | refine b3 ?_ _)); refine blk_put (cs := #[.int .u64 t525, .int .u64 0, .bool false]) ?_ 1 _ rfl; (with_reducible repeat (first | refine b1 ?_ _ | refine b2 ?_ | refine b3 ?_ _)); refine blk_put (cs := #[.int .u64 0, .int .u64 0, .bool false]) ?_ 0 _ rfl; (with_reducible repeat (first | refine b1 ?_ _ | refine b2 ?_ | refine b3 ?_ _)); exact BK528.out) hb); have n4_ := kW HB hb; clear BK515; clear BK516; clear BK517; clear BK528; clear HB; have BK515 := n0_; have BK516 := n1_; have BK517 := n2_; have BK528 := n3_; have HB := n4_; clear n0_ n1_ n2_ n3_ n4_; (try clear hb); (try clear hb2); (try clear hk); (try clear hi); have hcz123_0 := cz0 BK528; have hcz123_1 := cz1 BK528; have hcz123_2 := cz2 BK528; have hfz123_0 := fz BK528 0; have hfz123_1 := fz BK528 1; have hfz123_2 := fz BK528 2) | (go_at_call 51; (with_reducible refine (congr_of.calls kj2 t524 t538 t545 t546 t547 _ A110.out).mono ?_); rintro e w124 ⟨rfl, hb⟩; replace BK515 := kB BK515 hb; replace BK516 := kB BK516 hb; replace BK517 := kB BK517 hb; replace BK528 := kB BK528 hb; replace HB := kW HB hb; (try clear hb); (try clear hb2); (try clear hk); (try clear hi); have hcz125_0 := cz0 BK517; have hcz125_1 := cz1 BK517; have hcz125_2 := cz2 BK517; have hfz125_0 := fz BK517 0; have hfz125_1 := fz BK517 1; have hfz125_2 := fz BK517 2))
      repeat (go_quiet (first | (go_at_call 52; (with_reducible refine (congr_size.calls a1_2 t521 _ A22.out).mono ?_); rintro e w' ⟨rfl, ⟨nd, rfl⟩⟩; (try first | exact ⟨rfl, _, World.drewN_drewN _ _ _⟩ | exact ⟨rfl, _, Eq.trans (World.drewN_drewN _ _ _) (congrArg (World.drewN _) (Nat.add_assoc _ _ _))⟩)) | (go_at_call 62; (with_reducible refine (congr_gcd_uint64.calls kj2 (IntKind.u64.wrap ((IntKind.u64.wrap (a0_1)) * (IntKind.u64.wrap (a1_1)))) (IntKind.u64.wrap ((IntKind.u64.wrap (a0_1)) * t521)) t522 _ A23.out).mono ?_); rintro e w' ⟨rfl, ⟨nd, rfl⟩⟩; (try first | exact ⟨rfl, _, World.drewN_drewN _ _ _⟩ | exact ⟨rfl, _, Eq.trans (World.drewN_drewN _ _ _) (congrArg (World.drewN _) (Nat.add_assoc _ _ _))⟩)) | (go_at_call 52; (with_reducible refine (congr_size.calls a0_2 t523 _ A24.out).mono ?_); rintro e w' ⟨rfl, ⟨nd, rfl⟩⟩; (try first | exact ⟨rfl, _, World.drewN_drewN _ _ _⟩ | exact ⟨rfl, _, Eq.trans (World.drewN_drewN _ _ _) (congrArg (World.drewN _) (Nat.add_assoc _ _ _))⟩)) | (go_at_call 62; (with_reducible refine (congr_gcd_uint64.calls kj2 t522 (IntKind.u64.wrap ((IntKind.u64.wrap (a1_1)) * t523)) t524 _ A25.out).mono ?_); rintro e w' ⟨rfl, ⟨nd, rfl⟩⟩; (try first | exact ⟨rfl, _, World.drewN_drewN _ _ _⟩ | exact ⟨rfl, _, Eq.trans (World.drewN_drewN _ _ _) (congrArg (World.drewN _) (Nat.add_assoc _ _ _))⟩)) | (go_at_call 83; (with_reducible refine (congr_times.calls a0_2 a1_2 t525 t526 false _ A26.out).mono ?_); rintro e w116 ⟨rfl, hb⟩; replace BK515 := kB BK515 hb; replace BK516 := kB BK516 hb; replace BK517 := kB BK517 hb; replace HB := kW HB hb; (try clear hb); (try clear hb2); (try clear hk); (try clear hi)) | ((with_reducible refine gate_dst (N := 6) rfl ?_); refine box_event ?hg (N := 6) ?hd (cs := #[.int .u64 0, .int .u64 0, .bool false]) (t := 74) ?hr ?_; (case hd => rfl); (case hg => rfl); (case hr => first | (go_simp; done) | (go_simp; rfl)); intro gb528 hg w117 hbox hb; have n0_ := kB BK515 hb; have n1_ := kB BK516 hb; have n2_ := kB BK517 hb; have n3_ := kW HB hb; have n4_ := Aside0.mk (hbox); have n5_ := Aside0.mk ((by rw [hg]; exact (below_size (bS HB)) : w.heap.size ≤ gb528)); have n6_ := Aside0.mk ((by rw [hg]; exact (below_size (bS HB)) : w.heap.size ≤ gb528)); have n7_ := Aside0.mk ((by rw [hg]; exact Nat.ne_of_lt (blk_lt (bkS BK515)) : gb515 ≠ gb528)); have n8_ := Aside0.mk ((by rw [hg]; exact Nat.ne_of_gt (blk_lt (bkS BK515)) : gb528 ≠ gb515)); have n9_ := Aside0.mk ((by rw [hg]; exact Nat.ne_of_lt (blk_lt (bkS BK516)) : gb516 ≠ gb528)); have n10_ := Aside0.mk ((by rw [hg]; exact Nat.ne_of_gt (blk_lt (bkS BK516)) : gb528 ≠ gb516)); have n11_ := Aside0.mk ((by rw [hg]; exact Nat.ne_of_lt (blk_lt (bkS BK517)) : gb517 ≠ gb528)); have n12_ := Aside0.mk ((by rw [hg]; exact Nat.ne_of_gt (blk_lt (bkS BK517)) : gb528 ≠ gb517)); clear BK515; clear BK516; clear BK517; clear HB; have BK515 := n0_; have BK516 := n1_; have BK517 := n2_; have HB := n3_; have BK528 := n4_; have GW528 := n5_; have GE528 := n6_; have NB515_528 := n7_; have NB528_515 := n8_; have NB516_528 := n9_; have NB528_516 := n10_; have NB517_528 := n11_; have NB528_517 := n12_; clear n0_ n1_ n2_ n3_ n4_ n5_ n6_ n7_ n8_ n9_ n10_ n11_ n12_; clear hb hbox hg; have hnb118 := NB528_515.out; have hnc118 := NB515_528.out; have hnb119 := NB528_516.out; have hnc119 := NB516_528.out; have hnb120 := NB528_517.out; have hnc120 := NB517_528.out; have hcz121_0 := cz0 BK528; have hcz121_1 := cz1 BK528; have hcz121_2 := cz2 BK528; have hfz121_0 := fz BK528 0; have hfz121_1 := fz BK528 1; have hfz121_2 := fz BK528 2) | (go_at_call 65; (with_reducible refine (congr_words_rest.calls t525 t526 t524 t538 _ A75.out).mono ?_); rintro e w122 ⟨rfl, hb⟩; have n0_ := kB BK515 hb; have n1_ := kB BK516 hb; have n2_ := kB BK517 hb; have n3_ := Aside0.mk (blk_below (g := gb528) (o := .cells #[.int .u64 t525, .int .u64 t526, .bool false] 74 (0, 0)) (by (with_reducible repeat (first | refine b1 ?_ _ | refine b2 ?_ | refine b3 ?_ _)); refine blk_put (cs := #[.int .u64 t525, .int .u64 t526, .bool false]) ?_ 2 _ rfl; (with_reducible repeat (first | refine b1 ?_ _ | refine b2 ?_ | refine b3 ?_ _)); refine blk_put (cs := #[.int .u64 t525, .int .u64 0, .bool false]) ?_ 1 _ rfl; (with_reducible repeat (first | refine b1 ?_ _ | refine b2 ?_ | refine b3 ?_ _)); refine blk_put (cs := #[.int .u64 0, .int .u64 0, .bool false]) ?_ 0 _ rfl; (with_reducible repeat (first | refine b1 ?_ _ | refine b2 ?_ | refine b3 ?_ _)); exact BK528.out) hb); have n4_ := kW HB hb; clear BK515; clear BK516; clear BK517; clear BK528; clear HB; have BK515 := n0_; have BK516 := n1_; have BK517 := n2_; have BK528 := n3_; have HB := n4_; clear n0_ n1_ n2_ n3_ n4_; (try clear hb); (try clear hb2); (try clear hk); (try clear hi); have hcz123_0 := cz0 BK528; have hcz123_1 := cz1 BK528; have hcz123_2 := cz2 BK528; have hfz123_0 := fz BK528 0; have hfz123_1 := fz BK528 1; have hfz123_2 := fz BK528 2) | (go_at_call 51; (with_reducible refine (congr_of.calls kj2 t524 t538 t545 t546 t547 _ A110.out).mono ?_); rintro e w124 ⟨rfl, hb⟩; replace BK515 := kB BK515 hb; replace BK516 := kB BK516 hb; replace BK517 := kB BK517 hb; replace BK528 := kB BK528 hb; replace HB := kW HB hb; (try clear hb); (try clear hb2); (try clear hk); (try clear hi); have hcz125_0 := cz0 BK517; have hcz125_1 := cz1 BK517; have hcz125_2 := cz2 BK517; have hfz125_0 := fz BK517 0; have hfz125_1 := fz BK517 1; have hfz125_2 := fz BK517 2)); try go_wp2_with (first | (go_at_call 52; (with_reducible refine (congr_size.calls a1_2 t521 _ A22.out).mono ?_); rintro e w' ⟨rfl, ⟨nd, rfl⟩⟩; (try first | exact ⟨rfl, _, World.drewN_drewN _ _ _⟩ | exact ⟨rfl, _, Eq.trans (World.drewN_drewN _ _ _) (congrArg (World.drewN _) (Nat.add_assoc _ _ _))⟩)) | (go_at_call 62; (with_reducible refine (congr_gcd_uint64.calls kj2 (IntKind.u64.wrap ((IntKind.u64.wrap (a0_1)) * (IntKind.u64.wrap (a1_1)))) (IntKind.u64.wrap ((IntKind.u64.wrap (a0_1)) * t521)) t522 _ A23.out).mono ?_); rintro e w' ⟨rfl, ⟨nd, rfl⟩⟩; (try first | exact ⟨rfl, _, World.drewN_drewN _ _ _⟩ | exact ⟨rfl, _, Eq.trans (World.drewN_drewN _ _ _) (congrArg (World.drewN _) (Nat.add_assoc _ _ _))⟩)) | (go_at_call 52; (with_reducible refine (congr_size.calls a0_2 t523 _ A24.out).mono ?_); rintro e w' ⟨rfl, ⟨nd, rfl⟩⟩; (try first | exact ⟨rfl, _, World.drewN_drewN _ _ _⟩ | exact ⟨rfl, _, Eq.trans (World.drewN_drewN _ _ _) (congrArg (World.drewN _) (Nat.add_assoc _ _ _))⟩)) | (go_at_call 62; (with_reducible refine (congr_gcd_uint64.calls kj2 t522 (IntKind.u64.wrap ((IntKind.u64.wrap (a1_1)) * t523)) t524 _ A25.out).mono ?_); rintro e w' ⟨rfl, ⟨nd, rfl⟩⟩; (try first | exact ⟨rfl, _, World.drewN_drewN _ _ _⟩ | exact ⟨rfl, _, Eq.trans (World.drewN_drewN _ _ _) (congrArg (World.drewN _) (Nat.add_assoc _ _ _))⟩)) | (go_at_call 83; (with_reducible refine (congr_times.calls a0_2 a1_2 t525 t526 false _ A26.out).mono ?_); rintro e w116 ⟨rfl, hb⟩; replace BK515 := kB BK515 hb; replace BK516 := kB BK516 hb; replace BK517 := kB BK517 hb; replace HB := kW HB hb; (try clear hb); (try clear hb2); (try clear hk); (try clear hi)) | ((with_reducible refine gate_dst (N := 6) rfl ?_); refine box_event ?hg (N := 6) ?hd (cs := #[.int .u64 0, .int .u64 0, .bool false]) (t := 74) ?hr ?_; (case hd => rfl); (case hg => rfl); (case hr => first | (go_simp; done) | (go_simp; rfl)); intro gb528 hg w117 hbox hb; have n0_ := kB BK515 hb; have n1_ := kB BK516 hb; have n2_ := kB BK517 hb; have n3_ := kW HB hb; have n4_ := Aside0.mk (hbox); have n5_ := Aside0.mk ((by rw [hg]; exact (below_size (bS HB)) : w.heap.size ≤ gb528)); have n6_ := Aside0.mk ((by rw [hg]; exact (below_size (bS HB)) : w.heap.size ≤ gb528)); have n7_ := Aside0.mk ((by rw [hg]; exact Nat.ne_of_lt (blk_lt (bkS BK515)) : gb515 ≠ gb528)); have n8_ := Aside0.mk ((by rw [hg]; exact Nat.ne_of_gt (blk_lt (bkS BK515)) : gb528 ≠ gb515)); have n9_ := Aside0.mk ((by rw [hg]; exact Nat.ne_of_lt (blk_lt (bkS BK516)) : gb516 ≠ gb528)); have n10_ := Aside0.mk ((by rw [hg]; exact Nat.ne_of_gt (blk_lt (bkS BK516)) : gb528 ≠ gb516)); have n11_ := Aside0.mk ((by rw [hg]; exact Nat.ne_of_lt (blk_lt (bkS BK517)) : gb517 ≠ gb528)); have n12_ := Aside0.mk ((by rw [hg]; exact Nat.ne_of_gt (blk_lt (bkS BK517)) : gb528 ≠ gb517)); clear BK515; clear BK516; clear BK517; clear HB; have BK515 := n0_; have BK516 := n1_; have BK517 := n2_; have HB := n3_; have BK528 := n4_; have GW528 := n5_; have GE528 := n6_; have NB515_528 := n7_; have NB528_515 := n8_; have NB516_528 := n9_; have NB528_516 := n10_; have NB517_528 := n11_; have NB528_517 := n12_; clear n0_ n1_ n2_ n3_ n4_ n5_ n6_ n7_ n8_ n9_ n10_ n11_ n12_; clear hb hbox hg; have hnb118 := NB528_515.out; have hnc118 := NB515_528.out; have hnb119 := NB528_516.out; have hnc119 := NB516_528.out; have hnb120 := NB528_517.out; have hnc120 := NB517_528.out; have hcz121_0 := cz0 BK528; have hcz121_1 := cz1 BK528; have hcz121_2 := cz2 BK528; have hfz121_0 := fz BK528 0; have hfz121_1 := fz BK528 1; have hfz121_2 := fz BK528 2) | (go_at_call 65; (with_reducible refine (congr_words_rest.calls t525 t526 t524 t538 _ A75.out).mono ?_); rintro e w122 ⟨rfl, hb⟩; have n0_ := kB BK515 hb; have n1_ := kB BK516 hb; have n2_ := kB BK517 hb; have n3_ := Aside0.mk (blk_below (g := gb528) (o := .cells #[.int .u64 t525, .int .u64 t526, .bool false] 74 (0, 0)) (by (with_reducible repeat (first | refine b1 ?_ _ | refine b2 ?_ | refine b3 ?_ _)); refine blk_put (cs := #[.int .u64 t525, .int .u64 t526, .bool false]) ?_ 2 _ rfl; (with_reducible repeat (first | refine b1 ?_ _ | refine b2 ?_ | refine b3 ?_ _)); refine blk_put (cs := #[.int .u64 t525, .int .u64 0, .bool false]) ?_ 1 _ rfl; (with_reducible repeat (first | refine b1 ?_ _ | refine b2 ?_ | refine b3 ?_ _)); refine blk_put (cs := #[.int .u64 0, .int .u64 0, .bool false]) ?_ 0 _ rfl; (with_reducible repeat (first | refine b1 ?_ _ | refine b2 ?_ | refine b3 ?_ _)); exact BK528.out) hb); have n4_ := kW HB hb; clear BK515; clear BK516; clear BK517; clear BK528; clear HB; have BK515 := n0_; have BK516 := n1_; have BK517 := n2_; have BK528 := n3_; have HB := n4_; clear n0_ n1_ n2_ n3_ n4_; (try clear hb); (try clear hb2); (try clear hk); (try clear hi); have hcz123_0 := cz0 BK528; have hcz123_1 := cz1 BK528; have hcz123_2 := cz2 BK528; have hfz123_0 := fz BK528 0; have hfz123_1 := fz BK528 1; have hfz123_2 := fz BK528 2) | (go_at_call 51; (with_reducible refine (congr_of.calls kj2 t524 t538 t545 t546 t547 _ A110.out).mono ?_); rintro e w124 ⟨rfl, hb⟩; replace BK515 := kB BK515 hb; replace BK516 := kB BK516 hb; replace BK517 := kB BK517 hb; replace BK528 := kB BK528 hb; replace HB := kW HB hb; (try clear hb); (try clear hb2); (try clear hk); (try clear hi); have hcz125_0 := cz0 BK517; have hcz125_1 := cz1 BK517; have hcz125_2 := cz2 BK517; have hfz125_0 := fz BK517 0; have hfz125_1 := fz BK517 1; have hfz125_2 := fz BK517 2)))
      refine bodyPost_ret (results_cell_row rfl _ _ gb517 23 #[.bool t545, .int .i64 t546, .int .i64 t547] (0, 0) _ rfl (by (with_reducible repeat (first | refine b1 ?_ _ | refine b2 ?_ | refine b3 ?_ _)); refine blk_put (cs := #[.bool t545, .int .i64 t546, .int .i64 0]) ?_ 2 _ rfl; (with_reducible repeat (first | refine b1 ?_ _ | refine b2 ?_ | refine b3 ?_ _)); refine blk_put (cs := #[.bool t545, .int .i64 0, .int .i64 0]) ?_ 1 _ rfl; (with_reducible repeat (first | refine b1 ?_ _ | refine b2 ?_ | refine b3 ?_ _)); refine blk_put (cs := #[.bool false, .int .i64 0, .int .i64 0]) ?_ 0 _ rfl; (with_reducible repeat (first | refine b1 ?_ _ | refine b2 ?_ | refine b3 ?_ _)); exact BK517.out) Tryd.underlying23 rfl (by kernel_rfl)) rfl ?_
      exact ⟨eS, bS HB⟩

end Go.Proofs.YtfmmjekhknaniaaDoor.Pr

namespace Go.Proofs.YtfmmjekhknaniaaDoor.Core
open Go.RowKit Go.Proofs.YtfmmjekhknaniaaDoor.Pr Go.Proofs.YtfmmjekhknaniaaDoor.Given Go.Proofs.YtfmmjekhknaniaaDoorW.PrintWords

theorem wraps_u64 (n : Int) (h₀ : 0 ≤ n) (h₁ : n < 2 ^ 64) : IntKind.u64.wrap n = n := by rw [IntKind.wrap_u64]; omega
theorem mask32 {x : Int} (h₀ : 0 ≤ x) (h₁ : x ≤ 18446744073709551615) : Go.bits .and .u64 x 4294967295 = x % 4294967296 :=
  bits_mask .u64 64 (by decide) wraps_u64 32 (by decide) x h₀ (by omega)

theorem mul64_f {a b : Int} (ha : 0 ≤ a) (ha' : a ≤ 18446744073709551615) (hb : 0 ≤ b) (hb' : b ≤ 18446744073709551615) (h : a * b ≤ 18446744073709551615) :
    bits_Mul64.f a b = some (0, a * b) := by
  have hab := Int.mul_nonneg ha hb
  unfold bits_Mul64.f
  rw [mask32 ha ha', mask32 hb hb', u64_id (n := a * b) hab h]
  have ex : a = a / 4294967296 * 4294967296 + a % 4294967296 := by omega
  have ey : b = b / 4294967296 * 4294967296 + b % 4294967296 := by omega
  have p1 : 0 ≤ a / 4294967296 := by omega
  have p2 : 0 ≤ b / 4294967296 := by omega
  have p3 : 0 ≤ a % 4294967296 ∧ a % 4294967296 ≤ 4294967295 := by omega
  have p4 : 0 ≤ b % 4294967296 ∧ b % 4294967296 ≤ 4294967295 := by omega
  have p5 : a / 4294967296 ≤ 4294967295 := by omega
  have p6 : b / 4294967296 ≤ 4294967295 := by omega
  generalize a / 4294967296 = x1 at *
  generalize b / 4294967296 = y1 at *
  generalize a % 4294967296 = x0 at *
  generalize b % 4294967296 = y0 at *
  have hz : a * b = x1 * y1 * 18446744073709551616 + (x1 * y0 + x0 * y1) * 4294967296 + x0 * y0 := by rw [ex, ey]; grind
  have q11 := Int.mul_nonneg p1 p2
  have q10 := Int.mul_nonneg p1 p4.1
  have q01 := Int.mul_nonneg p3.1 p2
  have q00 := Int.mul_nonneg p3.1 p4.1
  have r00 : x0 * y0 ≤ 4294967295 * 4294967295 := Int.mul_le_mul p3.2 p4.2 p4.1 (by omega)
  generalize x1 * y1 = m11 at *
  generalize x1 * y0 = m10 at *
  generalize x0 * y1 = m01 at *
  generalize x0 * y0 = m00 at *
  rw [u64_id (n := m11) (by omega) (by omega), u64_id (n := m00) (by omega) (by omega), u64_id (n := m10) (by omega) (by omega), u64_id (n := m01) (by omega) (by omega)]
  rw [u64_id (n := m10 + m00 / 4294967296) (by omega) (by omega)]
  rw [mask32 (by omega) (by omega), u64_id (n := (m10 + m00 / 4294967296) % 4294967296 + m01) (by omega) (by omega)]
  rw [u64_id (n := m11 + (m10 + m00 / 4294967296) / 4294967296) (by omega) (by omega), u64_id (by omega) (by omega)]
  congr 2
  omega

theorem ab_mul (x y : Int) : ab x * ab y = ab (x * y) := by
  unfold ab
  by_cases h1 : x < 0
  · by_cases h2 : y < 0
    · have := Int.mul_pos_of_neg_of_neg h1 h2
      rw [if_pos h1, if_pos h2, if_neg (by omega), Int.neg_mul_neg]
    · rw [if_pos h1, if_neg h2]
      by_cases h3 : y = 0
      · subst h3; simp
      · have := Int.mul_neg_of_neg_of_pos h1 (show 0 < y by omega)
        rw [if_pos this, Int.neg_mul]
  · by_cases h2 : y < 0
    · rw [if_neg h1, if_pos h2]
      by_cases h3 : x = 0
      · subst h3; simp
      · have := Int.mul_neg_of_pos_of_neg (show 0 < x by omega) h2
        rw [if_pos this, Int.mul_neg]
    · have := Int.mul_nonneg (show 0 ≤ x by omega) (show 0 ≤ y by omega)
      rw [if_neg h1, if_neg h2, if_neg (by omega)]

theorem prod_le {x y : Int} (h0 : 0 ≤ x) (h1 : x ≤ 4294967295) (h2 : 0 ≤ y) (h3 : y ≤ 4294967295) : 0 ≤ x * y ∧ x * y ≤ 18446744065119617025 := by
  refine ⟨Int.mul_nonneg h0 h2, ?_⟩
  have := Int.mul_le_mul h1 h3 h2 (show (0 : Int) ≤ 4294967295 by omega)
  omega

theorem signs_mul (x y : Int) (hp : x * y ≠ 0) : (decide (x < 0) != decide (y < 0)) = decide (x * y < 0) := by
  have hx : x ≠ 0 := fun e => hp (by rw [e, Int.zero_mul])
  have hy : y ≠ 0 := fun e => hp (by rw [e, Int.mul_zero])
  by_cases h1 : x < 0
  · by_cases h2 : y < 0
    · have := Int.mul_pos_of_neg_of_neg h1 h2
      simp [h1, h2]; omega
    · have := Int.mul_neg_of_neg_of_pos h1 (show 0 < y by omega)
      simp [h1, h2, this]
  · by_cases h2 : y < 0
    · have := Int.mul_neg_of_pos_of_neg (show 0 < x by omega) h2
      simp [h1, h2, this]
    · have := Int.mul_nonneg (show 0 ≤ x by omega) (show 0 ≤ y by omega)
      simp [h1, h2]; omega

theorem times_f {x y : Int} (hx : -4294967295 ≤ x ∧ x ≤ 4294967295) (hy : -4294967295 ≤ y ∧ y ≤ 4294967295) :
    congr_times.f x y = some (0, ab x * ab y, decide (x < 0) != decide (y < 0)) := by
  have h1 : 0 ≤ ab x ∧ ab x ≤ 4294967295 := ⟨ab_nonneg x, ab_le hx.1 hx.2⟩
  have h2 : 0 ≤ ab y ∧ ab y ≤ 4294967295 := ⟨ab_nonneg y, ab_le hy.1 hy.2⟩
  have h3 := prod_le h1.1 h1.2 h2.1 h2.2
  unfold congr_times.f
  rw [size_f (by omega) (by omega)]
  simp only [Option.bind_some]
  rw [size_f (by omega) (by omega)]
  simp only [Option.bind_some]
  rw [mul64_f h1.1 (by omega) h2.1 (by omega) (by omega)]; rfl

theorem Mul_f {a b : Cg} (ha : Fit a) (hb : Fit b) : Ev (fun k => congr_Mul.f k a.1 a.2.1 a.2.2 b.1 b.2.1 b.2.2) (mulS a b) := by
  have ma := fit_mod ha
  have mb := fit_mod hb
  have p1 := prod_le (x := a.2.1) (y := b.2.1) (by omega) (by omega) (by omega) (by omega)
  have p2 := prod_le (x := a.2.1) (y := ab b.2.2) (by omega) (by omega) (ab_nonneg _) (ab_le (by omega) (by omega))
  have p3 := prod_le (x := b.2.1) (y := ab a.2.2) (by omega) (by omega) (ab_nonneg _) (ab_le (by omega) (by omega))
  have p4 := prod_le (x := ab a.2.2) (y := ab b.2.2) (ab_nonneg _) (ab_le (by omega) (by omega)) (ab_nonneg _) (ab_le (by omega) (by omega))
  obtain ⟨K, hK⟩ := gcd_f p1.1 p2.1
  obtain ⟨L, hL⟩ := gcd_f (G_nonneg (a.2.1 * b.2.1) (a.2.1 * ab b.2.2)) p3.1
  refine ⟨K + L + 5, fun k hk => ?_⟩
  obtain ⟨j, rfl⟩ : ∃ j, k = j + 4 := ⟨k - 4, by omega⟩
  dsimp only at hK hL ⊢
  unfold congr_Mul.f mulS
  by_cases h1 : a.1 = true
  · rw [if_pos h1, if_pos h1]; simp [congr_Mul.j0, congr_none.f]
  rw [if_neg h1, if_neg h1]
  simp only [congr_Mul.j0]
  by_cases h2 : b.1 = true
  · rw [if_pos h2, if_pos h2]; rfl
  rw [if_neg h2, if_neg h2, size_f (x := b.2.2) (by omega) (by omega), size_f (x := a.2.2) (by omega) (by omega), times_f (by omega) (by omega),
    u64_id (n := a.2.1) (by omega) (by omega), u64_id (n := b.2.1) (by omega) (by omega)]
  simp only [Option.bind_some]
  rw [u64_id (n := a.2.1 * b.2.1) (by omega) (by omega), u64_id (n := a.2.1 * ab b.2.2) (by omega) (by omega), u64_id (n := b.2.1 * ab a.2.2) (by omega) (by omega), hK _ (by omega)]
  simp only [Option.bind_some]
  rw [hL _ (by omega)]
  simp only [Option.bind_some]
  have hg0 : 0 ≤ mulG a b := mulG_nonneg a b
  have hg1 : mulG a b ≤ 18446744073709551615 := G_le (G_nonneg _ _) p3.1 (G_le p1.1 p2.1 (by omega) (by omega)) (by omega)
  rw [show G (G (a.2.1 * b.2.1) (a.2.1 * ab b.2.2)) (b.2.1 * ab a.2.2) = mulG a b from rfl]
  have em : ab a.2.2 * ab b.2.2 = ab (a.2.2 * b.2.2) := ab_mul _ _
  by_cases h3 : mulG a b = 0
  · rw [if_pos h3, if_pos trivial, h3]
    simp only [congr_Mul.j1]
    by_cases h4 : ab a.2.2 * ab b.2.2 > 4611686018427387904
    · rw [show decide (ab a.2.2 * ab b.2.2 > 4611686018427387904) = true by simp [h4], if_pos rfl]
      simp only [congr_none.f, Option.bind_some]
      unfold norm
      rw [if_pos rfl, if_neg]
      intro hi
      unfold In32 at hi
      have := ab_le (x := a.2.2 * b.2.2) (m := 4294967296) (by omega) (by omega)
      omega
    · rw [show decide (ab a.2.2 * ab b.2.2 > 4611686018427387904) = false by simp [h4], if_neg (by simp), w64_id (n := ab a.2.2 * ab b.2.2) (by omega) (by omega)]
      by_cases h5 : a.2.2 * b.2.2 = 0
      · have h6 : ab a.2.2 * ab b.2.2 = 0 := by rw [em, h5]; rfl
        rw [h6, h5]
        split
        · rw [constant_f, show wrap64 (-0) = 0 from by unfold wrap64; omega]; rfl
        · rw [constant_f]; rfl
      · rw [signs_mul _ _ h5]
        by_cases h6 : a.2.2 * b.2.2 < 0
        · have e : ab (a.2.2 * b.2.2) = -(a.2.2 * b.2.2) := by unfold ab; rw [if_pos h6]
          rw [show decide (a.2.2 * b.2.2 < 0) = true by simp [h6], if_pos rfl, em, e]
          rw [em, e] at h4
          rw [w64_id (by omega) (by omega), constant_f, Int.neg_neg]; rfl
        · have e : ab (a.2.2 * b.2.2) = a.2.2 * b.2.2 := by unfold ab; rw [if_neg h6]
          rw [show decide (a.2.2 * b.2.2 < 0) = false by simp [h6], if_neg (by simp), em, e, constant_f]; rfl
  · rw [if_neg h3]
    have hf : congr_words_rest.f 0 (ab a.2.2 * ab b.2.2) (mulG a b) = some (ab a.2.2 * ab b.2.2 % mulG a b) := by
      unfold congr_words_rest.f; rw [if_pos (by omega)]
    rw [hf]
    simp only [Option.bind_some]
    have e0 := Int.emod_nonneg (ab a.2.2 * ab b.2.2) h3
    have e1 := Int.emod_lt_of_pos (ab a.2.2 * ab b.2.2) (show 0 < mulG a b by omega)
    have e2 := emod_dvd_sub (mulG a b) (ab a.2.2 * ab b.2.2)
    have done : ∀ (r : Int), 0 ≤ r → r < mulG a b → mulG a b ∣ r - a.2.2 * b.2.2 → congr_of.f (j + 3) (mulG a b) r = some (norm (mulG a b) (a.2.2 * b.2.2)) := fun r h0 h1 hd => by
      rw [of_f (by omega) hg1 h0 h1, norm_congr hg0 hd]
    by_cases h5 : a.2.2 * b.2.2 = 0
    · have h6 : ab a.2.2 * ab b.2.2 = 0 := by rw [em, h5]; rfl
      rw [h6, Int.zero_emod]
      have dd := done 0 (by omega) (by omega) (by rw [h5]; simp)
      split
      · rw [if_neg (by omega), dd]; rfl
      · rw [dd]; rfl
    · rw [signs_mul _ _ h5]
      by_cases h6 : a.2.2 * b.2.2 < 0
      · have e : ab (a.2.2 * b.2.2) = -(a.2.2 * b.2.2) := by unfold ab; rw [if_pos h6]
        rw [show decide (a.2.2 * b.2.2 < 0) = true by simp [h6], if_pos rfl]
        rw [em, e] at e0 e1 e2 ⊢
        by_cases h7 : -(a.2.2 * b.2.2) % mulG a b > 0
        · rw [if_pos h7, u64_id (by omega) (by omega), done _ (by omega) (by omega) ?_]; rfl
          have := Int.dvd_add (Int.dvd_refl (mulG a b)) e2
          rwa [show mulG a b + (-(a.2.2 * b.2.2) - -(a.2.2 * b.2.2) % mulG a b) = mulG a b - -(a.2.2 * b.2.2) % mulG a b - a.2.2 * b.2.2 by omega] at this
        · rw [if_neg h7, done _ (by omega) (by omega) ?_]; rfl
          rw [show -(a.2.2 * b.2.2) % mulG a b = 0 by omega] at e2 ⊢
          rwa [show -(a.2.2 * b.2.2) - 0 = 0 - a.2.2 * b.2.2 by omega] at e2
      · have e : ab (a.2.2 * b.2.2) = a.2.2 * b.2.2 := by unfold ab; rw [if_neg h6]
        rw [show decide (a.2.2 * b.2.2 < 0) = false by simp [h6], if_neg (by simp)]
        rw [em, e] at e0 e1 e2 ⊢
        rw [done _ (by omega) (by omega) (dvd_sub_comm' e2)]; rfl

/-- what holds at each step: X and Y are x and y without their signs, which are not the same. -/
structure Steps (n a x y r s X Y : Int) : Prop where
  n1 : 0 < n
  n2 : n ≤ 4294967295
  r0 : 0 ≤ r
  r1 : r ≤ 4294967295
  s0 : 0 ≤ s
  s1 : s ≤ 4294967295
  sg : (X = x ∧ Y = -y) ∨ (X = -x ∧ Y = y)
  X0 : 0 ≤ X
  X1 : X ≤ n
  Y0 : 0 ≤ Y
  Y1 : Y ≤ n
  sum : X * s + Y * r = n
  d1 : n ∣ x * a - r
  d2 : n ∣ y * a - s
  g : G r s = 1

theorem Steps.next {n a x y r s X Y : Int} (h : Steps n a x y r s X Y) (hs : s ≠ 0) :
    Steps n a y (x - r / s * y) s (r % s) Y (X + r / s * Y) ∧ 0 ≤ r / s ∧ r / s ≤ r ∧ r / s * Y ≤ n ∧ r - r / s * s = r % s := by
  have hs0 : 0 < s := by have := h.s0; omega
  have q0 : 0 ≤ r / s := Int.ediv_nonneg h.r0 h.s0
  have q1 : r / s ≤ r := Int.ediv_le_self _ h.r0
  have e := Int.mul_ediv_add_emod r s
  have m0 := Int.emod_nonneg r hs
  have m1 := Int.emod_lt_of_pos r hs0
  have qY := Int.mul_nonneg q0 h.Y0
  have er : r - r / s * s = r % s := by rw [Int.mul_comm]; omega
  have sum' : Y * (r % s) + (X + r / s * Y) * s = n := by
    rw [← er, ← h.sum]; grind
  have hY' : X + r / s * Y ≤ n := by
    have h1 : (X + r / s * Y) * 1 ≤ (X + r / s * Y) * s := Int.mul_le_mul_of_nonneg_left (by omega) (by have := h.X0; omega)
    have h2 := Int.mul_nonneg h.Y0 m0
    omega
  refine ⟨⟨h.n1, h.n2, h.s0, h.s1, m0, by have := h.s1; omega, ?_, h.Y0, h.Y1, by have := h.X0; omega, hY', sum', h.d2, ?_, ?_⟩, q0, q1, by have := h.X0; omega, er⟩
  · rcases h.sg with ⟨a1, a2⟩ | ⟨a1, a2⟩
    · right
      refine ⟨a2, ?_⟩
      rw [a1, a2, Int.mul_neg]; omega
    · left
      refine ⟨a2, ?_⟩
      rw [a1, a2]; omega
  · have := Int.dvd_sub h.d1 (Int.dvd_trans h.d2 (Int.dvd_mul_left (r / s) _))
    rwa [show x * a - r - r / s * (y * a - s) = (x - r / s * y) * a - r % s by rw [← er]; grind] at this
  · rw [G_step]; exact h.g

theorem inv_l0 : ∀ (m : Nat) (n a x y r s X Y : Int), Steps n a x y r s X Y → s ≤ m → ∃ z, n ∣ z * a - 1 ∧ ∀ k, congr_inverse.l0 (k + m + 1) n x y r s = some (z % n)
  | m, n, a, x, y, r, s, X, Y, h, hm => by
    have hn1 := h.n1
    have hn2 := h.n2
    have hX0 := h.X0
    have hX1 := h.X1
    have hsg := h.sg
    by_cases hs : s = 0
    · subst hs
      refine ⟨x, ?_, fun k => ?_⟩
      · have hg := h.g
        rw [G_zero _ h.r0] at hg
        have := h.d1
        rwa [hg] at this
      · simp only [congr_inverse.l0, if_true]
        rw [rest_f (by omega) (by omega) hn1 (by omega)]; rfl
    · obtain ⟨h', q0, q1, q2, er⟩ := h.next hs
      have hr0 := h.r0
      have hr1 := h.r1
      have hs0 := h.s0
      have hs1 := h.s1
      have hY1 := h.Y1
      have hY0 := h.Y0
      obtain ⟨m, rfl⟩ : ∃ j, m = j + 1 := ⟨m - 1, by omega⟩
      have es := Int.emod_lt_of_pos r (show 0 < s by omega)
      have es' := Int.emod_nonneg r hs
      obtain ⟨z, hz, hk⟩ := inv_l0 m n a y (x - r / s * y) s (r % s) Y (X + r / s * Y) h' (by omega)
      refine ⟨z, hz, fun k => ?_⟩
      have e0 : congr_inverse.l0 (k + (m + 1) + 1) n x y r s = if s = 0 then ((congr_rest.f x n).bind fun t => some t) else (congr_inverse.l0 (k + m + 1) n y (wrap64 (x - (wrap64 ((wrap64 (Int.tdiv r s)) * y)))) s (wrap64 (r - (wrap64 ((wrap64 (Int.tdiv r s)) * s))))) := rfl
      have eq : -n ≤ r / s * y ∧ r / s * y ≤ n := by
        have q3 := Int.mul_nonneg q0 hY0
        rcases hsg with ⟨_, a2⟩ | ⟨_, a2⟩
        · rw [a2, Int.mul_neg] at q2 q3
          omega
        · rw [a2] at q2 q3
          omega
      rw [e0, if_neg hs, Int.tdiv_eq_ediv_of_nonneg hr0, w64_id (n := r / s) (by omega) (by omega), w64_id (n := r / s * y) (by omega) (by omega), w64_id (n := x - r / s * y) (by omega) (by omega), w64_id (n := r / s * s) (by omega) (by omega), er, w64_id (n := r % s) (by omega) (by omega)]
      exact hk k
  termination_by m => m

theorem inverse_f {a n : Int} (h0 : 0 ≤ a) (h1 : a < n) (h2 : n ≤ 4294967295) (hg : G a n = 1) : ∃ z, n ∣ z * a - 1 ∧ Ev (fun k => congr_inverse.f k a n) (z % n) := by
  have st : Steps n a 1 0 a n 1 0 := ⟨by omega, h2, h0, by omega, by omega, h2, Or.inl ⟨rfl, rfl⟩, by omega, by omega, by omega, by omega, by omega, by simp, by simp, hg⟩
  obtain ⟨z, hz, hk⟩ := inv_l0 n.toNat n a 1 0 a n 1 0 st (by omega)
  refine ⟨z, hz, ev_of (n.toNat + 1) fun k => ?_⟩
  show congr_inverse.l0 (k + n.toNat + 1) n 1 0 (wrap64 a) (wrap64 n) = _
  rw [w64_id (by omega) (by omega), w64_id (by omega) (by omega)]
  exact hk k

theorem G_comm (a b : Int) : G a b = G b a := by unfold G; rw [Int.gcd_comm]

theorem cop {m n d m' n' : Int} (hd : d = G m n) (hd0 : 0 < d) (hm : m = d * m') (hn : n = d * n') : G m' n' = 1 := by
  have h1 : d * G m' n' ∣ d := by
    rw (occs := [2]) [hd]
    rw [dvd_G]
    exact ⟨by rw [hm]; exact Int.mul_dvd_mul_left d (G_dvd_l _ _), by rw [hn]; exact Int.mul_dvd_mul_left d (G_dvd_r _ _)⟩
  have h2 : G m' n' ∣ 1 := by
    obtain ⟨q, hq⟩ := h1
    refine ⟨q, ?_⟩
    have : d * 1 = d * (G m' n' * q) := by rw [← Int.mul_assoc]; omega
    exact Int.eq_of_mul_eq_mul_left (by omega) this
  have h3 := Int.le_of_dvd (by omega) h2
  have h4 := G_nonneg m' n'
  have h5 : G m' n' ≠ 0 := fun e => by rw [e, Int.zero_dvd] at h2; omega
  omega

theorem dvd_of_cop {n m u : Int} (h : n ∣ m * u) (hg : G m n = 1) : n ∣ u := by
  rw [← Int.natAbs_dvd_natAbs] at h ⊢
  rw [Int.natAbs_mul] at h
  have hc : Nat.Coprime n.natAbs m.natAbs := by
    unfold G Int.gcd at hg
    rw [Nat.Coprime, Nat.gcd_comm]; omega
  exact hc.dvd_of_dvd_mul_left h

/-- a number of both: of both just the numbers that are its least common multiple apart. -/
theorem meet_norm {a b : Cg} (na : a.1 = false) (nb : b.1 = false) {d m' n' v : Int} (ha : 0 < a.2.1) (hb : 0 < b.2.1) (hd : d = G a.2.1 b.2.1) (hm : a.2.1 = d * m') (hn : b.2.1 = d * n')
    (h1 : a.2.1 ∣ v - a.2.2) (h2 : b.2.1 ∣ v - b.2.2) : IsMeet a b (norm (a.2.1 * n') v) := by
  have hd0 : 0 < d := by
    have := G_nonneg a.2.1 b.2.1
    have : d ≠ 0 := fun e => by rw [e] at hm; omega
    omega
  have hn0 : 0 ≤ n' := by
    by_cases h : 0 ≤ n'
    · exact h
    · have := Int.mul_neg_of_pos_of_neg hd0 (show n' < 0 by omega); omega
  have hg := cop hd hd0 hm hn
  have hL : 0 ≤ a.2.1 * n' := Int.mul_nonneg (by omega) hn0
  refine ⟨fit_norm hL, fun x => ?_⟩
  rw [mem_norm hL]
  unfold Mem
  constructor
  · rintro ⟨i, h⟩
    have e : b.2.1 * m' = a.2.1 * n' := by rw [hn, hm]; grind
    refine ⟨⟨na, i, dvd_sub_trans (Int.dvd_trans (Int.dvd_mul_right _ _) h) h1⟩, ⟨nb, i, dvd_sub_trans (Int.dvd_trans ?_ h) h2⟩⟩
    rw [← e]; exact Int.dvd_mul_right _ _
  · rintro ⟨⟨_, i, k1⟩, ⟨_, _, k2⟩⟩
    refine ⟨i, ?_⟩
    have w1 := dvd_sub_trans k1 (dvd_sub_comm' h1)
    have w2 := dvd_sub_trans k2 (dvd_sub_comm' h2)
    obtain ⟨u, hu⟩ := w1
    rw [hu] at w2 ⊢
    refine Int.mul_dvd_mul_left _ ?_
    rw [hn, hm, Int.mul_assoc] at w2
    have w3 : n' ∣ m' * u := Int.dvd_of_mul_dvd_mul_left (by omega) w2
    exact dvd_of_cop w3 hg

theorem meet_none {a b : Cg} (h : ∀ x, ¬ (a.2.1 ∣ x - a.2.2 ∧ b.2.1 ∣ x - b.2.2)) : IsMeet a b (true, 0, 0) :=
  ⟨fit_none, fun x => ⟨(fun hx => by cases hx.1), fun ⟨h1, h2⟩ => absurd ⟨h1.2.2, h2.2.2⟩ (h x)⟩⟩
theorem meet_none_l {a b : Cg} (h : a.1 = true ∨ b.1 = true) : IsMeet a b (true, 0, 0) :=
  ⟨fit_none, fun x => ⟨(fun hx => by cases hx.1), fun ⟨h1, h2⟩ => by
    rcases h with h | h
    · rw [h1.1] at h; cases h
    · rw [h2.1] at h; cases h⟩⟩
theorem meet_const {a b : Cg} (ha : Fit a) (h0 : a.2.1 = 0) : IsMeet a b (if memB b a.2.2 = true then a else (true, 0, 0)) := by
  have hr := fit_rem ha
  have only : ∀ x, Mem a x → x = a.2.2 := fun x hx => by
    have := hx.2.2
    rw [h0, Int.zero_dvd] at this
    omega
  by_cases h : memB b a.2.2 = true
  · rw [if_pos h]
    refine ⟨ha, fun x => ⟨fun hx => ⟨hx, ?_⟩, fun hx => hx.1⟩⟩
    rw [only x hx]; exact memB_iff.mp h
  · rw [if_neg h]
    refine ⟨fit_none, fun x => ⟨(fun hx => by cases hx.1), fun ⟨h1, h2⟩ => ?_⟩⟩
    rw [only x h1] at h2
    exact absurd (memB_iff.mpr h2) h

/-- the number that the steps find. -/
theorem found {m n d m' n' ra rb e k z : Int} (hm : m = d * m') (hn : n = d * n') (he : rb - ra = d * e) (hz : n' ∣ z * (m' % n') - 1) (hk : n' ∣ k - e * z) : n ∣ m * k + ra - rb := by
  have h1 : n' ∣ m' * k - e := by
    obtain ⟨p, hp⟩ := hk
    obtain ⟨q, hq⟩ := hz
    obtain ⟨t, ht⟩ := emod_dvd_sub n' m'
    have ek : k = n' * p + e * z := by omega
    have em : m' % n' = m' - n' * t := by omega
    rw [em] at hq
    refine ⟨m' * p + e * q + e * z * t, ?_⟩
    have : e * (z * (m' - n' * t) - 1) = e * (n' * q) := by rw [hq]
    rw [ek]; grind
  obtain ⟨u, hu⟩ := h1
  refine ⟨u, ?_⟩
  rw [hm, hn]
  have : d * (m' * k - e) = d * (n' * u) := by rw [hu]
  grind

theorem apart_none {a b : Cg} (h : ¬ G a.2.1 b.2.1 ∣ a.2.2 - b.2.2) : ∀ x, ¬ (a.2.1 ∣ x - a.2.2 ∧ b.2.1 ∣ x - b.2.2) := fun _ ⟨h1, h2⟩ =>
  h (dvd_sub_trans (dvd_sub_comm' (Int.dvd_trans (G_dvd_l _ _) h1)) (Int.dvd_trans (G_dvd_r _ _) h2))

theorem Meet_f {a b : Cg} (ha : Fit a) (hb : Fit b) : ∃ r, IsMeet a b r ∧ Ev (fun k => congr_Meet.f k a.1 a.2.1 a.2.2 b.1 b.2.1 b.2.2) r := by
  have ma := fit_mod ha
  have mb := fit_mod hb
  have fa := fit_rem ha
  have fb := fit_rem hb
  by_cases h1 : a.1 = true
  · refine ⟨_, meet_none_l (Or.inl h1), ev_of 9 fun k => ?_⟩
    simp [congr_Meet.f, congr_Meet.j0, congr_none.f, h1]
  by_cases h2 : b.1 = true
  · refine ⟨_, meet_none_l (Or.inr h2), ev_of 9 fun k => ?_⟩
    simp [congr_Meet.f, congr_Meet.j0, congr_none.f, h1, h2]
  have na := bfalse h1
  have nb := bfalse h2
  by_cases h3 : a.2.1 = 0
  · refine ⟨_, meet_const ha h3, ev_of 12 fun k => ?_⟩
    simp only [congr_Meet.f, congr_Meet.j0, congr_Meet.j1, congr_Meet.j2]
    rw [if_neg h1, if_neg h2, if_pos h3, if_pos trivial, if_pos h3, Has_f hb (by unfold I64; omega)]
    simp only [Option.bind_some]
    split <;> rfl
  by_cases h4 : b.2.1 = 0
  · refine ⟨_, (meet_const hb h4).comm, ev_of 12 fun k => ?_⟩
    simp only [congr_Meet.f, congr_Meet.j0, congr_Meet.j1, congr_Meet.j2]
    rw [if_neg h1, if_neg h2, if_neg h3, show (b.2.1 == 0) = true by simp [h4], if_pos rfl, if_neg h3, Has_f ha (by unfold I64; omega)]
    simp only [Option.bind_some]
    split <;> rfl
  have a0 : 0 < a.2.1 := by omega
  have b0 : 0 < b.2.1 := by omega
  obtain ⟨K, hK⟩ := gcd_f (a := a.2.1) (b := b.2.1) (by omega) (by omega)
  have hd0 : 0 < G a.2.1 b.2.1 := by
    have := G_nonneg a.2.1 b.2.1
    have : G a.2.1 b.2.1 ≠ 0 := fun e => by have h := G_dvd_l a.2.1 b.2.1; rw [e, Int.zero_dvd] at h; omega
    omega
  obtain ⟨m', hm⟩ := G_dvd_l a.2.1 b.2.1
  obtain ⟨n', hn⟩ := G_dvd_r a.2.1 b.2.1
  have hdle : G a.2.1 b.2.1 ≤ 4294967295 := G_le (by omega) (by omega) (by omega) (by omega)
  have hdd := @rfl _ (G a.2.1 b.2.1)
  have hcop := cop (m' := m') (n' := n') hdd hd0 hm hn
  have hap := apart_none (a := a) (b := b)
  have hmn := fun (v : Int) (k1 : a.2.1 ∣ v - a.2.2) (k2 : b.2.1 ∣ v - b.2.2) => meet_norm na nb a0 b0 hdd hm hn k1 k2
  clear hdd
  dsimp only at hK
  -- the part that both ways share
  have pre : ∀ j, K + 12 ≤ j → congr_Meet.f j a.1 a.2.1 a.2.2 b.1 b.2.1 b.2.2 = congr_Meet.j1 (j - 1) false a.1 a.2.1 a.2.2 b.1 b.2.1 b.2.2 := fun j hj => by
    obtain ⟨i, rfl⟩ : ∃ i, j = i + 1 := ⟨j - 1, by omega⟩
    simp only [congr_Meet.f, congr_Meet.j0]
    rw [if_neg h1, if_neg h2, if_neg h3, show (b.2.1 == 0) = false by simp [h4]]; rfl
  generalize hdG : G a.2.1 b.2.1 = d at *
  have m0 : 0 < m' := by
    rcases Int.lt_trichotomy m' 0 with h | h | h
    · have := Int.mul_neg_of_pos_of_neg hd0 h; omega
    · rw [h] at hm; omega
    · exact h
  have n0 : 0 < n' := by
    rcases Int.lt_trichotomy n' 0 with h | h | h
    · have := Int.mul_neg_of_pos_of_neg hd0 h; omega
    · rw [h] at hn; omega
    · exact h
  have m1 : m' ≤ a.2.1 := by
    have : 1 * m' ≤ d * m' := Int.mul_le_mul_of_nonneg_right (by omega) (by omega)
    omega
  have n1 : n' ≤ b.2.1 := by
    have : 1 * n' ≤ d * n' := Int.mul_le_mul_of_nonneg_right (by omega) (by omega)
    omega
  have qm : a.2.1.tdiv d = m' := by rw [hm, Int.mul_tdiv_cancel_left _ (by omega)]
  have qn : b.2.1.tdiv d = n' := by rw [hn, Int.mul_tdiv_cancel_left _ (by omega)]
  have pL := prod_le (x := a.2.1) (y := n') (by omega) (by omega) (by omega) (by omega)
  have tm : Int.tmod (ab (a.2.2 - b.2.2)) d = ab (a.2.2 - b.2.2) % d := Int.tmod_eq_emod_of_nonneg (ab_nonneg _)
  by_cases h5 : d ∣ a.2.2 - b.2.2
  · obtain ⟨e, he⟩ := dvd_sub_comm' h5
    have qe : (b.2.2 - a.2.2).tdiv d = e := by rw [he, Int.mul_tdiv_cancel_left _ (by omega)]
    have er := tdiv_range (x := b.2.2 - a.2.2) (d := d) (m := 9223372036854775807) (by omega) (by omega)
    rw [qe] at er
    have t0 : ab (a.2.2 - b.2.2) % d = 0 := emod_zero_iff.mpr (dvd_ab.mpr h5)
    by_cases h6 : n' > 1
    · have mm0 := Int.emod_nonneg m' (show n' ≠ 0 by omega)
      have mm1 := Int.emod_lt_of_pos m' n0
      obtain ⟨z, hz, L, hL⟩ := inverse_f mm0 mm1 (by omega) (by rw [G_comm, G_step, hcop])
      dsimp only at hL
      have z0 := Int.emod_nonneg z (show n' ≠ 0 by omega)
      have z1 := Int.emod_lt_of_pos z n0
      have e0 := Int.emod_nonneg e (show n' ≠ 0 by omega)
      have e1 := Int.emod_lt_of_pos e n0
      have pz := prod_le (x := e % n') (y := z % n') e0 (by omega) z0 (by omega)
      have k0 := Int.emod_nonneg (e % n' * (z % n')) (show n' ≠ 0 by omega)
      have k1 := Int.emod_lt_of_pos (e % n' * (z % n')) n0
      have kd := emod_dvd_sub n' (e % n' * (z % n'))
      generalize hk : e % n' * (z % n') % n' = k at *
      have pk : a.2.1 * k + a.2.1 ≤ a.2.1 * n' := by
        have : a.2.1 * (k + 1) ≤ a.2.1 * n' := Int.mul_le_mul_of_nonneg_left (by omega) (by omega)
        rw [Int.mul_add] at this; omega
      have pk0 := Int.mul_nonneg (show 0 ≤ a.2.1 by omega) k0
      have kez : n' ∣ k - e * z := by
        obtain ⟨p, hp⟩ := emod_dvd_sub n' e
        obtain ⟨q, hq⟩ := emod_dvd_sub n' z
        obtain ⟨t, ht⟩ := kd
        refine ⟨-t - e * q - z * p + n' * p * q, ?_⟩
        have ee : e % n' = e - n' * p := by omega
        have ez : z % n' = z - n' * q := by omega
        rw [ee, ez] at ht
        grind
      refine ⟨norm (a.2.1 * n') (a.2.1 * k + a.2.2), hmn _ ?_ (found hm hn he hz kez), K + L + 20, fun j hj => ?_⟩
      · rw [show a.2.1 * k + a.2.2 - a.2.2 = a.2.1 * k by omega]; exact Int.dvd_mul_right _ _
      dsimp only
      rw [pre j (by omega)]
      obtain ⟨i, rfl⟩ : ∃ i, j = i + 3 := ⟨j - 3, by omega⟩
      show congr_Meet.j1 (i + 1 + 1) _ _ _ _ _ _ _ = _
      simp only [congr_Meet.j1, Bool.false_eq_true, if_false]
      rw [u64_id (n := a.2.1) (by omega) (by omega), u64_id (n := b.2.1) (by omega) (by omega), hK _ (by omega)]
      simp only [Option.bind_some]
      rw [w64_id (n := a.2.2 - b.2.2) (by omega) (by omega), w64_id (n := b.2.2 - a.2.2) (by omega) (by omega), w64_id (n := d) (by omega) (by omega), size_f (by omega) (by omega)]
      simp only [Option.bind_some]
      rw [if_neg (show ¬ d = 0 by omega), tm, if_pos t0, qn, qm, u64_id (n := n') (by omega) (by omega), u64_id (n := m') (by omega) (by omega), if_pos h6, if_neg (show ¬ d = 0 by omega), qe, w64_id (n := e) (by omega) (by omega), rest_f (by omega) (by omega) n0 (by omega)]
      simp only [Option.bind_some]
      rw [if_neg (show ¬ n' = 0 by omega), Int.tmod_eq_emod_of_nonneg (show 0 ≤ m' by omega), hL _ (by omega)]
      simp only [Option.bind_some]
      rw [mul64_f e0 (by omega) z0 (by omega) (by omega)]
      simp only [Option.bind_some]
      rw [show congr_words_rest.f 0 (e % n' * (z % n')) n' = some k by unfold congr_words_rest.f; rw [if_pos (by omega), hk]]
      simp only [Option.bind_some]
      rw [u64_id (n := a.2.1 * n') (by omega) (by omega), u64_id (n := a.2.1 * k) (by omega) (by omega), u64_id (n := a.2.2) (by omega) (by omega), u64_id (n := a.2.1 * k + a.2.2) (by omega) (by omega),
        of_f (by omega) (by omega) (by omega) (by omega)]; rfl
    · have hn1 : n' = 1 := by omega
      subst hn1
      refine ⟨norm (a.2.1 * 1) (a.2.1 * 0 + a.2.2), hmn _ ?_ (found hm hn he (z := 0) (by exact Int.one_dvd _) (Int.one_dvd _)), K + 20, fun j hj => ?_⟩
      · rw [show a.2.1 * 0 + a.2.2 - a.2.2 = 0 by omega]; exact Int.dvd_zero _
      dsimp only
      rw [pre j (by omega)]
      obtain ⟨i, rfl⟩ : ∃ i, j = i + 3 := ⟨j - 3, by omega⟩
      show congr_Meet.j1 (i + 1 + 1) _ _ _ _ _ _ _ = _
      simp only [congr_Meet.j1, Bool.false_eq_true, if_false]
      rw [u64_id (n := a.2.1) (by omega) (by omega), u64_id (n := b.2.1) (by omega) (by omega), hK _ (by omega)]
      simp only [Option.bind_some]
      rw [w64_id (n := a.2.2 - b.2.2) (by omega) (by omega), size_f (by omega) (by omega)]
      simp only [Option.bind_some]
      rw [if_neg (show ¬ d = 0 by omega), tm, if_pos t0, qn, u64_id (n := 1) (by omega) (by omega), if_neg h6]
      rw [u64_id (n := a.2.1 * 1) (by omega) (by omega), u64_id (n := a.2.1 * 0) (by omega) (by omega), u64_id (n := a.2.2) (by omega) (by omega), u64_id (n := a.2.1 * 0 + a.2.2) (by omega) (by omega),
        of_f (by omega) (by omega) (by omega) (by omega)]; rfl
  · refine ⟨_, meet_none (hap h5), K + 20, fun j hj => ?_⟩
    dsimp only
    rw [pre j (by omega)]
    obtain ⟨i, rfl⟩ : ∃ i, j = i + 3 := ⟨j - 3, by omega⟩
    show congr_Meet.j1 (i + 1 + 1) _ _ _ _ _ _ _ = _
    simp only [congr_Meet.j1, Bool.false_eq_true, if_false]
    rw [u64_id (n := a.2.1) (by omega) (by omega), u64_id (n := b.2.1) (by omega) (by omega), hK _ (by omega)]
    simp only [Option.bind_some]
    rw [w64_id (n := a.2.2 - b.2.2) (by omega) (by omega), size_f (by omega) (by omega)]
    simp only [Option.bind_some]
    rw [if_neg (show ¬ d = 0 by omega), tm, if_neg (fun e => h5 (dvd_ab.mp (emod_zero_iff.mp e)))]; rfl

end Go.Proofs.YtfmmjekhknaniaaDoor.Core

namespace Go.Proofs.YtfmmjekhknaniaaDoor.Pr
open Go.RowKit Go.Proofs.YtfmmjekhknaniaaDoor.Given Go.Proofs.YtfmmjekhknaniaaDoorW.PrintWords Go.Proofs.YtfmmjekhknaniaaDoorW.PrintLast Go.Proofs.YtfmmjekhknaniaaDoorW.PrintMore
attribute [local go_sem] max2_int min2_int max_two min_two max_three min_three max_four min_four   -- for this text's walks alone
set_option linter.unusedVariables false
set_option linter.unusedSimpArgs false

def gimballaw31_number.f (a0_0 : Bool) (a0_1 : Int) (a0_2 : Int) (a1 : Int) : Option (Int × Bool) := if a0_0 = true then (some (0, false)) else (if a0_1 = 0 then (some (a0_2, true)) else (if a0_2 > 2147483647 then (if (IntKind.u64.wrap (wrap64 ((wrap64 ((-1) + (wrap64 (Int.tdiv (wrap64 (a0_2 + 2147483648)) a0_1)))) + 1))) = 0 then (none) else (some (wrap64 (a0_2 + (wrap64 ((wrap64 ((wrap64 (Int.tmod (IntKind.u64.wrap (a1)) (IntKind.u64.wrap (wrap64 ((wrap64 ((-1) + (wrap64 (Int.tdiv (wrap64 (a0_2 + 2147483648)) a0_1)))) + 1))))) - (wrap64 (Int.tdiv (wrap64 (a0_2 + 2147483648)) a0_1)))) * a0_1))), true))) else (if (IntKind.u64.wrap (wrap64 ((wrap64 ((wrap64 (Int.tdiv (wrap64 (2147483647 - a0_2)) a0_1)) + (wrap64 (Int.tdiv (wrap64 (a0_2 + 2147483648)) a0_1)))) + 1))) = 0 then (none) else (some (wrap64 (a0_2 + (wrap64 ((wrap64 ((wrap64 (Int.tmod (IntKind.u64.wrap (a1)) (IntKind.u64.wrap (wrap64 ((wrap64 ((wrap64 (Int.tdiv (wrap64 (2147483647 - a0_2)) a0_1)) + (wrap64 (Int.tdiv (wrap64 (a0_2 + 2147483648)) a0_1)))) + 1))))) - (wrap64 (Int.tdiv (wrap64 (a0_2 + 2147483648)) a0_1)))) * a0_1))), true)))))
set_option maxHeartbeats 8000000 in
set_option maxRecDepth 100000 in
theorem gimballaw31_number.calls (a0_0 : Bool) (a0_1 : Int) (a0_2 : Int) (a1 : Int) (r1 : Int) (r2 : Bool) (w : World) (h : gimballaw31_number.f a0_0 a0_1 a0_2 a1 = some (r1, r2)) :
  Calls Tryd.prog 22 #[.agg #[.bool a0_0, .int .i64 a0_1, .int .i64 a0_2], .int .i64 a1] w fun e w' => e = .returned (.tuple #[.int .i64 r1, .bool r2]) ∧ Below w.heap.size w w' := by
 have hu23 := Tryd.underlying23
 have HB := Aside0.mk (Below.refl w.heap.size w)
 have H : (if a0_0 = true then (some (0, false)) else (if a0_1 = 0 then (some (a0_2, true)) else (if a0_2 > 2147483647 then (if (IntKind.u64.wrap (wrap64 ((wrap64 ((-1) + (wrap64 (Int.tdiv (wrap64 (a0_2 + 2147483648)) a0_1)))) + 1))) = 0 then (none) else (some (wrap64 (a0_2 + (wrap64 ((wrap64 ((wrap64 (Int.tmod (IntKind.u64.wrap (a1)) (IntKind.u64.wrap (wrap64 ((wrap64 ((-1) + (wrap64 (Int.tdiv (wrap64 (a0_2 + 2147483648)) a0_1)))) + 1))))) - (wrap64 (Int.tdiv (wrap64 (a0_2 + 2147483648)) a0_1)))) * a0_1))), true))) else (if (IntKind.u64.wrap (wrap64 ((wrap64 ((wrap64 (Int.tdiv (wrap64 (2147483647 - a0_2)) a0_1)) + (wrap64 (Int.tdiv (wrap64 (a0_2 + 2147483648)) a0_1)))) + 1))) = 0 then (none) else (some (wrap64 (a0_2 + (wrap64 ((wrap64 ((wrap64 (Int.tmod (IntKind.u64.wrap (a1)) (IntKind.u64.wrap (wrap64 ((wrap64 ((wrap64 (Int.tdiv (wrap64 (2147483647 - a0_2)) a0_1)) + (wrap64 (Int.tdiv (wrap64 (a0_2 + 2147483648)) a0_1)))) + 1))))) - (wrap64 (Int.tdiv (wrap64 (a0_2 + 2147483648)) a0_1)))) * a0_1))), true)))))) = some (r1, r2) := h
 clear h
 by_cases c3 : a0_0 = true
 ·
  subst c3
  have H1 : (some (0, false)) = some (r1, r2) := by rw [if_pos rfl] at H; exact H
  clear H
  have H := H1
  clear H1
  simp only [Option.some.injEq, Prod.mk.injEq] at H
  obtain ⟨rfl, rfl⟩ := H
  go_enter Tryd.func22, Tryd.ntmps22
  go_wp2_with (first | ((with_reducible refine gate_dst (N := 2) rfl ?_); refine box_event ?hg (N := 2) ?hd (cs := #[.bool true, .int .i64 a0_1, .int .i64 a0_2]) (t := 23) ?hr ?_; (case hd => rfl); (case hg => rfl); (case hr => first | (go_simp; done) | (go_simp; rfl)); intro gb228 hg w4 hbox hb; have n0_ := kW HB hb; have n1_ := Aside0.mk (hbox); have n2_ := Aside0.mk ((by rw [hg]; exact (below_size (bS HB)) : w.heap.size ≤ gb228)); have n3_ := Aside0.mk ((by rw [hg]; exact (below_size (bS HB)) : w.heap.size ≤ gb228)); clear HB; have HB := n0_; have BK228 := n1_; have GW228 := n2_; have GE228 := n3_; clear n0_ n1_ n2_ n3_; clear hb hbox hg; have hcz5_0 := cz0 BK228; have hcz5_1 := cz1 BK228; have hcz5_2 := cz2 BK228; have hfz5_0 := fz BK228 0; have hfz5_1 := fz BK228 1; have hfz5_2 := fz BK228 2))
  go_ret2
  exact ⟨eS, bS HB⟩
 ·
  replace c3 := Bool.eq_false_iff.mpr c3
  subst c3
  have H1 : (if a0_1 = 0 then (some (a0_2, true)) else (if a0_2 > 2147483647 then (if (IntKind.u64.wrap (wrap64 ((wrap64 ((-1) + (wrap64 (Int.tdiv (wrap64 (a0_2 + 2147483648)) a0_1)))) + 1))) = 0 then (none) else (some (wrap64 (a0_2 + (wrap64 ((wrap64 ((wrap64 (Int.tmod (IntKind.u64.wrap (a1)) (IntKind.u64.wrap (wrap64 ((wrap64 ((-1) + (wrap64 (Int.tdiv (wrap64 (a0_2 + 2147483648)) a0_1)))) + 1))))) - (wrap64 (Int.tdiv (wrap64 (a0_2 + 2147483648)) a0_1)))) * a0_1))), true))) else (if (IntKind.u64.wrap (wrap64 ((wrap64 ((wrap64 (Int.tdiv (wrap64 (2147483647 - a0_2)) a0_1)) + (wrap64 (Int.tdiv (wrap64 (a0_2 + 2147483648)) a0_1)))) + 1))) = 0 then (none) else (some (wrap64 (a0_2 + (wrap64 ((wrap64 ((wrap64 (Int.tmod (IntKind.u64.wrap (a1)) (IntKind.u64.wrap (wrap64 ((wrap64 ((wrap64 (Int.tdiv (wrap64 (2147483647 - a0_2)) a0_1)) + (wrap64 (Int.tdiv (wrap64 (a0_2 + 2147483648)) a0_1)))) + 1))))) - (wrap64 (Int.tdiv (wrap64 (a0_2 + 2147483648)) a0_1)))) * a0_1))), true))))) = some (r1, r2) := by rw [if_neg (show ¬ (false = true) by decide)] at H; exact H
  clear H
  have H := H1
  clear H1
  by_cases c6 : a0_1 = 0
  ·
   rw [if_pos c6] at H
   have c6b0 : (a0_1 == 0) = true := beq_iff_eq.mpr c6
   have c6b1 : (a0_1 != 0) = false := bne_eq_false_iff_eq.mpr c6
   clear c6
   simp only [Option.some.injEq, Prod.mk.injEq] at H
   obtain ⟨rfl, rfl⟩ := H
   go_enter Tryd.func22, Tryd.ntmps22
   go_wp2_with (first | ((with_reducible refine gate_dst (N := 2) rfl ?_); refine box_event ?hg (N := 2) ?hd (cs := #[.bool false, .int .i64 a0_1, .int .i64 a0_2]) (t := 23) ?hr ?_; (case hd => rfl); (case hg => rfl); (case hr => first | (go_simp; done) | (go_simp; rfl)); intro gb228 hg w7 hbox hb; have n0_ := kW HB hb; have n1_ := Aside0.mk (hbox); have n2_ := Aside0.mk ((by rw [hg]; exact (below_size (bS HB)) : w.heap.size ≤ gb228)); have n3_ := Aside0.mk ((by rw [hg]; exact (below_size (bS HB)) : w.heap.size ≤ gb228)); clear HB; have HB := n0_; have BK228 := n1_; have GW228 := n2_; have GE228 := n3_; clear n0_ n1_ n2_ n3_; clear hb hbox hg; have hcz8_0 := cz0 BK228; have hcz8_1 := cz1 BK228; have hcz8_2 := cz2 BK228; have hfz8_0 := fz BK228 0; have hfz8_1 := fz BK228 1; have hfz8_2 := fz BK228 2))
   go_ret2
   exact ⟨eS, bS HB⟩
  ·
   rw [if_neg c6] at H
   have c6b0 : (a0_1 == 0) = false := beq_eq_false_iff_ne.mpr c6
   have c6b1 : (a0_1 != 0) = true := bne_iff_ne.mpr c6
   by_cases c9 : a0_2 > 2147483647
   ·
    rw [if_pos c9] at H
    have c9b0 : decide (2147483647 < a0_2) = true := decide_eq_true c9
    clear c9
    by_cases c10 : (IntKind.u64.wrap (wrap64 ((wrap64 ((-1) + (wrap64 (Int.tdiv (wrap64 (a0_2 + 2147483648)) a0_1)))) + 1))) = 0
    ·
     rw [if_pos c10] at H
     exact absurd H (by simp)
    ·
     rw [if_neg c10] at H
     have c10b0 : ((IntKind.u64.wrap (wrap64 ((wrap64 ((-1) + (wrap64 (Int.tdiv (wrap64 (a0_2 + 2147483648)) a0_1)))) + 1))) == 0) = false := beq_eq_false_iff_ne.mpr c10
     have c10b1 : ((IntKind.u64.wrap (wrap64 ((wrap64 ((-1) + (wrap64 (Int.tdiv (wrap64 (a0_2 + 2147483648)) a0_1)))) + 1))) != 0) = true := bne_iff_ne.mpr c10
     simp only [Option.some.injEq, Prod.mk.injEq] at H
     obtain ⟨rfl, rfl⟩ := H
     go_enter Tryd.func22, Tryd.ntmps22
     go_wp2_with (first | ((with_reducible refine gate_dst (N := 2) rfl ?_); refine box_event ?hg (N := 2) ?hd (cs := #[.bool false, .int .i64 a0_1, .int .i64 a0_2]) (t := 23) ?hr ?_; (case hd => rfl); (case hg => rfl); (case hr => first | (go_simp; done) | (go_simp; rfl)); intro gb228 hg w11 hbox hb; have n0_ := kW HB hb; have n1_ := Aside0.mk (hbox); have n2_ := Aside0.mk ((by rw [hg]; exact (below_size (bS HB)) : w.heap.size ≤ gb228)); have n3_ := Aside0.mk ((by rw [hg]; exact (below_size (bS HB)) : w.heap.size ≤ gb228)); clear HB; have HB := n0_; have BK228 := n1_; have GW228 := n2_; have GE228 := n3_; clear n0_ n1_ n2_ n3_; clear hb hbox hg; have hcz12_0 := cz0 BK228; have hcz12_1 := cz1 BK228; have hcz12_2 := cz2 BK228; have hfz12_0 := fz BK228 0; have hfz12_1 := fz BK228 1; have hfz12_2 := fz BK228 2))
     go_ret2
     exact ⟨eS, bS HB⟩
   ·
    rw [if_neg c9] at H
    have c9b0 : decide (2147483647 < a0_2) = false := decide_eq_false c9
    clear c9
    by_cases c13 : (IntKind.u64.wrap (wrap64 ((wrap64 ((wrap64 (Int.tdiv (wrap64 (2147483647 - a0_2)) a0_1)) + (wrap64 (Int.tdiv (wrap64 (a0_2 + 2147483648)) a0_1)))) + 1))) = 0
    ·
     rw [if_pos c13] at H
     exact absurd H (by simp)
    ·
     rw [if_neg c13] at H
     have c13b0 : ((IntKind.u64.wrap (wrap64 ((wrap64 ((wrap64 (Int.tdiv (wrap64 (2147483647 - a0_2)) a0_1)) + (wrap64 (Int.tdiv (wrap64 (a0_2 + 2147483648)) a0_1)))) + 1))) == 0) = false := beq_eq_false_iff_ne.mpr c13
     have c13b1 : ((IntKind.u64.wrap (wrap64 ((wrap64 ((wrap64 (Int.tdiv (wrap64 (2147483647 - a0_2)) a0_1)) + (wrap64 (Int.tdiv (wrap64 (a0_2 + 2147483648)) a0_1)))) + 1))) != 0) = true := bne_iff_ne.mpr c13
     simp only [Option.some.injEq, Prod.mk.injEq] at H
     obtain ⟨rfl, rfl⟩ := H
     go_enter Tryd.func22, Tryd.ntmps22
     go_wp2_with (first | ((with_reducible refine gate_dst (N := 2) rfl ?_); refine box_event ?hg (N := 2) ?hd (cs := #[.bool false, .int .i64 a0_1, .int .i64 a0_2]) (t := 23) ?hr ?_; (case hd => rfl); (case hg => rfl); (case hr => first | (go_simp; done) | (go_simp; rfl)); intro gb228 hg w14 hbox hb; have n0_ := kW HB hb; have n1_ := Aside0.mk (hbox); have n2_ := Aside0.mk ((by rw [hg]; exact (below_size (bS HB)) : w.heap.size ≤ gb228)); have n3_ := Aside0.mk ((by rw [hg]; exact (below_size (bS HB)) : w.heap.size ≤ gb228)); clear HB; have HB := n0_; have BK228 := n1_; have GW228 := n2_; have GE228 := n3_; clear n0_ n1_ n2_ n3_; clear hb hbox hg; have hcz15_0 := cz0 BK228; have hcz15_1 := cz1 BK228; have hcz15_2 := cz2 BK228; have hfz15_0 := fz BK228 0; have hfz15_1 := fz BK228 1; have hfz15_2 := fz BK228 2))
     go_ret2
     exact ⟨eS, bS HB⟩

def congr_holds.f (a0 : Int) (a1 : Int) (a2 : Int) : Option (Bool) := if a0 = 14 then (some (a1 == a2)) else (if a0 = 15 then (some (a1 != a2)) else (if a0 = 16 then (some (decide (a1 < a2))) else (if a0 = 17 then (some (decide (a1 ≤ a2))) else (if a0 = 18 then (some (decide (a1 > a2))) else (some (decide (a1 ≥ a2)))))))
set_option maxHeartbeats 8000000 in
set_option maxRecDepth 100000 in
theorem congr_holds.calls (a0 : Int) (a1 : Int) (a2 : Int) (r : Bool) (w : World) (h : congr_holds.f a0 a1 a2 = some r) :
  Calls Tryd.prog 67 #[.int .i64 a0, .int .i64 a1, .int .i64 a2] w fun e w' => e = .returned (.bool r) ∧ Drawn0 w w' := by
 have H : (if a0 = 14 then (some (a1 == a2)) else (if a0 = 15 then (some (a1 != a2)) else (if a0 = 16 then (some (decide (a1 < a2))) else (if a0 = 17 then (some (decide (a1 ≤ a2))) else (if a0 = 18 then (some (decide (a1 > a2))) else (some (decide (a1 ≥ a2)))))))) = some r := h
 clear h
 by_cases c4 : a0 = 14
 ·
  rw [if_pos c4] at H
  have c4b0 : (a0 == 14) = true := beq_iff_eq.mpr c4
  have c4b1 : (a0 != 14) = false := bne_eq_false_iff_eq.mpr c4
  clear c4
  obtain rfl := Option.some.inj H
  go_enter Tryd.func67, Tryd.ntmps67
  go_wp2
  go_ret
  exact ⟨by first | rfl | (simp; done) | (simp [*]; done), by repeat (first | exact Drawn0.refl _ | apply Drawn0.step)⟩
 ·
  rw [if_neg c4] at H
  have c4b0 : (a0 == 14) = false := beq_eq_false_iff_ne.mpr c4
  have c4b1 : (a0 != 14) = true := bne_iff_ne.mpr c4
  by_cases c5 : a0 = 15
  ·
   rw [if_pos c5] at H
   have c5b0 : (a0 == 15) = true := beq_iff_eq.mpr c5
   have c5b1 : (a0 != 15) = false := bne_eq_false_iff_eq.mpr c5
   clear c5
   obtain rfl := Option.some.inj H
   go_enter Tryd.func67, Tryd.ntmps67
   go_wp2
   go_ret
   exact ⟨by first | rfl | (simp; done) | (simp [*]; done), by repeat (first | exact Drawn0.refl _ | apply Drawn0.step)⟩
  ·
   rw [if_neg c5] at H
   have c5b0 : (a0 == 15) = false := beq_eq_false_iff_ne.mpr c5
   have c5b1 : (a0 != 15) = true := bne_iff_ne.mpr c5
   by_cases c6 : a0 = 16
   ·
    rw [if_pos c6] at H
    have c6b0 : (a0 == 16) = true := beq_iff_eq.mpr c6
    have c6b1 : (a0 != 16) = false := bne_eq_false_iff_eq.mpr c6
    clear c6
    obtain rfl := Option.some.inj H
    go_enter Tryd.func67, Tryd.ntmps67
    go_wp2
    go_ret
    exact ⟨by first | rfl | (simp; done) | (simp [*]; done), by repeat (first | exact Drawn0.refl _ | apply Drawn0.step)⟩
   ·
    rw [if_neg c6] at H
    have c6b0 : (a0 == 16) = false := beq_eq_false_iff_ne.mpr c6
    have c6b1 : (a0 != 16) = true := bne_iff_ne.mpr c6
    by_cases c7 : a0 = 17
    ·
     rw [if_pos c7] at H
     have c7b0 : (a0 == 17) = true := beq_iff_eq.mpr c7
     have c7b1 : (a0 != 17) = false := bne_eq_false_iff_eq.mpr c7
     clear c7
     obtain rfl := Option.some.inj H
     go_enter Tryd.func67, Tryd.ntmps67
     go_wp2
     go_ret
     exact ⟨by first | rfl | (simp; done) | (simp [*]; done), by repeat (first | exact Drawn0.refl _ | apply Drawn0.step)⟩
    ·
     rw [if_neg c7] at H
     have c7b0 : (a0 == 17) = false := beq_eq_false_iff_ne.mpr c7
     have c7b1 : (a0 != 17) = true := bne_iff_ne.mpr c7
     by_cases c8 : a0 = 18
     ·
      rw [if_pos c8] at H
      have c8b0 : (a0 == 18) = true := beq_iff_eq.mpr c8
      have c8b1 : (a0 != 18) = false := bne_eq_false_iff_eq.mpr c8
      clear c8
      obtain rfl := Option.some.inj H
      go_enter Tryd.func67, Tryd.ntmps67
      go_wp2
      go_ret
      exact ⟨by first | rfl | (simp; done) | (simp [*]; done), by repeat (first | exact Drawn0.refl _ | apply Drawn0.step)⟩
     ·
      rw [if_neg c8] at H
      have c8b0 : (a0 == 18) = false := beq_eq_false_iff_ne.mpr c8
      have c8b1 : (a0 != 18) = true := bne_iff_ne.mpr c8
      obtain rfl := Option.some.inj H
      go_enter Tryd.func67, Tryd.ntmps67
      go_wp2
      go_ret
      exact ⟨by first | rfl | (simp; done) | (simp [*]; done), by repeat (first | exact Drawn0.refl _ | apply Drawn0.step)⟩

mutual
def congr_Test.j0 : Nat → Int → Bool → Bool → Int → Int → Bool → Int → Int → Option (Bool × Int × Int × Bool × Int × Int)
 | 0, _, _, _, _, _, _, _, _ => none
 | k + 1, x0, x9, x231000, x231001, x231002, x232000, x232001, x232002 => if x9 = true then (some (x231000, x231001, x231002, x232000, x232001, x232002)) else (if x231000 = true then (congr_Test.j1 k x0 true x231000 x231001 x231002 x232000 x232001 x232002) else (if x232000 = true then (congr_Test.j1 k x0 true x231000 x231001 x231002 x232000 x232001 x232002) else (if x231001 = 0 then (if x232001 = 0 then ((congr_holds.f x0 x231002 x232002).bind fun t234 => (congr_Test.j1 k x0 (!t234) x231000 x231001 x231002 x232000 x232001 x232002)) else (congr_Test.j1 k x0 false x231000 x231001 x231002 x232000 x232001 x232002)) else (congr_Test.j1 k x0 false x231000 x231001 x231002 x232000 x232001 x232002))))
def congr_Test.j1 : Nat → Int → Bool → Bool → Int → Int → Bool → Int → Int → Option (Bool × Int × Int × Bool × Int × Int)
 | 0, _, _, _, _, _, _, _, _ => none
 | k + 1, x0, x18, x231000, x231001, x231002, x232000, x232001, x232002 => if x18 = true then ((congr_none.f).bind fun bt235 => ((congr_none.f).bind fun bt238 => (some (bt235.1, bt235.2.1, bt235.2.2, bt238.1, bt238.2.1, bt238.2.2)))) else (if x0 = 14 then ((congr_Meet.f k x231000 x231001 x231002 x232000 x232001 x232002).bind fun bt241 => (some (bt241.1, bt241.2.1, bt241.2.2, bt241.1, bt241.2.1, bt241.2.2))) else (some (x231000, x231001, x231002, x232000, x232001, x232002)))
end
def congr_Test.f (k : Nat) (a0 : Int) (a1_0 : Bool) (a1_1 : Int) (a1_2 : Int) (a2_0 : Bool) (a2_1 : Int) (a2_2 : Int) : Option (Bool × Int × Int × Bool × Int × Int) := if a0 < 14 then (congr_Test.j0 k a0 true a1_0 a1_1 a1_2 a2_0 a2_1 a2_2) else (congr_Test.j0 k a0 (decide (a0 > 19)) a1_0 a1_1 a1_2 a2_0 a2_1 a2_2)
set_option maxHeartbeats 8000000 in
set_option maxRecDepth 100000 in
theorem congr_Test.calls (k : Nat) (a0 : Int) (a1_0 : Bool) (a1_1 : Int) (a1_2 : Int) (a2_0 : Bool) (a2_1 : Int) (a2_2 : Int) (r1 : Bool) (r2 : Int) (r3 : Int) (r4 : Bool) (r5 : Int) (r6 : Int) (w : World) (h : congr_Test.f k a0 a1_0 a1_1 a1_2 a2_0 a2_1 a2_2 = some (r1, r2, r3, r4, r5, r6)) :
  Calls Tryd.prog 24 #[.int .i64 a0, .agg #[.bool a1_0, .int .i64 a1_1, .int .i64 a1_2], .agg #[.bool a2_0, .int .i64 a2_1, .int .i64 a2_2]] w fun e w' => e = .returned (.tuple #[.agg #[.bool r1, .int .i64 r2, .int .i64 r3], .agg #[.bool r4, .int .i64 r5, .int .i64 r6]]) ∧ Below w.heap.size w w' := by
 have hu23 := Tryd.underlying23
 have HB := Aside0.mk (Below.refl w.heap.size w)
 have H : (if a0 < 14 then (congr_Test.j0 k a0 true a1_0 a1_1 a1_2 a2_0 a2_1 a2_2) else (congr_Test.j0 k a0 (decide (a0 > 19)) a1_0 a1_1 a1_2 a2_0 a2_1 a2_2)) = some (r1, r2, r3, r4, r5, r6) := h
 clear h
 have HC4 := Aside0.mk H
 clear H
 go_enter Tryd.func24, Tryd.ntmps24
 go_upto_region 1 with (first | ((with_reducible refine gate_dst (N := 4) rfl ?_); refine box_event ?hg (N := 4) ?hd (cs := #[.bool a1_0, .int .i64 a1_1, .int .i64 a1_2]) (t := 23) ?hr ?_; (case hd => rfl); (case hg => rfl); (case hr => first | (go_simp; done) | (go_simp; rfl)); intro gb230 hg w5 hbox hb; have n0_ := kW HB hb; have n1_ := Aside0.mk (hbox); have n2_ := Aside0.mk ((by rw [hg]; exact (below_size (bS HB)) : w.heap.size ≤ gb230)); have n3_ := Aside0.mk ((by rw [hg]; exact (below_size (bS HB)) : w.heap.size ≤ gb230)); clear HB; have HB := n0_; have BK230 := n1_; have GW230 := n2_; have GE230 := n3_; clear n0_ n1_ n2_ n3_; clear hb hbox hg) | ((with_reducible refine gate_dst (N := 5) rfl ?_); refine box_event ?hg (N := 5) ?hd (cs := #[.bool a2_0, .int .i64 a2_1, .int .i64 a2_2]) (t := 23) ?hr ?_; (case hd => rfl); (case hg => rfl); (case hr => first | (go_simp; done) | (go_simp; rfl)); intro gb231 hg w6 hbox hb; have n0_ := kB BK230 hb; have n1_ := kW HB hb; have n2_ := Aside0.mk (hbox); have n3_ := Aside0.mk ((by rw [hg]; exact (below_size (bS HB)) : w.heap.size ≤ gb231)); have n4_ := Aside0.mk ((by rw [hg]; exact (below_size (bS HB)) : w.heap.size ≤ gb231)); have n5_ := Aside0.mk ((by rw [hg]; exact Nat.ne_of_lt (blk_lt (bkS BK230)) : gb230 ≠ gb231)); have n6_ := Aside0.mk ((by rw [hg]; exact Nat.ne_of_gt (blk_lt (bkS BK230)) : gb231 ≠ gb230)); clear BK230; clear HB; have BK230 := n0_; have HB := n1_; have BK231 := n2_; have GW231 := n3_; have GE231 := n4_; have NB230_231 := n5_; have NB231_230 := n6_; clear n0_ n1_ n2_ n3_ n4_ n5_ n6_; clear hb hbox hg) | ((with_reducible refine gate_dst (N := 6) rfl ?_); refine box_event ?hg (N := 6) ?hd (cs := #[.bool false, .int .i64 0, .int .i64 0]) (t := 23) ?hr ?_; (case hd => rfl); (case hg => rfl); (case hr => first | (go_simp; done) | (go_simp; rfl)); intro gb232 hg w7 hbox hb; have n0_ := kB BK230 hb; have n1_ := kB BK231 hb; have n2_ := kW HB hb; have n3_ := Aside0.mk (hbox); have n4_ := Aside0.mk ((by rw [hg]; exact (below_size (bS HB)) : w.heap.size ≤ gb232)); have n5_ := Aside0.mk ((by rw [hg]; exact (below_size (bS HB)) : w.heap.size ≤ gb232)); have n6_ := Aside0.mk ((by rw [hg]; exact Nat.ne_of_lt (blk_lt (bkS BK230)) : gb230 ≠ gb232)); have n7_ := Aside0.mk ((by rw [hg]; exact Nat.ne_of_gt (blk_lt (bkS BK230)) : gb232 ≠ gb230)); have n8_ := Aside0.mk ((by rw [hg]; exact Nat.ne_of_lt (blk_lt (bkS BK231)) : gb231 ≠ gb232)); have n9_ := Aside0.mk ((by rw [hg]; exact Nat.ne_of_gt (blk_lt (bkS BK231)) : gb232 ≠ gb231)); clear BK230; clear BK231; clear HB; have BK230 := n0_; have BK231 := n1_; have HB := n2_; have BK232 := n3_; have GW232 := n4_; have GE232 := n5_; have NB230_232 := n6_; have NB232_230 := n7_; have NB231_232 := n8_; have NB232_231 := n9_; clear n0_ n1_ n2_ n3_ n4_ n5_ n6_ n7_ n8_ n9_; clear hb hbox hg) | ((with_reducible refine gate_dst (N := 7) rfl ?_); refine box_event ?hg (N := 7) ?hd (cs := #[.bool false, .int .i64 0, .int .i64 0]) (t := 23) ?hr ?_; (case hd => rfl); (case hg => rfl); (case hr => first | (go_simp; done) | (go_simp; rfl)); intro gb233 hg w8 hbox hb; have n0_ := kB BK230 hb; have n1_ := kB BK231 hb; have n2_ := kB BK232 hb; have n3_ := kW HB hb; have n4_ := Aside0.mk (hbox); have n5_ := Aside0.mk ((by rw [hg]; exact (below_size (bS HB)) : w.heap.size ≤ gb233)); have n6_ := Aside0.mk ((by rw [hg]; exact (below_size (bS HB)) : w.heap.size ≤ gb233)); have n7_ := Aside0.mk ((by rw [hg]; exact Nat.ne_of_lt (blk_lt (bkS BK230)) : gb230 ≠ gb233)); have n8_ := Aside0.mk ((by rw [hg]; exact Nat.ne_of_gt (blk_lt (bkS BK230)) : gb233 ≠ gb230)); have n9_ := Aside0.mk ((by rw [hg]; exact Nat.ne_of_lt (blk_lt (bkS BK231)) : gb231 ≠ gb233)); have n10_ := Aside0.mk ((by rw [hg]; exact Nat.ne_of_gt (blk_lt (bkS BK231)) : gb233 ≠ gb231)); have n11_ := Aside0.mk ((by rw [hg]; exact Nat.ne_of_lt (blk_lt (bkS BK232)) : gb232 ≠ gb233)); have n12_ := Aside0.mk ((by rw [hg]; exact Nat.ne_of_gt (blk_lt (bkS BK232)) : gb233 ≠ gb232)); clear BK230; clear BK231; clear BK232; clear HB; have BK230 := n0_; have BK231 := n1_; have BK232 := n2_; have HB := n3_; have BK233 := n4_; have GW233 := n5_; have GE233 := n6_; have NB230_233 := n7_; have NB233_230 := n8_; have NB231_233 := n9_; have NB233_231 := n10_; have NB232_233 := n11_; have NB233_232 := n12_; clear n0_ n1_ n2_ n3_ n4_ n5_ n6_ n7_ n8_ n9_ n10_ n11_ n12_; clear hb hbox hg))
 (try simp only [Act.put, lA, lB, lC])
 go_cut [9] (fun v9 wc => ∃ (kq : Nat) (x9_3 : Bool), v9 = .bool x9_3 ∧ Aside0 (congr_Test.j0 kq a0 x9_3 a1_0 a1_1 a1_2 a2_0 a2_1 a2_2 = some (r1, r2, r3, r4, r5, r6)) ∧ Aside0 (kq ≤ k) ∧ Aside0 (wc.heap[gb230]? = some (.cells #[.bool a1_0, .int .i64 a1_1, .int .i64 a1_2] 23 (0, 0))) ∧ Aside0 (wc.heap[gb231]? = some (.cells #[.bool a2_0, .int .i64 a2_1, .int .i64 a2_2] 23 (0, 0))) ∧ Aside0 (wc.heap[gb232]? = some (.cells #[.bool false, .int .i64 0, .int .i64 0] 23 (0, 0))) ∧ Aside0 (wc.heap[gb233]? = some (.cells #[.bool false, .int .i64 0, .int .i64 0] 23 (0, 0))) ∧ Aside0 (Below w.heap.size w wc))
 case first =>
  have H := HC4.out
  clear HC4
  by_cases c9 : a0 < 14
  ·
   rw [if_pos c9] at H
   have c9b0 : decide (a0 < 14) = true := decide_eq_true c9
   clear c9
   (first | rw [c9b0] | (simp only [i64_w, i32_w]; rw [c9b0]) | skip)
   have H' := Aside0.mk H
   clear H
   go_wp2
   go_meet
   case rel => exact ⟨_, (true), (by first | rfl | (simp; done) | (simp [*]; done)), H', ⟨by first | omega | exact Nat.le_refl _⟩, ⟨bkS BK230⟩, ⟨bkS BK231⟩, ⟨bkS BK232⟩, ⟨bkS BK233⟩, ⟨bS HB⟩⟩
  ·
   rw [if_neg c9] at H
   have c9b0 : decide (a0 < 14) = false := decide_eq_false c9
   clear c9
   (first | rw [c9b0] | (simp only [i64_w, i32_w]; rw [c9b0]) | skip)
   have H' := Aside0.mk H
   clear H
   go_wp2
   go_meet
   case rel => exact ⟨_, (decide (a0 > 19)), (by first | rfl | (simp; done) | (simp [*]; done)), H', ⟨by first | omega | exact Nat.le_refl _⟩, ⟨bkS BK230⟩, ⟨bkS BK231⟩, ⟨bkS BK232⟩, ⟨bkS BK233⟩, ⟨bS HB⟩⟩
 case rest =>
  clear HC4
  try clear c2
  try clear p2
  try clear c9
  try clear c9b0
  obtain ⟨kq, x9_3, rfl, HA, HJ3, BK230, BK231, BK232, BK233, HB⟩ := hcut
  cases kq with
  | zero => exact absurd HA.out (by simp [congr_Test.j0])
  | succ kj3 =>
   have H := HA.out
   clear HA
   simp only [congr_Test.j0] at H
   by_cases c10 : x9_3 = true
   ·
    subst c10
    have H1 : (some (a1_0, a1_1, a1_2, a2_0, a2_1, a2_2)) = some (r1, r2, r3, r4, r5, r6) := by rw [if_pos rfl] at H; exact H
    clear H
    have H := H1
    clear H1
    simp only [Option.some.injEq, Prod.mk.injEq] at H
    obtain ⟨rfl, rfl, rfl, rfl, rfl, rfl⟩ := H
    try go_wp2
    replace BK230 := Aside0.mk (blk_drew BK230.out)
    replace BK231 := Aside0.mk (blk_drew BK231.out)
    replace BK232 := Aside0.mk (blk_drew BK232.out)
    replace BK233 := Aside0.mk (blk_drew BK233.out)
    replace HB := Aside0.mk (below_drew1 HB.out)
    refine start_ (n := 4) (S := fun w' => w'.cell? ⟨gb230, 0, none⟩ = some (.bool a1_0) ∧ w'.cell? ⟨gb230, 1, none⟩ = some (.int .i64 a1_1) ∧ w'.cell? ⟨gb230, 2, none⟩ = some (.int .i64 a1_2) ∧ w'.cell? ⟨gb231, 0, none⟩ = some (.bool a2_0) ∧ w'.cell? ⟨gb231, 1, none⟩ = some (.int .i64 a2_1) ∧ w'.cell? ⟨gb231, 2, none⟩ = some (.int .i64 a2_2)) (ds := []) #[false, false, false, false] (by kernel_rfl) rfl rfl ⟨cz0 BK230, cz1 BK230, cz2 BK230, cz0 BK231, cz1 BK231, cz2 BK231⟩ (fun hHeld => ?_)
    generalize wc.drew = w11 at BK230 BK231 BK232 BK233 HB hHeld ⊢
    refine take_ (i := 0) (N := some 16) (v := ?_) (a' := ?_) #[true, false, false, false] rfl rfl (by kernel_rfl) (fun _ _ _ h => h) (Or.inl ⟨by rfl, ?_⟩) hHeld ?_ ?_
    rotate_left
    ·
     rintro w' ⟨s0, s1, s2, s3, s4, s5⟩
     go_simp
     with_reducible rfl
    rotate_left
    ·
     simp only [Act.put, lA, lB, lC, i64_w, i32_w]
     rfl
    refine take_ (i := 1) (N := some 17) (v := ?_) (a' := ?_) #[true, true, false, false] rfl rfl (by kernel_rfl) (fun _ _ _ h => h) (Or.inl ⟨by rfl, ?_⟩) hHeld ?_ ?_
    rotate_left
    ·
     rintro w' ⟨s0, s1, s2, s3, s4, s5⟩
     go_simp
     with_reducible rfl
    rotate_left
    ·
     simp only [Act.put, lA, lB, lC, i64_w, i32_w]
     rfl
    refine one_ (i := 2) (N := none) #[true, true, true, false] rfl rfl (by kernel_rfl) (by decide) (fun K hK => ?_)
    have hs12 : w11.cell? ⟨gb232, 0, none⟩ = some (.bool false) := cz0 BK232
    have hfs12 := fz BK232 0
    have hns12_0 := NB230_232.out
    have hns12_1 := NB231_232.out
    have hns12_3 := NB233_232.out
    have hms12_0 := NB232_230.out
    have hms12_1 := NB232_231.out
    have hms12_3 := NB232_233.out
    have hs13 : w11.cell? ⟨gb232, 1, none⟩ = some (.int .i64 0) := cz1 BK232
    have hfs13 := fz BK232 1
    have hns13_0 := NB230_232.out
    have hns13_1 := NB231_232.out
    have hns13_3 := NB233_232.out
    have hms13_0 := NB232_230.out
    have hms13_1 := NB232_231.out
    have hms13_3 := NB232_233.out
    have hs14 : w11.cell? ⟨gb232, 2, none⟩ = some (.int .i64 0) := cz2 BK232
    have hfs14 := fz BK232 2
    have hns14_0 := NB230_232.out
    have hns14_1 := NB231_232.out
    have hns14_3 := NB233_232.out
    have hms14_0 := NB232_230.out
    have hms14_1 := NB232_231.out
    have hms14_3 := NB232_233.out
    refine skip_ (w1 := ?_) (by rfl) rfl ?_ ?_
    rotate_left
    ·
     go_simp
     rfl
    refine hK.out _ _ ⟨((cell_far (p := ⟨gb232, _, none⟩) NB230_232.out _).trans (((cell_far (p := ⟨gb232, _, none⟩) NB230_232.out _).trans (((cell_far (p := ⟨gb232, _, none⟩) NB230_232.out _).trans (hHeld.1)))))), ((cell_far (p := ⟨gb232, _, none⟩) NB230_232.out _).trans (((cell_far (p := ⟨gb232, _, none⟩) NB230_232.out _).trans (((cell_far (p := ⟨gb232, _, none⟩) NB230_232.out _).trans (hHeld.2.1)))))), ((cell_far (p := ⟨gb232, _, none⟩) NB230_232.out _).trans (((cell_far (p := ⟨gb232, _, none⟩) NB230_232.out _).trans (((cell_far (p := ⟨gb232, _, none⟩) NB230_232.out _).trans (hHeld.2.2.1)))))), ((cell_far (p := ⟨gb232, _, none⟩) NB231_232.out _).trans (((cell_far (p := ⟨gb232, _, none⟩) NB231_232.out _).trans (((cell_far (p := ⟨gb232, _, none⟩) NB231_232.out _).trans (hHeld.2.2.2.1)))))), ((cell_far (p := ⟨gb232, _, none⟩) NB231_232.out _).trans (((cell_far (p := ⟨gb232, _, none⟩) NB231_232.out _).trans (((cell_far (p := ⟨gb232, _, none⟩) NB231_232.out _).trans (hHeld.2.2.2.2.1)))))), ((cell_far (p := ⟨gb232, _, none⟩) NB231_232.out _).trans (((cell_far (p := ⟨gb232, _, none⟩) NB231_232.out _).trans (((cell_far (p := ⟨gb232, _, none⟩) NB231_232.out _).trans (hHeld.2.2.2.2.2))))))⟩ (fun hHeld => ?_)
    clear hK K
    refine one_ (i := 3) (N := none) #[true, true, true, true] rfl rfl (by kernel_rfl) (by decide) (fun K hK => ?_)
    have hs15 : w11.cell? ⟨gb233, 0, none⟩ = some (.bool false) := cz0 BK233
    have hfs15 := fz BK233 0
    have hns15_0 := NB230_233.out
    have hns15_1 := NB231_233.out
    have hns15_2 := NB232_233.out
    have hms15_0 := NB233_230.out
    have hms15_1 := NB233_231.out
    have hms15_2 := NB233_232.out
    have hs16 : w11.cell? ⟨gb233, 1, none⟩ = some (.int .i64 0) := cz1 BK233
    have hfs16 := fz BK233 1
    have hns16_0 := NB230_233.out
    have hns16_1 := NB231_233.out
    have hns16_2 := NB232_233.out
    have hms16_0 := NB233_230.out
    have hms16_1 := NB233_231.out
    have hms16_2 := NB233_232.out
    have hs17 : w11.cell? ⟨gb233, 2, none⟩ = some (.int .i64 0) := cz2 BK233
    have hfs17 := fz BK233 2
    have hns17_0 := NB230_233.out
    have hns17_1 := NB231_233.out
    have hns17_2 := NB232_233.out
    have hms17_0 := NB233_230.out
    have hms17_1 := NB233_231.out
    have hms17_2 := NB233_232.out
    refine skip_ (w1 := ?_) (by rfl) rfl ?_ ?_
    rotate_left
    ·
     go_simp
     rfl
    refine hK.out _ _ ⟨((cell_far (p := ⟨gb233, _, none⟩) NB230_233.out _).trans (((cell_far (p := ⟨gb233, _, none⟩) NB230_233.out _).trans (((cell_far (p := ⟨gb233, _, none⟩) NB230_233.out _).trans (hHeld.1)))))), ((cell_far (p := ⟨gb233, _, none⟩) NB230_233.out _).trans (((cell_far (p := ⟨gb233, _, none⟩) NB230_233.out _).trans (((cell_far (p := ⟨gb233, _, none⟩) NB230_233.out _).trans (hHeld.2.1)))))), ((cell_far (p := ⟨gb233, _, none⟩) NB230_233.out _).trans (((cell_far (p := ⟨gb233, _, none⟩) NB230_233.out _).trans (((cell_far (p := ⟨gb233, _, none⟩) NB230_233.out _).trans (hHeld.2.2.1)))))), ((cell_far (p := ⟨gb233, _, none⟩) NB231_233.out _).trans (((cell_far (p := ⟨gb233, _, none⟩) NB231_233.out _).trans (((cell_far (p := ⟨gb233, _, none⟩) NB231_233.out _).trans (hHeld.2.2.2.1)))))), ((cell_far (p := ⟨gb233, _, none⟩) NB231_233.out _).trans (((cell_far (p := ⟨gb233, _, none⟩) NB231_233.out _).trans (((cell_far (p := ⟨gb233, _, none⟩) NB231_233.out _).trans (hHeld.2.2.2.2.1)))))), ((cell_far (p := ⟨gb233, _, none⟩) NB231_233.out _).trans (((cell_far (p := ⟨gb233, _, none⟩) NB231_233.out _).trans (((cell_far (p := ⟨gb233, _, none⟩) NB231_233.out _).trans (hHeld.2.2.2.2.2))))))⟩ (fun hHeld => ?_)
    clear hK K
    refine done_ (by kernel_rfl) ?_
    try go_wp2
    refine bodyPost_ret (results_cc rfl _ _ gb232 gb233 23 23 #[.bool a1_0, .int .i64 a1_1, .int .i64 a1_2] #[.bool a2_0, .int .i64 a2_1, .int .i64 a2_2] (0, 0) (0, 0) _ _ rfl (by (with_reducible repeat (first | refine b1 ?_ _ | refine b2 ?_ | refine b3 ?_ _)); refine blk_far ?_ NB232_233.out _; (with_reducible repeat (first | refine b1 ?_ _ | refine b2 ?_ | refine b3 ?_ _)); refine blk_far ?_ NB232_233.out _; (with_reducible repeat (first | refine b1 ?_ _ | refine b2 ?_ | refine b3 ?_ _)); refine blk_far ?_ NB232_233.out _; (with_reducible repeat (first | refine b1 ?_ _ | refine b2 ?_ | refine b3 ?_ _)); refine blk_put (cs := #[.bool a1_0, .int .i64 a1_1, .int .i64 0]) ?_ 2 _ rfl; (with_reducible repeat (first | refine b1 ?_ _ | refine b2 ?_ | refine b3 ?_ _)); refine blk_put (cs := #[.bool a1_0, .int .i64 0, .int .i64 0]) ?_ 1 _ rfl; (with_reducible repeat (first | refine b1 ?_ _ | refine b2 ?_ | refine b3 ?_ _)); refine blk_put (cs := #[.bool false, .int .i64 0, .int .i64 0]) ?_ 0 _ rfl; (with_reducible repeat (first | refine b1 ?_ _ | refine b2 ?_ | refine b3 ?_ _)); exact BK232.out) Tryd.underlying23 rfl (by kernel_rfl) rfl (by (with_reducible repeat (first | refine b1 ?_ _ | refine b2 ?_ | refine b3 ?_ _)); refine blk_put (cs := #[.bool a2_0, .int .i64 a2_1, .int .i64 0]) ?_ 2 _ rfl; (with_reducible repeat (first | refine b1 ?_ _ | refine b2 ?_ | refine b3 ?_ _)); refine blk_put (cs := #[.bool a2_0, .int .i64 0, .int .i64 0]) ?_ 1 _ rfl; (with_reducible repeat (first | refine b1 ?_ _ | refine b2 ?_ | refine b3 ?_ _)); refine blk_put (cs := #[.bool false, .int .i64 0, .int .i64 0]) ?_ 0 _ rfl; (with_reducible repeat (first | refine b1 ?_ _ | refine b2 ?_ | refine b3 ?_ _)); refine blk_far ?_ NB233_232.out _; (with_reducible repeat (first | refine b1 ?_ _ | refine b2 ?_ | refine b3 ?_ _)); refine blk_far ?_ NB233_232.out _; (with_reducible repeat (first | refine b1 ?_ _ | refine b2 ?_ | refine b3 ?_ _)); refine blk_far ?_ NB233_232.out _; (with_reducible repeat (first | refine b1 ?_ _ | refine b2 ?_ | refine b3 ?_ _)); exact BK233.out) Tryd.underlying23 rfl (by kernel_rfl)) rfl ?_
    exact ⟨eS, bS HB⟩
   ·
    replace c10 := Bool.eq_false_iff.mpr c10
    subst c10
    have H1 : (if a1_0 = true then (congr_Test.j1 kj3 a0 true a1_0 a1_1 a1_2 a2_0 a2_1 a2_2) else (if a2_0 = true then (congr_Test.j1 kj3 a0 true a1_0 a1_1 a1_2 a2_0 a2_1 a2_2) else (if a1_1 = 0 then (if a2_1 = 0 then ((congr_holds.f a0 a1_2 a2_2).bind fun t234 => (congr_Test.j1 kj3 a0 (!t234) a1_0 a1_1 a1_2 a2_0 a2_1 a2_2)) else (congr_Test.j1 kj3 a0 false a1_0 a1_1 a1_2 a2_0 a2_1 a2_2)) else (congr_Test.j1 kj3 a0 false a1_0 a1_1 a1_2 a2_0 a2_1 a2_2)))) = some (r1, r2, r3, r4, r5, r6) := by rw [if_neg (show ¬ (false = true) by decide)] at H; exact H
    clear H
    have H := H1
    clear H1
    have HC18 := Aside0.mk H
    clear H
    go_upto_region 3 with (fail)
    go_cut [18] (fun v18 wc => ∃ (kq : Nat) (x18_17 : Bool), v18 = .bool x18_17 ∧ Aside0 (congr_Test.j1 kq a0 x18_17 a1_0 a1_1 a1_2 a2_0 a2_1 a2_2 = some (r1, r2, r3, r4, r5, r6)) ∧ Aside0 (kq ≤ kj3) ∧ Aside0 (wc.heap[gb230]? = some (.cells #[.bool a1_0, .int .i64 a1_1, .int .i64 a1_2] 23 (0, 0))) ∧ Aside0 (wc.heap[gb231]? = some (.cells #[.bool a2_0, .int .i64 a2_1, .int .i64 a2_2] 23 (0, 0))) ∧ Aside0 (wc.heap[gb232]? = some (.cells #[.bool false, .int .i64 0, .int .i64 0] 23 (0, 0))) ∧ Aside0 (wc.heap[gb233]? = some (.cells #[.bool false, .int .i64 0, .int .i64 0] 23 (0, 0))) ∧ Aside0 (Below w.heap.size w wc))
    case first =>
     have H := HC18.out
     clear HC18
     by_cases c19 : a1_0 = true
     ·
      subst c19
      have H1 : (congr_Test.j1 kj3 a0 true true a1_1 a1_2 a2_0 a2_1 a2_2) = some (r1, r2, r3, r4, r5, r6) := by rw [if_pos rfl] at H; exact H
      clear H
      have H := H1
      clear H1
      have H' := Aside0.mk H
      clear H
      have hnb20 := NB230_231.out
      have hnc20 := NB231_230.out
      have hnb21 := NB230_232.out
      have hnc21 := NB232_230.out
      have hnb22 := NB230_233.out
      have hnc22 := NB233_230.out
      have hcz23_0 : wc.cell? ⟨gb230, 0, none⟩ = some (.bool true) := cz0 BK230
      have hcz23_1 : wc.cell? ⟨gb230, 1, none⟩ = some (.int .i64 a1_1) := cz1 BK230
      have hcz23_2 : wc.cell? ⟨gb230, 2, none⟩ = some (.int .i64 a1_2) := cz2 BK230
      have hfz23_0 := fz BK230 0
      have hfz23_1 := fz BK230 1
      have hfz23_2 := fz BK230 2
      go_wp2
      go_meet
      case rel => exact ⟨_, (true), (by first | rfl | (simp; done) | (simp [*]; done)), H', ⟨by have := HJ3.out; first | omega | exact Nat.le_refl _⟩, ⟨bkS BK230⟩, ⟨bkS BK231⟩, ⟨bkS BK232⟩, ⟨bkS BK233⟩, ⟨bS HB⟩⟩
     ·
      replace c19 := Bool.eq_false_iff.mpr c19
      subst c19
      have H1 : (if a2_0 = true then (congr_Test.j1 kj3 a0 true false a1_1 a1_2 a2_0 a2_1 a2_2) else (if a1_1 = 0 then (if a2_1 = 0 then ((congr_holds.f a0 a1_2 a2_2).bind fun t234 => (congr_Test.j1 kj3 a0 (!t234) false a1_1 a1_2 a2_0 a2_1 a2_2)) else (congr_Test.j1 kj3 a0 false false a1_1 a1_2 a2_0 a2_1 a2_2)) else (congr_Test.j1 kj3 a0 false false a1_1 a1_2 a2_0 a2_1 a2_2))) = some (r1, r2, r3, r4, r5, r6) := by rw [if_neg (show ¬ (false = true) by decide)] at H; exact H
      clear H
      have H := H1
      clear H1
      by_cases c24 : a2_0 = true
      ·
       subst c24
       have H1 : (congr_Test.j1 kj3 a0 true false a1_1 a1_2 true a2_1 a2_2) = some (r1, r2, r3, r4, r5, r6) := by rw [if_pos rfl] at H; exact H
       clear H
       have H := H1
       clear H1
       have H' := Aside0.mk H
       clear H
       have hnb25 := NB230_231.out
       have hnc25 := NB231_230.out
       have hnb26 := NB230_232.out
       have hnc26 := NB232_230.out
       have hnb27 := NB230_233.out
       have hnc27 := NB233_230.out
       have hcz28_0 : wc.cell? ⟨gb230, 0, none⟩ = some (.bool false) := cz0 BK230
       have hcz28_1 : wc.cell? ⟨gb230, 1, none⟩ = some (.int .i64 a1_1) := cz1 BK230
       have hcz28_2 : wc.cell? ⟨gb230, 2, none⟩ = some (.int .i64 a1_2) := cz2 BK230
       have hfz28_0 := fz BK230 0
       have hfz28_1 := fz BK230 1
       have hfz28_2 := fz BK230 2
       have hnb29 := NB231_232.out
       have hnc29 := NB232_231.out
       have hnb30 := NB231_233.out
       have hnc30 := NB233_231.out
       have hcz31_0 : wc.cell? ⟨gb231, 0, none⟩ = some (.bool true) := cz0 BK231
       have hcz31_1 : wc.cell? ⟨gb231, 1, none⟩ = some (.int .i64 a2_1) := cz1 BK231
       have hcz31_2 : wc.cell? ⟨gb231, 2, none⟩ = some (.int .i64 a2_2) := cz2 BK231
       have hfz31_0 := fz BK231 0
       have hfz31_1 := fz BK231 1
       have hfz31_2 := fz BK231 2
       go_wp2
       go_meet
       case rel => exact ⟨_, (true), (by first | rfl | (simp; done) | (simp [*]; done)), H', ⟨by have := HJ3.out; first | omega | exact Nat.le_refl _⟩, ⟨bkS BK230⟩, ⟨bkS BK231⟩, ⟨bkS BK232⟩, ⟨bkS BK233⟩, ⟨bS HB⟩⟩
      ·
       replace c24 := Bool.eq_false_iff.mpr c24
       subst c24
       have H1 : (if a1_1 = 0 then (if a2_1 = 0 then ((congr_holds.f a0 a1_2 a2_2).bind fun t234 => (congr_Test.j1 kj3 a0 (!t234) false a1_1 a1_2 false a2_1 a2_2)) else (congr_Test.j1 kj3 a0 false false a1_1 a1_2 false a2_1 a2_2)) else (congr_Test.j1 kj3 a0 false false a1_1 a1_2 false a2_1 a2_2)) = some (r1, r2, r3, r4, r5, r6) := by rw [if_neg (show ¬ (false = true) by decide)] at H; exact H
       clear H
       have H := H1
       clear H1
       by_cases c32 : a1_1 = 0
       ·
        rw [if_pos c32] at H
        have c32b0 : (a1_1 == 0) = true := beq_iff_eq.mpr c32
        have c32b1 : (a1_1 != 0) = false := bne_eq_false_iff_eq.mpr c32
        clear c32
        (first | rw [c32b0] | (simp only [i64_w, i32_w]; rw [c32b0]) | skip)
        by_cases c33 : a2_1 = 0
        ·
         rw [if_pos c33] at H
         have c33b0 : (a2_1 == 0) = true := beq_iff_eq.mpr c33
         have c33b1 : (a2_1 != 0) = false := bne_eq_false_iff_eq.mpr c33
         clear c33
         replace H := Option.bind_eq_some_iff.mp H
         obtain ⟨t234, A340, H⟩ := H
         replace H : (congr_Test.j1 kj3 a0 (!t234) false a1_1 a1_2 false a2_1 a2_2) = some (r1, r2, r3, r4, r5, r6) := H
         have A34 := Aside0.mk A340
         clear A340
         have H' := Aside0.mk H
         clear H
         have hnb35 := NB230_231.out
         have hnc35 := NB231_230.out
         have hnb36 := NB230_232.out
         have hnc36 := NB232_230.out
         have hnb37 := NB230_233.out
         have hnc37 := NB233_230.out
         have hcz38_0 : wc.cell? ⟨gb230, 0, none⟩ = some (.bool false) := cz0 BK230
         have hcz38_1 : wc.cell? ⟨gb230, 1, none⟩ = some (.int .i64 a1_1) := cz1 BK230
         have hcz38_2 : wc.cell? ⟨gb230, 2, none⟩ = some (.int .i64 a1_2) := cz2 BK230
         have hfz38_0 := fz BK230 0
         have hfz38_1 := fz BK230 1
         have hfz38_2 := fz BK230 2
         have hnb39 := NB231_232.out
         have hnc39 := NB232_231.out
         have hnb40 := NB231_233.out
         have hnc40 := NB233_231.out
         have hcz41_0 : wc.cell? ⟨gb231, 0, none⟩ = some (.bool false) := cz0 BK231
         have hcz41_1 : wc.cell? ⟨gb231, 1, none⟩ = some (.int .i64 a2_1) := cz1 BK231
         have hcz41_2 : wc.cell? ⟨gb231, 2, none⟩ = some (.int .i64 a2_2) := cz2 BK231
         have hfz41_0 := fz BK231 0
         have hfz41_1 := fz BK231 1
         have hfz41_2 := fz BK231 2
         go_wp2_with (first | (go_at_call 67; (with_reducible refine (congr_holds.calls a0 a1_2 a2_2 t234 _ A34.out).mono ?_); rintro e w' ⟨rfl, ⟨nd, rfl⟩⟩))
         go_meet
         case rel => exact ⟨_, (!t234), (by first | rfl | (simp; done) | (simp [*]; done)), H', ⟨by have := HJ3.out; first | omega | exact Nat.le_refl _⟩, ⟨bkS BK230⟩, ⟨bkS BK231⟩, ⟨bkS BK232⟩, ⟨bkS BK233⟩, ⟨bS HB⟩⟩
        ·
         rw [if_neg c33] at H
         have c33b0 : (a2_1 == 0) = false := beq_eq_false_iff_ne.mpr c33
         have c33b1 : (a2_1 != 0) = true := bne_iff_ne.mpr c33
         have H' := Aside0.mk H
         clear H
         have hnb42 := NB230_231.out
         have hnc42 := NB231_230.out
         have hnb43 := NB230_232.out
         have hnc43 := NB232_230.out
         have hnb44 := NB230_233.out
         have hnc44 := NB233_230.out
         have hcz45_0 : wc.cell? ⟨gb230, 0, none⟩ = some (.bool false) := cz0 BK230
         have hcz45_1 : wc.cell? ⟨gb230, 1, none⟩ = some (.int .i64 a1_1) := cz1 BK230
         have hcz45_2 : wc.cell? ⟨gb230, 2, none⟩ = some (.int .i64 a1_2) := cz2 BK230
         have hfz45_0 := fz BK230 0
         have hfz45_1 := fz BK230 1
         have hfz45_2 := fz BK230 2
         have hnb46 := NB231_232.out
         have hnc46 := NB232_231.out
         have hnb47 := NB231_233.out
         have hnc47 := NB233_231.out
         have hcz48_0 : wc.cell? ⟨gb231, 0, none⟩ = some (.bool false) := cz0 BK231
         have hcz48_1 : wc.cell? ⟨gb231, 1, none⟩ = some (.int .i64 a2_1) := cz1 BK231
         have hcz48_2 : wc.cell? ⟨gb231, 2, none⟩ = some (.int .i64 a2_2) := cz2 BK231
         have hfz48_0 := fz BK231 0
         have hfz48_1 := fz BK231 1
         have hfz48_2 := fz BK231 2
         go_wp2
         go_meet
         case rel => exact ⟨_, (false), (by first | rfl | (simp; done) | (simp [*]; done)), H', ⟨by have := HJ3.out; first | omega | exact Nat.le_refl _⟩, ⟨bkS BK230⟩, ⟨bkS BK231⟩, ⟨bkS BK232⟩, ⟨bkS BK233⟩, ⟨bS HB⟩⟩
       ·
        rw [if_neg c32] at H
        have c32b0 : (a1_1 == 0) = false := beq_eq_false_iff_ne.mpr c32
        have c32b1 : (a1_1 != 0) = true := bne_iff_ne.mpr c32
        (first | rw [c32b0] | (simp only [i64_w, i32_w]; rw [c32b0]) | skip)
        have H' := Aside0.mk H
        clear H
        have hnb49 := NB230_231.out
        have hnc49 := NB231_230.out
        have hnb50 := NB230_232.out
        have hnc50 := NB232_230.out
        have hnb51 := NB230_233.out
        have hnc51 := NB233_230.out
        have hcz52_0 : wc.cell? ⟨gb230, 0, none⟩ = some (.bool false) := cz0 BK230
        have hcz52_1 : wc.cell? ⟨gb230, 1, none⟩ = some (.int .i64 a1_1) := cz1 BK230
        have hcz52_2 : wc.cell? ⟨gb230, 2, none⟩ = some (.int .i64 a1_2) := cz2 BK230
        have hfz52_0 := fz BK230 0
        have hfz52_1 := fz BK230 1
        have hfz52_2 := fz BK230 2
        have hnb53 := NB231_232.out
        have hnc53 := NB232_231.out
        have hnb54 := NB231_233.out
        have hnc54 := NB233_231.out
        have hcz55_0 : wc.cell? ⟨gb231, 0, none⟩ = some (.bool false) := cz0 BK231
        have hcz55_1 : wc.cell? ⟨gb231, 1, none⟩ = some (.int .i64 a2_1) := cz1 BK231
        have hcz55_2 : wc.cell? ⟨gb231, 2, none⟩ = some (.int .i64 a2_2) := cz2 BK231
        have hfz55_0 := fz BK231 0
        have hfz55_1 := fz BK231 1
        have hfz55_2 := fz BK231 2
        go_wp2
        go_meet
        case rel => exact ⟨_, (false), (by first | rfl | (simp; done) | (simp [*]; done)), H', ⟨by have := HJ3.out; first | omega | exact Nat.le_refl _⟩, ⟨bkS BK230⟩, ⟨bkS BK231⟩, ⟨bkS BK232⟩, ⟨bkS BK233⟩, ⟨bS HB⟩⟩
    case rest =>
     clear HC18
     try clear c1
     try clear c2
     try clear p2
     try clear c3
     try clear c4
     try clear c5
     try clear c9
     try clear c9b0
     try clear c10
     try clear c19
     try clear c20
     try clear c21
     try clear c22
     try clear c24
     try clear c25
     try clear c26
     try clear c27
     try clear c29
     try clear c30
     try clear c32
     try clear c32b0
     try clear c32b1
     try clear c33
     try clear c33b0
     try clear c33b1
     try clear c35
     try clear c36
     try clear c37
     try clear c39
     try clear c40
     try clear c42
     try clear c43
     try clear c44
     try clear c46
     try clear c47
     try clear c49
     try clear c50
     try clear c51
     try clear c53
     try clear c54
     try clear hcz23_0
     try clear hcz23_1
     try clear hcz23_2
     try clear hcz28_0
     try clear hcz28_1
     try clear hcz28_2
     try clear hcz31_0
     try clear hcz31_1
     try clear hcz31_2
     try clear hcz38_0
     try clear hcz38_1
     try clear hcz38_2
     try clear hcz41_0
     try clear hcz41_1
     try clear hcz41_2
     try clear hcz45_0
     try clear hcz45_1
     try clear hcz45_2
     try clear hcz48_0
     try clear hcz48_1
     try clear hcz48_2
     try clear hcz52_0
     try clear hcz52_1
     try clear hcz52_2
     try clear hcz55_0
     try clear hcz55_1
     try clear hcz55_2
     try clear hfz23_0
     try clear hfz23_1
     try clear hfz23_2
     try clear hfz28_0
     try clear hfz28_1
     try clear hfz28_2
     try clear hfz31_0
     try clear hfz31_1
     try clear hfz31_2
     try clear hfz38_0
     try clear hfz38_1
     try clear hfz38_2
     try clear hfz41_0
     try clear hfz41_1
     try clear hfz41_2
     try clear hfz45_0
     try clear hfz45_1
     try clear hfz45_2
     try clear hfz48_0
     try clear hfz48_1
     try clear hfz48_2
     try clear hfz52_0
     try clear hfz52_1
     try clear hfz52_2
     try clear hfz55_0
     try clear hfz55_1
     try clear hfz55_2
     try clear p2
     obtain ⟨kq, x18_17, rfl, HA, HJ17, BK230, BK231, BK232, BK233, HB⟩ := hcut
     cases kq with
     | zero => exact absurd HA.out (by simp [congr_Test.j1])
     | succ kj17 =>
      have H := HA.out
      clear HA
      simp only [congr_Test.j1] at H
      by_cases c56 : x18_17 = true
      ·
       subst c56
       have H1 : ((congr_none.f).bind fun bt235 => ((congr_none.f).bind fun bt238 => (some (bt235.1, bt235.2.1, bt235.2.2, bt238.1, bt238.2.1, bt238.2.2)))) = some (r1, r2, r3, r4, r5, r6) := by rw [if_pos rfl] at H; exact H
       clear H
       have H := H1
       clear H1
       replace H := Option.bind_eq_some_iff.mp H
       obtain ⟨⟨t235, t236, t237⟩, A570, H⟩ := H
       replace H : ((congr_none.f).bind fun bt238 => (some (t235, t236, t237, bt238.1, bt238.2.1, bt238.2.2))) = some (r1, r2, r3, r4, r5, r6) := H
       have A57 := Aside0.mk A570
       clear A570
       replace H := Option.bind_eq_some_iff.mp H
       obtain ⟨⟨t238, t239, t240⟩, A580, H⟩ := H
       replace H : (some (t235, t236, t237, t238, t239, t240)) = some (r1, r2, r3, r4, r5, r6) := H
       have A58 := Aside0.mk A580
       clear A580
       simp only [Option.some.injEq, Prod.mk.injEq] at H
       obtain ⟨rfl, rfl, rfl, rfl, rfl, rfl⟩ := H
       go_wp2_with (first | ((with_reducible refine gate_callee (f := 56) rfl ?_); refine goesL_ (some 44) rfl rfl Tryd.func56 (by kernel_rfl) rfl #[] rfl mS ?_; (with_reducible refine (congr_none.calls  t235 t236 t237 _ A57.out).mono ?_); rintro e w59 ⟨rfl, hb⟩; refine ⟨_, rfl, ?_⟩; replace BK230 := kB BK230 hb; replace BK231 := kB BK231 hb; replace BK232 := kB BK232 hb; replace BK233 := kB BK233 hb; replace HB := kW HB hb; (try clear hb); (try clear hb2); (try clear hk); (try clear hi)) | ((with_reducible refine gate_callee (f := 56) rfl ?_); refine goesL_ (some 45) rfl rfl Tryd.func56 (by kernel_rfl) rfl #[] rfl mS ?_; (with_reducible refine (congr_none.calls  t238 t239 t240 _ A58.out).mono ?_); rintro e w60 ⟨rfl, hb⟩; refine ⟨_, rfl, ?_⟩; replace BK230 := kB BK230 hb; replace BK231 := kB BK231 hb; replace BK232 := kB BK232 hb; replace BK233 := kB BK233 hb; replace HB := kW HB hb; (try clear hb); (try clear hb2); (try clear hk); (try clear hi); have hnb61 := NB232_230.out; have hnc61 := NB230_232.out; have hnb62 := NB232_231.out; have hnc62 := NB231_232.out; have hnb63 := NB232_233.out; have hnc63 := NB233_232.out; have hcz64_0 := cz0 BK232; have hcz64_1 := cz1 BK232; have hcz64_2 := cz2 BK232; have hfz64_0 := fz BK232 0; have hfz64_1 := fz BK232 1; have hfz64_2 := fz BK232 2; have hnb65 := NB233_230.out; have hnc65 := NB230_233.out; have hnb66 := NB233_231.out; have hnc66 := NB231_233.out; have hcz67_0 := cz0 BK233; have hcz67_1 := cz1 BK233; have hcz67_2 := cz2 BK233; have hfz67_0 := fz BK233 0; have hfz67_1 := fz BK233 1; have hfz67_2 := fz BK233 2))
       refine bodyPost_ret (results_cc rfl _ _ gb232 gb233 23 23 #[.bool t235, .int .i64 t236, .int .i64 t237] #[.bool t238, .int .i64 t239, .int .i64 t240] (0, 0) (0, 0) _ _ rfl (by (with_reducible repeat (first | refine b1 ?_ _ | refine b2 ?_ | refine b3 ?_ _)); refine blk_far ?_ NB232_233.out _; (with_reducible repeat (first | refine b1 ?_ _ | refine b2 ?_ | refine b3 ?_ _)); refine blk_far ?_ NB232_233.out _; (with_reducible repeat (first | refine b1 ?_ _ | refine b2 ?_ | refine b3 ?_ _)); refine blk_far ?_ NB232_233.out _; (with_reducible repeat (first | refine b1 ?_ _ | refine b2 ?_ | refine b3 ?_ _)); refine blk_put (cs := #[.bool t235, .int .i64 t236, .int .i64 0]) ?_ 2 _ rfl; (with_reducible repeat (first | refine b1 ?_ _ | refine b2 ?_ | refine b3 ?_ _)); refine blk_put (cs := #[.bool t235, .int .i64 0, .int .i64 0]) ?_ 1 _ rfl; (with_reducible repeat (first | refine b1 ?_ _ | refine b2 ?_ | refine b3 ?_ _)); refine blk_put (cs := #[.bool false, .int .i64 0, .int .i64 0]) ?_ 0 _ rfl; (with_reducible repeat (first | refine b1 ?_ _ | refine b2 ?_ | refine b3 ?_ _)); exact BK232.out) Tryd.underlying23 rfl (by kernel_rfl) rfl (by (with_reducible repeat (first | refine b1 ?_ _ | refine b2 ?_ | refine b3 ?_ _)); refine blk_put (cs := #[.bool t238, .int .i64 t239, .int .i64 0]) ?_ 2 _ rfl; (with_reducible repeat (first | refine b1 ?_ _ | refine b2 ?_ | refine b3 ?_ _)); refine blk_put (cs := #[.bool t238, .int .i64 0, .int .i64 0]) ?_ 1 _ rfl; (with_reducible repeat (first | refine b1 ?_ _ | refine b2 ?_ | refine b3 ?_ _)); refine blk_put (cs := #[.bool false, .int .i64 0, .int .i64 0]) ?_ 0 _ rfl; (with_reducible repeat (first | refine b1 ?_ _ | refine b2 ?_ | refine b3 ?_ _)); refine blk_far ?_ NB233_232.out _; (with_reducible repeat (first | refine b1 ?_ _ | refine b2 ?_ | refine b3 ?_ _)); refine blk_far ?_ NB233_232.out _; (with_reducible repeat (first | refine b1 ?_ _ | refine b2 ?_ | refine b3 ?_ _)); refine blk_far ?_ NB233_232.out _; (with_reducible repeat (first | refine b1 ?_ _ | refine b2 ?_ | refine b3 ?_ _)); exact BK233.out) Tryd.underlying23 rfl (by kernel_rfl)) rfl ?_
       exact ⟨eS, bS HB⟩
      ·
       replace c56 := Bool.eq_false_iff.mpr c56
       subst c56
       have H1 : (if a0 = 14 then ((congr_Meet.f kj17 a1_0 a1_1 a1_2 a2_0 a2_1 a2_2).bind fun bt241 => (some (bt241.1, bt241.2.1, bt241.2.2, bt241.1, bt241.2.1, bt241.2.2))) else (some (a1_0, a1_1, a1_2, a2_0, a2_1, a2_2))) = some (r1, r2, r3, r4, r5, r6) := by rw [if_neg (show ¬ (false = true) by decide)] at H; exact H
       clear H
       have H := H1
       clear H1
       by_cases c68 : a0 = 14
       ·
        rw [if_pos c68] at H
        have c68b0 : (a0 == 14) = true := beq_iff_eq.mpr c68
        have c68b1 : (a0 != 14) = false := bne_eq_false_iff_eq.mpr c68
        clear c68
        replace H := Option.bind_eq_some_iff.mp H
        obtain ⟨⟨t241, t242, t243⟩, A690, H⟩ := H
        replace H : (some (t241, t242, t243, t241, t242, t243)) = some (r1, r2, r3, r4, r5, r6) := H
        have A69 := Aside0.mk A690
        clear A690
        simp only [Option.some.injEq, Prod.mk.injEq] at H
        obtain ⟨rfl, rfl, rfl, rfl, rfl, rfl⟩ := H
        have hnb70 := NB230_231.out
        have hnc70 := NB231_230.out
        have hnb71 := NB230_232.out
        have hnc71 := NB232_230.out
        have hnb72 := NB230_233.out
        have hnc72 := NB233_230.out
        have hcz73_0 : wc.cell? ⟨gb230, 0, none⟩ = some (.bool a1_0) := cz0 BK230
        have hcz73_1 : wc.cell? ⟨gb230, 1, none⟩ = some (.int .i64 a1_1) := cz1 BK230
        have hcz73_2 : wc.cell? ⟨gb230, 2, none⟩ = some (.int .i64 a1_2) := cz2 BK230
        have hfz73_0 := fz BK230 0
        have hfz73_1 := fz BK230 1
        have hfz73_2 := fz BK230 2
        have hnb74 := NB231_232.out
        have hnc74 := NB232_231.out
        have hnb75 := NB231_233.out
        have hnc75 := NB233_231.out
        have hcz76_0 : wc.cell? ⟨gb231, 0, none⟩ = some (.bool a2_0) := cz0 BK231
        have hcz76_1 : wc.cell? ⟨gb231, 1, none⟩ = some (.int .i64 a2_1) := cz1 BK231
        have hcz76_2 : wc.cell? ⟨gb231, 2, none⟩ = some (.int .i64 a2_2) := cz2 BK231
        have hfz76_0 := fz BK231 0
        have hfz76_1 := fz BK231 1
        have hfz76_2 := fz BK231 2
        try go_wp2_with (first | ((with_reducible refine gate_callee (f := 20) rfl ?_); refine goesL_ (some 51) rfl rfl Tryd.func20 (by kernel_rfl) rfl #[.agg #[.bool a1_0, .int .i64 a1_1, .int .i64 a1_2], .agg #[.bool a2_0, .int .i64 a2_1, .int .i64 a2_2]] rfl mS ?_; (with_reducible refine (congr_Meet.calls kj17 a1_0 a1_1 a1_2 a2_0 a2_1 a2_2 t241 t242 t243 _ A69.out).mono ?_); rintro e w77 ⟨rfl, hb⟩; refine ⟨_, rfl, ?_⟩; replace BK230 := kB BK230 hb; replace BK231 := kB BK231 hb; replace BK232 := kB BK232 hb; replace BK233 := kB BK233 hb; replace HB := kW HB hb; (try clear hb); (try clear hb2); (try clear hk); (try clear hi)) | ((with_reducible refine gate_dst (N := 8) rfl ?_); refine box_event ?hg (N := 8) ?hd (cs := #[.bool false, .int .i64 0, .int .i64 0]) (t := 23) ?hr ?_; (case hd => rfl); (case hg => rfl); (case hr => first | (go_simp; done) | (go_simp; rfl)); intro gb244 hg w78 hbox hb; have n0_ := kB BK230 hb; have n1_ := kB BK231 hb; have n2_ := kB BK232 hb; have n3_ := kB BK233 hb; have n4_ := kW HB hb; have n5_ := Aside0.mk (hbox); have n6_ := Aside0.mk ((by rw [hg]; exact (below_size (bS HB)) : w.heap.size ≤ gb244)); have n7_ := Aside0.mk ((by rw [hg]; exact (below_size (bS HB)) : w.heap.size ≤ gb244)); have n8_ := Aside0.mk ((by rw [hg]; exact Nat.ne_of_lt (blk_lt (bkS BK230)) : gb230 ≠ gb244)); have n9_ := Aside0.mk ((by rw [hg]; exact Nat.ne_of_gt (blk_lt (bkS BK230)) : gb244 ≠ gb230)); have n10_ := Aside0.mk ((by rw [hg]; exact Nat.ne_of_lt (blk_lt (bkS BK231)) : gb231 ≠ gb244)); have n11_ := Aside0.mk ((by rw [hg]; exact Nat.ne_of_gt (blk_lt (bkS BK231)) : gb244 ≠ gb231)); have n12_ := Aside0.mk ((by rw [hg]; exact Nat.ne_of_lt (blk_lt (bkS BK232)) : gb232 ≠ gb244)); have n13_ := Aside0.mk ((by rw [hg]; exact Nat.ne_of_gt (blk_lt (bkS BK232)) : gb244 ≠ gb232)); have n14_ := Aside0.mk ((by rw [hg]; exact Nat.ne_of_lt (blk_lt (bkS BK233)) : gb233 ≠ gb244)); have n15_ := Aside0.mk ((by rw [hg]; exact Nat.ne_of_gt (blk_lt (bkS BK233)) : gb244 ≠ gb233)); clear BK230; clear BK231; clear BK232; clear BK233; clear HB; have BK230 := n0_; have BK231 := n1_; have BK232 := n2_; have BK233 := n3_; have HB := n4_; have BK244 := n5_; have GW244 := n6_; have GE244 := n7_; have NB230_244 := n8_; have NB244_230 := n9_; have NB231_244 := n10_; have NB244_231 := n11_; have NB232_244 := n12_; have NB244_232 := n13_; have NB233_244 := n14_; have NB244_233 := n15_; clear n0_ n1_ n2_ n3_ n4_ n5_ n6_ n7_ n8_ n9_ n10_ n11_ n12_ n13_ n14_ n15_; clear hb hbox hg; have hnb79 := NB244_230.out; have hnc79 := NB230_244.out; have hnb80 := NB244_231.out; have hnc80 := NB231_244.out; have hnb81 := NB244_232.out; have hnc81 := NB232_244.out; have hnb82 := NB244_233.out; have hnc82 := NB233_244.out; have hcz83_0 := cz0 BK244; have hcz83_1 := cz1 BK244; have hcz83_2 := cz2 BK244; have hfz83_0 := fz BK244 0; have hfz83_1 := fz BK244 1; have hfz83_2 := fz BK244 2))
        have n0_ : Aside0 ((((w78.setCell ⟨gb244, 0, none⟩ (.bool t241)).setCell ⟨gb244, 1, none⟩ (.int .i64 t242)).setCell ⟨gb244, 2, none⟩ (.int .i64 t243)).heap[gb230]? = some (.cells #[.bool a1_0, .int .i64 a1_1, .int .i64 a1_2] 23 (0, 0))) := ⟨bkS BK230⟩
        have n1_ : Aside0 ((((w78.setCell ⟨gb244, 0, none⟩ (.bool t241)).setCell ⟨gb244, 1, none⟩ (.int .i64 t242)).setCell ⟨gb244, 2, none⟩ (.int .i64 t243)).heap[gb231]? = some (.cells #[.bool a2_0, .int .i64 a2_1, .int .i64 a2_2] 23 (0, 0))) := ⟨bkS BK231⟩
        have n2_ : Aside0 ((((w78.setCell ⟨gb244, 0, none⟩ (.bool t241)).setCell ⟨gb244, 1, none⟩ (.int .i64 t242)).setCell ⟨gb244, 2, none⟩ (.int .i64 t243)).heap[gb232]? = some (.cells #[.bool false, .int .i64 0, .int .i64 0] 23 (0, 0))) := ⟨bkS BK232⟩
        have n3_ : Aside0 ((((w78.setCell ⟨gb244, 0, none⟩ (.bool t241)).setCell ⟨gb244, 1, none⟩ (.int .i64 t242)).setCell ⟨gb244, 2, none⟩ (.int .i64 t243)).heap[gb233]? = some (.cells #[.bool false, .int .i64 0, .int .i64 0] 23 (0, 0))) := ⟨bkS BK233⟩
        have n4_ : Aside0 ((((w78.setCell ⟨gb244, 0, none⟩ (.bool t241)).setCell ⟨gb244, 1, none⟩ (.int .i64 t242)).setCell ⟨gb244, 2, none⟩ (.int .i64 t243)).heap[gb244]? = some (.cells #[.bool t241, .int .i64 t242, .int .i64 t243] 23 (0, 0))) := ⟨by (with_reducible repeat (first | refine b1 ?_ _ | refine b2 ?_ | refine b3 ?_ _)); refine blk_put (cs := #[.bool t241, .int .i64 t242, .int .i64 0]) ?_ 2 _ rfl; (with_reducible repeat (first | refine b1 ?_ _ | refine b2 ?_ | refine b3 ?_ _)); refine blk_put (cs := #[.bool t241, .int .i64 0, .int .i64 0]) ?_ 1 _ rfl; (with_reducible repeat (first | refine b1 ?_ _ | refine b2 ?_ | refine b3 ?_ _)); refine blk_put (cs := #[.bool false, .int .i64 0, .int .i64 0]) ?_ 0 _ rfl; (with_reducible repeat (first | refine b1 ?_ _ | refine b2 ?_ | refine b3 ?_ _)); exact BK244.out⟩
        have n5_ : Aside0 (Below w.heap.size w (((w78.setCell ⟨gb244, 0, none⟩ (.bool t241)).setCell ⟨gb244, 1, none⟩ (.int .i64 t242)).setCell ⟨gb244, 2, none⟩ (.int .i64 t243))) := ⟨bS HB⟩
        (try clear BK230)
        (try clear BK231)
        (try clear BK232)
        (try clear BK233)
        (try clear BK244)
        (try clear HB)
        generalize (((w78.setCell ⟨gb244, 0, none⟩ (.bool t241)).setCell ⟨gb244, 1, none⟩ (.int .i64 t242)).setCell ⟨gb244, 2, none⟩ (.int .i64 t243)) = w84 at n0_ n1_ n2_ n3_ n4_ n5_ ⊢
        have BK230 := n0_
        have BK231 := n1_
        have BK232 := n2_
        have BK233 := n3_
        have BK244 := n4_
        have HB := n5_
        clear n0_ n1_ n2_ n3_ n4_ n5_
        replace BK230 := Aside0.mk (blk_drew BK230.out)
        replace BK231 := Aside0.mk (blk_drew BK231.out)
        replace BK232 := Aside0.mk (blk_drew BK232.out)
        replace BK233 := Aside0.mk (blk_drew BK233.out)
        replace BK244 := Aside0.mk (blk_drew BK244.out)
        replace HB := Aside0.mk (below_drew1 HB.out)
        refine start_ (n := 4) (S := fun w' => w'.cell? ⟨gb244, 0, none⟩ = some (.bool t241) ∧ w'.cell? ⟨gb244, 1, none⟩ = some (.int .i64 t242) ∧ w'.cell? ⟨gb244, 2, none⟩ = some (.int .i64 t243)) (ds := []) #[false, false, false, false] (by kernel_rfl) rfl rfl ⟨cz0 BK244, cz1 BK244, cz2 BK244⟩ (fun hHeld => ?_)
        generalize w84.drew = w85 at BK230 BK231 BK232 BK233 BK244 HB hHeld ⊢
        refine take_ (i := 0) (N := some 52) (v := ?_) (a' := ?_) #[true, false, false, false] rfl rfl (by kernel_rfl) (fun _ _ _ h => h) (Or.inl ⟨by rfl, ?_⟩) hHeld ?_ ?_
        rotate_left
        ·
         rintro w' ⟨s0, s1, s2⟩
         go_simp
         with_reducible rfl
        rotate_left
        ·
         simp only [Act.put, lA, lB, lC, i64_w, i32_w]
         rfl
        refine take_ (i := 1) (N := some 53) (v := ?_) (a' := ?_) #[true, true, false, false] rfl rfl (by kernel_rfl) (fun _ _ _ h => h) (Or.inl ⟨by rfl, ?_⟩) hHeld ?_ ?_
        rotate_left
        ·
         rintro w' ⟨s0, s1, s2⟩
         go_simp
         with_reducible rfl
        rotate_left
        ·
         simp only [Act.put, lA, lB, lC, i64_w, i32_w]
         rfl
        refine one_ (i := 2) (N := none) #[true, true, true, false] rfl rfl (by kernel_rfl) (by decide) (fun K hK => ?_)
        have hs86 : w85.cell? ⟨gb232, 0, none⟩ = some (.bool false) := cz0 BK232
        have hfs86 := fz BK232 0
        have hns86_0 := NB230_232.out
        have hns86_1 := NB231_232.out
        have hns86_3 := NB233_232.out
        have hns86_4 := NB244_232.out
        have hms86_0 := NB232_230.out
        have hms86_1 := NB232_231.out
        have hms86_3 := NB232_233.out
        have hms86_4 := NB232_244.out
        have hs87 : w85.cell? ⟨gb232, 1, none⟩ = some (.int .i64 0) := cz1 BK232
        have hfs87 := fz BK232 1
        have hns87_0 := NB230_232.out
        have hns87_1 := NB231_232.out
        have hns87_3 := NB233_232.out
        have hns87_4 := NB244_232.out
        have hms87_0 := NB232_230.out
        have hms87_1 := NB232_231.out
        have hms87_3 := NB232_233.out
        have hms87_4 := NB232_244.out
        have hs88 : w85.cell? ⟨gb232, 2, none⟩ = some (.int .i64 0) := cz2 BK232
        have hfs88 := fz BK232 2
        have hns88_0 := NB230_232.out
        have hns88_1 := NB231_232.out
        have hns88_3 := NB233_232.out
        have hns88_4 := NB244_232.out
        have hms88_0 := NB232_230.out
        have hms88_1 := NB232_231.out
        have hms88_3 := NB232_233.out
        have hms88_4 := NB232_244.out
        refine skip_ (w1 := ?_) (by rfl) rfl ?_ ?_
        rotate_left
        ·
         go_simp
         rfl
        refine hK.out _ _ ⟨((cell_far (p := ⟨gb232, _, none⟩) NB244_232.out _).trans (((cell_far (p := ⟨gb232, _, none⟩) NB244_232.out _).trans (((cell_far (p := ⟨gb232, _, none⟩) NB244_232.out _).trans (hHeld.1)))))), ((cell_far (p := ⟨gb232, _, none⟩) NB244_232.out _).trans (((cell_far (p := ⟨gb232, _, none⟩) NB244_232.out _).trans (((cell_far (p := ⟨gb232, _, none⟩) NB244_232.out _).trans (hHeld.2.1)))))), ((cell_far (p := ⟨gb232, _, none⟩) NB244_232.out _).trans (((cell_far (p := ⟨gb232, _, none⟩) NB244_232.out _).trans (((cell_far (p := ⟨gb232, _, none⟩) NB244_232.out _).trans (hHeld.2.2))))))⟩ (fun hHeld => ?_)
        clear hK K
        refine one_ (i := 3) (N := none) #[true, true, true, true] rfl rfl (by kernel_rfl) (by decide) (fun K hK => ?_)
        have hs89 : w85.cell? ⟨gb233, 0, none⟩ = some (.bool false) := cz0 BK233
        have hfs89 := fz BK233 0
        have hns89_0 := NB230_233.out
        have hns89_1 := NB231_233.out
        have hns89_2 := NB232_233.out
        have hns89_4 := NB244_233.out
        have hms89_0 := NB233_230.out
        have hms89_1 := NB233_231.out
        have hms89_2 := NB233_232.out
        have hms89_4 := NB233_244.out
        have hs90 : w85.cell? ⟨gb233, 1, none⟩ = some (.int .i64 0) := cz1 BK233
        have hfs90 := fz BK233 1
        have hns90_0 := NB230_233.out
        have hns90_1 := NB231_233.out
        have hns90_2 := NB232_233.out
        have hns90_4 := NB244_233.out
        have hms90_0 := NB233_230.out
        have hms90_1 := NB233_231.out
        have hms90_2 := NB233_232.out
        have hms90_4 := NB233_244.out
        have hs91 : w85.cell? ⟨gb233, 2, none⟩ = some (.int .i64 0) := cz2 BK233
        have hfs91 := fz BK233 2
        have hns91_0 := NB230_233.out
        have hns91_1 := NB231_233.out
        have hns91_2 := NB232_233.out
        have hns91_4 := NB244_233.out
        have hms91_0 := NB233_230.out
        have hms91_1 := NB233_231.out
        have hms91_2 := NB233_232.out
        have hms91_4 := NB233_244.out
        refine skip_ (w1 := ?_) (by rfl) rfl ?_ ?_
        rotate_left
        ·
         go_simp
         rfl
        refine hK.out _ _ ⟨((cell_far (p := ⟨gb233, _, none⟩) NB244_233.out _).trans (((cell_far (p := ⟨gb233, _, none⟩) NB244_233.out _).trans (((cell_far (p := ⟨gb233, _, none⟩) NB244_233.out _).trans (hHeld.1)))))), ((cell_far (p := ⟨gb233, _, none⟩) NB244_233.out _).trans (((cell_far (p := ⟨gb233, _, none⟩) NB244_233.out _).trans (((cell_far (p := ⟨gb233, _, none⟩) NB244_233.out _).trans (hHeld.2.1)))))), ((cell_far (p := ⟨gb233, _, none⟩) NB244_233.out _).trans (((cell_far (p := ⟨gb233, _, none⟩) NB244_233.out _).trans (((cell_far (p := ⟨gb233, _, none⟩) NB244_233.out _).trans (hHeld.2.2))))))⟩ (fun hHeld => ?_)
        clear hK K
        refine done_ (by kernel_rfl) ?_
        try go_wp2
        refine bodyPost_ret (results_cc rfl _ _ gb232 gb233 23 23 #[.bool t241, .int .i64 t242, .int .i64 t243] #[.bool t241, .int .i64 t242, .int .i64 t243] (0, 0) (0, 0) _ _ rfl (by (with_reducible repeat (first | refine b1 ?_ _ | refine b2 ?_ | refine b3 ?_ _)); refine blk_far ?_ NB232_233.out _; (with_reducible repeat (first | refine b1 ?_ _ | refine b2 ?_ | refine b3 ?_ _)); refine blk_far ?_ NB232_233.out _; (with_reducible repeat (first | refine b1 ?_ _ | refine b2 ?_ | refine b3 ?_ _)); refine blk_far ?_ NB232_233.out _; (with_reducible repeat (first | refine b1 ?_ _ | refine b2 ?_ | refine b3 ?_ _)); refine blk_put (cs := #[.bool t241, .int .i64 t242, .int .i64 0]) ?_ 2 _ rfl; (with_reducible repeat (first | refine b1 ?_ _ | refine b2 ?_ | refine b3 ?_ _)); refine blk_put (cs := #[.bool t241, .int .i64 0, .int .i64 0]) ?_ 1 _ rfl; (with_reducible repeat (first | refine b1 ?_ _ | refine b2 ?_ | refine b3 ?_ _)); refine blk_put (cs := #[.bool false, .int .i64 0, .int .i64 0]) ?_ 0 _ rfl; (with_reducible repeat (first | refine b1 ?_ _ | refine b2 ?_ | refine b3 ?_ _)); exact BK232.out) Tryd.underlying23 rfl (by kernel_rfl) rfl (by (with_reducible repeat (first | refine b1 ?_ _ | refine b2 ?_ | refine b3 ?_ _)); refine blk_put (cs := #[.bool t241, .int .i64 t242, .int .i64 0]) ?_ 2 _ rfl; (with_reducible repeat (first | refine b1 ?_ _ | refine b2 ?_ | refine b3 ?_ _)); refine blk_put (cs := #[.bool t241, .int .i64 0, .int .i64 0]) ?_ 1 _ rfl; (with_reducible repeat (first | refine b1 ?_ _ | refine b2 ?_ | refine b3 ?_ _)); refine blk_put (cs := #[.bool false, .int .i64 0, .int .i64 0]) ?_ 0 _ rfl; (with_reducible repeat (first | refine b1 ?_ _ | refine b2 ?_ | refine b3 ?_ _)); refine blk_far ?_ NB233_232.out _; (with_reducible repeat (first | refine b1 ?_ _ | refine b2 ?_ | refine b3 ?_ _)); refine blk_far ?_ NB233_232.out _; (with_reducible repeat (first | refine b1 ?_ _ | refine b2 ?_ | refine b3 ?_ _)); refine blk_far ?_ NB233_232.out _; (with_reducible repeat (first | refine b1 ?_ _ | refine b2 ?_ | refine b3 ?_ _)); exact BK233.out) Tryd.underlying23 rfl (by kernel_rfl)) rfl ?_
        exact ⟨eS, bS HB⟩
       ·
        rw [if_neg c68] at H
        have c68b0 : (a0 == 14) = false := beq_eq_false_iff_ne.mpr c68
        have c68b1 : (a0 != 14) = true := bne_iff_ne.mpr c68
        simp only [Option.some.injEq, Prod.mk.injEq] at H
        obtain ⟨rfl, rfl, rfl, rfl, rfl, rfl⟩ := H
        try go_wp2
        replace BK230 := Aside0.mk (blk_drew BK230.out)
        replace BK231 := Aside0.mk (blk_drew BK231.out)
        replace BK232 := Aside0.mk (blk_drew BK232.out)
        replace BK233 := Aside0.mk (blk_drew BK233.out)
        replace HB := Aside0.mk (below_drew1 HB.out)
        refine start_ (n := 4) (S := fun w' => w'.cell? ⟨gb230, 0, none⟩ = some (.bool a1_0) ∧ w'.cell? ⟨gb230, 1, none⟩ = some (.int .i64 a1_1) ∧ w'.cell? ⟨gb230, 2, none⟩ = some (.int .i64 a1_2) ∧ w'.cell? ⟨gb231, 0, none⟩ = some (.bool a2_0) ∧ w'.cell? ⟨gb231, 1, none⟩ = some (.int .i64 a2_1) ∧ w'.cell? ⟨gb231, 2, none⟩ = some (.int .i64 a2_2)) (ds := []) #[false, false, false, false] (by kernel_rfl) rfl rfl ⟨cz0 BK230, cz1 BK230, cz2 BK230, cz0 BK231, cz1 BK231, cz2 BK231⟩ (fun hHeld => ?_)
        generalize wc.drew = w92 at BK230 BK231 BK232 BK233 HB hHeld ⊢
        refine take_ (i := 0) (N := some 54) (v := ?_) (a' := ?_) #[true, false, false, false] rfl rfl (by kernel_rfl) (fun _ _ _ h => h) (Or.inl ⟨by rfl, ?_⟩) hHeld ?_ ?_
        rotate_left
        ·
         rintro w' ⟨s0, s1, s2, s3, s4, s5⟩
         go_simp
         with_reducible rfl
        rotate_left
        ·
         simp only [Act.put, lA, lB, lC, i64_w, i32_w]
         rfl
        refine take_ (i := 1) (N := some 55) (v := ?_) (a' := ?_) #[true, true, false, false] rfl rfl (by kernel_rfl) (fun _ _ _ h => h) (Or.inl ⟨by rfl, ?_⟩) hHeld ?_ ?_
        rotate_left
        ·
         rintro w' ⟨s0, s1, s2, s3, s4, s5⟩
         go_simp
         with_reducible rfl
        rotate_left
        ·
         simp only [Act.put, lA, lB, lC, i64_w, i32_w]
         rfl
        refine one_ (i := 2) (N := none) #[true, true, true, false] rfl rfl (by kernel_rfl) (by decide) (fun K hK => ?_)
        have hs93 : w92.cell? ⟨gb232, 0, none⟩ = some (.bool false) := cz0 BK232
        have hfs93 := fz BK232 0
        have hns93_0 := NB230_232.out
        have hns93_1 := NB231_232.out
        have hns93_3 := NB233_232.out
        have hms93_0 := NB232_230.out
        have hms93_1 := NB232_231.out
        have hms93_3 := NB232_233.out
        have hs94 : w92.cell? ⟨gb232, 1, none⟩ = some (.int .i64 0) := cz1 BK232
        have hfs94 := fz BK232 1
        have hns94_0 := NB230_232.out
        have hns94_1 := NB231_232.out
        have hns94_3 := NB233_232.out
        have hms94_0 := NB232_230.out
        have hms94_1 := NB232_231.out
        have hms94_3 := NB232_233.out
        have hs95 : w92.cell? ⟨gb232, 2, none⟩ = some (.int .i64 0) := cz2 BK232
        have hfs95 := fz BK232 2
        have hns95_0 := NB230_232.out
        have hns95_1 := NB231_232.out
        have hns95_3 := NB233_232.out
        have hms95_0 := NB232_230.out
        have hms95_1 := NB232_231.out
        have hms95_3 := NB232_233.out
        refine skip_ (w1 := ?_) (by rfl) rfl ?_ ?_
        rotate_left
        ·
         go_simp
         rfl
        refine hK.out _ _ ⟨((cell_far (p := ⟨gb232, _, none⟩) NB230_232.out _).trans (((cell_far (p := ⟨gb232, _, none⟩) NB230_232.out _).trans (((cell_far (p := ⟨gb232, _, none⟩) NB230_232.out _).trans (hHeld.1)))))), ((cell_far (p := ⟨gb232, _, none⟩) NB230_232.out _).trans (((cell_far (p := ⟨gb232, _, none⟩) NB230_232.out _).trans (((cell_far (p := ⟨gb232, _, none⟩) NB230_232.out _).trans (hHeld.2.1)))))), ((cell_far (p := ⟨gb232, _, none⟩) NB230_232.out _).trans (((cell_far (p := ⟨gb232, _, none⟩) NB230_232.out _).trans (((cell_far (p := ⟨gb232, _, none⟩) NB230_232.out _).trans (hHeld.2.2.1)))))), ((cell_far (p := ⟨gb232, _, none⟩) NB231_232.out _).trans (((cell_far (p := ⟨gb232, _, none⟩) NB231_232.out _).trans (((cell_far (p := ⟨gb232, _, none⟩) NB231_232.out _).trans (hHeld.2.2.2.1)))))), ((cell_far (p := ⟨gb232, _, none⟩) NB231_232.out _).trans (((cell_far (p := ⟨gb232, _, none⟩) NB231_232.out _).trans (((cell_far (p := ⟨gb232, _, none⟩) NB231_232.out _).trans (hHeld.2.2.2.2.1)))))), ((cell_far (p := ⟨gb232, _, none⟩) NB231_232.out _).trans (((cell_far (p := ⟨gb232, _, none⟩) NB231_232.out _).trans (((cell_far (p := ⟨gb232, _, none⟩) NB231_232.out _).trans (hHeld.2.2.2.2.2))))))⟩ (fun hHeld => ?_)
        clear hK K
        refine one_ (i := 3) (N := none) #[true, true, true, true] rfl rfl (by kernel_rfl) (by decide) (fun K hK => ?_)
        have hs96 : w92.cell? ⟨gb233, 0, none⟩ = some (.bool false) := cz0 BK233
        have hfs96 := fz BK233 0
        have hns96_0 := NB230_233.out
        have hns96_1 := NB231_233.out
        have hns96_2 := NB232_233.out
        have hms96_0 := NB233_230.out
        have hms96_1 := NB233_231.out
        have hms96_2 := NB233_232.out
        have hs97 : w92.cell? ⟨gb233, 1, none⟩ = some (.int .i64 0) := cz1 BK233
        have hfs97 := fz BK233 1
        have hns97_0 := NB230_233.out
        have hns97_1 := NB231_233.out
        have hns97_2 := NB232_233.out
        have hms97_0 := NB233_230.out
        have hms97_1 := NB233_231.out
        have hms97_2 := NB233_232.out
        have hs98 : w92.cell? ⟨gb233, 2, none⟩ = some (.int .i64 0) := cz2 BK233
        have hfs98 := fz BK233 2
        have hns98_0 := NB230_233.out
        have hns98_1 := NB231_233.out
        have hns98_2 := NB232_233.out
        have hms98_0 := NB233_230.out
        have hms98_1 := NB233_231.out
        have hms98_2 := NB233_232.out
        refine skip_ (w1 := ?_) (by rfl) rfl ?_ ?_
        rotate_left
        ·
         go_simp
         rfl
        refine hK.out _ _ ⟨((cell_far (p := ⟨gb233, _, none⟩) NB230_233.out _).trans (((cell_far (p := ⟨gb233, _, none⟩) NB230_233.out _).trans (((cell_far (p := ⟨gb233, _, none⟩) NB230_233.out _).trans (hHeld.1)))))), ((cell_far (p := ⟨gb233, _, none⟩) NB230_233.out _).trans (((cell_far (p := ⟨gb233, _, none⟩) NB230_233.out _).trans (((cell_far (p := ⟨gb233, _, none⟩) NB230_233.out _).trans (hHeld.2.1)))))), ((cell_far (p := ⟨gb233, _, none⟩) NB230_233.out _).trans (((cell_far (p := ⟨gb233, _, none⟩) NB230_233.out _).trans (((cell_far (p := ⟨gb233, _, none⟩) NB230_233.out _).trans (hHeld.2.2.1)))))), ((cell_far (p := ⟨gb233, _, none⟩) NB231_233.out _).trans (((cell_far (p := ⟨gb233, _, none⟩) NB231_233.out _).trans (((cell_far (p := ⟨gb233, _, none⟩) NB231_233.out _).trans (hHeld.2.2.2.1)))))), ((cell_far (p := ⟨gb233, _, none⟩) NB231_233.out _).trans (((cell_far (p := ⟨gb233, _, none⟩) NB231_233.out _).trans (((cell_far (p := ⟨gb233, _, none⟩) NB231_233.out _).trans (hHeld.2.2.2.2.1)))))), ((cell_far (p := ⟨gb233, _, none⟩) NB231_233.out _).trans (((cell_far (p := ⟨gb233, _, none⟩) NB231_233.out _).trans (((cell_far (p := ⟨gb233, _, none⟩) NB231_233.out _).trans (hHeld.2.2.2.2.2))))))⟩ (fun hHeld => ?_)
        clear hK K
        refine done_ (by kernel_rfl) ?_
        try go_wp2
        refine bodyPost_ret (results_cc rfl _ _ gb232 gb233 23 23 #[.bool a1_0, .int .i64 a1_1, .int .i64 a1_2] #[.bool a2_0, .int .i64 a2_1, .int .i64 a2_2] (0, 0) (0, 0) _ _ rfl (by (with_reducible repeat (first | refine b1 ?_ _ | refine b2 ?_ | refine b3 ?_ _)); refine blk_far ?_ NB232_233.out _; (with_reducible repeat (first | refine b1 ?_ _ | refine b2 ?_ | refine b3 ?_ _)); refine blk_far ?_ NB232_233.out _; (with_reducible repeat (first | refine b1 ?_ _ | refine b2 ?_ | refine b3 ?_ _)); refine blk_far ?_ NB232_233.out _; (with_reducible repeat (first | refine b1 ?_ _ | refine b2 ?_ | refine b3 ?_ _)); refine blk_put (cs := #[.bool a1_0, .int .i64 a1_1, .int .i64 0]) ?_ 2 _ rfl; (with_reducible repeat (first | refine b1 ?_ _ | refine b2 ?_ | refine b3 ?_ _)); refine blk_put (cs := #[.bool a1_0, .int .i64 0, .int .i64 0]) ?_ 1 _ rfl; (with_reducible repeat (first | refine b1 ?_ _ | refine b2 ?_ | refine b3 ?_ _)); refine blk_put (cs := #[.bool false, .int .i64 0, .int .i64 0]) ?_ 0 _ rfl; (with_reducible repeat (first | refine b1 ?_ _ | refine b2 ?_ | refine b3 ?_ _)); exact BK232.out) Tryd.underlying23 rfl (by kernel_rfl) rfl (by (with_reducible repeat (first | refine b1 ?_ _ | refine b2 ?_ | refine b3 ?_ _)); refine blk_put (cs := #[.bool a2_0, .int .i64 a2_1, .int .i64 0]) ?_ 2 _ rfl; (with_reducible repeat (first | refine b1 ?_ _ | refine b2 ?_ | refine b3 ?_ _)); refine blk_put (cs := #[.bool a2_0, .int .i64 0, .int .i64 0]) ?_ 1 _ rfl; (with_reducible repeat (first | refine b1 ?_ _ | refine b2 ?_ | refine b3 ?_ _)); refine blk_put (cs := #[.bool false, .int .i64 0, .int .i64 0]) ?_ 0 _ rfl; (with_reducible repeat (first | refine b1 ?_ _ | refine b2 ?_ | refine b3 ?_ _)); refine blk_far ?_ NB233_232.out _; (with_reducible repeat (first | refine b1 ?_ _ | refine b2 ?_ | refine b3 ?_ _)); refine blk_far ?_ NB233_232.out _; (with_reducible repeat (first | refine b1 ?_ _ | refine b2 ?_ | refine b3 ?_ _)); refine blk_far ?_ NB233_232.out _; (with_reducible repeat (first | refine b1 ?_ _ | refine b2 ?_ | refine b3 ?_ _)); exact BK233.out) Tryd.underlying23 rfl (by kernel_rfl)) rfl ?_
        exact ⟨eS, bS HB⟩

def itv_None.f (a0_0 : Int) (a0_1 : Int) : Option (Bool) := some (decide (a0_0 > a0_1))
set_option maxHeartbeats 8000000 in
set_option maxRecDepth 100000 in
theorem itv_None.calls (a0_0 : Int) (a0_1 : Int) (r : Bool) (w : World) (h : itv_None.f a0_0 a0_1 = some r) :
  Calls Tryd.prog 72 #[.agg #[.int .i64 a0_0, .int .i64 a0_1]] w fun e w' => e = .returned (.bool r) ∧ Below w.heap.size w w' := by
 have hu38 := Tryd.underlying38
 have HB := Aside0.mk (Below.refl w.heap.size w)
 have H : (some (decide (a0_0 > a0_1))) = some r := h
 clear h
 obtain rfl := Option.some.inj H
 go_enter Tryd.func72, Tryd.ntmps72
 go_wp2_with (first | ((with_reducible refine gate_dst (N := 1) rfl ?_); refine box_event ?hg (N := 1) ?hd (cs := #[.int .i64 a0_0, .int .i64 a0_1]) (t := 38) ?hr ?_; (case hd => rfl); (case hg => rfl); (case hr => first | (go_simp; done) | (go_simp; rfl)); intro gb289 hg w2 hbox hb; have n0_ := kW HB hb; have n1_ := Aside0.mk (hbox); have n2_ := Aside0.mk ((by rw [hg]; exact (below_size (bS HB)) : w.heap.size ≤ gb289)); have n3_ := Aside0.mk ((by rw [hg]; exact (below_size (bS HB)) : w.heap.size ≤ gb289)); clear HB; have HB := n0_; have BK289 := n1_; have GW289 := n2_; have GE289 := n3_; clear n0_ n1_ n2_ n3_; clear hb hbox hg; have hcz3_0 := cz0 BK289; have hcz3_1 := cz1 BK289; have hfz3_0 := fz BK289 0; have hfz3_1 := fz BK289 1))
 go_ret
 exact ⟨eS, bS HB⟩

def itv_Empty.f  : Option (Int × Int) := some (1, 0)
set_option maxHeartbeats 8000000 in
set_option maxRecDepth 100000 in
theorem itv_Empty.calls  (r1 : Int) (r2 : Int) (w : World) (h : itv_Empty.f  = some (r1, r2)) :
  Calls Tryd.prog 73 #[] w fun e w' => e = .returned (.agg #[.int .i64 r1, .int .i64 r2]) ∧ Below w.heap.size w w' := by
 have hu38 := Tryd.underlying38
 have HB := Aside0.mk (Below.refl w.heap.size w)
 have H : (some (1, 0)) = some (r1, r2) := h
 clear h
 simp only [Option.some.injEq, Prod.mk.injEq] at H
 obtain ⟨rfl, rfl⟩ := H
 go_enter Tryd.func73, Tryd.ntmps73
 go_wp2_with (first | ((with_reducible refine gate_dst (N := 0) rfl ?_); refine box_event ?hg (N := 0) ?hd (cs := #[.int .i64 0, .int .i64 0]) (t := 38) ?hr ?_; (case hd => rfl); (case hg => rfl); (case hr => first | (go_simp; done) | (go_simp; rfl)); intro gb290 hg w1 hbox hb; have n0_ := kW HB hb; have n1_ := Aside0.mk (hbox); have n2_ := Aside0.mk ((by rw [hg]; exact (below_size (bS HB)) : w.heap.size ≤ gb290)); have n3_ := Aside0.mk ((by rw [hg]; exact (below_size (bS HB)) : w.heap.size ≤ gb290)); clear HB; have HB := n0_; have BK290 := n1_; have GW290 := n2_; have GE290 := n3_; clear n0_ n1_ n2_ n3_; clear hb hbox hg; have hcz2_0 := cz0 BK290; have hcz2_1 := cz1 BK290; have hfz2_0 := fz BK290 0; have hfz2_1 := fz BK290 1))
 refine bodyPost_ret (results_cell_row rfl _ _ gb290 38 #[.int .i64 1, .int .i64 0] (0, 0) _ rfl (by (with_reducible repeat (first | refine b1 ?_ _ | refine b2 ?_ | refine b3 ?_ _)); refine blk_put (cs := #[.int .i64 1, .int .i64 0]) ?_ 1 _ rfl; (with_reducible repeat (first | refine b1 ?_ _ | refine b2 ?_ | refine b3 ?_ _)); refine blk_put (cs := #[.int .i64 0, .int .i64 0]) ?_ 0 _ rfl; (with_reducible repeat (first | refine b1 ?_ _ | refine b2 ?_ | refine b3 ?_ _)); exact BK290.out) Tryd.underlying38 rfl (by kernel_rfl)) rfl ?_
 exact ⟨eS, bS HB⟩

def itv_sound.f (a0_0 : Int) (a0_1 : Int) : Option (Int × Int) := (itv_Of.f a0_0 a0_1).bind fun bt293 => (some (bt293.1, bt293.2))
set_option maxHeartbeats 8000000 in
set_option maxRecDepth 100000 in
theorem itv_sound.calls (a0_0 : Int) (a0_1 : Int) (r1 : Int) (r2 : Int) (w : World) (h : itv_sound.f a0_0 a0_1 = some (r1, r2)) :
  Calls Tryd.prog 95 #[.agg #[.int .i64 a0_0, .int .i64 a0_1]] w fun e w' => e = .returned (.agg #[.int .i64 r1, .int .i64 r2]) ∧ Below w.heap.size w w' := by
 have hu38 := Tryd.underlying38
 have HB := Aside0.mk (Below.refl w.heap.size w)
 have H : ((itv_Of.f a0_0 a0_1).bind fun bt293 => (some (bt293.1, bt293.2))) = some (r1, r2) := h
 clear h
 replace H := Option.bind_eq_some_iff.mp H
 obtain ⟨⟨t293, t294⟩, A20, H⟩ := H
 replace H : (some (t293, t294)) = some (r1, r2) := H
 have A2 := Aside0.mk A20
 clear A20
 simp only [Option.some.injEq, Prod.mk.injEq] at H
 obtain ⟨rfl, rfl⟩ := H
 go_enter Tryd.func95, Tryd.ntmps95
 go_wp2_with (first | ((with_reducible refine gate_dst (N := 1) rfl ?_); refine box_event ?hg (N := 1) ?hd (cs := #[.int .i64 a0_0, .int .i64 a0_1]) (t := 38) ?hr ?_; (case hd => rfl); (case hg => rfl); (case hr => first | (go_simp; done) | (go_simp; rfl)); intro gb291 hg w3 hbox hb; have n0_ := kW HB hb; have n1_ := Aside0.mk (hbox); have n2_ := Aside0.mk ((by rw [hg]; exact (below_size (bS HB)) : w.heap.size ≤ gb291)); have n3_ := Aside0.mk ((by rw [hg]; exact (below_size (bS HB)) : w.heap.size ≤ gb291)); clear HB; have HB := n0_; have BK291 := n1_; have GW291 := n2_; have GE291 := n3_; clear n0_ n1_ n2_ n3_; clear hb hbox hg) | ((with_reducible refine gate_dst (N := 2) rfl ?_); refine box_event ?hg (N := 2) ?hd (cs := #[.int .i64 0, .int .i64 0]) (t := 38) ?hr ?_; (case hd => rfl); (case hg => rfl); (case hr => first | (go_simp; done) | (go_simp; rfl)); intro gb292 hg w4 hbox hb; have n0_ := kB BK291 hb; have n1_ := kW HB hb; have n2_ := Aside0.mk (hbox); have n3_ := Aside0.mk ((by rw [hg]; exact (below_size (bS HB)) : w.heap.size ≤ gb292)); have n4_ := Aside0.mk ((by rw [hg]; exact (below_size (bS HB)) : w.heap.size ≤ gb292)); have n5_ := Aside0.mk ((by rw [hg]; exact Nat.ne_of_lt (blk_lt (bkS BK291)) : gb291 ≠ gb292)); have n6_ := Aside0.mk ((by rw [hg]; exact Nat.ne_of_gt (blk_lt (bkS BK291)) : gb292 ≠ gb291)); clear BK291; clear HB; have BK291 := n0_; have HB := n1_; have BK292 := n2_; have GW292 := n3_; have GE292 := n4_; have NB291_292 := n5_; have NB292_291 := n6_; clear n0_ n1_ n2_ n3_ n4_ n5_ n6_; clear hb hbox hg; have hnb5 := NB291_292.out; have hnc5 := NB292_291.out; have hcz6_0 := cz0 BK291; have hcz6_1 := cz1 BK291; have hfz6_0 := fz BK291 0; have hfz6_1 := fz BK291 1) | ((with_reducible refine gate_callee (f := 75) rfl ?_); refine goesL_ (some 7) rfl rfl Tryd.func75 (by kernel_rfl) rfl #[.int .i64 a0_0, .int .i64 a0_1] rfl mS ?_; (with_reducible refine (itv_Of.calls a0_0 a0_1 t293 t294 _ A2.out).mono ?_); rintro e w7 ⟨rfl, hb⟩; refine ⟨_, rfl, ?_⟩; replace BK291 := kB BK291 hb; replace BK292 := kB BK292 hb; replace HB := kW HB hb; (try clear hb); (try clear hb2); (try clear hk); (try clear hi); have hcz8_0 := cz0 BK292; have hcz8_1 := cz1 BK292; have hfz8_0 := fz BK292 0; have hfz8_1 := fz BK292 1))
 refine bodyPost_ret (results_cell_row rfl _ _ gb292 38 #[.int .i64 t293, .int .i64 t294] (0, 0) _ rfl (by (with_reducible repeat (first | refine b1 ?_ _ | refine b2 ?_ | refine b3 ?_ _)); refine blk_put (cs := #[.int .i64 t293, .int .i64 0]) ?_ 1 _ rfl; (with_reducible repeat (first | refine b1 ?_ _ | refine b2 ?_ | refine b3 ?_ _)); refine blk_put (cs := #[.int .i64 0, .int .i64 0]) ?_ 0 _ rfl; (with_reducible repeat (first | refine b1 ?_ _ | refine b2 ?_ | refine b3 ?_ _)); exact BK292.out) Tryd.underlying38 rfl (by kernel_rfl)) rfl ?_
 exact ⟨eS, bS HB⟩

def itv_Meet.j0 : Nat → Bool → Int → Int → Int → Int → Option (Int × Int)
 | 0, _, _, _, _, _ => none
 | k + 1, x14, x296000, x296001, x297000, x297001 => if x14 = true then ((itv_Empty.f).bind fun bt304 => (some (bt304.1, bt304.2))) else ((itv_Of.f (mx x296000 x297000) (mn x296001 x297001)).bind fun bt306 => (some (bt306.1, bt306.2)))
def itv_Meet.f (k : Nat) (a0_0 : Int) (a0_1 : Int) (a1_0 : Int) (a1_1 : Int) : Option (Int × Int) := (itv_sound.f a0_0 a0_1).bind fun bt298 => ((itv_sound.f a1_0 a1_1).bind fun bt300 => ((itv_None.f bt298.1 bt298.2).bind fun t302 => (if t302 = true then (itv_Meet.j0 k true bt298.1 bt298.2 bt300.1 bt300.2) else ((itv_None.f bt300.1 bt300.2).bind fun t303 => (itv_Meet.j0 k t303 bt298.1 bt298.2 bt300.1 bt300.2)))))
set_option maxHeartbeats 8000000 in
set_option maxRecDepth 100000 in
theorem itv_Meet.calls (k : Nat) (a0_0 : Int) (a0_1 : Int) (a1_0 : Int) (a1_1 : Int) (r1 : Int) (r2 : Int) (w : World) (h : itv_Meet.f k a0_0 a0_1 a1_0 a1_1 = some (r1, r2)) :
  Calls Tryd.prog 70 #[.agg #[.int .i64 a0_0, .int .i64 a0_1], .agg #[.int .i64 a1_0, .int .i64 a1_1]] w fun e w' => e = .returned (.agg #[.int .i64 r1, .int .i64 r2]) ∧ Below w.heap.size w w' := by
 have hu38 := Tryd.underlying38
 have HB := Aside0.mk (Below.refl w.heap.size w)
 have H : ((itv_sound.f a0_0 a0_1).bind fun bt298 => ((itv_sound.f a1_0 a1_1).bind fun bt300 => ((itv_None.f bt298.1 bt298.2).bind fun t302 => (if t302 = true then (itv_Meet.j0 k true bt298.1 bt298.2 bt300.1 bt300.2) else ((itv_None.f bt300.1 bt300.2).bind fun t303 => (itv_Meet.j0 k t303 bt298.1 bt298.2 bt300.1 bt300.2)))))) = some (r1, r2) := h
 clear h
 replace H := Option.bind_eq_some_iff.mp H
 obtain ⟨⟨t298, t299⟩, A30, H⟩ := H
 replace H : ((itv_sound.f a1_0 a1_1).bind fun bt300 => ((itv_None.f t298 t299).bind fun t302 => (if t302 = true then (itv_Meet.j0 k true t298 t299 bt300.1 bt300.2) else ((itv_None.f bt300.1 bt300.2).bind fun t303 => (itv_Meet.j0 k t303 t298 t299 bt300.1 bt300.2))))) = some (r1, r2) := H
 have A3 := Aside0.mk A30
 clear A30
 replace H := Option.bind_eq_some_iff.mp H
 obtain ⟨⟨t300, t301⟩, A40, H⟩ := H
 replace H : ((itv_None.f t298 t299).bind fun t302 => (if t302 = true then (itv_Meet.j0 k true t298 t299 t300 t301) else ((itv_None.f t300 t301).bind fun t303 => (itv_Meet.j0 k t303 t298 t299 t300 t301)))) = some (r1, r2) := H
 have A4 := Aside0.mk A40
 clear A40
 have HC5 := Aside0.mk H
 clear H
 go_enter Tryd.func70, Tryd.ntmps70
 try go_wp2_with (first | ((with_reducible refine gate_dst (N := 2) rfl ?_); refine box_event ?hg (N := 2) ?hd (cs := #[.int .i64 a0_0, .int .i64 a0_1]) (t := 38) ?hr ?_; (case hd => rfl); (case hg => rfl); (case hr => first | (go_simp; done) | (go_simp; rfl)); intro gb295 hg w6 hbox hb; have n0_ := kW HB hb; have n1_ := Aside0.mk (hbox); have n2_ := Aside0.mk ((by rw [hg]; exact (below_size (bS HB)) : w.heap.size ≤ gb295)); have n3_ := Aside0.mk ((by rw [hg]; exact (below_size (bS HB)) : w.heap.size ≤ gb295)); clear HB; have HB := n0_; have BK295 := n1_; have GW295 := n2_; have GE295 := n3_; clear n0_ n1_ n2_ n3_; clear hb hbox hg) | ((with_reducible refine gate_dst (N := 3) rfl ?_); refine box_event ?hg (N := 3) ?hd (cs := #[.int .i64 a1_0, .int .i64 a1_1]) (t := 38) ?hr ?_; (case hd => rfl); (case hg => rfl); (case hr => first | (go_simp; done) | (go_simp; rfl)); intro gb296 hg w7 hbox hb; have n0_ := kB BK295 hb; have n1_ := kW HB hb; have n2_ := Aside0.mk (hbox); have n3_ := Aside0.mk ((by rw [hg]; exact (below_size (bS HB)) : w.heap.size ≤ gb296)); have n4_ := Aside0.mk ((by rw [hg]; exact (below_size (bS HB)) : w.heap.size ≤ gb296)); have n5_ := Aside0.mk ((by rw [hg]; exact Nat.ne_of_lt (blk_lt (bkS BK295)) : gb295 ≠ gb296)); have n6_ := Aside0.mk ((by rw [hg]; exact Nat.ne_of_gt (blk_lt (bkS BK295)) : gb296 ≠ gb295)); clear BK295; clear HB; have BK295 := n0_; have HB := n1_; have BK296 := n2_; have GW296 := n3_; have GE296 := n4_; have NB295_296 := n5_; have NB296_295 := n6_; clear n0_ n1_ n2_ n3_ n4_ n5_ n6_; clear hb hbox hg) | ((with_reducible refine gate_dst (N := 4) rfl ?_); refine box_event ?hg (N := 4) ?hd (cs := #[.int .i64 0, .int .i64 0]) (t := 38) ?hr ?_; (case hd => rfl); (case hg => rfl); (case hr => first | (go_simp; done) | (go_simp; rfl)); intro gb297 hg w8 hbox hb; have n0_ := kB BK295 hb; have n1_ := kB BK296 hb; have n2_ := kW HB hb; have n3_ := Aside0.mk (hbox); have n4_ := Aside0.mk ((by rw [hg]; exact (below_size (bS HB)) : w.heap.size ≤ gb297)); have n5_ := Aside0.mk ((by rw [hg]; exact (below_size (bS HB)) : w.heap.size ≤ gb297)); have n6_ := Aside0.mk ((by rw [hg]; exact Nat.ne_of_lt (blk_lt (bkS BK295)) : gb295 ≠ gb297)); have n7_ := Aside0.mk ((by rw [hg]; exact Nat.ne_of_gt (blk_lt (bkS BK295)) : gb297 ≠ gb295)); have n8_ := Aside0.mk ((by rw [hg]; exact Nat.ne_of_lt (blk_lt (bkS BK296)) : gb296 ≠ gb297)); have n9_ := Aside0.mk ((by rw [hg]; exact Nat.ne_of_gt (blk_lt (bkS BK296)) : gb297 ≠ gb296)); clear BK295; clear BK296; clear HB; have BK295 := n0_; have BK296 := n1_; have HB := n2_; have BK297 := n3_; have GW297 := n4_; have GE297 := n5_; have NB295_297 := n6_; have NB297_295 := n7_; have NB296_297 := n8_; have NB297_296 := n9_; clear n0_ n1_ n2_ n3_ n4_ n5_ n6_ n7_ n8_ n9_; clear hb hbox hg))
 replace BK295 := Aside0.mk (blk_drew BK295.out)
 replace BK296 := Aside0.mk (blk_drew BK296.out)
 replace BK297 := Aside0.mk (blk_drew BK297.out)
 replace HB := Aside0.mk (below_drew1 HB.out)
 refine start_ (n := 6) (S := fun w' => w'.cell? ⟨gb295, 0, none⟩ = some (.int .i64 a0_0) ∧ w'.cell? ⟨gb295, 1, none⟩ = some (.int .i64 a0_1) ∧ w'.cell? ⟨gb296, 0, none⟩ = some (.int .i64 a1_0) ∧ w'.cell? ⟨gb296, 1, none⟩ = some (.int .i64 a1_1)) (ds := [4, 5]) #[false, false, false, false, false, false] (by kernel_rfl) rfl rfl ⟨cz0 BK295, cz1 BK295, cz0 BK296, cz1 BK296⟩ (fun hHeld => ?_)
 generalize w8.drew = w9 at BK295 BK296 BK297 HB hHeld ⊢
 refine take_ (i := 0) (N := some 5) (v := ?_) (a' := ?_) #[true, false, false, false, false, false] rfl rfl (by kernel_rfl) (fun _ _ _ h => h) (Or.inl ⟨by rfl, ?_⟩) hHeld ?_ ?_
 rotate_left
 ·
  rintro w' ⟨s0, s1, s2, s3⟩
  go_simp
  with_reducible rfl
 rotate_left
 ·
  simp only [Act.put, lA, lB, lC, i64_w, i32_w]
  rfl
 refine take_ (i := 2) (N := some 7) (v := ?_) (a' := ?_) #[true, false, true, false, false, false] rfl rfl (by kernel_rfl) (fun _ _ _ h => h) (Or.inl ⟨by rfl, ?_⟩) hHeld ?_ ?_
 rotate_left
 ·
  rintro w' ⟨s0, s1, s2, s3⟩
  go_simp
  with_reducible rfl
 rotate_left
 ·
  simp only [Act.put, lA, lB, lC, i64_w, i32_w]
  rfl
 refine one_ (i := 1) (N := some 6) #[true, true, true, false, false, false] rfl rfl (by kernel_rfl) (by decide) (fun K hK => ?_)
 refine goes_ Tryd.func95 (by kernel_rfl) rfl #[.agg #[.int .i64 a0_0, .int .i64 a0_1]] (by rfl) rfl rfl mS ?_
 with_reducible refine (itv_sound.calls a0_0 a0_1 t298 t299 _ A3.out).mono ?_
 rintro e w10 ⟨rfl, hb⟩
 refine ⟨_, rfl, ?_⟩
 replace BK295 := kB BK295 hb
 replace BK296 := kB BK296 hb
 replace BK297 := kB BK297 hb
 replace HB := kW HB hb
 (try clear hb)
 (try clear hb2)
 (try clear hk)
 (try clear hi)
 refine hK.out _ _ ⟨cz0 BK295, cz1 BK295, cz0 BK296, cz1 BK296⟩ (fun hHeld => ?_)
 clear hK K
 refine norm_ (a' := ?_) ?_ ?_
 rotate_left
 ·
  show Act.put _ (some 6) _ = _
  simp only [Act.put, lA, lB, lC, i64_w, i32_w]
  rfl
 refine one_ (i := 3) (N := some 8) #[true, true, true, true, false, false] rfl rfl (by kernel_rfl) (by decide) (fun K hK => ?_)
 refine goes_ Tryd.func95 (by kernel_rfl) rfl #[.agg #[.int .i64 a1_0, .int .i64 a1_1]] (by rfl) rfl rfl mS ?_
 with_reducible refine (itv_sound.calls a1_0 a1_1 t300 t301 _ A4.out).mono ?_
 rintro e w11 ⟨rfl, hb⟩
 refine ⟨_, rfl, ?_⟩
 replace BK295 := kB BK295 hb
 replace BK296 := kB BK296 hb
 replace BK297 := kB BK297 hb
 replace HB := kW HB hb
 (try clear hb)
 (try clear hb2)
 (try clear hk)
 (try clear hi)
 refine hK.out _ _ ⟨cz0 BK295, cz1 BK295, cz0 BK296, cz1 BK296⟩ (fun hHeld => ?_)
 clear hK K
 refine norm_ (a' := ?_) ?_ ?_
 rotate_left
 ·
  show Act.put _ (some 8) _ = _
  simp only [Act.put, lA, lB, lC, i64_w, i32_w]
  rfl
 refine last_ (i := 4) (N := none) #[true, true, true, true, true, false] rfl rfl (by kernel_rfl) (by decide) (fun K hK => ?_)
 have hs12 : w11.cell? ⟨gb295, 0, none⟩ = some (.int .i64 a0_0) := cz0 BK295
 have hfs12 := fz BK295 0
 have hns12_1 := NB296_295.out
 have hns12_2 := NB297_295.out
 have hms12_1 := NB295_296.out
 have hms12_2 := NB295_297.out
 have hs13 : w11.cell? ⟨gb295, 1, none⟩ = some (.int .i64 a0_1) := cz1 BK295
 have hfs13 := fz BK295 1
 have hns13_1 := NB296_295.out
 have hns13_2 := NB297_295.out
 have hms13_1 := NB295_296.out
 have hms13_2 := NB295_297.out
 refine skip_ (w1 := ?_) (by rfl) rfl ?_ ?_
 rotate_left
 ·
  go_simp
  rfl
 refine hK.out _ _ ?_
 clear hK K
 refine last_ (i := 5) (N := none) #[true, true, true, true, true, true] rfl rfl (by kernel_rfl) (by decide) (fun K hK => ?_)
 have hs14 : w11.cell? ⟨gb296, 0, none⟩ = some (.int .i64 a1_0) := cz0 BK296
 have hfs14 := fz BK296 0
 have hns14_0 := NB295_296.out
 have hns14_2 := NB297_296.out
 have hms14_0 := NB296_295.out
 have hms14_2 := NB296_297.out
 have hs15 : w11.cell? ⟨gb296, 1, none⟩ = some (.int .i64 a1_1) := cz1 BK296
 have hfs15 := fz BK296 1
 have hns15_0 := NB295_296.out
 have hns15_2 := NB297_296.out
 have hms15_0 := NB296_295.out
 have hms15_2 := NB296_297.out
 refine skip_ (w1 := ?_) (by rfl) rfl ?_ ?_
 rotate_left
 ·
  go_simp
  rfl
 refine hK.out _ _ ?_
 clear hK K
 refine done_ (by kernel_rfl) ?_
 go_upto_region 2 with (fail)
 go_cut [14] (fun v14 wc => ∃ (kq : Nat) (x14_4 : Bool), v14 = .bool x14_4 ∧ Aside0 (itv_Meet.j0 kq x14_4 t298 t299 t300 t301 = some (r1, r2)) ∧ Aside0 (kq ≤ k) ∧ Aside0 (wc.heap[gb295]? = some (.cells #[.int .i64 t298, .int .i64 t299] 38 (0, 0))) ∧ Aside0 (wc.heap[gb296]? = some (.cells #[.int .i64 t300, .int .i64 t301] 38 (0, 0))) ∧ Aside0 (wc.heap[gb297]? = some (.cells #[.int .i64 0, .int .i64 0] 38 (0, 0))) ∧ Aside0 (Below w.heap.size w wc))
 case first =>
  have H := HC5.out
  clear HC5
  replace H := Option.bind_eq_some_iff.mp H
  obtain ⟨t302, A160, H⟩ := H
  replace H : (if t302 = true then (itv_Meet.j0 k true t298 t299 t300 t301) else ((itv_None.f t300 t301).bind fun t303 => (itv_Meet.j0 k t303 t298 t299 t300 t301))) = some (r1, r2) := H
  have A16 := Aside0.mk A160
  clear A160
  by_cases c17 : t302 = true
  ·
   subst c17
   have H1 : (itv_Meet.j0 k true t298 t299 t300 t301) = some (r1, r2) := by rw [if_pos rfl] at H; exact H
   clear H
   have H := H1
   clear H1
   have H' := Aside0.mk H
   clear H
   have hnb18 := NB295_296.out
   have hnc18 := NB296_295.out
   have hnb19 := NB295_297.out
   have hnc19 := NB297_295.out
   have hcz20_0 := cz0 BK295
   have hcz20_1 := cz1 BK295
   have hfz20_0 := fz BK295 0
   have hfz20_1 := fz BK295 1
   go_wp2_with (first | ((with_reducible refine gate_callee (f := 72) rfl ?_); refine goesL_ (some 10) rfl rfl Tryd.func72 (by kernel_rfl) rfl #[.agg #[.int .i64 t298, .int .i64 t299]] rfl mS ?_; (with_reducible refine (itv_None.calls t298 t299 true _ A16.out).mono ?_); rintro e w21 ⟨rfl, hb⟩; refine ⟨_, rfl, ?_⟩; have n0_ := Aside0.mk (blk_below (g := gb295) (o := .cells #[.int .i64 t298, .int .i64 t299] 38 (0, 0)) (by (with_reducible repeat (first | refine b1 ?_ _ | refine b2 ?_ | refine b3 ?_ _)); refine blk_far ?_ NB295_296.out _; (with_reducible repeat (first | refine b1 ?_ _ | refine b2 ?_ | refine b3 ?_ _)); refine blk_far ?_ NB295_296.out _; (with_reducible repeat (first | refine b1 ?_ _ | refine b2 ?_ | refine b3 ?_ _)); refine blk_put (cs := #[.int .i64 t298, .int .i64 a0_1]) ?_ 1 _ rfl; (with_reducible repeat (first | refine b1 ?_ _ | refine b2 ?_ | refine b3 ?_ _)); refine blk_put (cs := #[.int .i64 a0_0, .int .i64 a0_1]) ?_ 0 _ rfl; (with_reducible repeat (first | refine b1 ?_ _ | refine b2 ?_ | refine b3 ?_ _)); exact BK295.out) hb); have n1_ := Aside0.mk (blk_below (g := gb296) (o := .cells #[.int .i64 t300, .int .i64 t301] 38 (0, 0)) (by (with_reducible repeat (first | refine b1 ?_ _ | refine b2 ?_ | refine b3 ?_ _)); refine blk_put (cs := #[.int .i64 t300, .int .i64 a1_1]) ?_ 1 _ rfl; (with_reducible repeat (first | refine b1 ?_ _ | refine b2 ?_ | refine b3 ?_ _)); refine blk_put (cs := #[.int .i64 a1_0, .int .i64 a1_1]) ?_ 0 _ rfl; (with_reducible repeat (first | refine b1 ?_ _ | refine b2 ?_ | refine b3 ?_ _)); refine blk_far ?_ NB296_295.out _; (with_reducible repeat (first | refine b1 ?_ _ | refine b2 ?_ | refine b3 ?_ _)); refine blk_far ?_ NB296_295.out _; (with_reducible repeat (first | refine b1 ?_ _ | refine b2 ?_ | refine b3 ?_ _)); exact BK296.out) hb); have n2_ := kB BK297 hb; have n3_ := kW HB hb; clear BK295; clear BK296; clear BK297; clear HB; have BK295 := n0_; have BK296 := n1_; have BK297 := n2_; have HB := n3_; clear n0_ n1_ n2_ n3_; (try clear hb); (try clear hb2); (try clear hk); (try clear hi)))
   go_meet
   case rel => exact ⟨_, (true), (by first | rfl | (simp; done) | (simp [*]; done)), H', ⟨by first | omega | exact Nat.le_refl _⟩, ⟨bkS BK295⟩, ⟨bkS BK296⟩, ⟨bkS BK297⟩, ⟨bS HB⟩⟩
  ·
   replace c17 := Bool.eq_false_iff.mpr c17
   subst c17
   have H1 : ((itv_None.f t300 t301).bind fun t303 => (itv_Meet.j0 k t303 t298 t299 t300 t301)) = some (r1, r2) := by rw [if_neg (show ¬ (false = true) by decide)] at H; exact H
   clear H
   have H := H1
   clear H1
   replace H := Option.bind_eq_some_iff.mp H
   obtain ⟨t303, A220, H⟩ := H
   replace H : (itv_Meet.j0 k t303 t298 t299 t300 t301) = some (r1, r2) := H
   have A22 := Aside0.mk A220
   clear A220
   have H' := Aside0.mk H
   clear H
   have hnb23 := NB295_296.out
   have hnc23 := NB296_295.out
   have hnb24 := NB295_297.out
   have hnc24 := NB297_295.out
   have hcz25_0 := cz0 BK295
   have hcz25_1 := cz1 BK295
   have hfz25_0 := fz BK295 0
   have hfz25_1 := fz BK295 1
   go_wp2_with (first | ((with_reducible refine gate_callee (f := 72) rfl ?_); refine goesL_ (some 10) rfl rfl Tryd.func72 (by kernel_rfl) rfl #[.agg #[.int .i64 t298, .int .i64 t299]] rfl mS ?_; (with_reducible refine (itv_None.calls t298 t299 false _ A16.out).mono ?_); rintro e w26 ⟨rfl, hb⟩; refine ⟨_, rfl, ?_⟩; have n0_ := Aside0.mk (blk_below (g := gb295) (o := .cells #[.int .i64 t298, .int .i64 t299] 38 (0, 0)) (by (with_reducible repeat (first | refine b1 ?_ _ | refine b2 ?_ | refine b3 ?_ _)); refine blk_far ?_ NB295_296.out _; (with_reducible repeat (first | refine b1 ?_ _ | refine b2 ?_ | refine b3 ?_ _)); refine blk_far ?_ NB295_296.out _; (with_reducible repeat (first | refine b1 ?_ _ | refine b2 ?_ | refine b3 ?_ _)); refine blk_put (cs := #[.int .i64 t298, .int .i64 a0_1]) ?_ 1 _ rfl; (with_reducible repeat (first | refine b1 ?_ _ | refine b2 ?_ | refine b3 ?_ _)); refine blk_put (cs := #[.int .i64 a0_0, .int .i64 a0_1]) ?_ 0 _ rfl; (with_reducible repeat (first | refine b1 ?_ _ | refine b2 ?_ | refine b3 ?_ _)); exact BK295.out) hb); have n1_ := Aside0.mk (blk_below (g := gb296) (o := .cells #[.int .i64 t300, .int .i64 t301] 38 (0, 0)) (by (with_reducible repeat (first | refine b1 ?_ _ | refine b2 ?_ | refine b3 ?_ _)); refine blk_put (cs := #[.int .i64 t300, .int .i64 a1_1]) ?_ 1 _ rfl; (with_reducible repeat (first | refine b1 ?_ _ | refine b2 ?_ | refine b3 ?_ _)); refine blk_put (cs := #[.int .i64 a1_0, .int .i64 a1_1]) ?_ 0 _ rfl; (with_reducible repeat (first | refine b1 ?_ _ | refine b2 ?_ | refine b3 ?_ _)); refine blk_far ?_ NB296_295.out _; (with_reducible repeat (first | refine b1 ?_ _ | refine b2 ?_ | refine b3 ?_ _)); refine blk_far ?_ NB296_295.out _; (with_reducible repeat (first | refine b1 ?_ _ | refine b2 ?_ | refine b3 ?_ _)); exact BK296.out) hb); have n2_ := kB BK297 hb; have n3_ := kW HB hb; clear BK295; clear BK296; clear BK297; clear HB; have BK295 := n0_; have BK296 := n1_; have BK297 := n2_; have HB := n3_; clear n0_ n1_ n2_ n3_; (try clear hb); (try clear hb2); (try clear hk); (try clear hi); have hnb27 := NB296_297.out; have hnc27 := NB297_296.out; have hcz28_0 := cz0 BK296; have hcz28_1 := cz1 BK296; have hfz28_0 := fz BK296 0; have hfz28_1 := fz BK296 1) | (go_at_call 72; (with_reducible refine (itv_None.calls t300 t301 t303 _ A22.out).mono ?_); rintro e w29 ⟨rfl, hb⟩; replace BK295 := kB BK295 hb; replace BK296 := kB BK296 hb; replace BK297 := kB BK297 hb; replace HB := kW HB hb; (try clear hb); (try clear hb2); (try clear hk); (try clear hi)))
   go_meet
   case rel => exact ⟨_, (t303), (by first | rfl | (simp; done) | (simp [*]; done)), H', ⟨by first | omega | exact Nat.le_refl _⟩, ⟨bkS BK295⟩, ⟨bkS BK296⟩, ⟨bkS BK297⟩, ⟨bS HB⟩⟩
 case rest =>
  clear HC5
  try clear c1
  try clear c2
  try clear p2
  try clear c7
  try clear c9
  try clear c17
  try clear c18
  try clear c19
  try clear c23
  try clear c24
  try clear c27
  try clear hcz20_0
  try clear hcz20_1
  try clear hcz25_0
  try clear hcz25_1
  try clear hcz28_0
  try clear hcz28_1
  try clear hfz20_0
  try clear hfz20_1
  try clear hfz25_0
  try clear hfz25_1
  try clear hfz28_0
  try clear hfz28_1
  obtain ⟨kq, x14_4, rfl, HA, HJ4, BK295, BK296, BK297, HB⟩ := hcut
  cases kq with
  | zero => exact absurd HA.out (by simp [itv_Meet.j0])
  | succ kj4 =>
   have H := HA.out
   clear HA
   simp only [itv_Meet.j0] at H
   by_cases c30 : x14_4 = true
   ·
    subst c30
    have H1 : ((itv_Empty.f).bind fun bt304 => (some (bt304.1, bt304.2))) = some (r1, r2) := by rw [if_pos rfl] at H; exact H
    clear H
    have H := H1
    clear H1
    replace H := Option.bind_eq_some_iff.mp H
    obtain ⟨⟨t304, t305⟩, A310, H⟩ := H
    replace H : (some (t304, t305)) = some (r1, r2) := H
    have A31 := Aside0.mk A310
    clear A310
    simp only [Option.some.injEq, Prod.mk.injEq] at H
    obtain ⟨rfl, rfl⟩ := H
    go_wp2_with (first | ((with_reducible refine gate_callee (f := 73) rfl ?_); refine goesL_ (some 15) rfl rfl Tryd.func73 (by kernel_rfl) rfl #[] rfl mS ?_; (with_reducible refine (itv_Empty.calls  t304 t305 _ A31.out).mono ?_); rintro e w32 ⟨rfl, hb⟩; refine ⟨_, rfl, ?_⟩; replace BK295 := kB BK295 hb; replace BK296 := kB BK296 hb; replace BK297 := kB BK297 hb; replace HB := kW HB hb; (try clear hb); (try clear hb2); (try clear hk); (try clear hi); have hnb33 := NB297_295.out; have hnc33 := NB295_297.out; have hnb34 := NB297_296.out; have hnc34 := NB296_297.out; have hcz35_0 := cz0 BK297; have hcz35_1 := cz1 BK297; have hfz35_0 := fz BK297 0; have hfz35_1 := fz BK297 1))
    refine bodyPost_ret (results_cell_row rfl _ _ gb297 38 #[.int .i64 t304, .int .i64 t305] (0, 0) _ rfl (by (with_reducible repeat (first | refine b1 ?_ _ | refine b2 ?_ | refine b3 ?_ _)); refine blk_put (cs := #[.int .i64 t304, .int .i64 0]) ?_ 1 _ rfl; (with_reducible repeat (first | refine b1 ?_ _ | refine b2 ?_ | refine b3 ?_ _)); refine blk_put (cs := #[.int .i64 0, .int .i64 0]) ?_ 0 _ rfl; (with_reducible repeat (first | refine b1 ?_ _ | refine b2 ?_ | refine b3 ?_ _)); exact BK297.out) Tryd.underlying38 rfl (by kernel_rfl)) rfl ?_
    exact ⟨eS, bS HB⟩
   ·
    replace c30 := Bool.eq_false_iff.mpr c30
    subst c30
    have H1 : ((itv_Of.f (mx t298 t300) (mn t299 t301)).bind fun bt306 => (some (bt306.1, bt306.2))) = some (r1, r2) := by rw [if_neg (show ¬ (false = true) by decide)] at H; exact H
    clear H
    have H := H1
    clear H1
    obtain ⟨ji36, hji36⟩ : ∃ j_ : Int, (mx t298 t300) = j_ := ⟨_, rfl⟩
    replace H : ((itv_Of.f (ji36) (mn t299 t301)).bind fun bt306 => (some (bt306.1, bt306.2))) = some (r1, r2) := by first | (rw [hji36] at H; exact H) | (simp only [hji36] at H ⊢; exact H)
    have hji36_ : (if t298 < t300 then t300 else t298) = ji36 := hji36
    obtain ⟨ji37, hji37⟩ : ∃ j_ : Int, (mn t299 t301) = j_ := ⟨_, rfl⟩
    replace H : ((itv_Of.f (ji36) (ji37)).bind fun bt306 => (some (bt306.1, bt306.2))) = some (r1, r2) := by first | (rw [hji37] at H; exact H) | (simp only [hji37] at H ⊢; exact H)
    have hji37_ : (if t301 < t299 then t301 else t299) = ji37 := hji37
    replace H := Option.bind_eq_some_iff.mp H
    obtain ⟨⟨t306, t307⟩, A380, H⟩ := H
    replace H : (some (t306, t307)) = some (r1, r2) := H
    have A38 := Aside0.mk A380
    clear A380
    simp only [Option.some.injEq, Prod.mk.injEq] at H
    obtain ⟨rfl, rfl⟩ := H
    have hnb39 := NB295_296.out
    have hnc39 := NB296_295.out
    have hnb40 := NB295_297.out
    have hnc40 := NB297_295.out
    have hcz41_0 : wc.cell? ⟨gb295, 0, none⟩ = some (.int .i64 t298) := cz0 BK295
    have hcz41_1 : wc.cell? ⟨gb295, 1, none⟩ = some (.int .i64 t299) := cz1 BK295
    have hfz41_0 := fz BK295 0
    have hfz41_1 := fz BK295 1
    have hnb42 := NB296_297.out
    have hnc42 := NB297_296.out
    have hcz43_0 : wc.cell? ⟨gb296, 0, none⟩ = some (.int .i64 t300) := cz0 BK296
    have hcz43_1 : wc.cell? ⟨gb296, 1, none⟩ = some (.int .i64 t301) := cz1 BK296
    have hfz43_0 := fz BK296 0
    have hfz43_1 := fz BK296 1
    go_wp2_with (first | ((with_reducible refine gate_callee (f := 75) rfl ?_); refine goesL_ (some 26) rfl rfl Tryd.func75 (by kernel_rfl) rfl #[.int .i64 ji36, .int .i64 ji37] rfl (by (try simp only [List.map_toArray, List.map_cons, List.map_nil]); first | done | (simp only [hji36, hji37]; rfl) | rfl | (simp only [List.length_drop, List.length_take]; rfl)) ?_; (with_reducible refine (itv_Of.calls ji36 ji37 t306 t307 _ A38.out).mono ?_); rintro e w44 ⟨rfl, hb⟩; refine ⟨_, rfl, ?_⟩; replace BK295 := kB BK295 hb; replace BK296 := kB BK296 hb; replace BK297 := kB BK297 hb; replace HB := kW HB hb; (try clear hb); (try clear hb2); (try clear hk); (try clear hi); have hcz45_0 := cz0 BK297; have hcz45_1 := cz1 BK297; have hfz45_0 := fz BK297 0; have hfz45_1 := fz BK297 1))
    refine bodyPost_ret (results_cell_row rfl _ _ gb297 38 #[.int .i64 t306, .int .i64 t307] (0, 0) _ rfl (by (with_reducible repeat (first | refine b1 ?_ _ | refine b2 ?_ | refine b3 ?_ _)); refine blk_put (cs := #[.int .i64 t306, .int .i64 0]) ?_ 1 _ rfl; (with_reducible repeat (first | refine b1 ?_ _ | refine b2 ?_ | refine b3 ?_ _)); refine blk_put (cs := #[.int .i64 0, .int .i64 0]) ?_ 0 _ rfl; (with_reducible repeat (first | refine b1 ?_ _ | refine b2 ?_ | refine b3 ?_ _)); exact BK297.out) Tryd.underlying38 rfl (by kernel_rfl)) rfl ?_
    exact ⟨by first | rfl | (simp [errW_none, errW_some] <;> rfl) | (simp only [← hji36, ← hji37]; first | rfl | (simp [errW_none, errW_some] <;> rfl)) | (simp [*, errW_none, errW_some] <;> rfl), bS HB⟩

def itv_Type.f (a0 : Int) : Option (Int × Int) := if a0 = 1 then (if 0 ≤ (IntKind.u64.wrap (a0)) then (if 0 ≤ (IntKind.u64.wrap ((shl .u64 4 (IntKind.u64.wrap (a0))) - 1)) then (some (wrap64 (-(shl .i64 1 (IntKind.u64.wrap ((shl .u64 4 (IntKind.u64.wrap (a0))) - 1)))), wrap64 ((shl .i64 1 (IntKind.u64.wrap ((shl .u64 4 (IntKind.u64.wrap (a0))) - 1))) - 1))) else (none)) else (none)) else (if a0 = 2 then (if 0 ≤ (IntKind.u64.wrap (a0)) then (if 0 ≤ (IntKind.u64.wrap ((shl .u64 4 (IntKind.u64.wrap (a0))) - 1)) then (some (wrap64 (-(shl .i64 1 (IntKind.u64.wrap ((shl .u64 4 (IntKind.u64.wrap (a0))) - 1)))), wrap64 ((shl .i64 1 (IntKind.u64.wrap ((shl .u64 4 (IntKind.u64.wrap (a0))) - 1))) - 1))) else (none)) else (none)) else (if a0 = 3 then (if 0 ≤ (IntKind.u64.wrap (a0)) then (if 0 ≤ (IntKind.u64.wrap ((shl .u64 4 (IntKind.u64.wrap (a0))) - 1)) then (some (wrap64 (-(shl .i64 1 (IntKind.u64.wrap ((shl .u64 4 (IntKind.u64.wrap (a0))) - 1)))), wrap64 ((shl .i64 1 (IntKind.u64.wrap ((shl .u64 4 (IntKind.u64.wrap (a0))) - 1))) - 1))) else (none)) else (none)) else ((itv_Empty.f).bind fun bt309 => (some (bt309.1, bt309.2)))))
set_option maxHeartbeats 8000000 in
set_option maxRecDepth 100000 in
theorem itv_Type.calls (a0 : Int) (r1 : Int) (r2 : Int) (w : World) (h : itv_Type.f a0 = some (r1, r2)) :
  Calls Tryd.prog 71 #[.int .i64 a0] w fun e w' => e = .returned (.agg #[.int .i64 r1, .int .i64 r2]) ∧ Below w.heap.size w w' := by
 have hu38 := Tryd.underlying38
 have HB := Aside0.mk (Below.refl w.heap.size w)
 have H : (if a0 = 1 then (if 0 ≤ (IntKind.u64.wrap (a0)) then (if 0 ≤ (IntKind.u64.wrap ((shl .u64 4 (IntKind.u64.wrap (a0))) - 1)) then (some (wrap64 (-(shl .i64 1 (IntKind.u64.wrap ((shl .u64 4 (IntKind.u64.wrap (a0))) - 1)))), wrap64 ((shl .i64 1 (IntKind.u64.wrap ((shl .u64 4 (IntKind.u64.wrap (a0))) - 1))) - 1))) else (none)) else (none)) else (if a0 = 2 then (if 0 ≤ (IntKind.u64.wrap (a0)) then (if 0 ≤ (IntKind.u64.wrap ((shl .u64 4 (IntKind.u64.wrap (a0))) - 1)) then (some (wrap64 (-(shl .i64 1 (IntKind.u64.wrap ((shl .u64 4 (IntKind.u64.wrap (a0))) - 1)))), wrap64 ((shl .i64 1 (IntKind.u64.wrap ((shl .u64 4 (IntKind.u64.wrap (a0))) - 1))) - 1))) else (none)) else (none)) else (if a0 = 3 then (if 0 ≤ (IntKind.u64.wrap (a0)) then (if 0 ≤ (IntKind.u64.wrap ((shl .u64 4 (IntKind.u64.wrap (a0))) - 1)) then (some (wrap64 (-(shl .i64 1 (IntKind.u64.wrap ((shl .u64 4 (IntKind.u64.wrap (a0))) - 1)))), wrap64 ((shl .i64 1 (IntKind.u64.wrap ((shl .u64 4 (IntKind.u64.wrap (a0))) - 1))) - 1))) else (none)) else (none)) else ((itv_Empty.f).bind fun bt309 => (some (bt309.1, bt309.2)))))) = some (r1, r2) := h
 clear h
 by_cases c2 : a0 = 1
 ·
  rw [if_pos c2] at H
  have c2b0 : (a0 == 1) = true := beq_iff_eq.mpr c2
  have c2b1 : (a0 != 1) = false := bne_eq_false_iff_eq.mpr c2
  clear c2
  obtain ⟨ji3, hji3⟩ : ∃ j_ : Int, (IntKind.u64.wrap (a0)) = j_ := ⟨_, rfl⟩
  replace H : (if 0 ≤ (ji3) then (if 0 ≤ (IntKind.u64.wrap ((shl .u64 4 (ji3)) - 1)) then (some (wrap64 (-(shl .i64 1 (IntKind.u64.wrap ((shl .u64 4 (ji3)) - 1)))), wrap64 ((shl .i64 1 (IntKind.u64.wrap ((shl .u64 4 (ji3)) - 1))) - 1))) else (none)) else (none)) = some (r1, r2) := by first | (rw [hji3] at H; exact H) | (simp only [hji3] at H ⊢; exact H)
  by_cases c4 : 0 ≤ (ji3)
  ·
   rw [if_pos c4] at H
   have c4b0 := eq_true c4
   have c4b1 : decide (0 ≤ (ji3)) = true := decide_eq_true c4
   clear c4
   obtain ⟨ji5, hji5⟩ : ∃ j_ : Int, (shl .u64 4 (ji3)) = j_ := ⟨_, rfl⟩
   replace H : (if 0 ≤ (IntKind.u64.wrap ((ji5) - 1)) then (some (wrap64 (-(shl .i64 1 (IntKind.u64.wrap ((ji5) - 1)))), wrap64 ((shl .i64 1 (IntKind.u64.wrap ((ji5) - 1))) - 1))) else (none)) = some (r1, r2) := by first | (rw [hji5] at H; exact H) | (simp only [hji5] at H ⊢; exact H)
   have hji5_ : (IntKind.u64.wrap (4 * 2 ^ min (ji3).toNat 64)) = ji5 := hji5
   have hji5z : (ji3) ≤ 64 → (IntKind.u64.wrap (4 * 2 ^ (ji3).toNat)) = ji5 := shl_small hji5
   obtain ⟨ji6, hji6⟩ : ∃ j_ : Int, (IntKind.u64.wrap ((ji5) - 1)) = j_ := ⟨_, rfl⟩
   replace H : (if 0 ≤ (ji6) then (some (wrap64 (-(shl .i64 1 (ji6))), wrap64 ((shl .i64 1 (ji6)) - 1))) else (none)) = some (r1, r2) := by first | (rw [hji6] at H; exact H) | (simp only [hji6] at H ⊢; exact H)
   by_cases c7 : 0 ≤ (ji6)
   ·
    rw [if_pos c7] at H
    have c7b0 := eq_true c7
    have c7b1 : decide (0 ≤ (ji6)) = true := decide_eq_true c7
    clear c7
    obtain ⟨ji8, hji8⟩ : ∃ j_ : Int, (shl .i64 1 (ji6)) = j_ := ⟨_, rfl⟩
    replace H : (some (wrap64 (-(ji8)), wrap64 ((ji8) - 1))) = some (r1, r2) := by first | (rw [hji8] at H; exact H) | (simp only [hji8] at H ⊢; exact H)
    have hji8_ : (IntKind.i64.wrap (1 * 2 ^ min (ji6).toNat 64)) = ji8 := hji8
    have hji8z : (ji6) ≤ 64 → (IntKind.i64.wrap (1 * 2 ^ (ji6).toNat)) = ji8 := shl_small hji8
    have hji8u : (IntKind.i64.wrap (2 ^ min (ji6).toNat 64)) = ji8 := by have h_ := hji8_; rw [Int.one_mul] at h_; exact h_
    have hji8v : (ji6) ≤ 64 → (IntKind.i64.wrap (2 ^ (ji6).toNat)) = ji8 := fun hle_ => by have h_ := hji8z hle_; rw [Int.one_mul] at h_; exact h_
    have hji8y : (wrap64 (1 * 2 ^ min (ji6).toNat 64)) = ji8 := (i64_w _).symm.trans hji8_
    have hji8x : (ji6) ≤ 64 → (wrap64 (1 * 2 ^ (ji6).toNat)) = ji8 := fun h_ => (i64_w _).symm.trans (hji8z h_)
    simp only [Option.some.injEq, Prod.mk.injEq] at H
    obtain ⟨rfl, rfl⟩ := H
    go_enter Tryd.func71, Tryd.ntmps71
    go_wp2_with (first | ((with_reducible refine gate_dst (N := 2) rfl ?_); refine box_event ?hg (N := 2) ?hd (cs := #[.int .i64 0, .int .i64 0]) (t := 38) ?hr ?_; (case hd => rfl); (case hg => rfl); (case hr => first | (go_simp; done) | (go_simp; rfl)); intro gb308 hg w9 hbox hb; have n0_ := kW HB hb; have n1_ := Aside0.mk (hbox); have n2_ := Aside0.mk ((by rw [hg]; exact (below_size (bS HB)) : w.heap.size ≤ gb308)); have n3_ := Aside0.mk ((by rw [hg]; exact (below_size (bS HB)) : w.heap.size ≤ gb308)); clear HB; have HB := n0_; have BK308 := n1_; have GW308 := n2_; have GE308 := n3_; clear n0_ n1_ n2_ n3_; clear hb hbox hg; have hcz10_0 := cz0 BK308; have hcz10_1 := cz1 BK308; have hfz10_0 := fz BK308 0; have hfz10_1 := fz BK308 1))
    refine bodyPost_ret (results_cell_row rfl _ _ gb308 38 #[.int .i64 (wrap64 (-(ji8))), .int .i64 (wrap64 ((ji8) - 1))] (0, 0) _ rfl (by (with_reducible repeat (first | refine b1 ?_ _ | refine b2 ?_ | refine b3 ?_ _)); refine blk_put (cs := #[.int .i64 (wrap64 (-(ji8))), .int .i64 0]) ?_ 1 _ rfl; (with_reducible repeat (first | refine b1 ?_ _ | refine b2 ?_ | refine b3 ?_ _)); refine blk_put (cs := #[.int .i64 0, .int .i64 0]) ?_ 0 _ rfl; (with_reducible repeat (first | refine b1 ?_ _ | refine b2 ?_ | refine b3 ?_ _)); exact BK308.out) Tryd.underlying38 rfl (by kernel_rfl)) rfl ?_
    exact ⟨by first | rfl | (simp [errW_none, errW_some] <;> rfl) | (simp only [← hji3, ← hji5, ← hji6, ← hji8]; first | rfl | (simp [errW_none, errW_some] <;> rfl)) | (simp [*, errW_none, errW_some] <;> rfl), bS HB⟩
   ·
    rw [if_neg c7] at H
    exact absurd H (by simp)
  ·
   rw [if_neg c4] at H
   exact absurd H (by simp)
 ·
  rw [if_neg c2] at H
  have c2b0 : (a0 == 1) = false := beq_eq_false_iff_ne.mpr c2
  have c2b1 : (a0 != 1) = true := bne_iff_ne.mpr c2
  by_cases c11 : a0 = 2
  ·
   rw [if_pos c11] at H
   have c11b0 : (a0 == 2) = true := beq_iff_eq.mpr c11
   have c11b1 : (a0 != 2) = false := bne_eq_false_iff_eq.mpr c11
   clear c11
   obtain ⟨ji12, hji12⟩ : ∃ j_ : Int, (IntKind.u64.wrap (a0)) = j_ := ⟨_, rfl⟩
   replace H : (if 0 ≤ (ji12) then (if 0 ≤ (IntKind.u64.wrap ((shl .u64 4 (ji12)) - 1)) then (some (wrap64 (-(shl .i64 1 (IntKind.u64.wrap ((shl .u64 4 (ji12)) - 1)))), wrap64 ((shl .i64 1 (IntKind.u64.wrap ((shl .u64 4 (ji12)) - 1))) - 1))) else (none)) else (none)) = some (r1, r2) := by first | (rw [hji12] at H; exact H) | (simp only [hji12] at H ⊢; exact H)
   by_cases c13 : 0 ≤ (ji12)
   ·
    rw [if_pos c13] at H
    have c13b0 := eq_true c13
    have c13b1 : decide (0 ≤ (ji12)) = true := decide_eq_true c13
    clear c13
    obtain ⟨ji14, hji14⟩ : ∃ j_ : Int, (shl .u64 4 (ji12)) = j_ := ⟨_, rfl⟩
    replace H : (if 0 ≤ (IntKind.u64.wrap ((ji14) - 1)) then (some (wrap64 (-(shl .i64 1 (IntKind.u64.wrap ((ji14) - 1)))), wrap64 ((shl .i64 1 (IntKind.u64.wrap ((ji14) - 1))) - 1))) else (none)) = some (r1, r2) := by first | (rw [hji14] at H; exact H) | (simp only [hji14] at H ⊢; exact H)
    have hji14_ : (IntKind.u64.wrap (4 * 2 ^ min (ji12).toNat 64)) = ji14 := hji14
    have hji14z : (ji12) ≤ 64 → (IntKind.u64.wrap (4 * 2 ^ (ji12).toNat)) = ji14 := shl_small hji14
    obtain ⟨ji15, hji15⟩ : ∃ j_ : Int, (IntKind.u64.wrap ((ji14) - 1)) = j_ := ⟨_, rfl⟩
    replace H : (if 0 ≤ (ji15) then (some (wrap64 (-(shl .i64 1 (ji15))), wrap64 ((shl .i64 1 (ji15)) - 1))) else (none)) = some (r1, r2) := by first | (rw [hji15] at H; exact H) | (simp only [hji15] at H ⊢; exact H)
    by_cases c16 : 0 ≤ (ji15)
    ·
     rw [if_pos c16] at H
     have c16b0 := eq_true c16
     have c16b1 : decide (0 ≤ (ji15)) = true := decide_eq_true c16
     clear c16
     obtain ⟨ji17, hji17⟩ : ∃ j_ : Int, (shl .i64 1 (ji15)) = j_ := ⟨_, rfl⟩
     replace H : (some (wrap64 (-(ji17)), wrap64 ((ji17) - 1))) = some (r1, r2) := by first | (rw [hji17] at H; exact H) | (simp only [hji17] at H ⊢; exact H)
     have hji17_ : (IntKind.i64.wrap (1 * 2 ^ min (ji15).toNat 64)) = ji17 := hji17
     have hji17z : (ji15) ≤ 64 → (IntKind.i64.wrap (1 * 2 ^ (ji15).toNat)) = ji17 := shl_small hji17
     have hji17u : (IntKind.i64.wrap (2 ^ min (ji15).toNat 64)) = ji17 := by have h_ := hji17_; rw [Int.one_mul] at h_; exact h_
     have hji17v : (ji15) ≤ 64 → (IntKind.i64.wrap (2 ^ (ji15).toNat)) = ji17 := fun hle_ => by have h_ := hji17z hle_; rw [Int.one_mul] at h_; exact h_
     have hji17y : (wrap64 (1 * 2 ^ min (ji15).toNat 64)) = ji17 := (i64_w _).symm.trans hji17_
     have hji17x : (ji15) ≤ 64 → (wrap64 (1 * 2 ^ (ji15).toNat)) = ji17 := fun h_ => (i64_w _).symm.trans (hji17z h_)
     simp only [Option.some.injEq, Prod.mk.injEq] at H
     obtain ⟨rfl, rfl⟩ := H
     go_enter Tryd.func71, Tryd.ntmps71
     go_wp2_with (first | ((with_reducible refine gate_dst (N := 2) rfl ?_); refine box_event ?hg (N := 2) ?hd (cs := #[.int .i64 0, .int .i64 0]) (t := 38) ?hr ?_; (case hd => rfl); (case hg => rfl); (case hr => first | (go_simp; done) | (go_simp; rfl)); intro gb308 hg w18 hbox hb; have n0_ := kW HB hb; have n1_ := Aside0.mk (hbox); have n2_ := Aside0.mk ((by rw [hg]; exact (below_size (bS HB)) : w.heap.size ≤ gb308)); have n3_ := Aside0.mk ((by rw [hg]; exact (below_size (bS HB)) : w.heap.size ≤ gb308)); clear HB; have HB := n0_; have BK308 := n1_; have GW308 := n2_; have GE308 := n3_; clear n0_ n1_ n2_ n3_; clear hb hbox hg; have hcz19_0 := cz0 BK308; have hcz19_1 := cz1 BK308; have hfz19_0 := fz BK308 0; have hfz19_1 := fz BK308 1))
     refine bodyPost_ret (results_cell_row rfl _ _ gb308 38 #[.int .i64 (wrap64 (-(ji17))), .int .i64 (wrap64 ((ji17) - 1))] (0, 0) _ rfl (by (with_reducible repeat (first | refine b1 ?_ _ | refine b2 ?_ | refine b3 ?_ _)); refine blk_put (cs := #[.int .i64 (wrap64 (-(ji17))), .int .i64 0]) ?_ 1 _ rfl; (with_reducible repeat (first | refine b1 ?_ _ | refine b2 ?_ | refine b3 ?_ _)); refine blk_put (cs := #[.int .i64 0, .int .i64 0]) ?_ 0 _ rfl; (with_reducible repeat (first | refine b1 ?_ _ | refine b2 ?_ | refine b3 ?_ _)); exact BK308.out) Tryd.underlying38 rfl (by kernel_rfl)) rfl ?_
     exact ⟨by first | rfl | (simp [errW_none, errW_some] <;> rfl) | (simp only [← hji12, ← hji14, ← hji15, ← hji17]; first | rfl | (simp [errW_none, errW_some] <;> rfl)) | (simp [*, errW_none, errW_some] <;> rfl), bS HB⟩
    ·
     rw [if_neg c16] at H
     exact absurd H (by simp)
   ·
    rw [if_neg c13] at H
    exact absurd H (by simp)
  ·
   rw [if_neg c11] at H
   have c11b0 : (a0 == 2) = false := beq_eq_false_iff_ne.mpr c11
   have c11b1 : (a0 != 2) = true := bne_iff_ne.mpr c11
   by_cases c20 : a0 = 3
   ·
    rw [if_pos c20] at H
    have c20b0 : (a0 == 3) = true := beq_iff_eq.mpr c20
    have c20b1 : (a0 != 3) = false := bne_eq_false_iff_eq.mpr c20
    clear c20
    obtain ⟨ji21, hji21⟩ : ∃ j_ : Int, (IntKind.u64.wrap (a0)) = j_ := ⟨_, rfl⟩
    replace H : (if 0 ≤ (ji21) then (if 0 ≤ (IntKind.u64.wrap ((shl .u64 4 (ji21)) - 1)) then (some (wrap64 (-(shl .i64 1 (IntKind.u64.wrap ((shl .u64 4 (ji21)) - 1)))), wrap64 ((shl .i64 1 (IntKind.u64.wrap ((shl .u64 4 (ji21)) - 1))) - 1))) else (none)) else (none)) = some (r1, r2) := by first | (rw [hji21] at H; exact H) | (simp only [hji21] at H ⊢; exact H)
    by_cases c22 : 0 ≤ (ji21)
    ·
     rw [if_pos c22] at H
     have c22b0 := eq_true c22
     have c22b1 : decide (0 ≤ (ji21)) = true := decide_eq_true c22
     clear c22
     obtain ⟨ji23, hji23⟩ : ∃ j_ : Int, (shl .u64 4 (ji21)) = j_ := ⟨_, rfl⟩
     replace H : (if 0 ≤ (IntKind.u64.wrap ((ji23) - 1)) then (some (wrap64 (-(shl .i64 1 (IntKind.u64.wrap ((ji23) - 1)))), wrap64 ((shl .i64 1 (IntKind.u64.wrap ((ji23) - 1))) - 1))) else (none)) = some (r1, r2) := by first | (rw [hji23] at H; exact H) | (simp only [hji23] at H ⊢; exact H)
     have hji23_ : (IntKind.u64.wrap (4 * 2 ^ min (ji21).toNat 64)) = ji23 := hji23
     have hji23z : (ji21) ≤ 64 → (IntKind.u64.wrap (4 * 2 ^ (ji21).toNat)) = ji23 := shl_small hji23
     obtain ⟨ji24, hji24⟩ : ∃ j_ : Int, (IntKind.u64.wrap ((ji23) - 1)) = j_ := ⟨_, rfl⟩
     replace H : (if 0 ≤ (ji24) then (some (wrap64 (-(shl .i64 1 (ji24))), wrap64 ((shl .i64 1 (ji24)) - 1))) else (none)) = some (r1, r2) := by first | (rw [hji24] at H; exact H) | (simp only [hji24] at H ⊢; exact H)
     by_cases c25 : 0 ≤ (ji24)
     ·
      rw [if_pos c25] at H
      have c25b0 := eq_true c25
      have c25b1 : decide (0 ≤ (ji24)) = true := decide_eq_true c25
      clear c25
      obtain ⟨ji26, hji26⟩ : ∃ j_ : Int, (shl .i64 1 (ji24)) = j_ := ⟨_, rfl⟩
      replace H : (some (wrap64 (-(ji26)), wrap64 ((ji26) - 1))) = some (r1, r2) := by first | (rw [hji26] at H; exact H) | (simp only [hji26] at H ⊢; exact H)
      have hji26_ : (IntKind.i64.wrap (1 * 2 ^ min (ji24).toNat 64)) = ji26 := hji26
      have hji26z : (ji24) ≤ 64 → (IntKind.i64.wrap (1 * 2 ^ (ji24).toNat)) = ji26 := shl_small hji26
      have hji26u : (IntKind.i64.wrap (2 ^ min (ji24).toNat 64)) = ji26 := by have h_ := hji26_; rw [Int.one_mul] at h_; exact h_
      have hji26v : (ji24) ≤ 64 → (IntKind.i64.wrap (2 ^ (ji24).toNat)) = ji26 := fun hle_ => by have h_ := hji26z hle_; rw [Int.one_mul] at h_; exact h_
      have hji26y : (wrap64 (1 * 2 ^ min (ji24).toNat 64)) = ji26 := (i64_w _).symm.trans hji26_
      have hji26x : (ji24) ≤ 64 → (wrap64 (1 * 2 ^ (ji24).toNat)) = ji26 := fun h_ => (i64_w _).symm.trans (hji26z h_)
      simp only [Option.some.injEq, Prod.mk.injEq] at H
      obtain ⟨rfl, rfl⟩ := H
      go_enter Tryd.func71, Tryd.ntmps71
      go_wp2_with (first | ((with_reducible refine gate_dst (N := 2) rfl ?_); refine box_event ?hg (N := 2) ?hd (cs := #[.int .i64 0, .int .i64 0]) (t := 38) ?hr ?_; (case hd => rfl); (case hg => rfl); (case hr => first | (go_simp; done) | (go_simp; rfl)); intro gb308 hg w27 hbox hb; have n0_ := kW HB hb; have n1_ := Aside0.mk (hbox); have n2_ := Aside0.mk ((by rw [hg]; exact (below_size (bS HB)) : w.heap.size ≤ gb308)); have n3_ := Aside0.mk ((by rw [hg]; exact (below_size (bS HB)) : w.heap.size ≤ gb308)); clear HB; have HB := n0_; have BK308 := n1_; have GW308 := n2_; have GE308 := n3_; clear n0_ n1_ n2_ n3_; clear hb hbox hg; have hcz28_0 := cz0 BK308; have hcz28_1 := cz1 BK308; have hfz28_0 := fz BK308 0; have hfz28_1 := fz BK308 1))
      refine bodyPost_ret (results_cell_row rfl _ _ gb308 38 #[.int .i64 (wrap64 (-(ji26))), .int .i64 (wrap64 ((ji26) - 1))] (0, 0) _ rfl (by (with_reducible repeat (first | refine b1 ?_ _ | refine b2 ?_ | refine b3 ?_ _)); refine blk_put (cs := #[.int .i64 (wrap64 (-(ji26))), .int .i64 0]) ?_ 1 _ rfl; (with_reducible repeat (first | refine b1 ?_ _ | refine b2 ?_ | refine b3 ?_ _)); refine blk_put (cs := #[.int .i64 0, .int .i64 0]) ?_ 0 _ rfl; (with_reducible repeat (first | refine b1 ?_ _ | refine b2 ?_ | refine b3 ?_ _)); exact BK308.out) Tryd.underlying38 rfl (by kernel_rfl)) rfl ?_
      exact ⟨by first | rfl | (simp [errW_none, errW_some] <;> rfl) | (simp only [← hji21, ← hji23, ← hji24, ← hji26]; first | rfl | (simp [errW_none, errW_some] <;> rfl)) | (simp [*, errW_none, errW_some] <;> rfl), bS HB⟩
     ·
      rw [if_neg c25] at H
      exact absurd H (by simp)
    ·
     rw [if_neg c22] at H
     exact absurd H (by simp)
   ·
    rw [if_neg c20] at H
    have c20b0 : (a0 == 3) = false := beq_eq_false_iff_ne.mpr c20
    have c20b1 : (a0 != 3) = true := bne_iff_ne.mpr c20
    replace H := Option.bind_eq_some_iff.mp H
    obtain ⟨⟨t309, t310⟩, A290, H⟩ := H
    replace H : (some (t309, t310)) = some (r1, r2) := H
    have A29 := Aside0.mk A290
    clear A290
    simp only [Option.some.injEq, Prod.mk.injEq] at H
    obtain ⟨rfl, rfl⟩ := H
    go_enter Tryd.func71, Tryd.ntmps71
    go_wp2_with (first | ((with_reducible refine gate_dst (N := 2) rfl ?_); refine box_event ?hg (N := 2) ?hd (cs := #[.int .i64 0, .int .i64 0]) (t := 38) ?hr ?_; (case hd => rfl); (case hg => rfl); (case hr => first | (go_simp; done) | (go_simp; rfl)); intro gb308 hg w30 hbox hb; have n0_ := kW HB hb; have n1_ := Aside0.mk (hbox); have n2_ := Aside0.mk ((by rw [hg]; exact (below_size (bS HB)) : w.heap.size ≤ gb308)); have n3_ := Aside0.mk ((by rw [hg]; exact (below_size (bS HB)) : w.heap.size ≤ gb308)); clear HB; have HB := n0_; have BK308 := n1_; have GW308 := n2_; have GE308 := n3_; clear n0_ n1_ n2_ n3_; clear hb hbox hg) | ((with_reducible refine gate_callee (f := 73) rfl ?_); refine goesL_ (some 19) rfl rfl Tryd.func73 (by kernel_rfl) rfl #[] rfl mS ?_; (with_reducible refine (itv_Empty.calls  t309 t310 _ A29.out).mono ?_); rintro e w31 ⟨rfl, hb⟩; refine ⟨_, rfl, ?_⟩; replace BK308 := kB BK308 hb; replace HB := kW HB hb; (try clear hb); (try clear hb2); (try clear hk); (try clear hi); have hcz32_0 := cz0 BK308; have hcz32_1 := cz1 BK308; have hfz32_0 := fz BK308 0; have hfz32_1 := fz BK308 1))
    refine bodyPost_ret (results_cell_row rfl _ _ gb308 38 #[.int .i64 t309, .int .i64 t310] (0, 0) _ rfl (by (with_reducible repeat (first | refine b1 ?_ _ | refine b2 ?_ | refine b3 ?_ _)); refine blk_put (cs := #[.int .i64 t309, .int .i64 0]) ?_ 1 _ rfl; (with_reducible repeat (first | refine b1 ?_ _ | refine b2 ?_ | refine b3 ?_ _)); refine blk_put (cs := #[.int .i64 0, .int .i64 0]) ?_ 0 _ rfl; (with_reducible repeat (first | refine b1 ?_ _ | refine b2 ?_ | refine b3 ?_ _)); exact BK308.out) Tryd.underlying38 rfl (by kernel_rfl)) rfl ?_
    exact ⟨eS, bS HB⟩

end Go.Proofs.YtfmmjekhknaniaaDoor.Pr

