/- This claim's own texts, joined, with only what the claim uses: Hx20, Hx28, Hx29, Hx30, FnD, FnE, FnF, Hx24. -/
import Derived.Test.YtfmmjekhknaniaaDoorTestP5
namespace Go.Proofs.YtfmmjekhknaniaaDoor.Pr
open Go.RowKit Go.Proofs.YtfmmjekhknaniaaDoor.Given Go.Proofs.YtfmmjekhknaniaaDoorW.PrintWords Go.Proofs.YtfmmjekhknaniaaDoorW.PrintLast Go.Proofs.YtfmmjekhknaniaaDoorW.PrintMore
attribute [local go_sem] max2_int min2_int max_two min_two max_three min_three max_four min_four   -- for this text's walks alone
set_option linter.unusedVariables false
set_option linter.unusedSimpArgs false

mutual
def congr_Meet.j0 : Nat → Bool → Bool → Int → Int → Bool → Int → Int → Option (Bool × Int × Int)
 | 0, _, _, _, _, _, _, _ => none
 | k + 1, x11, x198000, x198001, x198002, x199000, x199001, x199002 => if x11 = true then ((congr_none.f).bind fun bt200 => (some (bt200.1, bt200.2.1, bt200.2.2))) else (if x198001 = 0 then (congr_Meet.j1 k true x198000 x198001 x198002 x199000 x199001 x199002) else (congr_Meet.j1 k (x199001 == 0) x198000 x198001 x198002 x199000 x199001 x199002))
def congr_Meet.j1 : Nat → Bool → Bool → Int → Int → Bool → Int → Int → Option (Bool × Int × Int)
 | 0, _, _, _, _, _, _, _ => none
 | k + 1, x19, x198000, x198001, x198002, x199000, x199001, x199002 => if x19 = true then (if x198001 = 0 then (congr_Meet.j2 k x198000 x198001 x198002 x199000 x199001 x199002) else (congr_Meet.j2 k x199000 x199001 x199002 x198000 x198001 x198002)) else ((congr_gcd_uint64.f k (IntKind.u64.wrap (x198001)) (IntKind.u64.wrap (x199001))).bind fun t207 => ((congr_size.f (wrap64 (x198002 - x199002))).bind fun t208 => (if t207 = 0 then (none) else (if (Int.tmod t208 t207) = 0 then (if (IntKind.u64.wrap (Int.tdiv (IntKind.u64.wrap (x199001)) t207)) > 1 then (if (wrap64 (t207)) = 0 then (none) else ((congr_rest.f (wrap64 (Int.tdiv (wrap64 (x199002 - x198002)) (wrap64 (t207)))) (IntKind.u64.wrap (Int.tdiv (IntKind.u64.wrap (x199001)) t207))).bind fun t212 => (if (IntKind.u64.wrap (Int.tdiv (IntKind.u64.wrap (x199001)) t207)) = 0 then (none) else ((congr_inverse.f k (Int.tmod (IntKind.u64.wrap (Int.tdiv (IntKind.u64.wrap (x198001)) t207)) (IntKind.u64.wrap (Int.tdiv (IntKind.u64.wrap (x199001)) t207))) (IntKind.u64.wrap (Int.tdiv (IntKind.u64.wrap (x199001)) t207))).bind fun t213 => ((bits_Mul64.f t212 t213).bind fun bt214 => ((congr_words_rest.f bt214.1 bt214.2 (IntKind.u64.wrap (Int.tdiv (IntKind.u64.wrap (x199001)) t207))).bind fun t216 => ((congr_of.f k (IntKind.u64.wrap ((IntKind.u64.wrap (x198001)) * (IntKind.u64.wrap (Int.tdiv (IntKind.u64.wrap (x199001)) t207)))) (IntKind.u64.wrap ((IntKind.u64.wrap ((IntKind.u64.wrap (x198001)) * t216)) + (IntKind.u64.wrap (x198002))))).bind fun bt217 => (some (bt217.1, bt217.2.1, bt217.2.2))))))))) else ((congr_of.f k (IntKind.u64.wrap ((IntKind.u64.wrap (x198001)) * (IntKind.u64.wrap (Int.tdiv (IntKind.u64.wrap (x199001)) t207)))) (IntKind.u64.wrap ((IntKind.u64.wrap ((IntKind.u64.wrap (x198001)) * 0)) + (IntKind.u64.wrap (x198002))))).bind fun bt220 => (some (bt220.1, bt220.2.1, bt220.2.2)))) else ((congr_none.f).bind fun bt209 => (some (bt209.1, bt209.2.1, bt209.2.2)))))))
def congr_Meet.j2 : Nat → Bool → Int → Int → Bool → Int → Int → Option (Bool × Int × Int)
 | 0, _, _, _, _, _, _ => none
 | k + 1, x198000, x198001, x198002, x199000, x199001, x199002 => (congr_Has.f k x199000 x199001 x199002 x198002).bind fun t203 => (if t203 = true then (some (x198000, x198001, x198002)) else ((congr_none.f).bind fun bt204 => (some (bt204.1, bt204.2.1, bt204.2.2))))
end
def congr_Meet.f (k : Nat) (a0_0 : Bool) (a0_1 : Int) (a0_2 : Int) (a1_0 : Bool) (a1_1 : Int) (a1_2 : Int) : Option (Bool × Int × Int) := if a0_0 = true then (congr_Meet.j0 k true a0_0 a0_1 a0_2 a1_0 a1_1 a1_2) else (congr_Meet.j0 k a1_0 a0_0 a0_1 a0_2 a1_0 a1_1 a1_2)
def congr_Meet.T9 : Bool × List (List Nat × List Nat) := (true, [([], []), ([0], [0]), ([1], [1]), ([], []), ([3], [3]), ([4], [4]), ([2, 0, 1, 2], [2]), ([5, 6, 0, 1, 2, 3, 4, 5, 6], [5])])
def congr_Meet.B9 : List Nat := [0, 1, 3, 0, 8, 24, 7, 127]
theorem congr_Meet.tab9 : rtab .any (opsOf Tryd.f20 9) = congr_Meet.T9 := by kernel_rfl
theorem congr_Meet.bits9 : waitsOk congr_Meet.T9.2 congr_Meet.B9 = true := by kernel_rfl
def congr_Meet.T15 : Bool × List (List Nat × List Nat) := (true, [([], []), ([0], [0]), ([], []), ([2], [2]), ([1, 3], [1, 3]), ([], []), ([5], [5]), ([4, 6], [4, 6]), ([], []), ([], []), ([8, 9], [8, 9]), ([7, 10], [7, 10]), ([], []), ([], []), ([12, 13], [12, 13]), ([], []), ([], []), ([15, 16], [15, 16]), ([14, 17], [14, 17]), ([], []), ([], []), ([19, 20], [19, 20]), ([18, 21, 11], [18, 21]), ([11, 22, 22], [11, 22]), ([23], [23]), ([24], [24]), ([24], [24]), ([25, 23, 0, 1, 2, 3, 4, 5, 6, 7, 8, 9, 10, 11, 12, 13, 14, 15, 16, 17, 18, 19, 20, 21, 22, 23, 24, 25], [25]), ([26, 27, 0, 1, 2, 3, 4, 5, 6, 7, 8, 9, 10, 11, 12, 13, 14, 15, 16, 17, 18, 19, 20, 21, 22, 23, 24, 25, 26, 27], [26])])
def congr_Meet.B15 : List Nat := [0, 1, 0, 4, 15, 0, 32, 127, 0, 0, 768, 2047, 0, 0, 12288, 0, 0, 98304, 258048, 0, 0, 1572864, 4194303, 8388607, 16777215, 33554431, 33554431, 67108863, 268435455]
theorem congr_Meet.tab15 : rtab .any (opsOf Tryd.f20 15) = congr_Meet.T15 := by kernel_rfl
theorem congr_Meet.bits15 : waitsOk congr_Meet.T15.2 congr_Meet.B15 = true := by kernel_rfl
def congr_Meet.T17 : Bool × List (List Nat × List Nat) := (true, [([], []), ([], []), ([], []), ([1, 2], [1, 2]), ([0, 3], [0, 3]), ([], []), ([], []), ([5, 6], [5, 6]), ([], []), ([8], [8]), ([9], [9]), ([7, 10], [7, 10]), ([4, 11], [4, 11]), ([12, 12, 0, 1, 2, 3, 4, 5, 6, 7, 8, 9, 10, 11, 12], [12])])
def congr_Meet.B17 : List Nat := [0, 0, 0, 6, 15, 0, 0, 96, 0, 256, 768, 2016, 4095, 8191]
theorem congr_Meet.tab17 : rtab .any (opsOf Tryd.f20 17) = congr_Meet.T17 := by kernel_rfl
theorem congr_Meet.bits17 : waitsOk congr_Meet.T17.2 congr_Meet.B17 = true := by kernel_rfl
set_option maxHeartbeats 8000000 in
set_option maxRecDepth 100000 in
theorem congr_Meet.calls (k : Nat) (a0_0 : Bool) (a0_1 : Int) (a0_2 : Int) (a1_0 : Bool) (a1_1 : Int) (a1_2 : Int) (r1 : Bool) (r2 : Int) (r3 : Int) (w : World) (h : congr_Meet.f k a0_0 a0_1 a0_2 a1_0 a1_1 a1_2 = some (r1, r2, r3)) :
  Calls Tryd.prog 20 #[.agg #[.bool a0_0, .int .i64 a0_1, .int .i64 a0_2], .agg #[.bool a1_0, .int .i64 a1_1, .int .i64 a1_2]] w fun e w' => e = .returned (.agg #[.bool r1, .int .i64 r2, .int .i64 r3]) ∧ Below w.heap.size w w' := by
 have hu23 := Tryd.underlying23
 have hu67 := Tryd.underlying67
 have HB := Aside0.mk (Below.refl w.heap.size w)
 have H : (if a0_0 = true then (congr_Meet.j0 k true a0_0 a0_1 a0_2 a1_0 a1_1 a1_2) else (congr_Meet.j0 k a1_0 a0_0 a0_1 a0_2 a1_0 a1_1 a1_2)) = some (r1, r2, r3) := h
 clear h
 have HC3 := Aside0.mk H
 clear H
 go_enter Tryd.func20, Tryd.ntmps20
 go_upto_region 1 with (first | ((with_reducible refine gate_dst (N := 2) rfl ?_); refine box_event ?hg (N := 2) ?hd (cs := #[.bool a0_0, .int .i64 a0_1, .int .i64 a0_2]) (t := 23) ?hr ?_; (case hd => rfl); (case hg => rfl); (case hr => first | (go_simp; done) | (go_simp; rfl)); intro gb197 hg w4 hbox hb; have n0_ := kW HB hb; have n1_ := Aside0.mk (hbox); have n2_ := Aside0.mk ((by rw [hg]; exact (below_size (bS HB)) : w.heap.size ≤ gb197)); have n3_ := Aside0.mk ((by rw [hg]; exact (below_size (bS HB)) : w.heap.size ≤ gb197)); clear HB; have HB := n0_; have BK197 := n1_; have GW197 := n2_; have GE197 := n3_; clear n0_ n1_ n2_ n3_; clear hb hbox hg) | ((with_reducible refine gate_dst (N := 3) rfl ?_); refine box_event ?hg (N := 3) ?hd (cs := #[.bool a1_0, .int .i64 a1_1, .int .i64 a1_2]) (t := 23) ?hr ?_; (case hd => rfl); (case hg => rfl); (case hr => first | (go_simp; done) | (go_simp; rfl)); intro gb198 hg w5 hbox hb; have n0_ := kB BK197 hb; have n1_ := kW HB hb; have n2_ := Aside0.mk (hbox); have n3_ := Aside0.mk ((by rw [hg]; exact (below_size (bS HB)) : w.heap.size ≤ gb198)); have n4_ := Aside0.mk ((by rw [hg]; exact (below_size (bS HB)) : w.heap.size ≤ gb198)); have n5_ := Aside0.mk ((by rw [hg]; exact Nat.ne_of_lt (blk_lt (bkS BK197)) : gb197 ≠ gb198)); have n6_ := Aside0.mk ((by rw [hg]; exact Nat.ne_of_gt (blk_lt (bkS BK197)) : gb198 ≠ gb197)); clear BK197; clear HB; have BK197 := n0_; have HB := n1_; have BK198 := n2_; have GW198 := n3_; have GE198 := n4_; have NB197_198 := n5_; have NB198_197 := n6_; clear n0_ n1_ n2_ n3_ n4_ n5_ n6_; clear hb hbox hg) | ((with_reducible refine gate_dst (N := 4) rfl ?_); refine box_event ?hg (N := 4) ?hd (cs := #[.bool false, .int .i64 0, .int .i64 0]) (t := 23) ?hr ?_; (case hd => rfl); (case hg => rfl); (case hr => first | (go_simp; done) | (go_simp; rfl)); intro gb199 hg w6 hbox hb; have n0_ := kB BK197 hb; have n1_ := kB BK198 hb; have n2_ := kW HB hb; have n3_ := Aside0.mk (hbox); have n4_ := Aside0.mk ((by rw [hg]; exact (below_size (bS HB)) : w.heap.size ≤ gb199)); have n5_ := Aside0.mk ((by rw [hg]; exact (below_size (bS HB)) : w.heap.size ≤ gb199)); have n6_ := Aside0.mk ((by rw [hg]; exact Nat.ne_of_lt (blk_lt (bkS BK197)) : gb197 ≠ gb199)); have n7_ := Aside0.mk ((by rw [hg]; exact Nat.ne_of_gt (blk_lt (bkS BK197)) : gb199 ≠ gb197)); have n8_ := Aside0.mk ((by rw [hg]; exact Nat.ne_of_lt (blk_lt (bkS BK198)) : gb198 ≠ gb199)); have n9_ := Aside0.mk ((by rw [hg]; exact Nat.ne_of_gt (blk_lt (bkS BK198)) : gb199 ≠ gb198)); clear BK197; clear BK198; clear HB; have BK197 := n0_; have BK198 := n1_; have HB := n2_; have BK199 := n3_; have GW199 := n4_; have GE199 := n5_; have NB197_199 := n6_; have NB199_197 := n7_; have NB198_199 := n8_; have NB199_198 := n9_; clear n0_ n1_ n2_ n3_ n4_ n5_ n6_ n7_ n8_ n9_; clear hb hbox hg))
 (try simp only [Act.put, lA, lB, lC])
 go_cut [11] (fun v11 wc => ∃ (kq : Nat) (x11_2 : Bool), v11 = .bool x11_2 ∧ Aside0 (congr_Meet.j0 kq x11_2 a0_0 a0_1 a0_2 a1_0 a1_1 a1_2 = some (r1, r2, r3)) ∧ Aside0 (kq ≤ k) ∧ Aside0 (wc.heap[gb197]? = some (.cells #[.bool a0_0, .int .i64 a0_1, .int .i64 a0_2] 23 (0, 0))) ∧ Aside0 (wc.heap[gb198]? = some (.cells #[.bool a1_0, .int .i64 a1_1, .int .i64 a1_2] 23 (0, 0))) ∧ Aside0 (wc.heap[gb199]? = some (.cells #[.bool false, .int .i64 0, .int .i64 0] 23 (0, 0))) ∧ Aside0 (Below w.heap.size w wc))
 case first =>
  have H := HC3.out
  clear HC3
  by_cases c7 : a0_0 = true
  ·
   subst c7
   have H1 : (congr_Meet.j0 k true true a0_1 a0_2 a1_0 a1_1 a1_2) = some (r1, r2, r3) := by rw [if_pos rfl] at H; exact H
   clear H
   have H := H1
   clear H1
   have H' := Aside0.mk H
   clear H
   have hnb8 := NB197_198.out
   have hnc8 := NB198_197.out
   have hnb9 := NB197_199.out
   have hnc9 := NB199_197.out
   have hcz10_0 := cz0 BK197
   have hcz10_1 := cz1 BK197
   have hcz10_2 := cz2 BK197
   have hfz10_0 := fz BK197 0
   have hfz10_1 := fz BK197 1
   have hfz10_2 := fz BK197 2
   go_wp2
   go_meet
   case rel => exact ⟨_, (true), (by first | rfl | (simp; done) | (simp [*]; done)), H', ⟨by first | omega | exact Nat.le_refl _⟩, ⟨bkS BK197⟩, ⟨bkS BK198⟩, ⟨bkS BK199⟩, ⟨bS HB⟩⟩
  ·
   replace c7 := Bool.eq_false_iff.mpr c7
   subst c7
   have H1 : (congr_Meet.j0 k a1_0 false a0_1 a0_2 a1_0 a1_1 a1_2) = some (r1, r2, r3) := by rw [if_neg (show ¬ (false = true) by decide)] at H; exact H
   clear H
   have H := H1
   clear H1
   have H' := Aside0.mk H
   clear H
   have hnb11 := NB197_198.out
   have hnc11 := NB198_197.out
   have hnb12 := NB197_199.out
   have hnc12 := NB199_197.out
   have hcz13_0 := cz0 BK197
   have hcz13_1 := cz1 BK197
   have hcz13_2 := cz2 BK197
   have hfz13_0 := fz BK197 0
   have hfz13_1 := fz BK197 1
   have hfz13_2 := fz BK197 2
   have hnb14 := NB198_199.out
   have hnc14 := NB199_198.out
   have hcz15_0 := cz0 BK198
   have hcz15_1 := cz1 BK198
   have hcz15_2 := cz2 BK198
   have hfz15_0 := fz BK198 0
   have hfz15_1 := fz BK198 1
   have hfz15_2 := fz BK198 2
   go_wp2
   go_meet
   case rel => exact ⟨_, (a1_0), (by first | rfl | (simp; done) | (simp [*]; done)), H', ⟨by first | omega | exact Nat.le_refl _⟩, ⟨bkS BK197⟩, ⟨bkS BK198⟩, ⟨bkS BK199⟩, ⟨bS HB⟩⟩
 case rest =>
  clear HC3
  try clear c1
  try clear c2
  try clear p2
  try clear c7
  try clear c8
  try clear c9
  try clear c11
  try clear c12
  try clear c14
  try clear hcz10_0
  try clear hcz10_1
  try clear hcz10_2
  try clear hcz13_0
  try clear hcz13_1
  try clear hcz13_2
  try clear hcz15_0
  try clear hcz15_1
  try clear hcz15_2
  try clear hfz10_0
  try clear hfz10_1
  try clear hfz10_2
  try clear hfz13_0
  try clear hfz13_1
  try clear hfz13_2
  try clear hfz15_0
  try clear hfz15_1
  try clear hfz15_2
  obtain ⟨kq, x11_2, rfl, HA, HJ2, BK197, BK198, BK199, HB⟩ := hcut
  cases kq with
  | zero => exact absurd HA.out (by simp [congr_Meet.j0])
  | succ kj2 =>
   have H := HA.out
   clear HA
   simp only [congr_Meet.j0] at H
   by_cases c16 : x11_2 = true
   ·
    subst c16
    have H1 : ((congr_none.f).bind fun bt200 => (some (bt200.1, bt200.2.1, bt200.2.2))) = some (r1, r2, r3) := by rw [if_pos rfl] at H; exact H
    clear H
    have H := H1
    clear H1
    replace H := Option.bind_eq_some_iff.mp H
    obtain ⟨⟨t200, t201, t202⟩, A170, H⟩ := H
    replace H : (some (t200, t201, t202)) = some (r1, r2, r3) := H
    have A17 := Aside0.mk A170
    clear A170
    simp only [Option.some.injEq, Prod.mk.injEq] at H
    obtain ⟨rfl, rfl, rfl⟩ := H
    go_wp2_with (first | ((with_reducible refine gate_callee (f := 56) rfl ?_); refine goesL_ (some 18) rfl rfl Tryd.func56 (by kernel_rfl) rfl #[] rfl mS ?_; (with_reducible refine (congr_none.calls  t200 t201 t202 _ A17.out).mono ?_); rintro e w18 ⟨rfl, hb⟩; refine ⟨_, rfl, ?_⟩; replace BK197 := kB BK197 hb; replace BK198 := kB BK198 hb; replace BK199 := kB BK199 hb; replace HB := kW HB hb; (try clear hb); (try clear hb2); (try clear hk); (try clear hi); have hnb19 := NB199_197.out; have hnc19 := NB197_199.out; have hnb20 := NB199_198.out; have hnc20 := NB198_199.out; have hcz21_0 := cz0 BK199; have hcz21_1 := cz1 BK199; have hcz21_2 := cz2 BK199; have hfz21_0 := fz BK199 0; have hfz21_1 := fz BK199 1; have hfz21_2 := fz BK199 2))
    refine bodyPost_ret (results_cell_row rfl _ _ gb199 23 #[.bool t200, .int .i64 t201, .int .i64 t202] (0, 0) _ rfl (by (with_reducible repeat (first | refine b1 ?_ _ | refine b2 ?_ | refine b3 ?_ _)); refine blk_put (cs := #[.bool t200, .int .i64 t201, .int .i64 0]) ?_ 2 _ rfl; (with_reducible repeat (first | refine b1 ?_ _ | refine b2 ?_ | refine b3 ?_ _)); refine blk_put (cs := #[.bool t200, .int .i64 0, .int .i64 0]) ?_ 1 _ rfl; (with_reducible repeat (first | refine b1 ?_ _ | refine b2 ?_ | refine b3 ?_ _)); refine blk_put (cs := #[.bool false, .int .i64 0, .int .i64 0]) ?_ 0 _ rfl; (with_reducible repeat (first | refine b1 ?_ _ | refine b2 ?_ | refine b3 ?_ _)); exact BK199.out) Tryd.underlying23 rfl (by kernel_rfl)) rfl ?_
    exact ⟨eS, bS HB⟩
   ·
    replace c16 := Bool.eq_false_iff.mpr c16
    subst c16
    have H1 : (if a0_1 = 0 then (congr_Meet.j1 kj2 true a0_0 a0_1 a0_2 a1_0 a1_1 a1_2) else (congr_Meet.j1 kj2 (a1_1 == 0) a0_0 a0_1 a0_2 a1_0 a1_1 a1_2)) = some (r1, r2, r3) := by rw [if_neg (show ¬ (false = true) by decide)] at H; exact H
    clear H
    have H := H1
    clear H1
    have HC22 := Aside0.mk H
    clear H
    go_upto_region 3 with (fail)
    go_cut [19] (fun v19 wc => ∃ (kq : Nat) (x19_21 : Bool), v19 = .bool x19_21 ∧ Aside0 (congr_Meet.j1 kq x19_21 a0_0 a0_1 a0_2 a1_0 a1_1 a1_2 = some (r1, r2, r3)) ∧ Aside0 (kq ≤ kj2) ∧ Aside0 (wc.heap[gb197]? = some (.cells #[.bool a0_0, .int .i64 a0_1, .int .i64 a0_2] 23 (0, 0))) ∧ Aside0 (wc.heap[gb198]? = some (.cells #[.bool a1_0, .int .i64 a1_1, .int .i64 a1_2] 23 (0, 0))) ∧ Aside0 (wc.heap[gb199]? = some (.cells #[.bool false, .int .i64 0, .int .i64 0] 23 (0, 0))) ∧ Aside0 (Below w.heap.size w wc))
    case first =>
     have H := HC22.out
     clear HC22
     by_cases c23 : a0_1 = 0
     ·
      rw [if_pos c23] at H
      have c23b0 : (a0_1 == 0) = true := beq_iff_eq.mpr c23
      have c23b1 : (a0_1 != 0) = false := bne_eq_false_iff_eq.mpr c23
      clear c23
      (first | rw [c23b0] | (simp only [i64_w, i32_w]; rw [c23b0]) | skip)
      have H' := Aside0.mk H
      clear H
      have hnb24 := NB197_198.out
      have hnc24 := NB198_197.out
      have hnb25 := NB197_199.out
      have hnc25 := NB199_197.out
      have hcz26_0 : wc.cell? ⟨gb197, 0, none⟩ = some (.bool a0_0) := cz0 BK197
      have hcz26_1 : wc.cell? ⟨gb197, 1, none⟩ = some (.int .i64 a0_1) := cz1 BK197
      have hcz26_2 : wc.cell? ⟨gb197, 2, none⟩ = some (.int .i64 a0_2) := cz2 BK197
      have hfz26_0 := fz BK197 0
      have hfz26_1 := fz BK197 1
      have hfz26_2 := fz BK197 2
      go_wp2
      go_meet
      case rel => exact ⟨_, (true), (by first | rfl | (simp; done) | (simp [*]; done)), H', ⟨by have := HJ2.out; first | omega | exact Nat.le_refl _⟩, ⟨bkS BK197⟩, ⟨bkS BK198⟩, ⟨bkS BK199⟩, ⟨bS HB⟩⟩
     ·
      rw [if_neg c23] at H
      have c23b0 : (a0_1 == 0) = false := beq_eq_false_iff_ne.mpr c23
      have c23b1 : (a0_1 != 0) = true := bne_iff_ne.mpr c23
      (first | rw [c23b0] | (simp only [i64_w, i32_w]; rw [c23b0]) | skip)
      have H' := Aside0.mk H
      clear H
      have hnb27 := NB197_198.out
      have hnc27 := NB198_197.out
      have hnb28 := NB197_199.out
      have hnc28 := NB199_197.out
      have hcz29_0 : wc.cell? ⟨gb197, 0, none⟩ = some (.bool a0_0) := cz0 BK197
      have hcz29_1 : wc.cell? ⟨gb197, 1, none⟩ = some (.int .i64 a0_1) := cz1 BK197
      have hcz29_2 : wc.cell? ⟨gb197, 2, none⟩ = some (.int .i64 a0_2) := cz2 BK197
      have hfz29_0 := fz BK197 0
      have hfz29_1 := fz BK197 1
      have hfz29_2 := fz BK197 2
      have hnb30 := NB198_199.out
      have hnc30 := NB199_198.out
      have hcz31_0 : wc.cell? ⟨gb198, 0, none⟩ = some (.bool a1_0) := cz0 BK198
      have hcz31_1 : wc.cell? ⟨gb198, 1, none⟩ = some (.int .i64 a1_1) := cz1 BK198
      have hcz31_2 : wc.cell? ⟨gb198, 2, none⟩ = some (.int .i64 a1_2) := cz2 BK198
      have hfz31_0 := fz BK198 0
      have hfz31_1 := fz BK198 1
      have hfz31_2 := fz BK198 2
      go_wp2
      go_meet
      case rel => exact ⟨_, ((a1_1 == 0)), (by first | rfl | (simp; done) | (simp [*]; done)), H', ⟨by have := HJ2.out; first | omega | exact Nat.le_refl _⟩, ⟨bkS BK197⟩, ⟨bkS BK198⟩, ⟨bkS BK199⟩, ⟨bS HB⟩⟩
    case rest =>
     clear HC22
     try clear c1
     try clear c2
     try clear p2
     try clear c3
     try clear c5
     try clear c7
     try clear c8
     try clear c9
     try clear c11
     try clear c12
     try clear c14
     try clear c16
     try clear c19
     try clear c20
     try clear c23
     try clear c23b0
     try clear c23b1
     try clear c24
     try clear c25
     try clear c27
     try clear c28
     try clear c30
     try clear hcz10_0
     try clear hcz10_1
     try clear hcz10_2
     try clear hcz13_0
     try clear hcz13_1
     try clear hcz13_2
     try clear hcz15_0
     try clear hcz15_1
     try clear hcz15_2
     try clear hcz21_0
     try clear hcz21_1
     try clear hcz21_2
     try clear hcz26_0
     try clear hcz26_1
     try clear hcz26_2
     try clear hcz29_0
     try clear hcz29_1
     try clear hcz29_2
     try clear hcz31_0
     try clear hcz31_1
     try clear hcz31_2
     try clear hfz10_0
     try clear hfz10_1
     try clear hfz10_2
     try clear hfz13_0
     try clear hfz13_1
     try clear hfz13_2
     try clear hfz15_0
     try clear hfz15_1
     try clear hfz15_2
     try clear hfz21_0
     try clear hfz21_1
     try clear hfz21_2
     try clear hfz26_0
     try clear hfz26_1
     try clear hfz26_2
     try clear hfz29_0
     try clear hfz29_1
     try clear hfz29_2
     try clear hfz31_0
     try clear hfz31_1
     try clear hfz31_2
     try clear p2
     obtain ⟨kq, x19_21, rfl, HA, HJ21, BK197, BK198, BK199, HB⟩ := hcut
     cases kq with
     | zero => exact absurd HA.out (by simp [congr_Meet.j1])
     | succ kj21 =>
      have H := HA.out
      clear HA
      simp only [congr_Meet.j1] at H
      by_cases c32 : x19_21 = true
      ·
       subst c32
       have H1 : (if a0_1 = 0 then (congr_Meet.j2 kj21 a0_0 a0_1 a0_2 a1_0 a1_1 a1_2) else (congr_Meet.j2 kj21 a1_0 a1_1 a1_2 a0_0 a0_1 a0_2)) = some (r1, r2, r3) := by rw [if_pos rfl] at H; exact H
       clear H
       have H := H1
       clear H1
       have HC33 := Aside0.mk H
       clear H
       have hnb34 := NB197_198.out
       have hnc34 := NB198_197.out
       have hnb35 := NB197_199.out
       have hnc35 := NB199_197.out
       have hcz36_0 : wc.cell? ⟨gb197, 0, none⟩ = some (.bool a0_0) := cz0 BK197
       have hcz36_1 : wc.cell? ⟨gb197, 1, none⟩ = some (.int .i64 a0_1) := cz1 BK197
       have hcz36_2 : wc.cell? ⟨gb197, 2, none⟩ = some (.int .i64 a0_2) := cz2 BK197
       have hfz36_0 := fz BK197 0
       have hfz36_1 := fz BK197 1
       have hfz36_2 := fz BK197 2
       go_upto_if 30 with (fail)
       go_cut [] (fun wc => ∃ (kq : Nat) (x198000_32 : Bool) (x198001_32 : Int) (x198002_32 : Int) (x199000_32 : Bool) (x199001_32 : Int) (x199002_32 : Int), Aside0 (congr_Meet.j2 kq x198000_32 x198001_32 x198002_32 x199000_32 x199001_32 x199002_32 = some (r1, r2, r3)) ∧ Aside0 (kq ≤ kj21) ∧ Aside0 (wc.heap[gb197]? = some (.cells #[.bool x198000_32, .int .i64 x198001_32, .int .i64 x198002_32] 23 (0, 0))) ∧ Aside0 (wc.heap[gb198]? = some (.cells #[.bool x199000_32, .int .i64 x199001_32, .int .i64 x199002_32] 23 (0, 0))) ∧ Aside0 (wc.heap[gb199]? = some (.cells #[.bool false, .int .i64 0, .int .i64 0] 23 (0, 0))) ∧ Aside0 (Below w.heap.size w wc))
       case first =>
        have H := HC33.out
        clear HC33
        by_cases c37 : a0_1 = 0
        ·
         rw [if_pos c37] at H
         have c37b0 : (a0_1 == 0) = true := beq_iff_eq.mpr c37
         have c37b1 : (a0_1 != 0) = false := bne_eq_false_iff_eq.mpr c37
         clear c37
         (first | rw [c37b0] | (simp only [i64_w, i32_w]; rw [c37b0]) | skip)
         have H' := Aside0.mk H
         clear H
         go_wp2
         go_meet
         case rel => exact ⟨_, (a0_0), (a0_1), (a0_2), (a1_0), (a1_1), (a1_2), H', ⟨by have := HJ2.out; have := HJ21.out; first | omega | exact Nat.le_refl _⟩, ⟨bkS BK197⟩, ⟨bkS BK198⟩, ⟨bkS BK199⟩, ⟨bS HB⟩⟩
        ·
         rw [if_neg c37] at H
         have c37b0 : (a0_1 == 0) = false := beq_eq_false_iff_ne.mpr c37
         have c37b1 : (a0_1 != 0) = true := bne_iff_ne.mpr c37
         (first | rw [c37b0] | (simp only [i64_w, i32_w]; rw [c37b0]) | skip)
         have H' := Aside0.mk H
         clear H
         have hnb38 := NB198_197.out
         have hnc38 := NB197_198.out
         have hnb39 := NB198_199.out
         have hnc39 := NB199_198.out
         have hcz40_0 : wc.cell? ⟨gb198, 0, none⟩ = some (.bool a1_0) := cz0 BK198
         have hcz40_1 : wc.cell? ⟨gb198, 1, none⟩ = some (.int .i64 a1_1) := cz1 BK198
         have hcz40_2 : wc.cell? ⟨gb198, 2, none⟩ = some (.int .i64 a1_2) := cz2 BK198
         have hfz40_0 := fz BK198 0
         have hfz40_1 := fz BK198 1
         have hfz40_2 := fz BK198 2
         have hnb41 := NB197_199.out
         have hnc41 := NB199_197.out
         have hcz42_0 : wc.cell? ⟨gb197, 0, none⟩ = some (.bool a0_0) := cz0 BK197
         have hcz42_1 : wc.cell? ⟨gb197, 1, none⟩ = some (.int .i64 a0_1) := cz1 BK197
         have hcz42_2 : wc.cell? ⟨gb197, 2, none⟩ = some (.int .i64 a0_2) := cz2 BK197
         have hfz42_0 := fz BK197 0
         have hfz42_1 := fz BK197 1
         have hfz42_2 := fz BK197 2
         go_wp2
         go_meet
         case rel => exact ⟨_, (a1_0), (a1_1), (a1_2), (a0_0), (a0_1), (a0_2), H', ⟨by have := HJ2.out; have := HJ21.out; first | omega | exact Nat.le_refl _⟩, ⟨by (with_reducible repeat (first | refine b1 ?_ _ | refine b2 ?_ | refine b3 ?_ _)); refine blk_far ?_ NB197_198.out _; (with_reducible repeat (first | refine b1 ?_ _ | refine b2 ?_ | refine b3 ?_ _)); refine blk_far ?_ NB197_198.out _; (with_reducible repeat (first | refine b1 ?_ _ | refine b2 ?_ | refine b3 ?_ _)); refine blk_far ?_ NB197_198.out _; (with_reducible repeat (first | refine b1 ?_ _ | refine b2 ?_ | refine b3 ?_ _)); refine blk_put (cs := #[.bool a1_0, .int .i64 a1_1, .int .i64 a0_2]) ?_ 2 _ rfl; (with_reducible repeat (first | refine b1 ?_ _ | refine b2 ?_ | refine b3 ?_ _)); refine blk_put (cs := #[.bool a1_0, .int .i64 a0_1, .int .i64 a0_2]) ?_ 1 _ rfl; (with_reducible repeat (first | refine b1 ?_ _ | refine b2 ?_ | refine b3 ?_ _)); refine blk_put (cs := #[.bool a0_0, .int .i64 a0_1, .int .i64 a0_2]) ?_ 0 _ rfl; (with_reducible repeat (first | refine b1 ?_ _ | refine b2 ?_ | refine b3 ?_ _)); exact BK197.out⟩, ⟨by (with_reducible repeat (first | refine b1 ?_ _ | refine b2 ?_ | refine b3 ?_ _)); refine blk_put (cs := #[.bool a0_0, .int .i64 a0_1, .int .i64 a1_2]) ?_ 2 _ rfl; (with_reducible repeat (first | refine b1 ?_ _ | refine b2 ?_ | refine b3 ?_ _)); refine blk_put (cs := #[.bool a0_0, .int .i64 a1_1, .int .i64 a1_2]) ?_ 1 _ rfl; (with_reducible repeat (first | refine b1 ?_ _ | refine b2 ?_ | refine b3 ?_ _)); refine blk_put (cs := #[.bool a1_0, .int .i64 a1_1, .int .i64 a1_2]) ?_ 0 _ rfl; (with_reducible repeat (first | refine b1 ?_ _ | refine b2 ?_ | refine b3 ?_ _)); refine blk_far ?_ NB198_197.out _; (with_reducible repeat (first | refine b1 ?_ _ | refine b2 ?_ | refine b3 ?_ _)); refine blk_far ?_ NB198_197.out _; (with_reducible repeat (first | refine b1 ?_ _ | refine b2 ?_ | refine b3 ?_ _)); refine blk_far ?_ NB198_197.out _; (with_reducible repeat (first | refine b1 ?_ _ | refine b2 ?_ | refine b3 ?_ _)); exact BK198.out⟩, ⟨bkS BK199⟩, ⟨bS HB⟩⟩
       case rest =>
        clear HC33
        try clear c1
        try clear c2
        try clear p2
        try clear c3
        try clear c4
        try clear c5
        try clear c7
        try clear c8
        try clear c9
        try clear c11
        try clear c12
        try clear c14
        try clear c16
        try clear c19
        try clear c20
        try clear c23
        try clear c23b0
        try clear c23b1
        try clear c24
        try clear c25
        try clear c27
        try clear c28
        try clear c30
        try clear c32
        try clear c34
        try clear c35
        try clear c37
        try clear c37b0
        try clear c37b1
        try clear c38
        try clear c39
        try clear c41
        try clear hcz10_0
        try clear hcz10_1
        try clear hcz10_2
        try clear hcz13_0
        try clear hcz13_1
        try clear hcz13_2
        try clear hcz15_0
        try clear hcz15_1
        try clear hcz15_2
        try clear hcz21_0
        try clear hcz21_1
        try clear hcz21_2
        try clear hcz26_0
        try clear hcz26_1
        try clear hcz26_2
        try clear hcz29_0
        try clear hcz29_1
        try clear hcz29_2
        try clear hcz31_0
        try clear hcz31_1
        try clear hcz31_2
        try clear hcz36_0
        try clear hcz36_1
        try clear hcz36_2
        try clear hcz40_0
        try clear hcz40_1
        try clear hcz40_2
        try clear hcz42_0
        try clear hcz42_1
        try clear hcz42_2
        try clear hfz10_0
        try clear hfz10_1
        try clear hfz10_2
        try clear hfz13_0
        try clear hfz13_1
        try clear hfz13_2
        try clear hfz15_0
        try clear hfz15_1
        try clear hfz15_2
        try clear hfz21_0
        try clear hfz21_1
        try clear hfz21_2
        try clear hfz26_0
        try clear hfz26_1
        try clear hfz26_2
        try clear hfz29_0
        try clear hfz29_1
        try clear hfz29_2
        try clear hfz31_0
        try clear hfz31_1
        try clear hfz31_2
        try clear hfz36_0
        try clear hfz36_1
        try clear hfz36_2
        try clear hfz40_0
        try clear hfz40_1
        try clear hfz40_2
        try clear hfz42_0
        try clear hfz42_1
        try clear hfz42_2
        try clear p2
        obtain ⟨kq, x198000_32, x198001_32, x198002_32, x199000_32, x199001_32, x199002_32, HA, HJ32, BK197, BK198, BK199, HB⟩ := hcut
        cases kq with
        | zero => exact absurd HA.out (by simp [congr_Meet.j2])
        | succ kj32 =>
         have H := HA.out
         clear HA
         simp only [congr_Meet.j2] at H
         replace H := Option.bind_eq_some_iff.mp H
         obtain ⟨t203, A430, H⟩ := H
         replace H : (if t203 = true then (some (x198000_32, x198001_32, x198002_32)) else ((congr_none.f).bind fun bt204 => (some (bt204.1, bt204.2.1, bt204.2.2)))) = some (r1, r2, r3) := H
         have A43 := Aside0.mk A430
         clear A430
         by_cases c44 : t203 = true
         ·
          subst c44
          have H1 : (some (x198000_32, x198001_32, x198002_32)) = some (r1, r2, r3) := by rw [if_pos rfl] at H; exact H
          clear H
          have H := H1
          clear H1
          simp only [Option.some.injEq, Prod.mk.injEq] at H
          obtain ⟨rfl, rfl, rfl⟩ := H
          have hnb45 := NB198_197.out
          have hnc45 := NB197_198.out
          have hnb46 := NB198_199.out
          have hnc46 := NB199_198.out
          have hcz47_0 : wc.cell? ⟨gb198, 0, none⟩ = some (.bool x199000_32) := cz0 BK198
          have hcz47_1 : wc.cell? ⟨gb198, 1, none⟩ = some (.int .i64 x199001_32) := cz1 BK198
          have hcz47_2 : wc.cell? ⟨gb198, 2, none⟩ = some (.int .i64 x199002_32) := cz2 BK198
          have hfz47_0 := fz BK198 0
          have hfz47_1 := fz BK198 1
          have hfz47_2 := fz BK198 2
          have hnb48 := NB197_199.out
          have hnc48 := NB199_197.out
          have hcz49_0 : wc.cell? ⟨gb197, 0, none⟩ = some (.bool x198000_32) := cz0 BK197
          have hcz49_1 : wc.cell? ⟨gb197, 1, none⟩ = some (.int .i64 x198001_32) := cz1 BK197
          have hcz49_2 : wc.cell? ⟨gb197, 2, none⟩ = some (.int .i64 x198002_32) := cz2 BK197
          have hfz49_0 := fz BK197 0
          have hfz49_1 := fz BK197 1
          have hfz49_2 := fz BK197 2
          go_wp2_with (first | ((with_reducible refine gate_callee (f := 14) rfl ?_); refine goesL_ (some 36) rfl rfl Tryd.func14 (by kernel_rfl) rfl #[.agg #[.bool x199000_32, .int .i64 x199001_32, .int .i64 x199002_32], .int .i64 x198002_32] rfl mS ?_; (with_reducible refine (congr_Has.calls kj32 x199000_32 x199001_32 x199002_32 x198002_32 true _ A43.out).mono ?_); rintro e w50 ⟨rfl, hb⟩; refine ⟨_, rfl, ?_⟩; replace BK197 := kB BK197 hb; replace BK198 := kB BK198 hb; replace BK199 := kB BK199 hb; replace HB := kW HB hb; (try clear hb); (try clear hb2); (try clear hk); (try clear hi); have hcz51_0 := cz0 BK197; have hcz51_1 := cz1 BK197; have hcz51_2 := cz2 BK197; have hfz51_0 := fz BK197 0; have hfz51_1 := fz BK197 1; have hfz51_2 := fz BK197 2; have hcz52_0 := cz0 BK199; have hcz52_1 := cz1 BK199; have hcz52_2 := cz2 BK199; have hfz52_0 := fz BK199 0; have hfz52_1 := fz BK199 1; have hfz52_2 := fz BK199 2))
          refine bodyPost_ret (results_cell_row rfl _ _ gb199 23 #[.bool x198000_32, .int .i64 x198001_32, .int .i64 x198002_32] (0, 0) _ rfl (by (with_reducible repeat (first | refine b1 ?_ _ | refine b2 ?_ | refine b3 ?_ _)); refine blk_put (cs := #[.bool x198000_32, .int .i64 x198001_32, .int .i64 0]) ?_ 2 _ rfl; (with_reducible repeat (first | refine b1 ?_ _ | refine b2 ?_ | refine b3 ?_ _)); refine blk_put (cs := #[.bool x198000_32, .int .i64 0, .int .i64 0]) ?_ 1 _ rfl; (with_reducible repeat (first | refine b1 ?_ _ | refine b2 ?_ | refine b3 ?_ _)); refine blk_put (cs := #[.bool false, .int .i64 0, .int .i64 0]) ?_ 0 _ rfl; (with_reducible repeat (first | refine b1 ?_ _ | refine b2 ?_ | refine b3 ?_ _)); exact BK199.out) Tryd.underlying23 rfl (by kernel_rfl)) rfl ?_
          exact ⟨eS, bS HB⟩
         ·
          replace c44 := Bool.eq_false_iff.mpr c44
          subst c44
          have H1 : ((congr_none.f).bind fun bt204 => (some (bt204.1, bt204.2.1, bt204.2.2))) = some (r1, r2, r3) := by rw [if_neg (show ¬ (false = true) by decide)] at H; exact H
          clear H
          have H := H1
          clear H1
          replace H := Option.bind_eq_some_iff.mp H
          obtain ⟨⟨t204, t205, t206⟩, A530, H⟩ := H
          replace H : (some (t204, t205, t206)) = some (r1, r2, r3) := H
          have A53 := Aside0.mk A530
          clear A530
          simp only [Option.some.injEq, Prod.mk.injEq] at H
          obtain ⟨rfl, rfl, rfl⟩ := H
          have hnb54 := NB198_197.out
          have hnc54 := NB197_198.out
          have hnb55 := NB198_199.out
          have hnc55 := NB199_198.out
          have hcz56_0 : wc.cell? ⟨gb198, 0, none⟩ = some (.bool x199000_32) := cz0 BK198
          have hcz56_1 : wc.cell? ⟨gb198, 1, none⟩ = some (.int .i64 x199001_32) := cz1 BK198
          have hcz56_2 : wc.cell? ⟨gb198, 2, none⟩ = some (.int .i64 x199002_32) := cz2 BK198
          have hfz56_0 := fz BK198 0
          have hfz56_1 := fz BK198 1
          have hfz56_2 := fz BK198 2
          have hnb57 := NB197_199.out
          have hnc57 := NB199_197.out
          have hcz58_0 : wc.cell? ⟨gb197, 0, none⟩ = some (.bool x198000_32) := cz0 BK197
          have hcz58_1 : wc.cell? ⟨gb197, 1, none⟩ = some (.int .i64 x198001_32) := cz1 BK197
          have hcz58_2 : wc.cell? ⟨gb197, 2, none⟩ = some (.int .i64 x198002_32) := cz2 BK197
          have hfz58_0 := fz BK197 0
          have hfz58_1 := fz BK197 1
          have hfz58_2 := fz BK197 2
          go_wp2_with (first | ((with_reducible refine gate_callee (f := 14) rfl ?_); refine goesL_ (some 36) rfl rfl Tryd.func14 (by kernel_rfl) rfl #[.agg #[.bool x199000_32, .int .i64 x199001_32, .int .i64 x199002_32], .int .i64 x198002_32] rfl mS ?_; (with_reducible refine (congr_Has.calls kj32 x199000_32 x199001_32 x199002_32 x198002_32 false _ A43.out).mono ?_); rintro e w59 ⟨rfl, hb⟩; refine ⟨_, rfl, ?_⟩; replace BK197 := kB BK197 hb; replace BK198 := kB BK198 hb; replace BK199 := kB BK199 hb; replace HB := kW HB hb; (try clear hb); (try clear hb2); (try clear hk); (try clear hi)) | ((with_reducible refine gate_callee (f := 56) rfl ?_); refine goesL_ (some 38) rfl rfl Tryd.func56 (by kernel_rfl) rfl #[] rfl mS ?_; (with_reducible refine (congr_none.calls  t204 t205 t206 _ A53.out).mono ?_); rintro e w60 ⟨rfl, hb⟩; refine ⟨_, rfl, ?_⟩; replace BK197 := kB BK197 hb; replace BK198 := kB BK198 hb; replace BK199 := kB BK199 hb; replace HB := kW HB hb; (try clear hb); (try clear hb2); (try clear hk); (try clear hi); have hcz61_0 := cz0 BK199; have hcz61_1 := cz1 BK199; have hcz61_2 := cz2 BK199; have hfz61_0 := fz BK199 0; have hfz61_1 := fz BK199 1; have hfz61_2 := fz BK199 2))
          refine bodyPost_ret (results_cell_row rfl _ _ gb199 23 #[.bool t204, .int .i64 t205, .int .i64 t206] (0, 0) _ rfl (by (with_reducible repeat (first | refine b1 ?_ _ | refine b2 ?_ | refine b3 ?_ _)); refine blk_put (cs := #[.bool t204, .int .i64 t205, .int .i64 0]) ?_ 2 _ rfl; (with_reducible repeat (first | refine b1 ?_ _ | refine b2 ?_ | refine b3 ?_ _)); refine blk_put (cs := #[.bool t204, .int .i64 0, .int .i64 0]) ?_ 1 _ rfl; (with_reducible repeat (first | refine b1 ?_ _ | refine b2 ?_ | refine b3 ?_ _)); refine blk_put (cs := #[.bool false, .int .i64 0, .int .i64 0]) ?_ 0 _ rfl; (with_reducible repeat (first | refine b1 ?_ _ | refine b2 ?_ | refine b3 ?_ _)); exact BK199.out) Tryd.underlying23 rfl (by kernel_rfl)) rfl ?_
          exact ⟨eS, bS HB⟩
      ·
       replace c32 := Bool.eq_false_iff.mpr c32
       subst c32
       have H1 : ((congr_gcd_uint64.f kj21 (IntKind.u64.wrap (a0_1)) (IntKind.u64.wrap (a1_1))).bind fun t207 => ((congr_size.f (wrap64 (a0_2 - a1_2))).bind fun t208 => (if t207 = 0 then (none) else (if (Int.tmod t208 t207) = 0 then (if (IntKind.u64.wrap (Int.tdiv (IntKind.u64.wrap (a1_1)) t207)) > 1 then (if (wrap64 (t207)) = 0 then (none) else ((congr_rest.f (wrap64 (Int.tdiv (wrap64 (a1_2 - a0_2)) (wrap64 (t207)))) (IntKind.u64.wrap (Int.tdiv (IntKind.u64.wrap (a1_1)) t207))).bind fun t212 => (if (IntKind.u64.wrap (Int.tdiv (IntKind.u64.wrap (a1_1)) t207)) = 0 then (none) else ((congr_inverse.f kj21 (Int.tmod (IntKind.u64.wrap (Int.tdiv (IntKind.u64.wrap (a0_1)) t207)) (IntKind.u64.wrap (Int.tdiv (IntKind.u64.wrap (a1_1)) t207))) (IntKind.u64.wrap (Int.tdiv (IntKind.u64.wrap (a1_1)) t207))).bind fun t213 => ((bits_Mul64.f t212 t213).bind fun bt214 => ((congr_words_rest.f bt214.1 bt214.2 (IntKind.u64.wrap (Int.tdiv (IntKind.u64.wrap (a1_1)) t207))).bind fun t216 => ((congr_of.f kj21 (IntKind.u64.wrap ((IntKind.u64.wrap (a0_1)) * (IntKind.u64.wrap (Int.tdiv (IntKind.u64.wrap (a1_1)) t207)))) (IntKind.u64.wrap ((IntKind.u64.wrap ((IntKind.u64.wrap (a0_1)) * t216)) + (IntKind.u64.wrap (a0_2))))).bind fun bt217 => (some (bt217.1, bt217.2.1, bt217.2.2))))))))) else ((congr_of.f kj21 (IntKind.u64.wrap ((IntKind.u64.wrap (a0_1)) * (IntKind.u64.wrap (Int.tdiv (IntKind.u64.wrap (a1_1)) t207)))) (IntKind.u64.wrap ((IntKind.u64.wrap ((IntKind.u64.wrap (a0_1)) * 0)) + (IntKind.u64.wrap (a0_2))))).bind fun bt220 => (some (bt220.1, bt220.2.1, bt220.2.2)))) else ((congr_none.f).bind fun bt209 => (some (bt209.1, bt209.2.1, bt209.2.2))))))) = some (r1, r2, r3) := by rw [if_neg (show ¬ (false = true) by decide)] at H; exact H
       clear H
       have H := H1
       clear H1
       replace H := Option.bind_eq_some_iff.mp H
       obtain ⟨t207, A620, H⟩ := H
       replace H : ((congr_size.f (wrap64 (a0_2 - a1_2))).bind fun t208 => (if t207 = 0 then (none) else (if (Int.tmod t208 t207) = 0 then (if (IntKind.u64.wrap (Int.tdiv (IntKind.u64.wrap (a1_1)) t207)) > 1 then (if (wrap64 (t207)) = 0 then (none) else ((congr_rest.f (wrap64 (Int.tdiv (wrap64 (a1_2 - a0_2)) (wrap64 (t207)))) (IntKind.u64.wrap (Int.tdiv (IntKind.u64.wrap (a1_1)) t207))).bind fun t212 => (if (IntKind.u64.wrap (Int.tdiv (IntKind.u64.wrap (a1_1)) t207)) = 0 then (none) else ((congr_inverse.f kj21 (Int.tmod (IntKind.u64.wrap (Int.tdiv (IntKind.u64.wrap (a0_1)) t207)) (IntKind.u64.wrap (Int.tdiv (IntKind.u64.wrap (a1_1)) t207))) (IntKind.u64.wrap (Int.tdiv (IntKind.u64.wrap (a1_1)) t207))).bind fun t213 => ((bits_Mul64.f t212 t213).bind fun bt214 => ((congr_words_rest.f bt214.1 bt214.2 (IntKind.u64.wrap (Int.tdiv (IntKind.u64.wrap (a1_1)) t207))).bind fun t216 => ((congr_of.f kj21 (IntKind.u64.wrap ((IntKind.u64.wrap (a0_1)) * (IntKind.u64.wrap (Int.tdiv (IntKind.u64.wrap (a1_1)) t207)))) (IntKind.u64.wrap ((IntKind.u64.wrap ((IntKind.u64.wrap (a0_1)) * t216)) + (IntKind.u64.wrap (a0_2))))).bind fun bt217 => (some (bt217.1, bt217.2.1, bt217.2.2))))))))) else ((congr_of.f kj21 (IntKind.u64.wrap ((IntKind.u64.wrap (a0_1)) * (IntKind.u64.wrap (Int.tdiv (IntKind.u64.wrap (a1_1)) t207)))) (IntKind.u64.wrap ((IntKind.u64.wrap ((IntKind.u64.wrap (a0_1)) * 0)) + (IntKind.u64.wrap (a0_2))))).bind fun bt220 => (some (bt220.1, bt220.2.1, bt220.2.2)))) else ((congr_none.f).bind fun bt209 => (some (bt209.1, bt209.2.1, bt209.2.2)))))) = some (r1, r2, r3) := H
       have A62 := Aside0.mk A620
       clear A620
       replace H := Option.bind_eq_some_iff.mp H
       obtain ⟨t208, A630, H⟩ := H
       replace H : (if t207 = 0 then (none) else (if (Int.tmod t208 t207) = 0 then (if (IntKind.u64.wrap (Int.tdiv (IntKind.u64.wrap (a1_1)) t207)) > 1 then (if (wrap64 (t207)) = 0 then (none) else ((congr_rest.f (wrap64 (Int.tdiv (wrap64 (a1_2 - a0_2)) (wrap64 (t207)))) (IntKind.u64.wrap (Int.tdiv (IntKind.u64.wrap (a1_1)) t207))).bind fun t212 => (if (IntKind.u64.wrap (Int.tdiv (IntKind.u64.wrap (a1_1)) t207)) = 0 then (none) else ((congr_inverse.f kj21 (Int.tmod (IntKind.u64.wrap (Int.tdiv (IntKind.u64.wrap (a0_1)) t207)) (IntKind.u64.wrap (Int.tdiv (IntKind.u64.wrap (a1_1)) t207))) (IntKind.u64.wrap (Int.tdiv (IntKind.u64.wrap (a1_1)) t207))).bind fun t213 => ((bits_Mul64.f t212 t213).bind fun bt214 => ((congr_words_rest.f bt214.1 bt214.2 (IntKind.u64.wrap (Int.tdiv (IntKind.u64.wrap (a1_1)) t207))).bind fun t216 => ((congr_of.f kj21 (IntKind.u64.wrap ((IntKind.u64.wrap (a0_1)) * (IntKind.u64.wrap (Int.tdiv (IntKind.u64.wrap (a1_1)) t207)))) (IntKind.u64.wrap ((IntKind.u64.wrap ((IntKind.u64.wrap (a0_1)) * t216)) + (IntKind.u64.wrap (a0_2))))).bind fun bt217 => (some (bt217.1, bt217.2.1, bt217.2.2))))))))) else ((congr_of.f kj21 (IntKind.u64.wrap ((IntKind.u64.wrap (a0_1)) * (IntKind.u64.wrap (Int.tdiv (IntKind.u64.wrap (a1_1)) t207)))) (IntKind.u64.wrap ((IntKind.u64.wrap ((IntKind.u64.wrap (a0_1)) * 0)) + (IntKind.u64.wrap (a0_2))))).bind fun bt220 => (some (bt220.1, bt220.2.1, bt220.2.2)))) else ((congr_none.f).bind fun bt209 => (some (bt209.1, bt209.2.1, bt209.2.2))))) = some (r1, r2, r3) := H
       have A63 := Aside0.mk A630
       clear A630
       by_cases c64 : t207 = 0
       ·
        rw [if_pos c64] at H
        exact absurd H (by simp)
       ·
        rw [if_neg c64] at H
        have c64b0 : (t207 == 0) = false := beq_eq_false_iff_ne.mpr c64
        have c64b1 : (t207 != 0) = true := bne_iff_ne.mpr c64
        by_cases c65 : (Int.tmod t208 t207) = 0
        ·
         rw [if_pos c65] at H
         have c65b0 : ((Int.tmod t208 t207) == 0) = true := beq_iff_eq.mpr c65
         have c65b1 : ((Int.tmod t208 t207) != 0) = false := bne_eq_false_iff_eq.mpr c65
         clear c65
         by_cases c66 : (IntKind.u64.wrap (Int.tdiv (IntKind.u64.wrap (a1_1)) t207)) > 1
         ·
          rw [if_pos c66] at H
          have c66b0 : decide (1 < (IntKind.u64.wrap (Int.tdiv (IntKind.u64.wrap (a1_1)) t207))) = true := decide_eq_true c66
          clear c66
          by_cases c67 : (wrap64 (t207)) = 0
          ·
           rw [if_pos c67] at H
           exact absurd H (by simp)
          ·
           rw [if_neg c67] at H
           have c67b0 : ((wrap64 (t207)) == 0) = false := beq_eq_false_iff_ne.mpr c67
           have c67b1 : ((wrap64 (t207)) != 0) = true := bne_iff_ne.mpr c67
           replace H := Option.bind_eq_some_iff.mp H
           obtain ⟨t212, A680, H⟩ := H
           replace H : (if (IntKind.u64.wrap (Int.tdiv (IntKind.u64.wrap (a1_1)) t207)) = 0 then (none) else ((congr_inverse.f kj21 (Int.tmod (IntKind.u64.wrap (Int.tdiv (IntKind.u64.wrap (a0_1)) t207)) (IntKind.u64.wrap (Int.tdiv (IntKind.u64.wrap (a1_1)) t207))) (IntKind.u64.wrap (Int.tdiv (IntKind.u64.wrap (a1_1)) t207))).bind fun t213 => ((bits_Mul64.f t212 t213).bind fun bt214 => ((congr_words_rest.f bt214.1 bt214.2 (IntKind.u64.wrap (Int.tdiv (IntKind.u64.wrap (a1_1)) t207))).bind fun t216 => ((congr_of.f kj21 (IntKind.u64.wrap ((IntKind.u64.wrap (a0_1)) * (IntKind.u64.wrap (Int.tdiv (IntKind.u64.wrap (a1_1)) t207)))) (IntKind.u64.wrap ((IntKind.u64.wrap ((IntKind.u64.wrap (a0_1)) * t216)) + (IntKind.u64.wrap (a0_2))))).bind fun bt217 => (some (bt217.1, bt217.2.1, bt217.2.2))))))) = some (r1, r2, r3) := H
           have A68 := Aside0.mk A680
           clear A680
           by_cases c69 : (IntKind.u64.wrap (Int.tdiv (IntKind.u64.wrap (a1_1)) t207)) = 0
           ·
            rw [if_pos c69] at H
            exact absurd H (by simp)
           ·
            rw [if_neg c69] at H
            have c69b0 : ((IntKind.u64.wrap (Int.tdiv (IntKind.u64.wrap (a1_1)) t207)) == 0) = false := beq_eq_false_iff_ne.mpr c69
            have c69b1 : ((IntKind.u64.wrap (Int.tdiv (IntKind.u64.wrap (a1_1)) t207)) != 0) = true := bne_iff_ne.mpr c69
            replace H := Option.bind_eq_some_iff.mp H
            obtain ⟨t213, A700, H⟩ := H
            replace H : ((bits_Mul64.f t212 t213).bind fun bt214 => ((congr_words_rest.f bt214.1 bt214.2 (IntKind.u64.wrap (Int.tdiv (IntKind.u64.wrap (a1_1)) t207))).bind fun t216 => ((congr_of.f kj21 (IntKind.u64.wrap ((IntKind.u64.wrap (a0_1)) * (IntKind.u64.wrap (Int.tdiv (IntKind.u64.wrap (a1_1)) t207)))) (IntKind.u64.wrap ((IntKind.u64.wrap ((IntKind.u64.wrap (a0_1)) * t216)) + (IntKind.u64.wrap (a0_2))))).bind fun bt217 => (some (bt217.1, bt217.2.1, bt217.2.2))))) = some (r1, r2, r3) := H
            have A70 := Aside0.mk A700
            clear A700
            replace H := Option.bind_eq_some_iff.mp H
            obtain ⟨⟨t214, t215⟩, A710, H⟩ := H
            replace H : ((congr_words_rest.f t214 t215 (IntKind.u64.wrap (Int.tdiv (IntKind.u64.wrap (a1_1)) t207))).bind fun t216 => ((congr_of.f kj21 (IntKind.u64.wrap ((IntKind.u64.wrap (a0_1)) * (IntKind.u64.wrap (Int.tdiv (IntKind.u64.wrap (a1_1)) t207)))) (IntKind.u64.wrap ((IntKind.u64.wrap ((IntKind.u64.wrap (a0_1)) * t216)) + (IntKind.u64.wrap (a0_2))))).bind fun bt217 => (some (bt217.1, bt217.2.1, bt217.2.2)))) = some (r1, r2, r3) := H
            have A71 := Aside0.mk A710
            clear A710
            replace H := Option.bind_eq_some_iff.mp H
            obtain ⟨t216, A720, H⟩ := H
            replace H : ((congr_of.f kj21 (IntKind.u64.wrap ((IntKind.u64.wrap (a0_1)) * (IntKind.u64.wrap (Int.tdiv (IntKind.u64.wrap (a1_1)) t207)))) (IntKind.u64.wrap ((IntKind.u64.wrap ((IntKind.u64.wrap (a0_1)) * t216)) + (IntKind.u64.wrap (a0_2))))).bind fun bt217 => (some (bt217.1, bt217.2.1, bt217.2.2))) = some (r1, r2, r3) := H
            have A72 := Aside0.mk A720
            clear A720
            replace H := Option.bind_eq_some_iff.mp H
            obtain ⟨⟨t217, t218, t219⟩, A730, H⟩ := H
            replace H : (some (t217, t218, t219)) = some (r1, r2, r3) := H
            have A73 := Aside0.mk A730
            clear A730
            simp only [Option.some.injEq, Prod.mk.injEq] at H
            obtain ⟨rfl, rfl, rfl⟩ := H
            try go_wp2
            replace BK197 := Aside0.mk (blk_drew BK197.out)
            replace BK198 := Aside0.mk (blk_drew BK198.out)
            replace BK199 := Aside0.mk (blk_drew BK199.out)
            replace HB := Aside0.mk (below_drew1 HB.out)
            refine start_ (n := 8) (S := fun w' => w'.cell? ⟨gb197, 0, none⟩ = some (.bool a0_0) ∧ w'.cell? ⟨gb197, 1, none⟩ = some (.int .i64 a0_1) ∧ w'.cell? ⟨gb197, 2, none⟩ = some (.int .i64 a0_2) ∧ w'.cell? ⟨gb198, 0, none⟩ = some (.bool a1_0) ∧ w'.cell? ⟨gb198, 1, none⟩ = some (.int .i64 a1_1) ∧ w'.cell? ⟨gb198, 2, none⟩ = some (.int .i64 a1_2)) (ds := []) #[false, false, false, false, false, false, false, false] (by kernel_rfl) rfl rfl ⟨cz0 BK197, cz1 BK197, cz2 BK197, cz0 BK198, cz1 BK198, cz2 BK198⟩ (fun hHeld => ?_); refine with_tabW congr_Meet.tab9 congr_Meet.bits9 (fun HT_ HW_ => ?_)
            generalize wc.drew = w74 at BK197 BK198 BK199 HB hHeld ⊢
            refine pure_ (i := 0) (N := some 39) (v := ?_) (a' := ?_) #[true, false, false, false, false, false, false, false] rfl rfl (any_of HT_.out (by kernel_rfl)) (fun _ _ _ h => h) (Or.inl ⟨by rfl, ?_⟩) ?_ ?_
            rotate_left
            ·
             intro w'
             go_simp
             with_reducible rfl
            rotate_left
            ·
             simp only [Act.put, lA, lB, lC, i64_w, i32_w]
             rfl
            refine pure_ (i := 3) (N := some 42) (v := ?_) (a' := ?_) #[true, false, false, true, false, false, false, false] rfl rfl (any_of HT_.out (by kernel_rfl)) (fun _ _ _ h => h) (Or.inl ⟨by rfl, ?_⟩) ?_ ?_
            rotate_left
            ·
             intro w'
             go_simp
             with_reducible rfl
            rotate_left
            ·
             simp only [Act.put, lA, lB, lC, i64_w, i32_w]
             rfl
            refine take_ (i := 1) (N := some 40) (v := ?_) (a' := ?_) #[true, true, false, true, false, false, false, false] rfl rfl (take_ofW HT_.out HW_.out (by kernel_rfl)) (fun _ _ _ h => h) (Or.inl ⟨by rfl, ?_⟩) hHeld ?_ ?_
            rotate_left
            ·
             rintro w' ⟨s0, s1, s2, s3, s4, s5⟩
             go_simp
             with_reducible rfl
            rotate_left
            ·
             simp only [Act.put, lA, lB, lC, i64_w, i32_w]
             rfl
            refine pure_ (i := 2) (N := some 41) (v := ?_) (a' := ?_) #[true, true, true, true, false, false, false, false] rfl rfl (any_of HT_.out (by kernel_rfl)) (fun _ _ _ h => h) (Or.inl ⟨by rfl, ?_⟩) ?_ ?_
            rotate_left
            ·
             intro w'
             go_simp
             with_reducible rfl
            rotate_left
            ·
             simp only [Act.put, lA, lB, lC, i64_w, i32_w]
             rfl
            refine pure_ (i := 6) (N := some 5) (v := ?_) (a' := ?_) #[true, true, true, true, false, false, true, false] rfl rfl (any_of HT_.out (by kernel_rfl)) (fun _ _ _ h => h) (Or.inl ⟨by rfl, ?_⟩) ?_ ?_
            rotate_left
            ·
             intro w'
             go_simp
             with_reducible rfl
            rotate_left
            ·
             simp only [Act.put, lA, lB, lC, i64_w, i32_w]
             rfl
            refine take_ (i := 4) (N := some 43) (v := ?_) (a' := ?_) #[true, true, true, true, true, false, true, false] rfl rfl (take_ofW HT_.out HW_.out (by kernel_rfl)) (fun _ _ _ h => h) (Or.inl ⟨by rfl, ?_⟩) hHeld ?_ ?_
            rotate_left
            ·
             rintro w' ⟨s0, s1, s2, s3, s4, s5⟩
             go_simp
             with_reducible rfl
            rotate_left
            ·
             simp only [Act.put, lA, lB, lC, i64_w, i32_w]
             rfl
            refine pure_ (i := 5) (N := some 44) (v := ?_) (a' := ?_) #[true, true, true, true, true, true, true, false] rfl rfl (any_of HT_.out (by kernel_rfl)) (fun _ _ _ h => h) (Or.inl ⟨by rfl, ?_⟩) ?_ ?_
            rotate_left
            ·
             intro w'
             go_simp
             with_reducible rfl
            rotate_left
            ·
             simp only [Act.put, lA, lB, lC, i64_w, i32_w]
             rfl
            refine pure_ (i := 7) (N := some 6) (v := ?_) (a' := ?_) #[true, true, true, true, true, true, true, true] rfl rfl (any_of HT_.out (by kernel_rfl)) (fun _ _ _ h => h) (Or.inl ⟨by rfl, ?_⟩) ?_ ?_
            rotate_left
            ·
             intro w'
             go_simp
             with_reducible rfl
            rotate_left
            ·
             simp only [Act.put, lA, lB, lC, i64_w, i32_w]
             rfl
            refine done_ (done_of HT_.out (by kernel_rfl)) ?_
            try go_wp2_with (first | ((with_reducible refine gate_callee (f := 62) rfl ?_); refine goesL_ (some 47) rfl rfl Tryd.func62 (by kernel_rfl) rfl #[.int .u64 (IntKind.u64.wrap (a0_1)), .int .u64 (IntKind.u64.wrap (a1_1))] rfl mS ?_; (with_reducible refine (congr_gcd_uint64.calls kj21 (IntKind.u64.wrap (a0_1)) (IntKind.u64.wrap (a1_1)) t207 _ A62.out).mono ?_); rintro e w' ⟨rfl, ⟨nd, rfl⟩⟩; refine ⟨_, rfl, ?_⟩; (try (rw [drewN_self w74]; generalize hq_ : World.drewN w74 _ = w74; have n0_ : Aside0 (w74.heap[gb197]? = some (.cells #[.bool a0_0, .int .i64 a0_1, .int .i64 a0_2] 23 (0, 0))) := ⟨by rw [← hq_]; exact (bkS BK197)⟩; have n1_ : Aside0 (w74.heap[gb198]? = some (.cells #[.bool a1_0, .int .i64 a1_1, .int .i64 a1_2] 23 (0, 0))) := ⟨by rw [← hq_]; exact (bkS BK198)⟩; have n2_ : Aside0 (w74.heap[gb199]? = some (.cells #[.bool false, .int .i64 0, .int .i64 0] 23 (0, 0))) := ⟨by rw [← hq_]; exact (bkS BK199)⟩; have n3_ : Aside0 (Below w.heap.size w w74) := ⟨by rw [← hq_]; exact (bS HB)⟩; clear BK197 BK198 BK199 HB hq_; have BK197 := n0_; have BK198 := n1_; have BK199 := n2_; have HB := n3_; clear n0_ n1_ n2_ n3_)); have hnb75 := NB197_198.out; have hnc75 := NB198_197.out; have hnb76 := NB197_199.out; have hnc76 := NB199_197.out; have hcz77_0 := cz0 BK197; have hcz77_1 := cz1 BK197; have hcz77_2 := cz2 BK197; have hfz77_0 := fz BK197 0; have hfz77_1 := fz BK197 1; have hfz77_2 := fz BK197 2; have hnb78 := NB198_199.out; have hnc78 := NB199_198.out; have hcz79_0 := cz0 BK198; have hcz79_1 := cz1 BK198; have hcz79_2 := cz2 BK198; have hfz79_0 := fz BK198 0; have hfz79_1 := fz BK198 1; have hfz79_2 := fz BK198 2) | ((with_reducible refine gate_callee (f := 52) rfl ?_); refine goesL_ (some 53) rfl rfl Tryd.func52 (by kernel_rfl) rfl #[.int .i64 (wrap64 (a0_2 - a1_2))] rfl mS ?_; (with_reducible refine (congr_size.calls (wrap64 (a0_2 - a1_2)) t208 _ A63.out).mono ?_); rintro e w' ⟨rfl, ⟨nd, rfl⟩⟩; refine ⟨_, rfl, ?_⟩; (try (rw [drewN_self w74]; generalize hq_ : World.drewN w74 _ = w74; have n0_ : Aside0 (w74.heap[gb197]? = some (.cells #[.bool a0_0, .int .i64 a0_1, .int .i64 a0_2] 23 (0, 0))) := ⟨by rw [← hq_]; exact (bkS BK197)⟩; have n1_ : Aside0 (w74.heap[gb198]? = some (.cells #[.bool a1_0, .int .i64 a1_1, .int .i64 a1_2] 23 (0, 0))) := ⟨by rw [← hq_]; exact (bkS BK198)⟩; have n2_ : Aside0 (w74.heap[gb199]? = some (.cells #[.bool false, .int .i64 0, .int .i64 0] 23 (0, 0))) := ⟨by rw [← hq_]; exact (bkS BK199)⟩; have n3_ : Aside0 (Below w.heap.size w w74) := ⟨by rw [← hq_]; exact (bS HB)⟩; clear BK197 BK198 BK199 HB hq_; have BK197 := n0_; have BK198 := n1_; have BK199 := n2_; have HB := n3_; clear n0_ n1_ n2_ n3_))))
            replace BK197 := Aside0.mk (blk_drew BK197.out)
            replace BK198 := Aside0.mk (blk_drew BK198.out)
            replace BK199 := Aside0.mk (blk_drew BK199.out)
            replace HB := Aside0.mk (below_drew1 HB.out)
            refine start_ (n := 29) (S := fun w' => w'.cell? ⟨gb198, 0, none⟩ = some (.bool a1_0) ∧ w'.cell? ⟨gb198, 1, none⟩ = some (.int .i64 a1_1) ∧ w'.cell? ⟨gb198, 2, none⟩ = some (.int .i64 a1_2) ∧ w'.cell? ⟨gb197, 0, none⟩ = some (.bool a0_0) ∧ w'.cell? ⟨gb197, 1, none⟩ = some (.int .i64 a0_1) ∧ w'.cell? ⟨gb197, 2, none⟩ = some (.int .i64 a0_2)) (ds := []) #[false, false, false, false, false, false, false, false, false, false, false, false, false, false, false, false, false, false, false, false, false, false, false, false, false, false, false, false, false] (by kernel_rfl) rfl rfl ⟨cz0 BK198, cz1 BK198, cz2 BK198, cz0 BK197, cz1 BK197, cz2 BK197⟩ (fun hHeld => ?_); refine with_tabW congr_Meet.tab15 congr_Meet.bits15 (fun HT_ HW_ => ?_)
            generalize w74.drew = w80 at BK197 BK198 BK199 HB hHeld ⊢
            refine pure_ (i := 0) (N := some 63) (v := ?_) (a' := ?_) #[true, false, false, false, false, false, false, false, false, false, false, false, false, false, false, false, false, false, false, false, false, false, false, false, false, false, false, false, false] rfl rfl (any_of HT_.out (by kernel_rfl)) (fun _ _ _ h => h) (Or.inl ⟨by rfl, ?_⟩) ?_ ?_
            rotate_left
            ·
             intro w'
             go_simp
             with_reducible rfl
            rotate_left
            ·
             simp only [Act.put, lA, lB, lC, i64_w, i32_w]
             rfl
            refine pure_ (i := 2) (N := some 65) (v := ?_) (a' := ?_) #[true, false, true, false, false, false, false, false, false, false, false, false, false, false, false, false, false, false, false, false, false, false, false, false, false, false, false, false, false] rfl rfl (any_of HT_.out (by kernel_rfl)) (fun _ _ _ h => h) (Or.inl ⟨by rfl, ?_⟩) ?_ ?_
            rotate_left
            ·
             intro w'
             go_simp
             with_reducible rfl
            rotate_left
            ·
             simp only [Act.put, lA, lB, lC, i64_w, i32_w]
             rfl
            refine pure_ (i := 5) (N := some 68) (v := ?_) (a' := ?_) #[true, false, true, false, false, true, false, false, false, false, false, false, false, false, false, false, false, false, false, false, false, false, false, false, false, false, false, false, false] rfl rfl (any_of HT_.out (by kernel_rfl)) (fun _ _ _ h => h) (Or.inl ⟨by rfl, ?_⟩) ?_ ?_
            rotate_left
            ·
             intro w'
             go_simp
             with_reducible rfl
            rotate_left
            ·
             simp only [Act.put, lA, lB, lC, i64_w, i32_w]
             rfl
            refine pure_ (i := 6) (N := some 69) (v := ?_) (a' := ?_) #[true, false, true, false, false, true, true, false, false, false, false, false, false, false, false, false, false, false, false, false, false, false, false, false, false, false, false, false, false] rfl rfl (any_of HT_.out (by kernel_rfl)) (fun _ _ _ h => h) (Or.inl ⟨by rfl, ?_⟩) ?_ ?_
            rotate_left
            ·
             intro w'
             go_simp
             with_reducible rfl
            rotate_left
            ·
             simp only [Act.put, lA, lB, lC, i64_w, i32_w]
             rfl
            refine pure_ (i := 8) (N := some 71) (v := ?_) (a' := ?_) #[true, false, true, false, false, true, true, false, true, false, false, false, false, false, false, false, false, false, false, false, false, false, false, false, false, false, false, false, false] rfl rfl (any_of HT_.out (by kernel_rfl)) (fun _ _ _ h => h) (Or.inl ⟨by rfl, ?_⟩) ?_ ?_
            rotate_left
            ·
             intro w'
             go_simp
             with_reducible rfl
            rotate_left
            ·
             simp only [Act.put, lA, lB, lC, i64_w, i32_w]
             rfl
            refine pure_ (i := 9) (N := some 72) (v := ?_) (a' := ?_) #[true, false, true, false, false, true, true, false, true, true, false, false, false, false, false, false, false, false, false, false, false, false, false, false, false, false, false, false, false] rfl rfl (any_of HT_.out (by kernel_rfl)) (fun _ _ _ h => h) (Or.inl ⟨by rfl, ?_⟩) ?_ ?_
            rotate_left
            ·
             intro w'
             go_simp
             with_reducible rfl
            rotate_left
            ·
             simp only [Act.put, lA, lB, lC, i64_w, i32_w]
             rfl
            refine pure_ (i := 10) (N := some 73) (v := ?_) (a' := ?_) #[true, false, true, false, false, true, true, false, true, true, true, false, false, false, false, false, false, false, false, false, false, false, false, false, false, false, false, false, false] rfl rfl (any_of HT_.out (by kernel_rfl)) (fun _ _ _ h => h) (Or.inl ⟨by rfl, ?_⟩) ?_ ?_
            rotate_left
            ·
             intro w'
             go_simp
             with_reducible rfl
            rotate_left
            ·
             simp only [Act.put, lA, lB, lC, i64_w, i32_w]
             rfl
            refine pure_ (i := 12) (N := some 75) (v := ?_) (a' := ?_) #[true, false, true, false, false, true, true, false, true, true, true, false, true, false, false, false, false, false, false, false, false, false, false, false, false, false, false, false, false] rfl rfl (any_of HT_.out (by kernel_rfl)) (fun _ _ _ h => h) (Or.inl ⟨by rfl, ?_⟩) ?_ ?_
            rotate_left
            ·
             intro w'
             go_simp
             with_reducible rfl
            rotate_left
            ·
             simp only [Act.put, lA, lB, lC, i64_w, i32_w]
             rfl
            refine pure_ (i := 13) (N := some 76) (v := ?_) (a' := ?_) #[true, false, true, false, false, true, true, false, true, true, true, false, true, true, false, false, false, false, false, false, false, false, false, false, false, false, false, false, false] rfl rfl (any_of HT_.out (by kernel_rfl)) (fun _ _ _ h => h) (Or.inl ⟨by rfl, ?_⟩) ?_ ?_
            rotate_left
            ·
             intro w'
             go_simp
             with_reducible rfl
            rotate_left
            ·
             simp only [Act.put, lA, lB, lC, i64_w, i32_w]
             rfl
            refine pure_ (i := 14) (N := some 77) (v := ?_) (a' := ?_) #[true, false, true, false, false, true, true, false, true, true, true, false, true, true, true, false, false, false, false, false, false, false, false, false, false, false, false, false, false] rfl rfl (any_of HT_.out (by kernel_rfl)) (fun _ _ _ h => h) (Or.inl ⟨by rfl, ?_⟩) ?_ ?_
            rotate_left
            ·
             intro w'
             go_simp
             with_reducible rfl
            rotate_left
            ·
             simp only [Act.put, lA, lB, lC, i64_w, i32_w]
             rfl
            refine pure_ (i := 15) (N := some 78) (v := ?_) (a' := ?_) #[true, false, true, false, false, true, true, false, true, true, true, false, true, true, true, true, false, false, false, false, false, false, false, false, false, false, false, false, false] rfl rfl (any_of HT_.out (by kernel_rfl)) (fun _ _ _ h => h) (Or.inl ⟨by rfl, ?_⟩) ?_ ?_
            rotate_left
            ·
             intro w'
             go_simp
             with_reducible rfl
            rotate_left
            ·
             simp only [Act.put, lA, lB, lC, i64_w, i32_w]
             rfl
            refine pure_ (i := 16) (N := some 79) (v := ?_) (a' := ?_) #[true, false, true, false, false, true, true, false, true, true, true, false, true, true, true, true, true, false, false, false, false, false, false, false, false, false, false, false, false] rfl rfl (any_of HT_.out (by kernel_rfl)) (fun _ _ _ h => h) (Or.inl ⟨by rfl, ?_⟩) ?_ ?_
            rotate_left
            ·
             intro w'
             go_simp
             with_reducible rfl
            rotate_left
            ·
             simp only [Act.put, lA, lB, lC, i64_w, i32_w]
             rfl
            refine pure_ (i := 17) (N := some 80) (v := ?_) (a' := ?_) #[true, false, true, false, false, true, true, false, true, true, true, false, true, true, true, true, true, true, false, false, false, false, false, false, false, false, false, false, false] rfl rfl (any_of HT_.out (by kernel_rfl)) (fun _ _ _ h => h) (Or.inl ⟨by rfl, ?_⟩) ?_ ?_
            rotate_left
            ·
             intro w'
             go_simp
             with_reducible rfl
            rotate_left
            ·
             simp only [Act.put, lA, lB, lC, i64_w, i32_w]
             rfl
            refine pure_ (i := 18) (N := some 81) (v := ?_) (a' := ?_) #[true, false, true, false, false, true, true, false, true, true, true, false, true, true, true, true, true, true, true, false, false, false, false, false, false, false, false, false, false] rfl rfl (any_of HT_.out (by kernel_rfl)) (fun _ _ _ h => h) (Or.inl ⟨by rfl, ?_⟩) ?_ ?_
            rotate_left
            ·
             intro w'
             go_simp
             with_reducible rfl
            rotate_left
            ·
             simp only [Act.put, lA, lB, lC, i64_w, i32_w]
             rfl
            refine pure_ (i := 19) (N := some 82) (v := ?_) (a' := ?_) #[true, false, true, false, false, true, true, false, true, true, true, false, true, true, true, true, true, true, true, true, false, false, false, false, false, false, false, false, false] rfl rfl (any_of HT_.out (by kernel_rfl)) (fun _ _ _ h => h) (Or.inl ⟨by rfl, ?_⟩) ?_ ?_
            rotate_left
            ·
             intro w'
             go_simp
             with_reducible rfl
            rotate_left
            ·
             simp only [Act.put, lA, lB, lC, i64_w, i32_w]
             rfl
            refine pure_ (i := 20) (N := some 83) (v := ?_) (a' := ?_) #[true, false, true, false, false, true, true, false, true, true, true, false, true, true, true, true, true, true, true, true, true, false, false, false, false, false, false, false, false] rfl rfl (any_of HT_.out (by kernel_rfl)) (fun _ _ _ h => h) (Or.inl ⟨by rfl, ?_⟩) ?_ ?_
            rotate_left
            ·
             intro w'
             go_simp
             with_reducible rfl
            rotate_left
            ·
             simp only [Act.put, lA, lB, lC, i64_w, i32_w]
             rfl
            refine pure_ (i := 21) (N := some 84) (v := ?_) (a' := ?_) #[true, false, true, false, false, true, true, false, true, true, true, false, true, true, true, true, true, true, true, true, true, true, false, false, false, false, false, false, false] rfl rfl (any_of HT_.out (by kernel_rfl)) (fun _ _ _ h => h) (Or.inl ⟨by rfl, ?_⟩) ?_ ?_
            rotate_left
            ·
             intro w'
             go_simp
             with_reducible rfl
            rotate_left
            ·
             simp only [Act.put, lA, lB, lC, i64_w, i32_w]
             rfl
            refine take_ (i := 1) (N := some 64) (v := ?_) (a' := ?_) #[true, true, true, false, false, true, true, false, true, true, true, false, true, true, true, true, true, true, true, true, true, true, false, false, false, false, false, false, false] rfl rfl (take_ofW HT_.out HW_.out (by kernel_rfl)) (fun _ _ _ h => h) (Or.inl ⟨by rfl, ?_⟩) hHeld ?_ ?_
            rotate_left
            ·
             rintro w' ⟨s0, s1, s2, s3, s4, s5⟩
             go_simp
             with_reducible rfl
            rotate_left
            ·
             simp only [Act.put, lA, lB, lC, i64_w, i32_w]
             rfl
            refine take_ (i := 3) (N := some 66) (v := ?_) (a' := ?_) #[true, true, true, true, false, true, true, false, true, true, true, false, true, true, true, true, true, true, true, true, true, true, false, false, false, false, false, false, false] rfl rfl (take_ofW HT_.out HW_.out (by kernel_rfl)) (fun _ _ _ h => h) (Or.inl ⟨by rfl, ?_⟩) hHeld ?_ ?_
            rotate_left
            ·
             rintro w' ⟨s0, s1, s2, s3, s4, s5⟩
             go_simp
             with_reducible rfl
            rotate_left
            ·
             simp only [Act.put, lA, lB, lC, i64_w, i32_w]
             rfl
            refine pure_ (i := 4) (N := some 67) (v := ?_) (a' := ?_) #[true, true, true, true, true, true, true, false, true, true, true, false, true, true, true, true, true, true, true, true, true, true, false, false, false, false, false, false, false] rfl rfl (any_of HT_.out (by kernel_rfl)) (fun _ _ _ h => h) (Or.inl ⟨by rfl, ?_⟩) ?_ ?_
            rotate_left
            ·
             intro w'
             go_simp
             with_reducible rfl
            rotate_left
            ·
             simp only [Act.put, lA, lB, lC, i64_w, i32_w]
             rfl
            refine pure_ (i := 7) (N := some 70) (v := ?_) (a' := ?_) #[true, true, true, true, true, true, true, true, true, true, true, false, true, true, true, true, true, true, true, true, true, true, false, false, false, false, false, false, false] rfl rfl (any_of HT_.out (by kernel_rfl)) (fun _ _ _ h => h) (Or.inl ⟨by rfl, ?_⟩) ?_ ?_
            rotate_left
            ·
             intro w'
             go_simp
             with_reducible rfl
            rotate_left
            ·
             simp only [Act.put, lA, lB, lC, i64_w, i32_w]
             rfl
            refine one_ (i := 11) (N := some 74) #[true, true, true, true, true, true, true, true, true, true, true, true, true, true, true, true, true, true, true, true, true, true, false, false, false, false, false, false, false] rfl rfl (one_of HT_.out (by kernel_rfl)) (by decide) (fun K hK => ?_)
            refine goes_ Tryd.func53 (by kernel_rfl) rfl #[.int .i64 (wrap64 (Int.tdiv (wrap64 (a1_2 - a0_2)) (wrap64 (t207)))), .int .u64 (IntKind.u64.wrap (Int.tdiv (IntKind.u64.wrap (a1_1)) t207))] (by rfl) rfl rfl mS ?_
            with_reducible refine (congr_rest.calls (wrap64 (Int.tdiv (wrap64 (a1_2 - a0_2)) (wrap64 (t207)))) (IntKind.u64.wrap (Int.tdiv (IntKind.u64.wrap (a1_1)) t207)) t212 _ A68.out).mono ?_
            rintro e w' ⟨rfl, ⟨nd, rfl⟩⟩
            refine ⟨_, rfl, ?_⟩
            refine hK.out _ _ ⟨cz0 BK198, cz1 BK198, cz2 BK198, cz0 BK197, cz1 BK197, cz2 BK197⟩ (fun hHeld => ?_)
            clear hK K
            refine norm_ (a' := ?_) ?_ ?_
            rotate_left
            ·
             show Act.put _ (some 74) _ = _
             simp only [Act.put, lA, lB, lC, i64_w, i32_w]
             rfl
            refine one_ (i := 22) (N := some 85) #[true, true, true, true, true, true, true, true, true, true, true, true, true, true, true, true, true, true, true, true, true, true, true, false, false, false, false, false, false] rfl rfl (one_of HT_.out (by kernel_rfl)) (by decide) (fun K hK => ?_)
            refine goes_ Tryd.func64 (by kernel_rfl) rfl #[.int .u64 (Int.tmod (IntKind.u64.wrap (Int.tdiv (IntKind.u64.wrap (a0_1)) t207)) (IntKind.u64.wrap (Int.tdiv (IntKind.u64.wrap (a1_1)) t207))), .int .u64 (IntKind.u64.wrap (Int.tdiv (IntKind.u64.wrap (a1_1)) t207))] (by rfl) rfl rfl mS ?_
            with_reducible refine (congr_inverse.calls kj21 (Int.tmod (IntKind.u64.wrap (Int.tdiv (IntKind.u64.wrap (a0_1)) t207)) (IntKind.u64.wrap (Int.tdiv (IntKind.u64.wrap (a1_1)) t207))) (IntKind.u64.wrap (Int.tdiv (IntKind.u64.wrap (a1_1)) t207)) t213 _ A70.out).mono ?_
            rintro e w' ⟨rfl, ⟨nd, rfl⟩⟩
            refine ⟨_, rfl, ?_⟩
            refine hK.out _ _ ⟨cz0 BK198, cz1 BK198, cz2 BK198, cz0 BK197, cz1 BK197, cz2 BK197⟩ (fun hHeld => ?_)
            clear hK K
            refine norm_ (a' := ?_) ?_ ?_
            rotate_left
            ·
             show Act.put _ (some 85) _ = _
             simp only [Act.put, lA, lB, lC, i64_w, i32_w]
             rfl
            refine one_ (i := 23) (N := some 86) #[true, true, true, true, true, true, true, true, true, true, true, true, true, true, true, true, true, true, true, true, true, true, true, true, false, false, false, false, false] rfl rfl (one_of HT_.out (by kernel_rfl)) (by decide) (fun K hK => ?_)
            refine goes_ Tryd.func63 (by kernel_rfl) rfl #[.int .u64 t212, .int .u64 t213] (by rfl) rfl rfl mS ?_
            with_reducible refine (bits_Mul64.calls t212 t213 t214 t215 _ A71.out).mono ?_
            rintro e w' ⟨rfl, ⟨nd, rfl⟩⟩
            refine ⟨_, rfl, ?_⟩
            refine hK.out _ _ ⟨cz0 BK198, cz1 BK198, cz2 BK198, cz0 BK197, cz1 BK197, cz2 BK197⟩ (fun hHeld => ?_)
            clear hK K
            refine norm_ (a' := ?_) ?_ ?_
            rotate_left
            ·
             show Act.put _ (some 86) _ = _
             simp only [Act.put, lA, lB, lC, i64_w, i32_w]
             rfl
            refine pure_ (i := 24) (N := some 62) (v := ?_) (a' := ?_) #[true, true, true, true, true, true, true, true, true, true, true, true, true, true, true, true, true, true, true, true, true, true, true, true, true, false, false, false, false] rfl rfl (any_of HT_.out (by kernel_rfl)) (fun _ _ _ h => h) (Or.inl ⟨by rfl, ?_⟩) ?_ ?_
            rotate_left
            ·
             intro w'
             go_simp
             with_reducible rfl
            rotate_left
            ·
             simp only [Act.put, lA, lB, lC, i64_w, i32_w]
             rfl
            refine pure_ (i := 25) (N := some 87) (v := ?_) (a' := ?_) #[true, true, true, true, true, true, true, true, true, true, true, true, true, true, true, true, true, true, true, true, true, true, true, true, true, true, false, false, false] rfl rfl (any_of HT_.out (by kernel_rfl)) (fun _ _ _ h => h) (Or.inl ⟨by rfl, ?_⟩) ?_ ?_
            rotate_left
            ·
             intro w'
             go_simp
             with_reducible rfl
            rotate_left
            ·
             simp only [Act.put, lA, lB, lC, i64_w, i32_w]
             rfl
            refine pure_ (i := 26) (N := some 88) (v := ?_) (a' := ?_) #[true, true, true, true, true, true, true, true, true, true, true, true, true, true, true, true, true, true, true, true, true, true, true, true, true, true, true, false, false] rfl rfl (any_of HT_.out (by kernel_rfl)) (fun _ _ _ h => h) (Or.inl ⟨by rfl, ?_⟩) ?_ ?_
            rotate_left
            ·
             intro w'
             go_simp
             with_reducible rfl
            rotate_left
            ·
             simp only [Act.put, lA, lB, lC, i64_w, i32_w]
             rfl
            refine pure_ (i := 27) (N := some 9) (v := ?_) (a' := ?_) #[true, true, true, true, true, true, true, true, true, true, true, true, true, true, true, true, true, true, true, true, true, true, true, true, true, true, true, true, false] rfl rfl (any_of HT_.out (by kernel_rfl)) (fun _ _ _ h => h) (Or.inl ⟨by rfl, ?_⟩) ?_ ?_
            rotate_left
            ·
             intro w'
             go_simp
             with_reducible rfl
            rotate_left
            ·
             simp only [Act.put, lA, lB, lC, i64_w, i32_w]
             rfl
            refine pure_ (i := 28) (N := some 10) (v := ?_) (a' := ?_) #[true, true, true, true, true, true, true, true, true, true, true, true, true, true, true, true, true, true, true, true, true, true, true, true, true, true, true, true, true] rfl rfl (any_of HT_.out (by kernel_rfl)) (fun _ _ _ h => h) (Or.inl ⟨by rfl, ?_⟩) ?_ ?_
            rotate_left
            ·
             intro w'
             go_simp
             with_reducible rfl
            rotate_left
            ·
             simp only [Act.put, lA, lB, lC, i64_w, i32_w]
             rfl
            refine done_ (done_of HT_.out (by kernel_rfl)) ?_
            try go_wp2_with (first | ((with_reducible refine gate_callee (f := 65) rfl ?_); refine goesL_ (some 95) rfl rfl Tryd.func65 (by kernel_rfl) rfl #[.agg #[.int .u64 t214, .int .u64 t215], .int .u64 (IntKind.u64.wrap (Int.tdiv (IntKind.u64.wrap (a1_1)) t207))] rfl mS ?_; (with_reducible refine (congr_words_rest.calls t214 t215 (IntKind.u64.wrap (Int.tdiv (IntKind.u64.wrap (a1_1)) t207)) t216 _ A72.out).mono ?_); rintro e w81 ⟨rfl, hb⟩; refine ⟨_, rfl, ?_⟩; replace BK197 := kB BK197 hb; replace BK198 := kB BK198 hb; replace BK199 := kB BK199 hb; replace HB := kW HB hb; (try clear hb); (try clear hb2); (try clear hk); (try clear hi)))
            replace BK197 := Aside0.mk (blk_drew BK197.out)
            replace BK198 := Aside0.mk (blk_drew BK198.out)
            replace BK199 := Aside0.mk (blk_drew BK199.out)
            replace HB := Aside0.mk (below_drew1 HB.out)
            refine start_ (n := 14) (S := fun w' => w'.cell? ⟨gb197, 0, none⟩ = some (.bool a0_0) ∧ w'.cell? ⟨gb197, 1, none⟩ = some (.int .i64 a0_1) ∧ w'.cell? ⟨gb197, 2, none⟩ = some (.int .i64 a0_2)) (ds := []) #[false, false, false, false, false, false, false, false, false, false, false, false, false, false] (by kernel_rfl) rfl rfl ⟨cz0 BK197, cz1 BK197, cz2 BK197⟩ (fun hHeld => ?_); refine with_tabW congr_Meet.tab17 congr_Meet.bits17 (fun HT_ HW_ => ?_)
            generalize w81.drew = w82 at BK197 BK198 BK199 HB hHeld ⊢
            refine pure_ (i := 0) (N := some 96) (v := ?_) (a' := ?_) #[true, false, false, false, false, false, false, false, false, false, false, false, false, false] rfl rfl (any_of HT_.out (by kernel_rfl)) (fun _ _ _ h => h) (Or.inl ⟨by rfl, ?_⟩) ?_ ?_
            rotate_left
            ·
             intro w'
             go_simp
             with_reducible rfl
            rotate_left
            ·
             simp only [Act.put, lA, lB, lC, i64_w, i32_w]
             rfl
            refine pure_ (i := 1) (N := some 97) (v := ?_) (a' := ?_) #[true, true, false, false, false, false, false, false, false, false, false, false, false, false] rfl rfl (any_of HT_.out (by kernel_rfl)) (fun _ _ _ h => h) (Or.inl ⟨by rfl, ?_⟩) ?_ ?_
            rotate_left
            ·
             intro w'
             go_simp
             with_reducible rfl
            rotate_left
            ·
             simp only [Act.put, lA, lB, lC, i64_w, i32_w]
             rfl
            refine pure_ (i := 2) (N := some 98) (v := ?_) (a' := ?_) #[true, true, true, false, false, false, false, false, false, false, false, false, false, false] rfl rfl (any_of HT_.out (by kernel_rfl)) (fun _ _ _ h => h) (Or.inl ⟨by rfl, ?_⟩) ?_ ?_
            rotate_left
            ·
             intro w'
             go_simp
             with_reducible rfl
            rotate_left
            ·
             simp only [Act.put, lA, lB, lC, i64_w, i32_w]
             rfl
            refine pure_ (i := 3) (N := some 99) (v := ?_) (a' := ?_) #[true, true, true, true, false, false, false, false, false, false, false, false, false, false] rfl rfl (any_of HT_.out (by kernel_rfl)) (fun _ _ _ h => h) (Or.inl ⟨by rfl, ?_⟩) ?_ ?_
            rotate_left
            ·
             intro w'
             go_simp
             with_reducible rfl
            rotate_left
            ·
             simp only [Act.put, lA, lB, lC, i64_w, i32_w]
             rfl
            refine pure_ (i := 4) (N := some 100) (v := ?_) (a' := ?_) #[true, true, true, true, true, false, false, false, false, false, false, false, false, false] rfl rfl (any_of HT_.out (by kernel_rfl)) (fun _ _ _ h => h) (Or.inl ⟨by rfl, ?_⟩) ?_ ?_
            rotate_left
            ·
             intro w'
             go_simp
             with_reducible rfl
            rotate_left
            ·
             simp only [Act.put, lA, lB, lC, i64_w, i32_w]
             rfl
            refine pure_ (i := 5) (N := some 101) (v := ?_) (a' := ?_) #[true, true, true, true, true, true, false, false, false, false, false, false, false, false] rfl rfl (any_of HT_.out (by kernel_rfl)) (fun _ _ _ h => h) (Or.inl ⟨by rfl, ?_⟩) ?_ ?_
            rotate_left
            ·
             intro w'
             go_simp
             with_reducible rfl
            rotate_left
            ·
             simp only [Act.put, lA, lB, lC, i64_w, i32_w]
             rfl
            refine pure_ (i := 6) (N := some 102) (v := ?_) (a' := ?_) #[true, true, true, true, true, true, true, false, false, false, false, false, false, false] rfl rfl (any_of HT_.out (by kernel_rfl)) (fun _ _ _ h => h) (Or.inl ⟨by rfl, ?_⟩) ?_ ?_
            rotate_left
            ·
             intro w'
             go_simp
             with_reducible rfl
            rotate_left
            ·
             simp only [Act.put, lA, lB, lC, i64_w, i32_w]
             rfl
            refine pure_ (i := 7) (N := some 103) (v := ?_) (a' := ?_) #[true, true, true, true, true, true, true, true, false, false, false, false, false, false] rfl rfl (any_of HT_.out (by kernel_rfl)) (fun _ _ _ h => h) (Or.inl ⟨by rfl, ?_⟩) ?_ ?_
            rotate_left
            ·
             intro w'
             go_simp
             with_reducible rfl
            rotate_left
            ·
             simp only [Act.put, lA, lB, lC, i64_w, i32_w]
             rfl
            refine pure_ (i := 8) (N := some 104) (v := ?_) (a' := ?_) #[true, true, true, true, true, true, true, true, true, false, false, false, false, false] rfl rfl (any_of HT_.out (by kernel_rfl)) (fun _ _ _ h => h) (Or.inl ⟨by rfl, ?_⟩) ?_ ?_
            rotate_left
            ·
             intro w'
             go_simp
             with_reducible rfl
            rotate_left
            ·
             simp only [Act.put, lA, lB, lC, i64_w, i32_w]
             rfl
            refine take_ (i := 9) (N := some 105) (v := ?_) (a' := ?_) #[true, true, true, true, true, true, true, true, true, true, false, false, false, false] rfl rfl (take_ofW HT_.out HW_.out (by kernel_rfl)) (fun _ _ _ h => h) (Or.inl ⟨by rfl, ?_⟩) hHeld ?_ ?_
            rotate_left
            ·
             rintro w' ⟨s0, s1, s2⟩
             go_simp
             with_reducible rfl
            rotate_left
            ·
             simp only [Act.put, lA, lB, lC, i64_w, i32_w]
             rfl
            refine pure_ (i := 10) (N := some 106) (v := ?_) (a' := ?_) #[true, true, true, true, true, true, true, true, true, true, true, false, false, false] rfl rfl (any_of HT_.out (by kernel_rfl)) (fun _ _ _ h => h) (Or.inl ⟨by rfl, ?_⟩) ?_ ?_
            rotate_left
            ·
             intro w'
             go_simp
             with_reducible rfl
            rotate_left
            ·
             simp only [Act.put, lA, lB, lC, i64_w, i32_w]
             rfl
            refine pure_ (i := 11) (N := some 107) (v := ?_) (a' := ?_) #[true, true, true, true, true, true, true, true, true, true, true, true, false, false] rfl rfl (any_of HT_.out (by kernel_rfl)) (fun _ _ _ h => h) (Or.inl ⟨by rfl, ?_⟩) ?_ ?_
            rotate_left
            ·
             intro w'
             go_simp
             with_reducible rfl
            rotate_left
            ·
             simp only [Act.put, lA, lB, lC, i64_w, i32_w]
             rfl
            refine one_ (i := 12) (N := some 108) #[true, true, true, true, true, true, true, true, true, true, true, true, true, false] rfl rfl (one_of HT_.out (by kernel_rfl)) (by decide) (fun K hK => ?_)
            refine goes_ Tryd.func51 (by kernel_rfl) rfl #[.int .u64 (IntKind.u64.wrap ((IntKind.u64.wrap (a0_1)) * (IntKind.u64.wrap (Int.tdiv (IntKind.u64.wrap (a1_1)) t207)))), .int .u64 (IntKind.u64.wrap ((IntKind.u64.wrap ((IntKind.u64.wrap (a0_1)) * t216)) + (IntKind.u64.wrap (a0_2))))] (by rfl) rfl rfl mS ?_
            with_reducible refine (congr_of.calls kj21 (IntKind.u64.wrap ((IntKind.u64.wrap (a0_1)) * (IntKind.u64.wrap (Int.tdiv (IntKind.u64.wrap (a1_1)) t207)))) (IntKind.u64.wrap ((IntKind.u64.wrap ((IntKind.u64.wrap (a0_1)) * t216)) + (IntKind.u64.wrap (a0_2)))) t217 t218 t219 _ A73.out).mono ?_
            rintro e w83 ⟨rfl, hb⟩
            refine ⟨_, rfl, ?_⟩
            replace BK197 := kB BK197 hb
            replace BK198 := kB BK198 hb
            replace BK199 := kB BK199 hb
            replace HB := kW HB hb
            (try clear hb)
            (try clear hb2)
            (try clear hk)
            (try clear hi)
            refine hK.out _ _ ⟨cz0 BK197, cz1 BK197, cz2 BK197⟩ (fun hHeld => ?_)
            clear hK K
            refine norm_ (a' := ?_) ?_ ?_
            rotate_left
            ·
             show Act.put _ (some 108) _ = _
             simp only [Act.put, lA, lB, lC, i64_w, i32_w]
             rfl
            refine one_ (i := 13) (N := none) #[true, true, true, true, true, true, true, true, true, true, true, true, true, true] rfl rfl (one_of HT_.out (by kernel_rfl)) (by decide) (fun K hK => ?_)
            have hs84 : w83.cell? ⟨gb199, 0, none⟩ = some (.bool false) := cz0 BK199
            have hfs84 := fz BK199 0
            have hns84_0 := NB197_199.out
            have hns84_1 := NB198_199.out
            have hms84_0 := NB199_197.out
            have hms84_1 := NB199_198.out
            have hs85 : w83.cell? ⟨gb199, 1, none⟩ = some (.int .i64 0) := cz1 BK199
            have hfs85 := fz BK199 1
            have hns85_0 := NB197_199.out
            have hns85_1 := NB198_199.out
            have hms85_0 := NB199_197.out
            have hms85_1 := NB199_198.out
            have hs86 : w83.cell? ⟨gb199, 2, none⟩ = some (.int .i64 0) := cz2 BK199
            have hfs86 := fz BK199 2
            have hns86_0 := NB197_199.out
            have hns86_1 := NB198_199.out
            have hms86_0 := NB199_197.out
            have hms86_1 := NB199_198.out
            refine skip_ (w1 := ?_) (by rfl) rfl ?_ ?_
            rotate_left
            ·
             go_simp
             rfl
            refine hK.out _ _ ⟨((cell_far (p := ⟨gb199, _, none⟩) NB197_199.out _).trans (((cell_far (p := ⟨gb199, _, none⟩) NB197_199.out _).trans (((cell_far (p := ⟨gb199, _, none⟩) NB197_199.out _).trans (hHeld.1)))))), ((cell_far (p := ⟨gb199, _, none⟩) NB197_199.out _).trans (((cell_far (p := ⟨gb199, _, none⟩) NB197_199.out _).trans (((cell_far (p := ⟨gb199, _, none⟩) NB197_199.out _).trans (hHeld.2.1)))))), ((cell_far (p := ⟨gb199, _, none⟩) NB197_199.out _).trans (((cell_far (p := ⟨gb199, _, none⟩) NB197_199.out _).trans (((cell_far (p := ⟨gb199, _, none⟩) NB197_199.out _).trans (hHeld.2.2))))))⟩ (fun hHeld => ?_)
            clear hK K
            refine done_ (done_of HT_.out (by kernel_rfl)) ?_
            try go_wp2
            refine bodyPost_ret (results_cell_row rfl _ _ gb199 23 #[.bool t217, .int .i64 t218, .int .i64 t219] (0, 0) _ rfl (by (with_reducible repeat (first | refine b1 ?_ _ | refine b2 ?_ | refine b3 ?_ _)); refine blk_put (cs := #[.bool t217, .int .i64 t218, .int .i64 0]) ?_ 2 _ rfl; (with_reducible repeat (first | refine b1 ?_ _ | refine b2 ?_ | refine b3 ?_ _)); refine blk_put (cs := #[.bool t217, .int .i64 0, .int .i64 0]) ?_ 1 _ rfl; (with_reducible repeat (first | refine b1 ?_ _ | refine b2 ?_ | refine b3 ?_ _)); refine blk_put (cs := #[.bool false, .int .i64 0, .int .i64 0]) ?_ 0 _ rfl; (with_reducible repeat (first | refine b1 ?_ _ | refine b2 ?_ | refine b3 ?_ _)); exact BK199.out) Tryd.underlying23 rfl (by kernel_rfl)) rfl ?_
            exact ⟨eS, bS HB⟩
         ·
          rw [if_neg c66] at H
          have c66b0 : decide (1 < (IntKind.u64.wrap (Int.tdiv (IntKind.u64.wrap (a1_1)) t207))) = false := decide_eq_false c66
          clear c66
          replace H := Option.bind_eq_some_iff.mp H
          obtain ⟨⟨t220, t221, t222⟩, A870, H⟩ := H
          replace H : (some (t220, t221, t222)) = some (r1, r2, r3) := H
          have A87 := Aside0.mk A870
          clear A870
          simp only [Option.some.injEq, Prod.mk.injEq] at H
          obtain ⟨rfl, rfl, rfl⟩ := H
          try go_wp2
          replace BK197 := Aside0.mk (blk_drew BK197.out)
          replace BK198 := Aside0.mk (blk_drew BK198.out)
          replace BK199 := Aside0.mk (blk_drew BK199.out)
          replace HB := Aside0.mk (below_drew1 HB.out)
          refine start_ (n := 8) (S := fun w' => w'.cell? ⟨gb197, 0, none⟩ = some (.bool a0_0) ∧ w'.cell? ⟨gb197, 1, none⟩ = some (.int .i64 a0_1) ∧ w'.cell? ⟨gb197, 2, none⟩ = some (.int .i64 a0_2) ∧ w'.cell? ⟨gb198, 0, none⟩ = some (.bool a1_0) ∧ w'.cell? ⟨gb198, 1, none⟩ = some (.int .i64 a1_1) ∧ w'.cell? ⟨gb198, 2, none⟩ = some (.int .i64 a1_2)) (ds := []) #[false, false, false, false, false, false, false, false] (by kernel_rfl) rfl rfl ⟨cz0 BK197, cz1 BK197, cz2 BK197, cz0 BK198, cz1 BK198, cz2 BK198⟩ (fun hHeld => ?_); refine with_tabW congr_Meet.tab9 congr_Meet.bits9 (fun HT_ HW_ => ?_)
          generalize wc.drew = w88 at BK197 BK198 BK199 HB hHeld ⊢
          refine pure_ (i := 0) (N := some 39) (v := ?_) (a' := ?_) #[true, false, false, false, false, false, false, false] rfl rfl (any_of HT_.out (by kernel_rfl)) (fun _ _ _ h => h) (Or.inl ⟨by rfl, ?_⟩) ?_ ?_
          rotate_left
          ·
           intro w'
           go_simp
           with_reducible rfl
          rotate_left
          ·
           simp only [Act.put, lA, lB, lC, i64_w, i32_w]
           rfl
          refine pure_ (i := 3) (N := some 42) (v := ?_) (a' := ?_) #[true, false, false, true, false, false, false, false] rfl rfl (any_of HT_.out (by kernel_rfl)) (fun _ _ _ h => h) (Or.inl ⟨by rfl, ?_⟩) ?_ ?_
          rotate_left
          ·
           intro w'
           go_simp
           with_reducible rfl
          rotate_left
          ·
           simp only [Act.put, lA, lB, lC, i64_w, i32_w]
           rfl
          refine take_ (i := 1) (N := some 40) (v := ?_) (a' := ?_) #[true, true, false, true, false, false, false, false] rfl rfl (take_ofW HT_.out HW_.out (by kernel_rfl)) (fun _ _ _ h => h) (Or.inl ⟨by rfl, ?_⟩) hHeld ?_ ?_
          rotate_left
          ·
           rintro w' ⟨s0, s1, s2, s3, s4, s5⟩
           go_simp
           with_reducible rfl
          rotate_left
          ·
           simp only [Act.put, lA, lB, lC, i64_w, i32_w]
           rfl
          refine pure_ (i := 2) (N := some 41) (v := ?_) (a' := ?_) #[true, true, true, true, false, false, false, false] rfl rfl (any_of HT_.out (by kernel_rfl)) (fun _ _ _ h => h) (Or.inl ⟨by rfl, ?_⟩) ?_ ?_
          rotate_left
          ·
           intro w'
           go_simp
           with_reducible rfl
          rotate_left
          ·
           simp only [Act.put, lA, lB, lC, i64_w, i32_w]
           rfl
          refine pure_ (i := 6) (N := some 5) (v := ?_) (a' := ?_) #[true, true, true, true, false, false, true, false] rfl rfl (any_of HT_.out (by kernel_rfl)) (fun _ _ _ h => h) (Or.inl ⟨by rfl, ?_⟩) ?_ ?_
          rotate_left
          ·
           intro w'
           go_simp
           with_reducible rfl
          rotate_left
          ·
           simp only [Act.put, lA, lB, lC, i64_w, i32_w]
           rfl
          refine take_ (i := 4) (N := some 43) (v := ?_) (a' := ?_) #[true, true, true, true, true, false, true, false] rfl rfl (take_ofW HT_.out HW_.out (by kernel_rfl)) (fun _ _ _ h => h) (Or.inl ⟨by rfl, ?_⟩) hHeld ?_ ?_
          rotate_left
          ·
           rintro w' ⟨s0, s1, s2, s3, s4, s5⟩
           go_simp
           with_reducible rfl
          rotate_left
          ·
           simp only [Act.put, lA, lB, lC, i64_w, i32_w]
           rfl
          refine pure_ (i := 5) (N := some 44) (v := ?_) (a' := ?_) #[true, true, true, true, true, true, true, false] rfl rfl (any_of HT_.out (by kernel_rfl)) (fun _ _ _ h => h) (Or.inl ⟨by rfl, ?_⟩) ?_ ?_
          rotate_left
          ·
           intro w'
           go_simp
           with_reducible rfl
          rotate_left
          ·
           simp only [Act.put, lA, lB, lC, i64_w, i32_w]
           rfl
          refine pure_ (i := 7) (N := some 6) (v := ?_) (a' := ?_) #[true, true, true, true, true, true, true, true] rfl rfl (any_of HT_.out (by kernel_rfl)) (fun _ _ _ h => h) (Or.inl ⟨by rfl, ?_⟩) ?_ ?_
          rotate_left
          ·
           intro w'
           go_simp
           with_reducible rfl
          rotate_left
          ·
           simp only [Act.put, lA, lB, lC, i64_w, i32_w]
           rfl
          refine done_ (done_of HT_.out (by kernel_rfl)) ?_
          try go_wp2_with (first | ((with_reducible refine gate_callee (f := 62) rfl ?_); refine goesL_ (some 47) rfl rfl Tryd.func62 (by kernel_rfl) rfl #[.int .u64 (IntKind.u64.wrap (a0_1)), .int .u64 (IntKind.u64.wrap (a1_1))] rfl mS ?_; (with_reducible refine (congr_gcd_uint64.calls kj21 (IntKind.u64.wrap (a0_1)) (IntKind.u64.wrap (a1_1)) t207 _ A62.out).mono ?_); rintro e w' ⟨rfl, ⟨nd, rfl⟩⟩; refine ⟨_, rfl, ?_⟩; (try (rw [drewN_self w88]; generalize hq_ : World.drewN w88 _ = w88; have n0_ : Aside0 (w88.heap[gb197]? = some (.cells #[.bool a0_0, .int .i64 a0_1, .int .i64 a0_2] 23 (0, 0))) := ⟨by rw [← hq_]; exact (bkS BK197)⟩; have n1_ : Aside0 (w88.heap[gb198]? = some (.cells #[.bool a1_0, .int .i64 a1_1, .int .i64 a1_2] 23 (0, 0))) := ⟨by rw [← hq_]; exact (bkS BK198)⟩; have n2_ : Aside0 (w88.heap[gb199]? = some (.cells #[.bool false, .int .i64 0, .int .i64 0] 23 (0, 0))) := ⟨by rw [← hq_]; exact (bkS BK199)⟩; have n3_ : Aside0 (Below w.heap.size w w88) := ⟨by rw [← hq_]; exact (bS HB)⟩; clear BK197 BK198 BK199 HB hq_; have BK197 := n0_; have BK198 := n1_; have BK199 := n2_; have HB := n3_; clear n0_ n1_ n2_ n3_)); have hnb89 := NB197_198.out; have hnc89 := NB198_197.out; have hnb90 := NB197_199.out; have hnc90 := NB199_197.out; have hcz91_0 := cz0 BK197; have hcz91_1 := cz1 BK197; have hcz91_2 := cz2 BK197; have hfz91_0 := fz BK197 0; have hfz91_1 := fz BK197 1; have hfz91_2 := fz BK197 2; have hnb92 := NB198_199.out; have hnc92 := NB199_198.out; have hcz93_0 := cz0 BK198; have hcz93_1 := cz1 BK198; have hcz93_2 := cz2 BK198; have hfz93_0 := fz BK198 0; have hfz93_1 := fz BK198 1; have hfz93_2 := fz BK198 2) | ((with_reducible refine gate_callee (f := 52) rfl ?_); refine goesL_ (some 53) rfl rfl Tryd.func52 (by kernel_rfl) rfl #[.int .i64 (wrap64 (a0_2 - a1_2))] rfl mS ?_; (with_reducible refine (congr_size.calls (wrap64 (a0_2 - a1_2)) t208 _ A63.out).mono ?_); rintro e w' ⟨rfl, ⟨nd, rfl⟩⟩; refine ⟨_, rfl, ?_⟩; (try (rw [drewN_self w88]; generalize hq_ : World.drewN w88 _ = w88; have n0_ : Aside0 (w88.heap[gb197]? = some (.cells #[.bool a0_0, .int .i64 a0_1, .int .i64 a0_2] 23 (0, 0))) := ⟨by rw [← hq_]; exact (bkS BK197)⟩; have n1_ : Aside0 (w88.heap[gb198]? = some (.cells #[.bool a1_0, .int .i64 a1_1, .int .i64 a1_2] 23 (0, 0))) := ⟨by rw [← hq_]; exact (bkS BK198)⟩; have n2_ : Aside0 (w88.heap[gb199]? = some (.cells #[.bool false, .int .i64 0, .int .i64 0] 23 (0, 0))) := ⟨by rw [← hq_]; exact (bkS BK199)⟩; have n3_ : Aside0 (Below w.heap.size w w88) := ⟨by rw [← hq_]; exact (bS HB)⟩; clear BK197 BK198 BK199 HB hq_; have BK197 := n0_; have BK198 := n1_; have BK199 := n2_; have HB := n3_; clear n0_ n1_ n2_ n3_))))
          replace BK197 := Aside0.mk (blk_drew BK197.out)
          replace BK198 := Aside0.mk (blk_drew BK198.out)
          replace BK199 := Aside0.mk (blk_drew BK199.out)
          replace HB := Aside0.mk (below_drew1 HB.out)
          refine start_ (n := 14) (S := fun w' => w'.cell? ⟨gb197, 0, none⟩ = some (.bool a0_0) ∧ w'.cell? ⟨gb197, 1, none⟩ = some (.int .i64 a0_1) ∧ w'.cell? ⟨gb197, 2, none⟩ = some (.int .i64 a0_2)) (ds := []) #[false, false, false, false, false, false, false, false, false, false, false, false, false, false] (by kernel_rfl) rfl rfl ⟨cz0 BK197, cz1 BK197, cz2 BK197⟩ (fun hHeld => ?_); refine with_tabW congr_Meet.tab17 congr_Meet.bits17 (fun HT_ HW_ => ?_)
          generalize w88.drew = w94 at BK197 BK198 BK199 HB hHeld ⊢
          refine pure_ (i := 0) (N := some 96) (v := ?_) (a' := ?_) #[true, false, false, false, false, false, false, false, false, false, false, false, false, false] rfl rfl (any_of HT_.out (by kernel_rfl)) (fun _ _ _ h => h) (Or.inl ⟨by rfl, ?_⟩) ?_ ?_
          rotate_left
          ·
           intro w'
           go_simp
           with_reducible rfl
          rotate_left
          ·
           simp only [Act.put, lA, lB, lC, i64_w, i32_w]
           rfl
          refine pure_ (i := 1) (N := some 97) (v := ?_) (a' := ?_) #[true, true, false, false, false, false, false, false, false, false, false, false, false, false] rfl rfl (any_of HT_.out (by kernel_rfl)) (fun _ _ _ h => h) (Or.inl ⟨by rfl, ?_⟩) ?_ ?_
          rotate_left
          ·
           intro w'
           go_simp
           with_reducible rfl
          rotate_left
          ·
           simp only [Act.put, lA, lB, lC, i64_w, i32_w]
           rfl
          refine pure_ (i := 2) (N := some 98) (v := ?_) (a' := ?_) #[true, true, true, false, false, false, false, false, false, false, false, false, false, false] rfl rfl (any_of HT_.out (by kernel_rfl)) (fun _ _ _ h => h) (Or.inl ⟨by rfl, ?_⟩) ?_ ?_
          rotate_left
          ·
           intro w'
           go_simp
           with_reducible rfl
          rotate_left
          ·
           simp only [Act.put, lA, lB, lC, i64_w, i32_w]
           rfl
          refine pure_ (i := 3) (N := some 99) (v := ?_) (a' := ?_) #[true, true, true, true, false, false, false, false, false, false, false, false, false, false] rfl rfl (any_of HT_.out (by kernel_rfl)) (fun _ _ _ h => h) (Or.inl ⟨by rfl, ?_⟩) ?_ ?_
          rotate_left
          ·
           intro w'
           go_simp
           with_reducible rfl
          rotate_left
          ·
           simp only [Act.put, lA, lB, lC, i64_w, i32_w]
           rfl
          refine pure_ (i := 4) (N := some 100) (v := ?_) (a' := ?_) #[true, true, true, true, true, false, false, false, false, false, false, false, false, false] rfl rfl (any_of HT_.out (by kernel_rfl)) (fun _ _ _ h => h) (Or.inl ⟨by rfl, ?_⟩) ?_ ?_
          rotate_left
          ·
           intro w'
           go_simp
           with_reducible rfl
          rotate_left
          ·
           simp only [Act.put, lA, lB, lC, i64_w, i32_w]
           rfl
          refine pure_ (i := 5) (N := some 101) (v := ?_) (a' := ?_) #[true, true, true, true, true, true, false, false, false, false, false, false, false, false] rfl rfl (any_of HT_.out (by kernel_rfl)) (fun _ _ _ h => h) (Or.inl ⟨by rfl, ?_⟩) ?_ ?_
          rotate_left
          ·
           intro w'
           go_simp
           with_reducible rfl
          rotate_left
          ·
           simp only [Act.put, lA, lB, lC, i64_w, i32_w]
           rfl
          refine pure_ (i := 6) (N := some 102) (v := ?_) (a' := ?_) #[true, true, true, true, true, true, true, false, false, false, false, false, false, false] rfl rfl (any_of HT_.out (by kernel_rfl)) (fun _ _ _ h => h) (Or.inl ⟨by rfl, ?_⟩) ?_ ?_
          rotate_left
          ·
           intro w'
           go_simp
           with_reducible rfl
          rotate_left
          ·
           simp only [Act.put, lA, lB, lC, i64_w, i32_w]
           rfl
          refine pure_ (i := 7) (N := some 103) (v := ?_) (a' := ?_) #[true, true, true, true, true, true, true, true, false, false, false, false, false, false] rfl rfl (any_of HT_.out (by kernel_rfl)) (fun _ _ _ h => h) (Or.inl ⟨by rfl, ?_⟩) ?_ ?_
          rotate_left
          ·
           intro w'
           go_simp
           with_reducible rfl
          rotate_left
          ·
           simp only [Act.put, lA, lB, lC, i64_w, i32_w]
           rfl
          refine pure_ (i := 8) (N := some 104) (v := ?_) (a' := ?_) #[true, true, true, true, true, true, true, true, true, false, false, false, false, false] rfl rfl (any_of HT_.out (by kernel_rfl)) (fun _ _ _ h => h) (Or.inl ⟨by rfl, ?_⟩) ?_ ?_
          rotate_left
          ·
           intro w'
           go_simp
           with_reducible rfl
          rotate_left
          ·
           simp only [Act.put, lA, lB, lC, i64_w, i32_w]
           rfl
          refine take_ (i := 9) (N := some 105) (v := ?_) (a' := ?_) #[true, true, true, true, true, true, true, true, true, true, false, false, false, false] rfl rfl (take_ofW HT_.out HW_.out (by kernel_rfl)) (fun _ _ _ h => h) (Or.inl ⟨by rfl, ?_⟩) hHeld ?_ ?_
          rotate_left
          ·
           rintro w' ⟨s0, s1, s2⟩
           go_simp
           with_reducible rfl
          rotate_left
          ·
           simp only [Act.put, lA, lB, lC, i64_w, i32_w]
           rfl
          refine pure_ (i := 10) (N := some 106) (v := ?_) (a' := ?_) #[true, true, true, true, true, true, true, true, true, true, true, false, false, false] rfl rfl (any_of HT_.out (by kernel_rfl)) (fun _ _ _ h => h) (Or.inl ⟨by rfl, ?_⟩) ?_ ?_
          rotate_left
          ·
           intro w'
           go_simp
           with_reducible rfl
          rotate_left
          ·
           simp only [Act.put, lA, lB, lC, i64_w, i32_w]
           rfl
          refine pure_ (i := 11) (N := some 107) (v := ?_) (a' := ?_) #[true, true, true, true, true, true, true, true, true, true, true, true, false, false] rfl rfl (any_of HT_.out (by kernel_rfl)) (fun _ _ _ h => h) (Or.inl ⟨by rfl, ?_⟩) ?_ ?_
          rotate_left
          ·
           intro w'
           go_simp
           with_reducible rfl
          rotate_left
          ·
           simp only [Act.put, lA, lB, lC, i64_w, i32_w]
           rfl
          refine one_ (i := 12) (N := some 108) #[true, true, true, true, true, true, true, true, true, true, true, true, true, false] rfl rfl (one_of HT_.out (by kernel_rfl)) (by decide) (fun K hK => ?_)
          refine goes_ Tryd.func51 (by kernel_rfl) rfl #[.int .u64 (IntKind.u64.wrap ((IntKind.u64.wrap (a0_1)) * (IntKind.u64.wrap (Int.tdiv (IntKind.u64.wrap (a1_1)) t207)))), .int .u64 (IntKind.u64.wrap ((IntKind.u64.wrap ((IntKind.u64.wrap (a0_1)) * 0)) + (IntKind.u64.wrap (a0_2))))] (by rfl) rfl rfl (by (try simp only [List.map_toArray, List.map_cons, List.map_nil]); first | done | rfl | (go_simp; done) | (simp [go_sem]; done) | (simp [go_sem, IntKind.wrap_u64]; done) | (simp only [List.length_drop, List.length_take]; rfl)) ?_
          with_reducible refine (congr_of.calls kj21 (IntKind.u64.wrap ((IntKind.u64.wrap (a0_1)) * (IntKind.u64.wrap (Int.tdiv (IntKind.u64.wrap (a1_1)) t207)))) (IntKind.u64.wrap ((IntKind.u64.wrap ((IntKind.u64.wrap (a0_1)) * 0)) + (IntKind.u64.wrap (a0_2)))) t220 t221 t222 _ A87.out).mono ?_
          rintro e w95 ⟨rfl, hb⟩
          refine ⟨_, rfl, ?_⟩
          replace BK197 := kB BK197 hb
          replace BK198 := kB BK198 hb
          replace BK199 := kB BK199 hb
          replace HB := kW HB hb
          (try clear hb)
          (try clear hb2)
          (try clear hk)
          (try clear hi)
          refine hK.out _ _ ⟨cz0 BK197, cz1 BK197, cz2 BK197⟩ (fun hHeld => ?_)
          clear hK K
          refine norm_ (a' := ?_) ?_ ?_
          rotate_left
          ·
           show Act.put _ (some 108) _ = _
           simp only [Act.put, lA, lB, lC, i64_w, i32_w]
           rfl
          refine one_ (i := 13) (N := none) #[true, true, true, true, true, true, true, true, true, true, true, true, true, true] rfl rfl (one_of HT_.out (by kernel_rfl)) (by decide) (fun K hK => ?_)
          have hs96 : w95.cell? ⟨gb199, 0, none⟩ = some (.bool false) := cz0 BK199
          have hfs96 := fz BK199 0
          have hns96_0 := NB197_199.out
          have hns96_1 := NB198_199.out
          have hms96_0 := NB199_197.out
          have hms96_1 := NB199_198.out
          have hs97 : w95.cell? ⟨gb199, 1, none⟩ = some (.int .i64 0) := cz1 BK199
          have hfs97 := fz BK199 1
          have hns97_0 := NB197_199.out
          have hns97_1 := NB198_199.out
          have hms97_0 := NB199_197.out
          have hms97_1 := NB199_198.out
          have hs98 : w95.cell? ⟨gb199, 2, none⟩ = some (.int .i64 0) := cz2 BK199
          have hfs98 := fz BK199 2
          have hns98_0 := NB197_199.out
          have hns98_1 := NB198_199.out
          have hms98_0 := NB199_197.out
          have hms98_1 := NB199_198.out
          refine skip_ (w1 := ?_) (by rfl) rfl ?_ ?_
          rotate_left
          ·
           go_simp
           rfl
          refine hK.out _ _ ⟨((cell_far (p := ⟨gb199, _, none⟩) NB197_199.out _).trans (((cell_far (p := ⟨gb199, _, none⟩) NB197_199.out _).trans (((cell_far (p := ⟨gb199, _, none⟩) NB197_199.out _).trans (hHeld.1)))))), ((cell_far (p := ⟨gb199, _, none⟩) NB197_199.out _).trans (((cell_far (p := ⟨gb199, _, none⟩) NB197_199.out _).trans (((cell_far (p := ⟨gb199, _, none⟩) NB197_199.out _).trans (hHeld.2.1)))))), ((cell_far (p := ⟨gb199, _, none⟩) NB197_199.out _).trans (((cell_far (p := ⟨gb199, _, none⟩) NB197_199.out _).trans (((cell_far (p := ⟨gb199, _, none⟩) NB197_199.out _).trans (hHeld.2.2))))))⟩ (fun hHeld => ?_)
          clear hK K
          refine done_ (done_of HT_.out (by kernel_rfl)) ?_
          try go_wp2
          refine bodyPost_ret (results_cell_row rfl _ _ gb199 23 #[.bool t220, .int .i64 t221, .int .i64 t222] (0, 0) _ rfl (by (with_reducible repeat (first | refine b1 ?_ _ | refine b2 ?_ | refine b3 ?_ _)); refine blk_put (cs := #[.bool t220, .int .i64 t221, .int .i64 0]) ?_ 2 _ rfl; (with_reducible repeat (first | refine b1 ?_ _ | refine b2 ?_ | refine b3 ?_ _)); refine blk_put (cs := #[.bool t220, .int .i64 0, .int .i64 0]) ?_ 1 _ rfl; (with_reducible repeat (first | refine b1 ?_ _ | refine b2 ?_ | refine b3 ?_ _)); refine blk_put (cs := #[.bool false, .int .i64 0, .int .i64 0]) ?_ 0 _ rfl; (with_reducible repeat (first | refine b1 ?_ _ | refine b2 ?_ | refine b3 ?_ _)); exact BK199.out) Tryd.underlying23 rfl (by kernel_rfl)) rfl ?_
          exact ⟨eS, bS HB⟩
        ·
         rw [if_neg c65] at H
         have c65b0 : ((Int.tmod t208 t207) == 0) = false := beq_eq_false_iff_ne.mpr c65
         have c65b1 : ((Int.tmod t208 t207) != 0) = true := bne_iff_ne.mpr c65
         replace H := Option.bind_eq_some_iff.mp H
         obtain ⟨⟨t209, t210, t211⟩, A990, H⟩ := H
         replace H : (some (t209, t210, t211)) = some (r1, r2, r3) := H
         have A99 := Aside0.mk A990
         clear A990
         simp only [Option.some.injEq, Prod.mk.injEq] at H
         obtain ⟨rfl, rfl, rfl⟩ := H
         try go_wp2
         replace BK197 := Aside0.mk (blk_drew BK197.out)
         replace BK198 := Aside0.mk (blk_drew BK198.out)
         replace BK199 := Aside0.mk (blk_drew BK199.out)
         replace HB := Aside0.mk (below_drew1 HB.out)
         refine start_ (n := 8) (S := fun w' => w'.cell? ⟨gb197, 0, none⟩ = some (.bool a0_0) ∧ w'.cell? ⟨gb197, 1, none⟩ = some (.int .i64 a0_1) ∧ w'.cell? ⟨gb197, 2, none⟩ = some (.int .i64 a0_2) ∧ w'.cell? ⟨gb198, 0, none⟩ = some (.bool a1_0) ∧ w'.cell? ⟨gb198, 1, none⟩ = some (.int .i64 a1_1) ∧ w'.cell? ⟨gb198, 2, none⟩ = some (.int .i64 a1_2)) (ds := []) #[false, false, false, false, false, false, false, false] (by kernel_rfl) rfl rfl ⟨cz0 BK197, cz1 BK197, cz2 BK197, cz0 BK198, cz1 BK198, cz2 BK198⟩ (fun hHeld => ?_); refine with_tabW congr_Meet.tab9 congr_Meet.bits9 (fun HT_ HW_ => ?_)
         generalize wc.drew = w100 at BK197 BK198 BK199 HB hHeld ⊢
         refine pure_ (i := 0) (N := some 39) (v := ?_) (a' := ?_) #[true, false, false, false, false, false, false, false] rfl rfl (any_of HT_.out (by kernel_rfl)) (fun _ _ _ h => h) (Or.inl ⟨by rfl, ?_⟩) ?_ ?_
         rotate_left
         ·
          intro w'
          go_simp
          with_reducible rfl
         rotate_left
         ·
          simp only [Act.put, lA, lB, lC, i64_w, i32_w]
          rfl
         refine pure_ (i := 3) (N := some 42) (v := ?_) (a' := ?_) #[true, false, false, true, false, false, false, false] rfl rfl (any_of HT_.out (by kernel_rfl)) (fun _ _ _ h => h) (Or.inl ⟨by rfl, ?_⟩) ?_ ?_
         rotate_left
         ·
          intro w'
          go_simp
          with_reducible rfl
         rotate_left
         ·
          simp only [Act.put, lA, lB, lC, i64_w, i32_w]
          rfl
         refine take_ (i := 1) (N := some 40) (v := ?_) (a' := ?_) #[true, true, false, true, false, false, false, false] rfl rfl (take_ofW HT_.out HW_.out (by kernel_rfl)) (fun _ _ _ h => h) (Or.inl ⟨by rfl, ?_⟩) hHeld ?_ ?_
         rotate_left
         ·
          rintro w' ⟨s0, s1, s2, s3, s4, s5⟩
          go_simp
          with_reducible rfl
         rotate_left
         ·
          simp only [Act.put, lA, lB, lC, i64_w, i32_w]
          rfl
         refine pure_ (i := 2) (N := some 41) (v := ?_) (a' := ?_) #[true, true, true, true, false, false, false, false] rfl rfl (any_of HT_.out (by kernel_rfl)) (fun _ _ _ h => h) (Or.inl ⟨by rfl, ?_⟩) ?_ ?_
         rotate_left
         ·
          intro w'
          go_simp
          with_reducible rfl
         rotate_left
         ·
          simp only [Act.put, lA, lB, lC, i64_w, i32_w]
          rfl
         refine pure_ (i := 6) (N := some 5) (v := ?_) (a' := ?_) #[true, true, true, true, false, false, true, false] rfl rfl (any_of HT_.out (by kernel_rfl)) (fun _ _ _ h => h) (Or.inl ⟨by rfl, ?_⟩) ?_ ?_
         rotate_left
         ·
          intro w'
          go_simp
          with_reducible rfl
         rotate_left
         ·
          simp only [Act.put, lA, lB, lC, i64_w, i32_w]
          rfl
         refine take_ (i := 4) (N := some 43) (v := ?_) (a' := ?_) #[true, true, true, true, true, false, true, false] rfl rfl (take_ofW HT_.out HW_.out (by kernel_rfl)) (fun _ _ _ h => h) (Or.inl ⟨by rfl, ?_⟩) hHeld ?_ ?_
         rotate_left
         ·
          rintro w' ⟨s0, s1, s2, s3, s4, s5⟩
          go_simp
          with_reducible rfl
         rotate_left
         ·
          simp only [Act.put, lA, lB, lC, i64_w, i32_w]
          rfl
         refine pure_ (i := 5) (N := some 44) (v := ?_) (a' := ?_) #[true, true, true, true, true, true, true, false] rfl rfl (any_of HT_.out (by kernel_rfl)) (fun _ _ _ h => h) (Or.inl ⟨by rfl, ?_⟩) ?_ ?_
         rotate_left
         ·
          intro w'
          go_simp
          with_reducible rfl
         rotate_left
         ·
          simp only [Act.put, lA, lB, lC, i64_w, i32_w]
          rfl
         refine pure_ (i := 7) (N := some 6) (v := ?_) (a' := ?_) #[true, true, true, true, true, true, true, true] rfl rfl (any_of HT_.out (by kernel_rfl)) (fun _ _ _ h => h) (Or.inl ⟨by rfl, ?_⟩) ?_ ?_
         rotate_left
         ·
          intro w'
          go_simp
          with_reducible rfl
         rotate_left
         ·
          simp only [Act.put, lA, lB, lC, i64_w, i32_w]
          rfl
         refine done_ (done_of HT_.out (by kernel_rfl)) ?_
         try go_wp2_with (first | ((with_reducible refine gate_callee (f := 62) rfl ?_); refine goesL_ (some 47) rfl rfl Tryd.func62 (by kernel_rfl) rfl #[.int .u64 (IntKind.u64.wrap (a0_1)), .int .u64 (IntKind.u64.wrap (a1_1))] rfl mS ?_; (with_reducible refine (congr_gcd_uint64.calls kj21 (IntKind.u64.wrap (a0_1)) (IntKind.u64.wrap (a1_1)) t207 _ A62.out).mono ?_); rintro e w' ⟨rfl, ⟨nd, rfl⟩⟩; refine ⟨_, rfl, ?_⟩; (try (rw [drewN_self w100]; generalize hq_ : World.drewN w100 _ = w100; have n0_ : Aside0 (w100.heap[gb197]? = some (.cells #[.bool a0_0, .int .i64 a0_1, .int .i64 a0_2] 23 (0, 0))) := ⟨by rw [← hq_]; exact (bkS BK197)⟩; have n1_ : Aside0 (w100.heap[gb198]? = some (.cells #[.bool a1_0, .int .i64 a1_1, .int .i64 a1_2] 23 (0, 0))) := ⟨by rw [← hq_]; exact (bkS BK198)⟩; have n2_ : Aside0 (w100.heap[gb199]? = some (.cells #[.bool false, .int .i64 0, .int .i64 0] 23 (0, 0))) := ⟨by rw [← hq_]; exact (bkS BK199)⟩; have n3_ : Aside0 (Below w.heap.size w w100) := ⟨by rw [← hq_]; exact (bS HB)⟩; clear BK197 BK198 BK199 HB hq_; have BK197 := n0_; have BK198 := n1_; have BK199 := n2_; have HB := n3_; clear n0_ n1_ n2_ n3_)); have hnb101 := NB197_198.out; have hnc101 := NB198_197.out; have hnb102 := NB197_199.out; have hnc102 := NB199_197.out; have hcz103_0 := cz0 BK197; have hcz103_1 := cz1 BK197; have hcz103_2 := cz2 BK197; have hfz103_0 := fz BK197 0; have hfz103_1 := fz BK197 1; have hfz103_2 := fz BK197 2; have hnb104 := NB198_199.out; have hnc104 := NB199_198.out; have hcz105_0 := cz0 BK198; have hcz105_1 := cz1 BK198; have hcz105_2 := cz2 BK198; have hfz105_0 := fz BK198 0; have hfz105_1 := fz BK198 1; have hfz105_2 := fz BK198 2) | ((with_reducible refine gate_callee (f := 52) rfl ?_); refine goesL_ (some 53) rfl rfl Tryd.func52 (by kernel_rfl) rfl #[.int .i64 (wrap64 (a0_2 - a1_2))] rfl mS ?_; (with_reducible refine (congr_size.calls (wrap64 (a0_2 - a1_2)) t208 _ A63.out).mono ?_); rintro e w' ⟨rfl, ⟨nd, rfl⟩⟩; refine ⟨_, rfl, ?_⟩; (try (rw [drewN_self w100]; generalize hq_ : World.drewN w100 _ = w100; have n0_ : Aside0 (w100.heap[gb197]? = some (.cells #[.bool a0_0, .int .i64 a0_1, .int .i64 a0_2] 23 (0, 0))) := ⟨by rw [← hq_]; exact (bkS BK197)⟩; have n1_ : Aside0 (w100.heap[gb198]? = some (.cells #[.bool a1_0, .int .i64 a1_1, .int .i64 a1_2] 23 (0, 0))) := ⟨by rw [← hq_]; exact (bkS BK198)⟩; have n2_ : Aside0 (w100.heap[gb199]? = some (.cells #[.bool false, .int .i64 0, .int .i64 0] 23 (0, 0))) := ⟨by rw [← hq_]; exact (bkS BK199)⟩; have n3_ : Aside0 (Below w.heap.size w w100) := ⟨by rw [← hq_]; exact (bS HB)⟩; clear BK197 BK198 BK199 HB hq_; have BK197 := n0_; have BK198 := n1_; have BK199 := n2_; have HB := n3_; clear n0_ n1_ n2_ n3_))) | ((with_reducible refine gate_callee (f := 56) rfl ?_); refine goesL_ (some 57) rfl rfl Tryd.func56 (by kernel_rfl) rfl #[] rfl mS ?_; (with_reducible refine (congr_none.calls  t209 t210 t211 _ A99.out).mono ?_); rintro e w106 ⟨rfl, hb⟩; refine ⟨_, rfl, ?_⟩; replace BK197 := kB BK197 hb; replace BK198 := kB BK198 hb; replace BK199 := kB BK199 hb; replace HB := kW HB hb; (try clear hb); (try clear hb2); (try clear hk); (try clear hi); have hcz107_0 := cz0 BK199; have hcz107_1 := cz1 BK199; have hcz107_2 := cz2 BK199; have hfz107_0 := fz BK199 0; have hfz107_1 := fz BK199 1; have hfz107_2 := fz BK199 2))
         refine bodyPost_ret (results_cell_row rfl _ _ gb199 23 #[.bool t209, .int .i64 t210, .int .i64 t211] (0, 0) _ rfl (by (with_reducible repeat (first | refine b1 ?_ _ | refine b2 ?_ | refine b3 ?_ _)); refine blk_put (cs := #[.bool t209, .int .i64 t210, .int .i64 0]) ?_ 2 _ rfl; (with_reducible repeat (first | refine b1 ?_ _ | refine b2 ?_ | refine b3 ?_ _)); refine blk_put (cs := #[.bool t209, .int .i64 0, .int .i64 0]) ?_ 1 _ rfl; (with_reducible repeat (first | refine b1 ?_ _ | refine b2 ?_ | refine b3 ?_ _)); refine blk_put (cs := #[.bool false, .int .i64 0, .int .i64 0]) ?_ 0 _ rfl; (with_reducible repeat (first | refine b1 ?_ _ | refine b2 ?_ | refine b3 ?_ _)); exact BK199.out) Tryd.underlying23 rfl (by kernel_rfl)) rfl ?_
         exact ⟨eS, bS HB⟩

def gimbalref31_times.f (a0 : Int) (a1 : Int) (a2 : Int) : Option (Int) := if a2 = 0 then (none) else (some (Int.tmod (IntKind.u64.wrap (a0 * a1)) a2))
set_option maxHeartbeats 8000000 in
set_option maxRecDepth 100000 in
theorem gimbalref31_times.calls (a0 : Int) (a1 : Int) (a2 : Int) (r : Int) (w : World) (h : gimbalref31_times.f a0 a1 a2 = some r) :
  Calls Tryd.prog 81 #[.int .u64 a0, .int .u64 a1, .int .u64 a2] w fun e w' => e = .returned (.int .u64 r) ∧ Drawn0 w w' := by
 have H : (if a2 = 0 then (none) else (some (Int.tmod (IntKind.u64.wrap (a0 * a1)) a2))) = some r := h
 clear h
 by_cases c4 : a2 = 0
 ·
  rw [if_pos c4] at H
  exact absurd H (by simp)
 ·
  rw [if_neg c4] at H
  have c4b0 : (a2 == 0) = false := beq_eq_false_iff_ne.mpr c4
  have c4b1 : (a2 != 0) = true := bne_iff_ne.mpr c4
  obtain rfl := Option.some.inj H
  go_enter Tryd.func81, Tryd.ntmps81
  go_wp2
  go_ret
  exact ⟨by first | rfl | (simp; done) | (simp [*]; done), by repeat (first | exact Drawn0.refl _ | apply Drawn0.step)⟩

def gimbalref31_inverse.l0 : Nat → Int → Int → Int → Int → Int → Option (Int)
 | 0, _, _, _, _, _ => none
 | k + 1, x1, x5, x6, x7, x8 => if x6 = 0 then (if x7 < 0 then (some (IntKind.u64.wrap (wrap64 (x7 + (wrap64 (x1)))))) else (some (IntKind.u64.wrap (x7)))) else (gimbalref31_inverse.l0 k x1 x6 (wrap64 (x5 - (wrap64 ((wrap64 (Int.tdiv x5 x6)) * x6)))) x8 (wrap64 (x7 - (wrap64 ((wrap64 (Int.tdiv x5 x6)) * x8)))))
def gimbalref31_inverse.f (k : Nat) (a0 : Int) (a1 : Int) : Option (Int) := gimbalref31_inverse.l0 k a1 (wrap64 (a1)) (wrap64 (a0)) 0 1
set_option maxHeartbeats 8000000 in
set_option maxRecDepth 100000 in
theorem gimbalref31_inverse.calls (k : Nat) (a0 : Int) (a1 : Int) (r : Int) (w : World) (h : gimbalref31_inverse.f k a0 a1 = some r) :
  Calls Tryd.prog 82 #[.int .u64 a0, .int .u64 a1] w fun e w' => e = .returned (.int .u64 r) ∧ Drawn0 w w' := by
 have H : (gimbalref31_inverse.l0 k a1 (wrap64 (a1)) (wrap64 (a0)) 0 1) = some r := h
 clear h
 have H' := Aside0.mk H
 clear H
 go_enter Tryd.func82, Tryd.ntmps82
 go_wp2
 go_loopg [5, 6, 7, 8] k (fun kq v5 v6 v7 v8 w' => ∃ (x5_1 : Int) (x6_1 : Int) (x7_1 : Int) (x8_1 : Int), v5 = .int .i64 x5_1 ∧ v6 = .int .i64 x6_1 ∧ v7 = .int .i64 x7_1 ∧ v8 = .int .i64 x8_1 ∧ Aside0 (gimbalref31_inverse.l0 kq a1 x5_1 x6_1 x7_1 x8_1 = some r) ∧ Aside0 (kq ≤ k) ∧ Drawn0 w w')
 case atStart => exact ⟨(wrap64 (a1)), (wrap64 (a0)), (0), (1), (by first | rfl | (simp; done) | (simp [*]; done)), (by first | rfl | (simp; done) | (simp [*]; done)), (by first | rfl | (simp; done) | (simp [*]; done)), (by first | rfl | (simp; done) | (simp [*]; done)), H', ⟨Nat.le_refl _⟩, by repeat (first | exact Drawn0.refl _ | apply Drawn0.step)⟩
 case round =>
  clear H'
  try clear p2
  obtain ⟨x5_1, x6_1, x7_1, x8_1, rfl, rfl, rfl, rfl, HA, HK1, ⟨m1, rfl⟩⟩ := hrel
  cases gk with
  | zero => exact absurd HA.out (by simp [gimbalref31_inverse.l0])
  | succ k1 =>
   have H := HA.out
   clear HA
   simp only [gimbalref31_inverse.l0] at H
   by_cases c3 : x6_1 = 0
   ·
    rw [if_pos c3] at H
    have c3b0 : (x6_1 == 0) = true := beq_iff_eq.mpr c3
    have c3b1 : (x6_1 != 0) = false := bne_eq_false_iff_eq.mpr c3
    clear c3
    by_cases c4 : x7_1 < 0
    ·
     rw [if_pos c4] at H
     have c4b0 : decide (x7_1 < 0) = true := decide_eq_true c4
     clear c4
     obtain rfl := Option.some.inj H
     go_wp2
     go_ret
     exact ⟨by first | rfl | (simp; done) | (simp [*]; done), by repeat (first | exact Drawn0.refl _ | apply Drawn0.step)⟩
    ·
     rw [if_neg c4] at H
     have c4b0 : decide (x7_1 < 0) = false := decide_eq_false c4
     clear c4
     obtain rfl := Option.some.inj H
     go_wp2
     go_ret
     exact ⟨by first | rfl | (simp; done) | (simp [*]; done), by repeat (first | exact Drawn0.refl _ | apply Drawn0.step)⟩
   ·
    rw [if_neg c3] at H
    have c3b0 : (x6_1 == 0) = false := beq_eq_false_iff_ne.mpr c3
    have c3b1 : (x6_1 != 0) = true := bne_iff_ne.mpr c3
    have H' := Aside0.mk H
    clear H
    go_wp2
    go_roundg k1
    case measure => have := HK1.out; omega
    case rel => exact ⟨(x6_1), (wrap64 (x5_1 - (wrap64 ((wrap64 (Int.tdiv x5_1 x6_1)) * x6_1)))), (x8_1), (wrap64 (x7_1 - (wrap64 ((wrap64 (Int.tdiv x5_1 x6_1)) * x8_1)))), (by first | rfl | (simp; done) | (simp [*]; done)), (by first | rfl | (simp; done) | (simp [*]; done)), (by first | rfl | (simp; done) | (simp [*]; done)), (by first | rfl | (simp; done) | (simp [*]; done)), H', ⟨by have := HK1.out; omega⟩, by repeat (first | exact Drawn0.refl _ | apply Drawn0.step)⟩

mutual
def gimbalref31_Meet.j0 : Nat → Bool → Bool → Int → Int → Bool → Int → Int → Option (Bool × Int × Int)
 | 0, _, _, _, _, _, _, _ => none
 | k + 1, x15, x247000, x247001, x247002, x248000, x248001, x248002 => if x15 = true then ((gimbalref31_None.f).bind fun bt249 => (some (bt249.1, bt249.2.1, bt249.2.2))) else (if x247001 < x248001 then (gimbalref31_Meet.j1 k x248000 x248001 x248002 x247000 x247001 x247002) else (gimbalref31_Meet.j1 k x247000 x247001 x247002 x248000 x248001 x248002))
def gimbalref31_Meet.j1 : Nat → Bool → Int → Int → Bool → Int → Int → Option (Bool × Int × Int)
 | 0, _, _, _, _, _, _ => none
 | k + 1, x247000, x247001, x247002, x248000, x248001, x248002 => if x248001 = 0 then ((gimbalref31_Has.f k x247000 x247001 x247002 x248002).bind fun t252 => (if t252 = true then (some (x248000, x248001, x248002)) else ((gimbalref31_None.f).bind fun bt253 => (some (bt253.1, bt253.2.1, bt253.2.2))))) else ((gimbalref31_size.f x247001).bind fun t256 => ((gimbalref31_size.f x248001).bind fun t257 => ((gimbalref31_gcd.f k t256 t257).bind fun t258 => ((gimbalref31_size.f (wrap64 (x247002 - x248002))).bind fun t259 => (if t258 = 0 then (none) else (if (Int.tmod t259 t258) = 0 then ((gimbalref31_size.f x248001).bind fun t263 => ((gimbalref31_size.f x247001).bind fun t264 => (if (IntKind.u64.wrap (Int.tdiv t263 t258)) = 0 then (none) else (if (wrap64 (t258)) = 0 then (none) else (if (wrap64 (IntKind.u64.wrap (Int.tdiv t263 t258))) = 0 then (none) else (if (Int.tmod (wrap64 (Int.tdiv (wrap64 (x248002 - x247002)) (wrap64 (t258)))) (wrap64 (IntKind.u64.wrap (Int.tdiv t263 t258)))) < 0 then (gimbalref31_Meet.j2 k t258 (IntKind.u64.wrap (Int.tdiv t263 t258)) (Int.tmod (IntKind.u64.wrap (Int.tdiv t264 t258)) (IntKind.u64.wrap (Int.tdiv t263 t258))) (wrap64 ((Int.tmod (wrap64 (Int.tdiv (wrap64 (x248002 - x247002)) (wrap64 (t258)))) (wrap64 (IntKind.u64.wrap (Int.tdiv t263 t258)))) + (wrap64 (IntKind.u64.wrap (Int.tdiv t263 t258))))) x247000 x247001 x247002 x248000 x248001 x248002) else (gimbalref31_Meet.j2 k t258 (IntKind.u64.wrap (Int.tdiv t263 t258)) (Int.tmod (IntKind.u64.wrap (Int.tdiv t264 t258)) (IntKind.u64.wrap (Int.tdiv t263 t258))) (Int.tmod (wrap64 (Int.tdiv (wrap64 (x248002 - x247002)) (wrap64 (t258)))) (wrap64 (IntKind.u64.wrap (Int.tdiv t263 t258)))) x247000 x247001 x247002 x248000 x248001 x248002))))))) else ((gimbalref31_None.f).bind fun bt260 => (some (bt260.1, bt260.2.1, bt260.2.2)))))))))
def gimbalref31_Meet.j2 : Nat → Int → Int → Int → Int → Bool → Int → Int → Bool → Int → Int → Option (Bool × Int × Int)
 | 0, _, _, _, _, _, _, _, _, _, _ => none
 | k + 1, x5, x6, x7, x8, x247000, x247001, x247002, x248000, x248001, x248002 => if x6 > 1 then ((gimbalref31_inverse.f k x7 x6).bind fun t265 => ((gimbalref31_times.f (IntKind.u64.wrap (x8)) t265 x6).bind fun t266 => (gimbalref31_Meet.j3 k x5 t266 x247000 x247001 x247002 x248000 x248001 x248002))) else (gimbalref31_Meet.j3 k x5 0 x247000 x247001 x247002 x248000 x248001 x248002)
def gimbalref31_Meet.j3 : Nat → Int → Int → Bool → Int → Int → Bool → Int → Int → Option (Bool × Int × Int)
 | 0, _, _, _, _, _, _, _, _ => none
 | k + 1, x5, x9, x247000, x247001, x247002, x248000, x248001, x248002 => (gimbalref31_size.f x247001).bind fun t267 => (if x5 = 0 then (none) else ((gimbalref31_size.f x248001).bind fun t268 => ((gimbalref31_size.f x247002).bind fun t269 => ((gimbalref31_size.f x247001).bind fun t270 => ((gimbalref31_class.f k (IntKind.u64.wrap ((IntKind.u64.wrap (Int.tdiv t267 x5)) * t268)) (IntKind.u64.wrap (t269 + (IntKind.u64.wrap (t270 * x9)))) false).bind fun bt271 => (some (bt271.1, bt271.2.1, bt271.2.2)))))))
end
def gimbalref31_Meet.f (k : Nat) (a0_0 : Bool) (a0_1 : Int) (a0_2 : Int) (a1_0 : Bool) (a1_1 : Int) (a1_2 : Int) : Option (Bool × Int × Int) := if a0_0 = true then (gimbalref31_Meet.j0 k true a0_0 a0_1 a0_2 a1_0 a1_1 a1_2) else (gimbalref31_Meet.j0 k a1_0 a0_0 a0_1 a0_2 a1_0 a1_1 a1_2)
def gimbalref31_Meet.T9 : Bool × List (List Nat × List Nat) := (true, [([], []), ([0], [0]), ([1], [1]), ([], []), ([3], [3]), ([4, 2], [4]), ([2, 5, 5], [2, 5]), ([6, 6, 0, 1, 2, 3, 4, 5, 6], [6])])
def gimbalref31_Meet.B9 : List Nat := [0, 1, 3, 0, 8, 31, 63, 127]
theorem gimbalref31_Meet.tab9 : rtab .any (opsOf Tryd.f30 9) = gimbalref31_Meet.T9 := by kernel_rfl
theorem gimbalref31_Meet.bits9 : waitsOk gimbalref31_Meet.T9.2 gimbalref31_Meet.B9 = true := by kernel_rfl
def gimbalref31_Meet.T20 : Bool × List (List Nat × List Nat) := (true, [([], []), ([0], [0]), ([1], [1]), ([], []), ([2, 3], [2, 3]), ([], []), ([5], [5]), ([6, 2], [6]), ([4, 7], [4, 7]), ([], []), ([9], [9]), ([10, 7], [10]), ([], []), ([12], [12]), ([13, 11], [13]), ([], []), ([14, 15], [14, 15]), ([11, 16], [11, 16]), ([8, 17, 14], [8, 17]), ([18, 18, 0, 1, 2, 3, 4, 5, 6, 7, 8, 9, 10, 11, 12, 13, 14, 15, 16, 17, 18], [18])])
def gimbalref31_Meet.B20 : List Nat := [0, 1, 3, 0, 15, 0, 32, 103, 255, 0, 512, 1767, 0, 4096, 16103, 0, 65255, 130791, 262143, 524287]
theorem gimbalref31_Meet.tab20 : rtab .any (opsOf Tryd.f30 20) = gimbalref31_Meet.T20 := by kernel_rfl
theorem gimbalref31_Meet.bits20 : waitsOk gimbalref31_Meet.T20.2 gimbalref31_Meet.B20 = true := by kernel_rfl
set_option maxHeartbeats 8000000 in
set_option maxRecDepth 100000 in
theorem gimbalref31_Meet.calls (k : Nat) (a0_0 : Bool) (a0_1 : Int) (a0_2 : Int) (a1_0 : Bool) (a1_1 : Int) (a1_2 : Int) (r1 : Bool) (r2 : Int) (r3 : Int) (w : World) (h : gimbalref31_Meet.f k a0_0 a0_1 a0_2 a1_0 a1_1 a1_2 = some (r1, r2, r3)) :
  Calls Tryd.prog 30 #[.agg #[.bool a0_0, .int .i64 a0_1, .int .i64 a0_2], .agg #[.bool a1_0, .int .i64 a1_1, .int .i64 a1_2]] w fun e w' => e = .returned (.agg #[.bool r1, .int .i64 r2, .int .i64 r3]) ∧ Below w.heap.size w w' := by
 have hu23 := Tryd.underlying23
 have HB := Aside0.mk (Below.refl w.heap.size w)
 have H : (if a0_0 = true then (gimbalref31_Meet.j0 k true a0_0 a0_1 a0_2 a1_0 a1_1 a1_2) else (gimbalref31_Meet.j0 k a1_0 a0_0 a0_1 a0_2 a1_0 a1_1 a1_2)) = some (r1, r2, r3) := h
 clear h
 have HC3 := Aside0.mk H
 clear H
 go_enter Tryd.func30, Tryd.ntmps30
 go_upto_region 1 with (first | ((with_reducible refine gate_dst (N := 2) rfl ?_); refine box_event ?hg (N := 2) ?hd (cs := #[.bool a0_0, .int .i64 a0_1, .int .i64 a0_2]) (t := 23) ?hr ?_; (case hd => rfl); (case hg => rfl); (case hr => first | (go_simp; done) | (go_simp; rfl)); intro gb246 hg w4 hbox hb; have n0_ := kW HB hb; have n1_ := Aside0.mk (hbox); have n2_ := Aside0.mk ((by rw [hg]; exact (below_size (bS HB)) : w.heap.size ≤ gb246)); have n3_ := Aside0.mk ((by rw [hg]; exact (below_size (bS HB)) : w.heap.size ≤ gb246)); clear HB; have HB := n0_; have BK246 := n1_; have GW246 := n2_; have GE246 := n3_; clear n0_ n1_ n2_ n3_; clear hb hbox hg) | ((with_reducible refine gate_dst (N := 3) rfl ?_); refine box_event ?hg (N := 3) ?hd (cs := #[.bool a1_0, .int .i64 a1_1, .int .i64 a1_2]) (t := 23) ?hr ?_; (case hd => rfl); (case hg => rfl); (case hr => first | (go_simp; done) | (go_simp; rfl)); intro gb247 hg w5 hbox hb; have n0_ := kB BK246 hb; have n1_ := kW HB hb; have n2_ := Aside0.mk (hbox); have n3_ := Aside0.mk ((by rw [hg]; exact (below_size (bS HB)) : w.heap.size ≤ gb247)); have n4_ := Aside0.mk ((by rw [hg]; exact (below_size (bS HB)) : w.heap.size ≤ gb247)); have n5_ := Aside0.mk ((by rw [hg]; exact Nat.ne_of_lt (blk_lt (bkS BK246)) : gb246 ≠ gb247)); have n6_ := Aside0.mk ((by rw [hg]; exact Nat.ne_of_gt (blk_lt (bkS BK246)) : gb247 ≠ gb246)); clear BK246; clear HB; have BK246 := n0_; have HB := n1_; have BK247 := n2_; have GW247 := n3_; have GE247 := n4_; have NB246_247 := n5_; have NB247_246 := n6_; clear n0_ n1_ n2_ n3_ n4_ n5_ n6_; clear hb hbox hg) | ((with_reducible refine gate_dst (N := 4) rfl ?_); refine box_event ?hg (N := 4) ?hd (cs := #[.bool false, .int .i64 0, .int .i64 0]) (t := 23) ?hr ?_; (case hd => rfl); (case hg => rfl); (case hr => first | (go_simp; done) | (go_simp; rfl)); intro gb248 hg w6 hbox hb; have n0_ := kB BK246 hb; have n1_ := kB BK247 hb; have n2_ := kW HB hb; have n3_ := Aside0.mk (hbox); have n4_ := Aside0.mk ((by rw [hg]; exact (below_size (bS HB)) : w.heap.size ≤ gb248)); have n5_ := Aside0.mk ((by rw [hg]; exact (below_size (bS HB)) : w.heap.size ≤ gb248)); have n6_ := Aside0.mk ((by rw [hg]; exact Nat.ne_of_lt (blk_lt (bkS BK246)) : gb246 ≠ gb248)); have n7_ := Aside0.mk ((by rw [hg]; exact Nat.ne_of_gt (blk_lt (bkS BK246)) : gb248 ≠ gb246)); have n8_ := Aside0.mk ((by rw [hg]; exact Nat.ne_of_lt (blk_lt (bkS BK247)) : gb247 ≠ gb248)); have n9_ := Aside0.mk ((by rw [hg]; exact Nat.ne_of_gt (blk_lt (bkS BK247)) : gb248 ≠ gb247)); clear BK246; clear BK247; clear HB; have BK246 := n0_; have BK247 := n1_; have HB := n2_; have BK248 := n3_; have GW248 := n4_; have GE248 := n5_; have NB246_248 := n6_; have NB248_246 := n7_; have NB247_248 := n8_; have NB248_247 := n9_; clear n0_ n1_ n2_ n3_ n4_ n5_ n6_ n7_ n8_ n9_; clear hb hbox hg))
 (try simp only [Act.put, lA, lB, lC])
 go_cut [15] (fun v15 wc => ∃ (kq : Nat) (x15_2 : Bool), v15 = .bool x15_2 ∧ Aside0 (gimbalref31_Meet.j0 kq x15_2 a0_0 a0_1 a0_2 a1_0 a1_1 a1_2 = some (r1, r2, r3)) ∧ Aside0 (kq ≤ k) ∧ Aside0 (wc.heap[gb246]? = some (.cells #[.bool a0_0, .int .i64 a0_1, .int .i64 a0_2] 23 (0, 0))) ∧ Aside0 (wc.heap[gb247]? = some (.cells #[.bool a1_0, .int .i64 a1_1, .int .i64 a1_2] 23 (0, 0))) ∧ Aside0 (wc.heap[gb248]? = some (.cells #[.bool false, .int .i64 0, .int .i64 0] 23 (0, 0))) ∧ Aside0 (Below w.heap.size w wc))
 case first =>
  have H := HC3.out
  clear HC3
  by_cases c7 : a0_0 = true
  ·
   subst c7
   have H1 : (gimbalref31_Meet.j0 k true true a0_1 a0_2 a1_0 a1_1 a1_2) = some (r1, r2, r3) := by rw [if_pos rfl] at H; exact H
   clear H
   have H := H1
   clear H1
   have H' := Aside0.mk H
   clear H
   have hnb8 := NB246_247.out
   have hnc8 := NB247_246.out
   have hnb9 := NB246_248.out
   have hnc9 := NB248_246.out
   have hcz10_0 := cz0 BK246
   have hcz10_1 := cz1 BK246
   have hcz10_2 := cz2 BK246
   have hfz10_0 := fz BK246 0
   have hfz10_1 := fz BK246 1
   have hfz10_2 := fz BK246 2
   go_wp2
   go_meet
   case rel => exact ⟨_, (true), (by first | rfl | (simp; done) | (simp [*]; done)), H', ⟨by first | omega | exact Nat.le_refl _⟩, ⟨bkS BK246⟩, ⟨bkS BK247⟩, ⟨bkS BK248⟩, ⟨bS HB⟩⟩
  ·
   replace c7 := Bool.eq_false_iff.mpr c7
   subst c7
   have H1 : (gimbalref31_Meet.j0 k a1_0 false a0_1 a0_2 a1_0 a1_1 a1_2) = some (r1, r2, r3) := by rw [if_neg (show ¬ (false = true) by decide)] at H; exact H
   clear H
   have H := H1
   clear H1
   have H' := Aside0.mk H
   clear H
   have hnb11 := NB246_247.out
   have hnc11 := NB247_246.out
   have hnb12 := NB246_248.out
   have hnc12 := NB248_246.out
   have hcz13_0 := cz0 BK246
   have hcz13_1 := cz1 BK246
   have hcz13_2 := cz2 BK246
   have hfz13_0 := fz BK246 0
   have hfz13_1 := fz BK246 1
   have hfz13_2 := fz BK246 2
   have hnb14 := NB247_248.out
   have hnc14 := NB248_247.out
   have hcz15_0 := cz0 BK247
   have hcz15_1 := cz1 BK247
   have hcz15_2 := cz2 BK247
   have hfz15_0 := fz BK247 0
   have hfz15_1 := fz BK247 1
   have hfz15_2 := fz BK247 2
   go_wp2
   go_meet
   case rel => exact ⟨_, (a1_0), (by first | rfl | (simp; done) | (simp [*]; done)), H', ⟨by first | omega | exact Nat.le_refl _⟩, ⟨bkS BK246⟩, ⟨bkS BK247⟩, ⟨bkS BK248⟩, ⟨bS HB⟩⟩
 case rest =>
  clear HC3
  try clear c1
  try clear p2
  try clear c3
  try clear c7
  try clear c8
  try clear c9
  try clear c11
  try clear c12
  try clear c14
  try clear hcz10_0
  try clear hcz10_1
  try clear hcz10_2
  try clear hcz13_0
  try clear hcz13_1
  try clear hcz13_2
  try clear hcz15_0
  try clear hcz15_1
  try clear hcz15_2
  try clear hfz10_0
  try clear hfz10_1
  try clear hfz10_2
  try clear hfz13_0
  try clear hfz13_1
  try clear hfz13_2
  try clear hfz15_0
  try clear hfz15_1
  try clear hfz15_2
  obtain ⟨kq, x15_2, rfl, HA, HJ2, BK246, BK247, BK248, HB⟩ := hcut
  cases kq with
  | zero => exact absurd HA.out (by simp [gimbalref31_Meet.j0])
  | succ kj2 =>
   have H := HA.out
   clear HA
   simp only [gimbalref31_Meet.j0] at H
   by_cases c16 : x15_2 = true
   ·
    subst c16
    have H1 : ((gimbalref31_None.f).bind fun bt249 => (some (bt249.1, bt249.2.1, bt249.2.2))) = some (r1, r2, r3) := by rw [if_pos rfl] at H; exact H
    clear H
    have H := H1
    clear H1
    replace H := Option.bind_eq_some_iff.mp H
    obtain ⟨⟨t249, t250, t251⟩, A170, H⟩ := H
    replace H : (some (t249, t250, t251)) = some (r1, r2, r3) := H
    have A17 := Aside0.mk A170
    clear A170
    simp only [Option.some.injEq, Prod.mk.injEq] at H
    obtain ⟨rfl, rfl, rfl⟩ := H
    go_wp2_with (first | ((with_reducible refine gate_callee (f := 69) rfl ?_); refine goesL_ (some 16) rfl rfl Tryd.func69 (by kernel_rfl) rfl #[] rfl mS ?_; (with_reducible refine (gimbalref31_None.calls  t249 t250 t251 _ A17.out).mono ?_); rintro e w18 ⟨rfl, hb⟩; refine ⟨_, rfl, ?_⟩; replace BK246 := kB BK246 hb; replace BK247 := kB BK247 hb; replace BK248 := kB BK248 hb; replace HB := kW HB hb; (try clear hb); (try clear hb2); (try clear hk); (try clear hi); have hnb19 := NB248_246.out; have hnc19 := NB246_248.out; have hnb20 := NB248_247.out; have hnc20 := NB247_248.out; have hcz21_0 := cz0 BK248; have hcz21_1 := cz1 BK248; have hcz21_2 := cz2 BK248; have hfz21_0 := fz BK248 0; have hfz21_1 := fz BK248 1; have hfz21_2 := fz BK248 2))
    refine bodyPost_ret (results_cell_row rfl _ _ gb248 23 #[.bool t249, .int .i64 t250, .int .i64 t251] (0, 0) _ rfl (by (with_reducible repeat (first | refine b1 ?_ _ | refine b2 ?_ | refine b3 ?_ _)); refine blk_put (cs := #[.bool t249, .int .i64 t250, .int .i64 0]) ?_ 2 _ rfl; (with_reducible repeat (first | refine b1 ?_ _ | refine b2 ?_ | refine b3 ?_ _)); refine blk_put (cs := #[.bool t249, .int .i64 0, .int .i64 0]) ?_ 1 _ rfl; (with_reducible repeat (first | refine b1 ?_ _ | refine b2 ?_ | refine b3 ?_ _)); refine blk_put (cs := #[.bool false, .int .i64 0, .int .i64 0]) ?_ 0 _ rfl; (with_reducible repeat (first | refine b1 ?_ _ | refine b2 ?_ | refine b3 ?_ _)); exact BK248.out) Tryd.underlying23 rfl (by kernel_rfl)) rfl ?_
    exact ⟨eS, bS HB⟩
   ·
    replace c16 := Bool.eq_false_iff.mpr c16
    subst c16
    have H1 : (if a0_1 < a1_1 then (gimbalref31_Meet.j1 kj2 a1_0 a1_1 a1_2 a0_0 a0_1 a0_2) else (gimbalref31_Meet.j1 kj2 a0_0 a0_1 a0_2 a1_0 a1_1 a1_2)) = some (r1, r2, r3) := by rw [if_neg (show ¬ (false = true) by decide)] at H; exact H
    clear H
    have H := H1
    clear H1
    have HC22 := Aside0.mk H
    clear H
    have hnb23 := NB246_247.out
    have hnc23 := NB247_246.out
    have hnb24 := NB246_248.out
    have hnc24 := NB248_246.out
    have hcz25_0 : wc.cell? ⟨gb246, 0, none⟩ = some (.bool a0_0) := cz0 BK246
    have hcz25_1 : wc.cell? ⟨gb246, 1, none⟩ = some (.int .i64 a0_1) := cz1 BK246
    have hcz25_2 : wc.cell? ⟨gb246, 2, none⟩ = some (.int .i64 a0_2) := cz2 BK246
    have hfz25_0 := fz BK246 0
    have hfz25_1 := fz BK246 1
    have hfz25_2 := fz BK246 2
    have hnb26 := NB247_248.out
    have hnc26 := NB248_247.out
    have hcz27_0 : wc.cell? ⟨gb247, 0, none⟩ = some (.bool a1_0) := cz0 BK247
    have hcz27_1 : wc.cell? ⟨gb247, 1, none⟩ = some (.int .i64 a1_1) := cz1 BK247
    have hcz27_2 : wc.cell? ⟨gb247, 2, none⟩ = some (.int .i64 a1_2) := cz2 BK247
    have hfz27_0 := fz BK247 0
    have hfz27_1 := fz BK247 1
    have hfz27_2 := fz BK247 2
    go_upto_if 21 with (fail)
    go_cut [] (fun wc => ∃ (kq : Nat) (x247000_21 : Bool) (x247001_21 : Int) (x247002_21 : Int) (x248000_21 : Bool) (x248001_21 : Int) (x248002_21 : Int), Aside0 (gimbalref31_Meet.j1 kq x247000_21 x247001_21 x247002_21 x248000_21 x248001_21 x248002_21 = some (r1, r2, r3)) ∧ Aside0 (kq ≤ kj2) ∧ Aside0 (wc.heap[gb246]? = some (.cells #[.bool x247000_21, .int .i64 x247001_21, .int .i64 x247002_21] 23 (0, 0))) ∧ Aside0 (wc.heap[gb247]? = some (.cells #[.bool x248000_21, .int .i64 x248001_21, .int .i64 x248002_21] 23 (0, 0))) ∧ Aside0 (wc.heap[gb248]? = some (.cells #[.bool false, .int .i64 0, .int .i64 0] 23 (0, 0))) ∧ Aside0 (Below w.heap.size w wc))
    case first =>
     have H := HC22.out
     clear HC22
     by_cases c28 : a0_1 < a1_1
     ·
      rw [if_pos c28] at H
      have c28b0 : decide (a0_1 < a1_1) = true := decide_eq_true c28
      clear c28
      (first | rw [c28b0] | (simp only [i64_w, i32_w]; rw [c28b0]) | skip)
      have H' := Aside0.mk H
      clear H
      have hnb29 := NB247_246.out
      have hnc29 := NB246_247.out
      have hnb30 := NB247_248.out
      have hnc30 := NB248_247.out
      have hcz31_0 : wc.cell? ⟨gb247, 0, none⟩ = some (.bool a1_0) := cz0 BK247
      have hcz31_1 : wc.cell? ⟨gb247, 1, none⟩ = some (.int .i64 a1_1) := cz1 BK247
      have hcz31_2 : wc.cell? ⟨gb247, 2, none⟩ = some (.int .i64 a1_2) := cz2 BK247
      have hfz31_0 := fz BK247 0
      have hfz31_1 := fz BK247 1
      have hfz31_2 := fz BK247 2
      have hnb32 := NB246_248.out
      have hnc32 := NB248_246.out
      have hcz33_0 : wc.cell? ⟨gb246, 0, none⟩ = some (.bool a0_0) := cz0 BK246
      have hcz33_1 : wc.cell? ⟨gb246, 1, none⟩ = some (.int .i64 a0_1) := cz1 BK246
      have hcz33_2 : wc.cell? ⟨gb246, 2, none⟩ = some (.int .i64 a0_2) := cz2 BK246
      have hfz33_0 := fz BK246 0
      have hfz33_1 := fz BK246 1
      have hfz33_2 := fz BK246 2
      go_wp2
      go_meet
      case rel => exact ⟨_, (a1_0), (a1_1), (a1_2), (a0_0), (a0_1), (a0_2), H', ⟨by have := HJ2.out; first | omega | exact Nat.le_refl _⟩, ⟨by (with_reducible repeat (first | refine b1 ?_ _ | refine b2 ?_ | refine b3 ?_ _)); refine blk_far ?_ NB246_247.out _; (with_reducible repeat (first | refine b1 ?_ _ | refine b2 ?_ | refine b3 ?_ _)); refine blk_far ?_ NB246_247.out _; (with_reducible repeat (first | refine b1 ?_ _ | refine b2 ?_ | refine b3 ?_ _)); refine blk_far ?_ NB246_247.out _; (with_reducible repeat (first | refine b1 ?_ _ | refine b2 ?_ | refine b3 ?_ _)); refine blk_put (cs := #[.bool a1_0, .int .i64 a1_1, .int .i64 a0_2]) ?_ 2 _ rfl; (with_reducible repeat (first | refine b1 ?_ _ | refine b2 ?_ | refine b3 ?_ _)); refine blk_put (cs := #[.bool a1_0, .int .i64 a0_1, .int .i64 a0_2]) ?_ 1 _ rfl; (with_reducible repeat (first | refine b1 ?_ _ | refine b2 ?_ | refine b3 ?_ _)); refine blk_put (cs := #[.bool a0_0, .int .i64 a0_1, .int .i64 a0_2]) ?_ 0 _ rfl; (with_reducible repeat (first | refine b1 ?_ _ | refine b2 ?_ | refine b3 ?_ _)); exact BK246.out⟩, ⟨by (with_reducible repeat (first | refine b1 ?_ _ | refine b2 ?_ | refine b3 ?_ _)); refine blk_put (cs := #[.bool a0_0, .int .i64 a0_1, .int .i64 a1_2]) ?_ 2 _ rfl; (with_reducible repeat (first | refine b1 ?_ _ | refine b2 ?_ | refine b3 ?_ _)); refine blk_put (cs := #[.bool a0_0, .int .i64 a1_1, .int .i64 a1_2]) ?_ 1 _ rfl; (with_reducible repeat (first | refine b1 ?_ _ | refine b2 ?_ | refine b3 ?_ _)); refine blk_put (cs := #[.bool a1_0, .int .i64 a1_1, .int .i64 a1_2]) ?_ 0 _ rfl; (with_reducible repeat (first | refine b1 ?_ _ | refine b2 ?_ | refine b3 ?_ _)); refine blk_far ?_ NB247_246.out _; (with_reducible repeat (first | refine b1 ?_ _ | refine b2 ?_ | refine b3 ?_ _)); refine blk_far ?_ NB247_246.out _; (with_reducible repeat (first | refine b1 ?_ _ | refine b2 ?_ | refine b3 ?_ _)); refine blk_far ?_ NB247_246.out _; (with_reducible repeat (first | refine b1 ?_ _ | refine b2 ?_ | refine b3 ?_ _)); exact BK247.out⟩, ⟨bkS BK248⟩, ⟨bS HB⟩⟩
     ·
      rw [if_neg c28] at H
      have c28b0 : decide (a0_1 < a1_1) = false := decide_eq_false c28
      clear c28
      (first | rw [c28b0] | (simp only [i64_w, i32_w]; rw [c28b0]) | skip)
      have H' := Aside0.mk H
      clear H
      go_wp2
      go_meet
      case rel => exact ⟨_, (a0_0), (a0_1), (a0_2), (a1_0), (a1_1), (a1_2), H', ⟨by have := HJ2.out; first | omega | exact Nat.le_refl _⟩, ⟨bkS BK246⟩, ⟨bkS BK247⟩, ⟨bkS BK248⟩, ⟨bS HB⟩⟩
    case rest =>
     clear HC22
     try clear c1
     try clear c2
     try clear p2
     try clear c3
     try clear c6
     try clear c7
     try clear c8
     try clear c9
     try clear c11
     try clear c12
     try clear c14
     try clear c16
     try clear c19
     try clear c20
     try clear c23
     try clear c24
     try clear c26
     try clear c28
     try clear c28b0
     try clear c29
     try clear c30
     try clear c32
     try clear hcz10_0
     try clear hcz10_1
     try clear hcz10_2
     try clear hcz13_0
     try clear hcz13_1
     try clear hcz13_2
     try clear hcz15_0
     try clear hcz15_1
     try clear hcz15_2
     try clear hcz21_0
     try clear hcz21_1
     try clear hcz21_2
     try clear hcz25_0
     try clear hcz25_1
     try clear hcz25_2
     try clear hcz27_0
     try clear hcz27_1
     try clear hcz27_2
     try clear hcz31_0
     try clear hcz31_1
     try clear hcz31_2
     try clear hcz33_0
     try clear hcz33_1
     try clear hcz33_2
     try clear hfz10_0
     try clear hfz10_1
     try clear hfz10_2
     try clear hfz13_0
     try clear hfz13_1
     try clear hfz13_2
     try clear hfz15_0
     try clear hfz15_1
     try clear hfz15_2
     try clear hfz21_0
     try clear hfz21_1
     try clear hfz21_2
     try clear hfz25_0
     try clear hfz25_1
     try clear hfz25_2
     try clear hfz27_0
     try clear hfz27_1
     try clear hfz27_2
     try clear hfz31_0
     try clear hfz31_1
     try clear hfz31_2
     try clear hfz33_0
     try clear hfz33_1
     try clear hfz33_2
     try clear p2
     obtain ⟨kq, x247000_21, x247001_21, x247002_21, x248000_21, x248001_21, x248002_21, HA, HJ21, BK246, BK247, BK248, HB⟩ := hcut
     cases kq with
     | zero => exact absurd HA.out (by simp [gimbalref31_Meet.j1])
     | succ kj21 =>
      have H := HA.out
      clear HA
      simp only [gimbalref31_Meet.j1] at H
      by_cases c34 : x248001_21 = 0
      ·
       rw [if_pos c34] at H
       have c34b0 : (x248001_21 == 0) = true := beq_iff_eq.mpr c34
       have c34b1 : (x248001_21 != 0) = false := bne_eq_false_iff_eq.mpr c34
       clear c34
       replace H := Option.bind_eq_some_iff.mp H
       obtain ⟨t252, A350, H⟩ := H
       replace H : (if t252 = true then (some (x248000_21, x248001_21, x248002_21)) else ((gimbalref31_None.f).bind fun bt253 => (some (bt253.1, bt253.2.1, bt253.2.2)))) = some (r1, r2, r3) := H
       have A35 := Aside0.mk A350
       clear A350
       by_cases c36 : t252 = true
       ·
        subst c36
        have H1 : (some (x248000_21, x248001_21, x248002_21)) = some (r1, r2, r3) := by rw [if_pos rfl] at H; exact H
        clear H
        have H := H1
        clear H1
        simp only [Option.some.injEq, Prod.mk.injEq] at H
        obtain ⟨rfl, rfl, rfl⟩ := H
        have hnb37 := NB247_246.out
        have hnc37 := NB246_247.out
        have hnb38 := NB247_248.out
        have hnc38 := NB248_247.out
        have hcz39_0 : wc.cell? ⟨gb247, 0, none⟩ = some (.bool x248000_21) := cz0 BK247
        have hcz39_1 : wc.cell? ⟨gb247, 1, none⟩ = some (.int .i64 x248001_21) := cz1 BK247
        have hcz39_2 : wc.cell? ⟨gb247, 2, none⟩ = some (.int .i64 x248002_21) := cz2 BK247
        have hfz39_0 := fz BK247 0
        have hfz39_1 := fz BK247 1
        have hfz39_2 := fz BK247 2
        have hnb40 := NB246_248.out
        have hnc40 := NB248_246.out
        have hcz41_0 : wc.cell? ⟨gb246, 0, none⟩ = some (.bool x247000_21) := cz0 BK246
        have hcz41_1 : wc.cell? ⟨gb246, 1, none⟩ = some (.int .i64 x247001_21) := cz1 BK246
        have hcz41_2 : wc.cell? ⟨gb246, 2, none⟩ = some (.int .i64 x247002_21) := cz2 BK246
        have hfz41_0 := fz BK246 0
        have hfz41_1 := fz BK246 1
        have hfz41_2 := fz BK246 2
        go_wp2_with (first | ((with_reducible refine gate_callee (f := 15) rfl ?_); refine goesL_ (some 30) rfl rfl Tryd.func15 (by kernel_rfl) rfl #[.agg #[.bool x247000_21, .int .i64 x247001_21, .int .i64 x247002_21], .int .i64 x248002_21] rfl mS ?_; (with_reducible refine (gimbalref31_Has.calls kj21 x247000_21 x247001_21 x247002_21 x248002_21 true _ A35.out).mono ?_); rintro e w42 ⟨rfl, hb⟩; refine ⟨_, rfl, ?_⟩; replace BK246 := kB BK246 hb; replace BK247 := kB BK247 hb; replace BK248 := kB BK248 hb; replace HB := kW HB hb; (try clear hb); (try clear hb2); (try clear hk); (try clear hi); have hcz43_0 := cz0 BK247; have hcz43_1 := cz1 BK247; have hcz43_2 := cz2 BK247; have hfz43_0 := fz BK247 0; have hfz43_1 := fz BK247 1; have hfz43_2 := fz BK247 2; have hcz44_0 := cz0 BK248; have hcz44_1 := cz1 BK248; have hcz44_2 := cz2 BK248; have hfz44_0 := fz BK248 0; have hfz44_1 := fz BK248 1; have hfz44_2 := fz BK248 2))
        refine bodyPost_ret (results_cell_row rfl _ _ gb248 23 #[.bool x248000_21, .int .i64 x248001_21, .int .i64 x248002_21] (0, 0) _ rfl (by (with_reducible repeat (first | refine b1 ?_ _ | refine b2 ?_ | refine b3 ?_ _)); refine blk_put (cs := #[.bool x248000_21, .int .i64 x248001_21, .int .i64 0]) ?_ 2 _ rfl; (with_reducible repeat (first | refine b1 ?_ _ | refine b2 ?_ | refine b3 ?_ _)); refine blk_put (cs := #[.bool x248000_21, .int .i64 0, .int .i64 0]) ?_ 1 _ rfl; (with_reducible repeat (first | refine b1 ?_ _ | refine b2 ?_ | refine b3 ?_ _)); refine blk_put (cs := #[.bool false, .int .i64 0, .int .i64 0]) ?_ 0 _ rfl; (with_reducible repeat (first | refine b1 ?_ _ | refine b2 ?_ | refine b3 ?_ _)); exact BK248.out) Tryd.underlying23 rfl (by kernel_rfl)) rfl ?_
        exact ⟨eS, bS HB⟩
       ·
        replace c36 := Bool.eq_false_iff.mpr c36
        subst c36
        have H1 : ((gimbalref31_None.f).bind fun bt253 => (some (bt253.1, bt253.2.1, bt253.2.2))) = some (r1, r2, r3) := by rw [if_neg (show ¬ (false = true) by decide)] at H; exact H
        clear H
        have H := H1
        clear H1
        replace H := Option.bind_eq_some_iff.mp H
        obtain ⟨⟨t253, t254, t255⟩, A450, H⟩ := H
        replace H : (some (t253, t254, t255)) = some (r1, r2, r3) := H
        have A45 := Aside0.mk A450
        clear A450
        simp only [Option.some.injEq, Prod.mk.injEq] at H
        obtain ⟨rfl, rfl, rfl⟩ := H
        have hnb46 := NB247_246.out
        have hnc46 := NB246_247.out
        have hnb47 := NB247_248.out
        have hnc47 := NB248_247.out
        have hcz48_0 : wc.cell? ⟨gb247, 0, none⟩ = some (.bool x248000_21) := cz0 BK247
        have hcz48_1 : wc.cell? ⟨gb247, 1, none⟩ = some (.int .i64 x248001_21) := cz1 BK247
        have hcz48_2 : wc.cell? ⟨gb247, 2, none⟩ = some (.int .i64 x248002_21) := cz2 BK247
        have hfz48_0 := fz BK247 0
        have hfz48_1 := fz BK247 1
        have hfz48_2 := fz BK247 2
        have hnb49 := NB246_248.out
        have hnc49 := NB248_246.out
        have hcz50_0 : wc.cell? ⟨gb246, 0, none⟩ = some (.bool x247000_21) := cz0 BK246
        have hcz50_1 : wc.cell? ⟨gb246, 1, none⟩ = some (.int .i64 x247001_21) := cz1 BK246
        have hcz50_2 : wc.cell? ⟨gb246, 2, none⟩ = some (.int .i64 x247002_21) := cz2 BK246
        have hfz50_0 := fz BK246 0
        have hfz50_1 := fz BK246 1
        have hfz50_2 := fz BK246 2
        go_wp2_with (first | ((with_reducible refine gate_callee (f := 15) rfl ?_); refine goesL_ (some 30) rfl rfl Tryd.func15 (by kernel_rfl) rfl #[.agg #[.bool x247000_21, .int .i64 x247001_21, .int .i64 x247002_21], .int .i64 x248002_21] rfl mS ?_; (with_reducible refine (gimbalref31_Has.calls kj21 x247000_21 x247001_21 x247002_21 x248002_21 false _ A35.out).mono ?_); rintro e w51 ⟨rfl, hb⟩; refine ⟨_, rfl, ?_⟩; replace BK246 := kB BK246 hb; replace BK247 := kB BK247 hb; replace BK248 := kB BK248 hb; replace HB := kW HB hb; (try clear hb); (try clear hb2); (try clear hk); (try clear hi)) | ((with_reducible refine gate_callee (f := 69) rfl ?_); refine goesL_ (some 32) rfl rfl Tryd.func69 (by kernel_rfl) rfl #[] rfl mS ?_; (with_reducible refine (gimbalref31_None.calls  t253 t254 t255 _ A45.out).mono ?_); rintro e w52 ⟨rfl, hb⟩; refine ⟨_, rfl, ?_⟩; replace BK246 := kB BK246 hb; replace BK247 := kB BK247 hb; replace BK248 := kB BK248 hb; replace HB := kW HB hb; (try clear hb); (try clear hb2); (try clear hk); (try clear hi); have hcz53_0 := cz0 BK248; have hcz53_1 := cz1 BK248; have hcz53_2 := cz2 BK248; have hfz53_0 := fz BK248 0; have hfz53_1 := fz BK248 1; have hfz53_2 := fz BK248 2))
        refine bodyPost_ret (results_cell_row rfl _ _ gb248 23 #[.bool t253, .int .i64 t254, .int .i64 t255] (0, 0) _ rfl (by (with_reducible repeat (first | refine b1 ?_ _ | refine b2 ?_ | refine b3 ?_ _)); refine blk_put (cs := #[.bool t253, .int .i64 t254, .int .i64 0]) ?_ 2 _ rfl; (with_reducible repeat (first | refine b1 ?_ _ | refine b2 ?_ | refine b3 ?_ _)); refine blk_put (cs := #[.bool t253, .int .i64 0, .int .i64 0]) ?_ 1 _ rfl; (with_reducible repeat (first | refine b1 ?_ _ | refine b2 ?_ | refine b3 ?_ _)); refine blk_put (cs := #[.bool false, .int .i64 0, .int .i64 0]) ?_ 0 _ rfl; (with_reducible repeat (first | refine b1 ?_ _ | refine b2 ?_ | refine b3 ?_ _)); exact BK248.out) Tryd.underlying23 rfl (by kernel_rfl)) rfl ?_
        exact ⟨eS, bS HB⟩
      ·
       rw [if_neg c34] at H
       have c34b0 : (x248001_21 == 0) = false := beq_eq_false_iff_ne.mpr c34
       have c34b1 : (x248001_21 != 0) = true := bne_iff_ne.mpr c34
       replace H := Option.bind_eq_some_iff.mp H
       obtain ⟨t256, A540, H⟩ := H
       replace H : ((gimbalref31_size.f x248001_21).bind fun t257 => ((gimbalref31_gcd.f kj21 t256 t257).bind fun t258 => ((gimbalref31_size.f (wrap64 (x247002_21 - x248002_21))).bind fun t259 => (if t258 = 0 then (none) else (if (Int.tmod t259 t258) = 0 then ((gimbalref31_size.f x248001_21).bind fun t263 => ((gimbalref31_size.f x247001_21).bind fun t264 => (if (IntKind.u64.wrap (Int.tdiv t263 t258)) = 0 then (none) else (if (wrap64 (t258)) = 0 then (none) else (if (wrap64 (IntKind.u64.wrap (Int.tdiv t263 t258))) = 0 then (none) else (if (Int.tmod (wrap64 (Int.tdiv (wrap64 (x248002_21 - x247002_21)) (wrap64 (t258)))) (wrap64 (IntKind.u64.wrap (Int.tdiv t263 t258)))) < 0 then (gimbalref31_Meet.j2 kj21 t258 (IntKind.u64.wrap (Int.tdiv t263 t258)) (Int.tmod (IntKind.u64.wrap (Int.tdiv t264 t258)) (IntKind.u64.wrap (Int.tdiv t263 t258))) (wrap64 ((Int.tmod (wrap64 (Int.tdiv (wrap64 (x248002_21 - x247002_21)) (wrap64 (t258)))) (wrap64 (IntKind.u64.wrap (Int.tdiv t263 t258)))) + (wrap64 (IntKind.u64.wrap (Int.tdiv t263 t258))))) x247000_21 x247001_21 x247002_21 x248000_21 x248001_21 x248002_21) else (gimbalref31_Meet.j2 kj21 t258 (IntKind.u64.wrap (Int.tdiv t263 t258)) (Int.tmod (IntKind.u64.wrap (Int.tdiv t264 t258)) (IntKind.u64.wrap (Int.tdiv t263 t258))) (Int.tmod (wrap64 (Int.tdiv (wrap64 (x248002_21 - x247002_21)) (wrap64 (t258)))) (wrap64 (IntKind.u64.wrap (Int.tdiv t263 t258)))) x247000_21 x247001_21 x247002_21 x248000_21 x248001_21 x248002_21))))))) else ((gimbalref31_None.f).bind fun bt260 => (some (bt260.1, bt260.2.1, bt260.2.2)))))))) = some (r1, r2, r3) := H
       have A54 := Aside0.mk A540
       clear A540
       replace H := Option.bind_eq_some_iff.mp H
       obtain ⟨t257, A550, H⟩ := H
       replace H : ((gimbalref31_gcd.f kj21 t256 t257).bind fun t258 => ((gimbalref31_size.f (wrap64 (x247002_21 - x248002_21))).bind fun t259 => (if t258 = 0 then (none) else (if (Int.tmod t259 t258) = 0 then ((gimbalref31_size.f x248001_21).bind fun t263 => ((gimbalref31_size.f x247001_21).bind fun t264 => (if (IntKind.u64.wrap (Int.tdiv t263 t258)) = 0 then (none) else (if (wrap64 (t258)) = 0 then (none) else (if (wrap64 (IntKind.u64.wrap (Int.tdiv t263 t258))) = 0 then (none) else (if (Int.tmod (wrap64 (Int.tdiv (wrap64 (x248002_21 - x247002_21)) (wrap64 (t258)))) (wrap64 (IntKind.u64.wrap (Int.tdiv t263 t258)))) < 0 then (gimbalref31_Meet.j2 kj21 t258 (IntKind.u64.wrap (Int.tdiv t263 t258)) (Int.tmod (IntKind.u64.wrap (Int.tdiv t264 t258)) (IntKind.u64.wrap (Int.tdiv t263 t258))) (wrap64 ((Int.tmod (wrap64 (Int.tdiv (wrap64 (x248002_21 - x247002_21)) (wrap64 (t258)))) (wrap64 (IntKind.u64.wrap (Int.tdiv t263 t258)))) + (wrap64 (IntKind.u64.wrap (Int.tdiv t263 t258))))) x247000_21 x247001_21 x247002_21 x248000_21 x248001_21 x248002_21) else (gimbalref31_Meet.j2 kj21 t258 (IntKind.u64.wrap (Int.tdiv t263 t258)) (Int.tmod (IntKind.u64.wrap (Int.tdiv t264 t258)) (IntKind.u64.wrap (Int.tdiv t263 t258))) (Int.tmod (wrap64 (Int.tdiv (wrap64 (x248002_21 - x247002_21)) (wrap64 (t258)))) (wrap64 (IntKind.u64.wrap (Int.tdiv t263 t258)))) x247000_21 x247001_21 x247002_21 x248000_21 x248001_21 x248002_21))))))) else ((gimbalref31_None.f).bind fun bt260 => (some (bt260.1, bt260.2.1, bt260.2.2))))))) = some (r1, r2, r3) := H
       have A55 := Aside0.mk A550
       clear A550
       replace H := Option.bind_eq_some_iff.mp H
       obtain ⟨t258, A560, H⟩ := H
       replace H : ((gimbalref31_size.f (wrap64 (x247002_21 - x248002_21))).bind fun t259 => (if t258 = 0 then (none) else (if (Int.tmod t259 t258) = 0 then ((gimbalref31_size.f x248001_21).bind fun t263 => ((gimbalref31_size.f x247001_21).bind fun t264 => (if (IntKind.u64.wrap (Int.tdiv t263 t258)) = 0 then (none) else (if (wrap64 (t258)) = 0 then (none) else (if (wrap64 (IntKind.u64.wrap (Int.tdiv t263 t258))) = 0 then (none) else (if (Int.tmod (wrap64 (Int.tdiv (wrap64 (x248002_21 - x247002_21)) (wrap64 (t258)))) (wrap64 (IntKind.u64.wrap (Int.tdiv t263 t258)))) < 0 then (gimbalref31_Meet.j2 kj21 t258 (IntKind.u64.wrap (Int.tdiv t263 t258)) (Int.tmod (IntKind.u64.wrap (Int.tdiv t264 t258)) (IntKind.u64.wrap (Int.tdiv t263 t258))) (wrap64 ((Int.tmod (wrap64 (Int.tdiv (wrap64 (x248002_21 - x247002_21)) (wrap64 (t258)))) (wrap64 (IntKind.u64.wrap (Int.tdiv t263 t258)))) + (wrap64 (IntKind.u64.wrap (Int.tdiv t263 t258))))) x247000_21 x247001_21 x247002_21 x248000_21 x248001_21 x248002_21) else (gimbalref31_Meet.j2 kj21 t258 (IntKind.u64.wrap (Int.tdiv t263 t258)) (Int.tmod (IntKind.u64.wrap (Int.tdiv t264 t258)) (IntKind.u64.wrap (Int.tdiv t263 t258))) (Int.tmod (wrap64 (Int.tdiv (wrap64 (x248002_21 - x247002_21)) (wrap64 (t258)))) (wrap64 (IntKind.u64.wrap (Int.tdiv t263 t258)))) x247000_21 x247001_21 x247002_21 x248000_21 x248001_21 x248002_21))))))) else ((gimbalref31_None.f).bind fun bt260 => (some (bt260.1, bt260.2.1, bt260.2.2)))))) = some (r1, r2, r3) := H
       have A56 := Aside0.mk A560
       clear A560
       replace H := Option.bind_eq_some_iff.mp H
       obtain ⟨t259, A570, H⟩ := H
       replace H : (if t258 = 0 then (none) else (if (Int.tmod t259 t258) = 0 then ((gimbalref31_size.f x248001_21).bind fun t263 => ((gimbalref31_size.f x247001_21).bind fun t264 => (if (IntKind.u64.wrap (Int.tdiv t263 t258)) = 0 then (none) else (if (wrap64 (t258)) = 0 then (none) else (if (wrap64 (IntKind.u64.wrap (Int.tdiv t263 t258))) = 0 then (none) else (if (Int.tmod (wrap64 (Int.tdiv (wrap64 (x248002_21 - x247002_21)) (wrap64 (t258)))) (wrap64 (IntKind.u64.wrap (Int.tdiv t263 t258)))) < 0 then (gimbalref31_Meet.j2 kj21 t258 (IntKind.u64.wrap (Int.tdiv t263 t258)) (Int.tmod (IntKind.u64.wrap (Int.tdiv t264 t258)) (IntKind.u64.wrap (Int.tdiv t263 t258))) (wrap64 ((Int.tmod (wrap64 (Int.tdiv (wrap64 (x248002_21 - x247002_21)) (wrap64 (t258)))) (wrap64 (IntKind.u64.wrap (Int.tdiv t263 t258)))) + (wrap64 (IntKind.u64.wrap (Int.tdiv t263 t258))))) x247000_21 x247001_21 x247002_21 x248000_21 x248001_21 x248002_21) else (gimbalref31_Meet.j2 kj21 t258 (IntKind.u64.wrap (Int.tdiv t263 t258)) (Int.tmod (IntKind.u64.wrap (Int.tdiv t264 t258)) (IntKind.u64.wrap (Int.tdiv t263 t258))) (Int.tmod (wrap64 (Int.tdiv (wrap64 (x248002_21 - x247002_21)) (wrap64 (t258)))) (wrap64 (IntKind.u64.wrap (Int.tdiv t263 t258)))) x247000_21 x247001_21 x247002_21 x248000_21 x248001_21 x248002_21))))))) else ((gimbalref31_None.f).bind fun bt260 => (some (bt260.1, bt260.2.1, bt260.2.2))))) = some (r1, r2, r3) := H
       have A57 := Aside0.mk A570
       clear A570
       by_cases c58 : t258 = 0
       ·
        rw [if_pos c58] at H
        exact absurd H (by simp)
       ·
        rw [if_neg c58] at H
        have c58b0 : (t258 == 0) = false := beq_eq_false_iff_ne.mpr c58
        have c58b1 : (t258 != 0) = true := bne_iff_ne.mpr c58
        by_cases c59 : (Int.tmod t259 t258) = 0
        ·
         rw [if_pos c59] at H
         have c59b0 : ((Int.tmod t259 t258) == 0) = true := beq_iff_eq.mpr c59
         have c59b1 : ((Int.tmod t259 t258) != 0) = false := bne_eq_false_iff_eq.mpr c59
         clear c59
         replace H := Option.bind_eq_some_iff.mp H
         obtain ⟨t263, A600, H⟩ := H
         replace H : ((gimbalref31_size.f x247001_21).bind fun t264 => (if (IntKind.u64.wrap (Int.tdiv t263 t258)) = 0 then (none) else (if (wrap64 (t258)) = 0 then (none) else (if (wrap64 (IntKind.u64.wrap (Int.tdiv t263 t258))) = 0 then (none) else (if (Int.tmod (wrap64 (Int.tdiv (wrap64 (x248002_21 - x247002_21)) (wrap64 (t258)))) (wrap64 (IntKind.u64.wrap (Int.tdiv t263 t258)))) < 0 then (gimbalref31_Meet.j2 kj21 t258 (IntKind.u64.wrap (Int.tdiv t263 t258)) (Int.tmod (IntKind.u64.wrap (Int.tdiv t264 t258)) (IntKind.u64.wrap (Int.tdiv t263 t258))) (wrap64 ((Int.tmod (wrap64 (Int.tdiv (wrap64 (x248002_21 - x247002_21)) (wrap64 (t258)))) (wrap64 (IntKind.u64.wrap (Int.tdiv t263 t258)))) + (wrap64 (IntKind.u64.wrap (Int.tdiv t263 t258))))) x247000_21 x247001_21 x247002_21 x248000_21 x248001_21 x248002_21) else (gimbalref31_Meet.j2 kj21 t258 (IntKind.u64.wrap (Int.tdiv t263 t258)) (Int.tmod (IntKind.u64.wrap (Int.tdiv t264 t258)) (IntKind.u64.wrap (Int.tdiv t263 t258))) (Int.tmod (wrap64 (Int.tdiv (wrap64 (x248002_21 - x247002_21)) (wrap64 (t258)))) (wrap64 (IntKind.u64.wrap (Int.tdiv t263 t258)))) x247000_21 x247001_21 x247002_21 x248000_21 x248001_21 x248002_21)))))) = some (r1, r2, r3) := H
         have A60 := Aside0.mk A600
         clear A600
         replace H := Option.bind_eq_some_iff.mp H
         obtain ⟨t264, A610, H⟩ := H
         replace H : (if (IntKind.u64.wrap (Int.tdiv t263 t258)) = 0 then (none) else (if (wrap64 (t258)) = 0 then (none) else (if (wrap64 (IntKind.u64.wrap (Int.tdiv t263 t258))) = 0 then (none) else (if (Int.tmod (wrap64 (Int.tdiv (wrap64 (x248002_21 - x247002_21)) (wrap64 (t258)))) (wrap64 (IntKind.u64.wrap (Int.tdiv t263 t258)))) < 0 then (gimbalref31_Meet.j2 kj21 t258 (IntKind.u64.wrap (Int.tdiv t263 t258)) (Int.tmod (IntKind.u64.wrap (Int.tdiv t264 t258)) (IntKind.u64.wrap (Int.tdiv t263 t258))) (wrap64 ((Int.tmod (wrap64 (Int.tdiv (wrap64 (x248002_21 - x247002_21)) (wrap64 (t258)))) (wrap64 (IntKind.u64.wrap (Int.tdiv t263 t258)))) + (wrap64 (IntKind.u64.wrap (Int.tdiv t263 t258))))) x247000_21 x247001_21 x247002_21 x248000_21 x248001_21 x248002_21) else (gimbalref31_Meet.j2 kj21 t258 (IntKind.u64.wrap (Int.tdiv t263 t258)) (Int.tmod (IntKind.u64.wrap (Int.tdiv t264 t258)) (IntKind.u64.wrap (Int.tdiv t263 t258))) (Int.tmod (wrap64 (Int.tdiv (wrap64 (x248002_21 - x247002_21)) (wrap64 (t258)))) (wrap64 (IntKind.u64.wrap (Int.tdiv t263 t258)))) x247000_21 x247001_21 x247002_21 x248000_21 x248001_21 x248002_21))))) = some (r1, r2, r3) := H
         have A61 := Aside0.mk A610
         clear A610
         by_cases c62 : (IntKind.u64.wrap (Int.tdiv t263 t258)) = 0
         ·
          rw [if_pos c62] at H
          exact absurd H (by simp)
         ·
          rw [if_neg c62] at H
          have c62b0 : ((IntKind.u64.wrap (Int.tdiv t263 t258)) == 0) = false := beq_eq_false_iff_ne.mpr c62
          have c62b1 : ((IntKind.u64.wrap (Int.tdiv t263 t258)) != 0) = true := bne_iff_ne.mpr c62
          by_cases c63 : (wrap64 (t258)) = 0
          ·
           rw [if_pos c63] at H
           exact absurd H (by simp)
          ·
           rw [if_neg c63] at H
           have c63b0 : ((wrap64 (t258)) == 0) = false := beq_eq_false_iff_ne.mpr c63
           have c63b1 : ((wrap64 (t258)) != 0) = true := bne_iff_ne.mpr c63
           by_cases c64 : (wrap64 (IntKind.u64.wrap (Int.tdiv t263 t258))) = 0
           ·
            rw [if_pos c64] at H
            exact absurd H (by simp)
           ·
            rw [if_neg c64] at H
            have c64b0 : ((wrap64 (IntKind.u64.wrap (Int.tdiv t263 t258))) == 0) = false := beq_eq_false_iff_ne.mpr c64
            have c64b1 : ((wrap64 (IntKind.u64.wrap (Int.tdiv t263 t258))) != 0) = true := bne_iff_ne.mpr c64
            have HC65 := Aside0.mk H
            clear H
            have hnb66 := NB247_246.out
            have hnc66 := NB246_247.out
            have hnb67 := NB247_248.out
            have hnc67 := NB248_247.out
            have hcz68_0 : wc.cell? ⟨gb247, 0, none⟩ = some (.bool x248000_21) := cz0 BK247
            have hcz68_1 : wc.cell? ⟨gb247, 1, none⟩ = some (.int .i64 x248001_21) := cz1 BK247
            have hcz68_2 : wc.cell? ⟨gb247, 2, none⟩ = some (.int .i64 x248002_21) := cz2 BK247
            have hfz68_0 := fz BK247 0
            have hfz68_1 := fz BK247 1
            have hfz68_2 := fz BK247 2
            try go_wp2
            replace BK246 := Aside0.mk (blk_drew BK246.out)
            replace BK247 := Aside0.mk (blk_drew BK247.out)
            replace BK248 := Aside0.mk (blk_drew BK248.out)
            replace HB := Aside0.mk (below_drew1 HB.out)
            refine start_ (n := 8) (S := fun w' => w'.cell? ⟨gb246, 0, none⟩ = some (.bool x247000_21) ∧ w'.cell? ⟨gb246, 1, none⟩ = some (.int .i64 x247001_21) ∧ w'.cell? ⟨gb246, 2, none⟩ = some (.int .i64 x247002_21) ∧ w'.cell? ⟨gb247, 0, none⟩ = some (.bool x248000_21) ∧ w'.cell? ⟨gb247, 1, none⟩ = some (.int .i64 x248001_21) ∧ w'.cell? ⟨gb247, 2, none⟩ = some (.int .i64 x248002_21)) (ds := []) #[false, false, false, false, false, false, false, false] (by kernel_rfl) rfl rfl ⟨cz0 BK246, cz1 BK246, cz2 BK246, cz0 BK247, cz1 BK247, cz2 BK247⟩ (fun hHeld => ?_); refine with_tabW gimbalref31_Meet.tab9 gimbalref31_Meet.bits9 (fun HT_ HW_ => ?_)
            generalize wc.drew = w69 at BK246 BK247 BK248 HB hHeld ⊢
            refine pure_ (i := 0) (N := some 33) (v := ?_) (a' := ?_) #[true, false, false, false, false, false, false, false] rfl rfl (any_of HT_.out (by kernel_rfl)) (fun _ _ _ h => h) (Or.inl ⟨by rfl, ?_⟩) ?_ ?_
            rotate_left
            ·
             intro w'
             go_simp
             with_reducible rfl
            rotate_left
            ·
             simp only [Act.put, lA, lB, lC, i64_w, i32_w]
             rfl
            refine pure_ (i := 3) (N := some 36) (v := ?_) (a' := ?_) #[true, false, false, true, false, false, false, false] rfl rfl (any_of HT_.out (by kernel_rfl)) (fun _ _ _ h => h) (Or.inl ⟨by rfl, ?_⟩) ?_ ?_
            rotate_left
            ·
             intro w'
             go_simp
             with_reducible rfl
            rotate_left
            ·
             simp only [Act.put, lA, lB, lC, i64_w, i32_w]
             rfl
            refine take_ (i := 1) (N := some 34) (v := ?_) (a' := ?_) #[true, true, false, true, false, false, false, false] rfl rfl (take_ofW HT_.out HW_.out (by kernel_rfl)) (fun _ _ _ h => h) (Or.inl ⟨by rfl, ?_⟩) hHeld ?_ ?_
            rotate_left
            ·
             rintro w' ⟨s0, s1, s2, s3, s4, s5⟩
             go_simp
             with_reducible rfl
            rotate_left
            ·
             simp only [Act.put, lA, lB, lC, i64_w, i32_w]
             rfl
            refine take_ (i := 4) (N := some 37) (v := ?_) (a' := ?_) #[true, true, false, true, true, false, false, false] rfl rfl (take_ofW HT_.out HW_.out (by kernel_rfl)) (fun _ _ _ h => h) (Or.inl ⟨by rfl, ?_⟩) hHeld ?_ ?_
            rotate_left
            ·
             rintro w' ⟨s0, s1, s2, s3, s4, s5⟩
             go_simp
             with_reducible rfl
            rotate_left
            ·
             simp only [Act.put, lA, lB, lC, i64_w, i32_w]
             rfl
            refine one_ (i := 2) (N := some 35) #[true, true, true, true, true, false, false, false] rfl rfl (one_of HT_.out (by kernel_rfl)) (by decide) (fun K hK => ?_)
            refine goes_ Tryd.func55 (by kernel_rfl) rfl #[.int .i64 x247001_21] (by rfl) rfl rfl mS ?_
            with_reducible refine (gimbalref31_size.calls x247001_21 t256 _ A54.out).mono ?_
            rintro e w' ⟨rfl, ⟨nd, rfl⟩⟩
            refine ⟨_, rfl, ?_⟩
            refine hK.out _ _ ⟨cz0 BK246, cz1 BK246, cz2 BK246, cz0 BK247, cz1 BK247, cz2 BK247⟩ (fun hHeld => ?_)
            clear hK K
            refine norm_ (a' := ?_) ?_ ?_
            rotate_left
            ·
             show Act.put _ (some 35) _ = _
             simp only [Act.put, lA, lB, lC, i64_w, i32_w]
             rfl
            refine one_ (i := 5) (N := some 38) #[true, true, true, true, true, true, false, false] rfl rfl (one_of HT_.out (by kernel_rfl)) (by decide) (fun K hK => ?_)
            refine goes_ Tryd.func55 (by kernel_rfl) rfl #[.int .i64 x248001_21] (by rfl) rfl rfl mS ?_
            with_reducible refine (gimbalref31_size.calls x248001_21 t257 _ A55.out).mono ?_
            rintro e w' ⟨rfl, ⟨nd, rfl⟩⟩
            refine ⟨_, rfl, ?_⟩
            refine hK.out _ _ ⟨cz0 BK246, cz1 BK246, cz2 BK246, cz0 BK247, cz1 BK247, cz2 BK247⟩ (fun hHeld => ?_)
            clear hK K
            refine norm_ (a' := ?_) ?_ ?_
            rotate_left
            ·
             show Act.put _ (some 38) _ = _
             simp only [Act.put, lA, lB, lC, i64_w, i32_w]
             rfl
            refine one_ (i := 6) (N := some 39) #[true, true, true, true, true, true, true, false] rfl rfl (one_of HT_.out (by kernel_rfl)) (by decide) (fun K hK => ?_)
            refine goes_ Tryd.func80 (by kernel_rfl) rfl #[.int .u64 t256, .int .u64 t257] (by rfl) rfl rfl mS ?_
            with_reducible refine (gimbalref31_gcd.calls kj21 t256 t257 t258 _ A56.out).mono ?_
            rintro e w' ⟨rfl, ⟨nd, rfl⟩⟩
            refine ⟨_, rfl, ?_⟩
            refine hK.out _ _ ⟨cz0 BK246, cz1 BK246, cz2 BK246, cz0 BK247, cz1 BK247, cz2 BK247⟩ (fun hHeld => ?_)
            clear hK K
            refine norm_ (a' := ?_) ?_ ?_
            rotate_left
            ·
             show Act.put _ (some 39) _ = _
             simp only [Act.put, lA, lB, lC, i64_w, i32_w]
             rfl
            refine pure_ (i := 7) (N := some 5) (v := ?_) (a' := ?_) #[true, true, true, true, true, true, true, true] rfl rfl (any_of HT_.out (by kernel_rfl)) (fun _ _ _ h => h) (Or.inl ⟨by rfl, ?_⟩) ?_ ?_
            rotate_left
            ·
             intro w'
             go_simp
             with_reducible rfl
            rotate_left
            ·
             simp only [Act.put, lA, lB, lC, i64_w, i32_w]
             rfl
            refine done_ (done_of HT_.out (by kernel_rfl)) ?_
            have hnb70 := NB246_248.out
            have hnc70 := NB248_246.out
            have hcz71_0 := cz0 BK246
            have hcz71_1 := cz1 BK246
            have hcz71_2 := cz2 BK246
            have hfz71_0 := fz BK246 0
            have hfz71_1 := fz BK246 1
            have hfz71_2 := fz BK246 2
            have hcz72_0 := cz0 BK247
            have hcz72_1 := cz1 BK247
            have hcz72_2 := cz2 BK247
            have hfz72_0 := fz BK247 0
            have hfz72_1 := fz BK247 1
            have hfz72_2 := fz BK247 2
            go_upto_if 74 with (first | ((with_reducible refine gate_callee (f := 55) rfl ?_); refine goesL_ (some 45) rfl rfl Tryd.func55 (by kernel_rfl) rfl #[.int .i64 (wrap64 (x247002_21 - x248002_21))] rfl mS ?_; (with_reducible refine (gimbalref31_size.calls (wrap64 (x247002_21 - x248002_21)) t259 _ A57.out).mono ?_); rintro e w' ⟨rfl, ⟨nd, rfl⟩⟩; refine ⟨_, rfl, ?_⟩) | ((with_reducible refine gate_callee (f := 55) rfl ?_); refine goesL_ (some 52) rfl rfl Tryd.func55 (by kernel_rfl) rfl #[.int .i64 x248001_21] rfl mS ?_; (with_reducible refine (gimbalref31_size.calls x248001_21 t263 _ A60.out).mono ?_); rintro e w' ⟨rfl, ⟨nd, rfl⟩⟩; refine ⟨_, rfl, ?_⟩) | ((with_reducible refine gate_callee (f := 55) rfl ?_); refine goesL_ (some 57) rfl rfl Tryd.func55 (by kernel_rfl) rfl #[.int .i64 x247001_21] rfl mS ?_; (with_reducible refine (gimbalref31_size.calls x247001_21 t264 _ A61.out).mono ?_); rintro e w' ⟨rfl, ⟨nd, rfl⟩⟩; refine ⟨_, rfl, ?_⟩))
            (try simp only [Act.put, lA, lB, lC])
            go_cut [8] (fun v8 wc => ∃ (kq : Nat) (x8_64 : Int), v8 = .int .i64 x8_64 ∧ Aside0 (gimbalref31_Meet.j2 kq t258 (IntKind.u64.wrap (Int.tdiv t263 t258)) (Int.tmod (IntKind.u64.wrap (Int.tdiv t264 t258)) (IntKind.u64.wrap (Int.tdiv t263 t258))) x8_64 x247000_21 x247001_21 x247002_21 x248000_21 x248001_21 x248002_21 = some (r1, r2, r3)) ∧ Aside0 (kq ≤ kj21) ∧ Aside0 (wc.heap[gb246]? = some (.cells #[.bool x247000_21, .int .i64 x247001_21, .int .i64 x247002_21] 23 (0, 0))) ∧ Aside0 (wc.heap[gb247]? = some (.cells #[.bool x248000_21, .int .i64 x248001_21, .int .i64 x248002_21] 23 (0, 0))) ∧ Aside0 (wc.heap[gb248]? = some (.cells #[.bool false, .int .i64 0, .int .i64 0] 23 (0, 0))) ∧ Aside0 (Below w.heap.size w wc))
            case first =>
             have H := HC65.out
             clear HC65
             by_cases c73 : (Int.tmod (wrap64 (Int.tdiv (wrap64 (x248002_21 - x247002_21)) (wrap64 (t258)))) (wrap64 (IntKind.u64.wrap (Int.tdiv t263 t258)))) < 0
             ·
              rw [if_pos c73] at H
              have c73b0 : decide ((Int.tmod (wrap64 (Int.tdiv (wrap64 (x248002_21 - x247002_21)) (wrap64 (t258)))) (wrap64 (IntKind.u64.wrap (Int.tdiv t263 t258)))) < 0) = true := decide_eq_true c73
              clear c73
              (first | rw [c73b0] | (simp only [i64_w, i32_w]; rw [c73b0]) | skip)
              have H' := Aside0.mk H
              clear H
              go_wp2
              go_meet
              case rel => exact ⟨_, (wrap64 ((Int.tmod (wrap64 (Int.tdiv (wrap64 (x248002_21 - x247002_21)) (wrap64 (t258)))) (wrap64 (IntKind.u64.wrap (Int.tdiv t263 t258)))) + (wrap64 (IntKind.u64.wrap (Int.tdiv t263 t258))))), (by first | rfl | (simp; done) | (simp [*]; done)), H', ⟨by have := HJ2.out; have := HJ21.out; first | omega | exact Nat.le_refl _⟩, ⟨bkS BK246⟩, ⟨bkS BK247⟩, ⟨bkS BK248⟩, ⟨bS HB⟩⟩
             ·
              rw [if_neg c73] at H
              have c73b0 : decide ((Int.tmod (wrap64 (Int.tdiv (wrap64 (x248002_21 - x247002_21)) (wrap64 (t258)))) (wrap64 (IntKind.u64.wrap (Int.tdiv t263 t258)))) < 0) = false := decide_eq_false c73
              clear c73
              (first | rw [c73b0] | (simp only [i64_w, i32_w]; rw [c73b0]) | skip)
              have H' := Aside0.mk H
              clear H
              go_wp2
              go_meet
              case rel => exact ⟨_, (Int.tmod (wrap64 (Int.tdiv (wrap64 (x248002_21 - x247002_21)) (wrap64 (t258)))) (wrap64 (IntKind.u64.wrap (Int.tdiv t263 t258)))), (by first | rfl | (simp; done) | (simp [*]; done)), H', ⟨by have := HJ2.out; have := HJ21.out; first | omega | exact Nat.le_refl _⟩, ⟨bkS BK246⟩, ⟨bkS BK247⟩, ⟨bkS BK248⟩, ⟨bS HB⟩⟩
            case rest =>
             clear HC65
             try clear c1
             try clear c2
             try clear p2
             try clear c3
             try clear c4
             try clear c5
             try clear c6
             try clear p6
             try clear c7
             try clear c8
             try clear c9
             try clear c11
             try clear c12
             try clear c14
             try clear c15
             try clear c16
             try clear c19
             try clear c20
             try clear c23
             try clear c24
             try clear c26
             try clear c28
             try clear c28b0
             try clear c29
             try clear c30
             try clear c32
             try clear c34
             try clear c34b0
             try clear c34b1
             try clear c36
             try clear c37
             try clear c38
             try clear c40
             try clear c46
             try clear c47
             try clear c49
             try clear c55
             try clear c58
             try clear c58b0
             try clear c58b1
             try clear c59
             try clear c59b0
             try clear c59b1
             try clear c62
             try clear c62b0
             try clear c62b1
             try clear c63
             try clear c63b0
             try clear c63b1
             try clear c64
             try clear c64b0
             try clear c64b1
             try clear p64
             try clear c66
             try clear c67
             try clear c69
             try clear c70
             try clear c73
             try clear c73b0
             try clear hcz10_0
             try clear hcz10_1
             try clear hcz10_2
             try clear hcz13_0
             try clear hcz13_1
             try clear hcz13_2
             try clear hcz15_0
             try clear hcz15_1
             try clear hcz15_2
             try clear hcz21_0
             try clear hcz21_1
             try clear hcz21_2
             try clear hcz25_0
             try clear hcz25_1
             try clear hcz25_2
             try clear hcz27_0
             try clear hcz27_1
             try clear hcz27_2
             try clear hcz31_0
             try clear hcz31_1
             try clear hcz31_2
             try clear hcz33_0
             try clear hcz33_1
             try clear hcz33_2
             try clear hcz39_0
             try clear hcz39_1
             try clear hcz39_2
             try clear hcz41_0
             try clear hcz41_1
             try clear hcz41_2
             try clear hcz43_0
             try clear hcz43_1
             try clear hcz43_2
             try clear hcz44_0
             try clear hcz44_1
             try clear hcz44_2
             try clear hcz48_0
             try clear hcz48_1
             try clear hcz48_2
             try clear hcz50_0
             try clear hcz50_1
             try clear hcz50_2
             try clear hcz53_0
             try clear hcz53_1
             try clear hcz53_2
             try clear hcz68_0
             try clear hcz68_1
             try clear hcz68_2
             try clear hcz71_0
             try clear hcz71_1
             try clear hcz71_2
             try clear hcz72_0
             try clear hcz72_1
             try clear hcz72_2
             try clear hfz10_0
             try clear hfz10_1
             try clear hfz10_2
             try clear hfz13_0
             try clear hfz13_1
             try clear hfz13_2
             try clear hfz15_0
             try clear hfz15_1
             try clear hfz15_2
             try clear hfz21_0
             try clear hfz21_1
             try clear hfz21_2
             try clear hfz25_0
             try clear hfz25_1
             try clear hfz25_2
             try clear hfz27_0
             try clear hfz27_1
             try clear hfz27_2
             try clear hfz31_0
             try clear hfz31_1
             try clear hfz31_2
             try clear hfz33_0
             try clear hfz33_1
             try clear hfz33_2
             try clear hfz39_0
             try clear hfz39_1
             try clear hfz39_2
             try clear hfz41_0
             try clear hfz41_1
             try clear hfz41_2
             try clear hfz43_0
             try clear hfz43_1
             try clear hfz43_2
             try clear hfz44_0
             try clear hfz44_1
             try clear hfz44_2
             try clear hfz48_0
             try clear hfz48_1
             try clear hfz48_2
             try clear hfz50_0
             try clear hfz50_1
             try clear hfz50_2
             try clear hfz53_0
             try clear hfz53_1
             try clear hfz53_2
             try clear hfz68_0
             try clear hfz68_1
             try clear hfz68_2
             try clear hfz71_0
             try clear hfz71_1
             try clear hfz71_2
             try clear hfz72_0
             try clear hfz72_1
             try clear hfz72_2
             try clear p2
             obtain ⟨kq, x8_64, rfl, HA, HJ64, BK246, BK247, BK248, HB⟩ := hcut
             cases kq with
             | zero => exact absurd HA.out (by simp [gimbalref31_Meet.j2])
             | succ kj64 =>
              have H := HA.out
              clear HA
              simp only [gimbalref31_Meet.j2] at H
              have HC74 := Aside0.mk H
              clear H
              go_upto_if 80 with (fail)
              go_cut [9] (fun v9 wc => ∃ (kq : Nat) (x9_73 : Int), v9 = .int .u64 x9_73 ∧ Aside0 (gimbalref31_Meet.j3 kq t258 x9_73 x247000_21 x247001_21 x247002_21 x248000_21 x248001_21 x248002_21 = some (r1, r2, r3)) ∧ Aside0 (kq ≤ kj64) ∧ Aside0 (wc.heap[gb246]? = some (.cells #[.bool x247000_21, .int .i64 x247001_21, .int .i64 x247002_21] 23 (0, 0))) ∧ Aside0 (wc.heap[gb247]? = some (.cells #[.bool x248000_21, .int .i64 x248001_21, .int .i64 x248002_21] 23 (0, 0))) ∧ Aside0 (wc.heap[gb248]? = some (.cells #[.bool false, .int .i64 0, .int .i64 0] 23 (0, 0))) ∧ Aside0 (Below w.heap.size w wc))
              case first =>
               have H := HC74.out
               clear HC74
               by_cases c75 : (IntKind.u64.wrap (Int.tdiv t263 t258)) > 1
               ·
                rw [if_pos c75] at H
                have c75b0 : decide (1 < (IntKind.u64.wrap (Int.tdiv t263 t258))) = true := decide_eq_true c75
                clear c75
                (first | rw [c75b0] | (simp only [i64_w, i32_w]; rw [c75b0]) | skip)
                replace H := Option.bind_eq_some_iff.mp H
                obtain ⟨t265, A760, H⟩ := H
                replace H : ((gimbalref31_times.f (IntKind.u64.wrap (x8_64)) t265 (IntKind.u64.wrap (Int.tdiv t263 t258))).bind fun t266 => (gimbalref31_Meet.j3 kj64 t258 t266 x247000_21 x247001_21 x247002_21 x248000_21 x248001_21 x248002_21)) = some (r1, r2, r3) := H
                have A76 := Aside0.mk A760
                clear A760
                replace H := Option.bind_eq_some_iff.mp H
                obtain ⟨t266, A770, H⟩ := H
                replace H : (gimbalref31_Meet.j3 kj64 t258 t266 x247000_21 x247001_21 x247002_21 x248000_21 x248001_21 x248002_21) = some (r1, r2, r3) := H
                have A77 := Aside0.mk A770
                clear A770
                have H' := Aside0.mk H
                clear H
                go_wp2_with (first | ((with_reducible refine gate_callee (f := 82) rfl ?_); refine goesL_ (some 85) rfl rfl Tryd.func82 (by kernel_rfl) rfl #[.int .u64 (Int.tmod (IntKind.u64.wrap (Int.tdiv t264 t258)) (IntKind.u64.wrap (Int.tdiv t263 t258))), .int .u64 (IntKind.u64.wrap (Int.tdiv t263 t258))] rfl mS ?_; (with_reducible refine (gimbalref31_inverse.calls kj64 (Int.tmod (IntKind.u64.wrap (Int.tdiv t264 t258)) (IntKind.u64.wrap (Int.tdiv t263 t258))) (IntKind.u64.wrap (Int.tdiv t263 t258)) t265 _ A76.out).mono ?_); rintro e w' ⟨rfl, ⟨nd, rfl⟩⟩; refine ⟨_, rfl, ?_⟩) | ((with_reducible refine gate_callee (f := 81) rfl ?_); refine goesL_ (some 87) rfl rfl Tryd.func81 (by kernel_rfl) rfl #[.int .u64 (IntKind.u64.wrap (x8_64)), .int .u64 t265, .int .u64 (IntKind.u64.wrap (Int.tdiv t263 t258))] rfl mS ?_; (with_reducible refine (gimbalref31_times.calls (IntKind.u64.wrap (x8_64)) t265 (IntKind.u64.wrap (Int.tdiv t263 t258)) t266 _ A77.out).mono ?_); rintro e w' ⟨rfl, ⟨nd, rfl⟩⟩; refine ⟨_, rfl, ?_⟩))
                go_meet
                case rel => exact ⟨_, (t266), (by first | rfl | (simp; done) | (simp [*]; done)), H', ⟨by have := HJ2.out; have := HJ21.out; have := HJ64.out; first | omega | exact Nat.le_refl _⟩, ⟨bkS BK246⟩, ⟨bkS BK247⟩, ⟨bkS BK248⟩, ⟨bS HB⟩⟩
               ·
                rw [if_neg c75] at H
                have c75b0 : decide (1 < (IntKind.u64.wrap (Int.tdiv t263 t258))) = false := decide_eq_false c75
                clear c75
                (first | rw [c75b0] | (simp only [i64_w, i32_w]; rw [c75b0]) | skip)
                have H' := Aside0.mk H
                clear H
                go_wp2
                go_meet
                case rel => exact ⟨_, (0), (by first | rfl | (simp; done) | (simp [*]; done)), H', ⟨by have := HJ2.out; have := HJ21.out; have := HJ64.out; first | omega | exact Nat.le_refl _⟩, ⟨bkS BK246⟩, ⟨bkS BK247⟩, ⟨bkS BK248⟩, ⟨bS HB⟩⟩
              case rest =>
               clear HC74
               try clear c1
               try clear c2
               try clear p2
               try clear c3
               try clear c4
               try clear c5
               try clear c6
               try clear p6
               try clear c7
               try clear c8
               try clear c9
               try clear c11
               try clear c12
               try clear c14
               try clear c15
               try clear c16
               try clear c19
               try clear c20
               try clear c23
               try clear c24
               try clear c26
               try clear c28
               try clear c28b0
               try clear c29
               try clear c30
               try clear c32
               try clear c34
               try clear c34b0
               try clear c34b1
               try clear c36
               try clear c37
               try clear c38
               try clear c40
               try clear c46
               try clear c47
               try clear c49
               try clear c55
               try clear c58
               try clear c58b0
               try clear c58b1
               try clear c59
               try clear c59b0
               try clear c59b1
               try clear c62
               try clear c62b0
               try clear c62b1
               try clear c63
               try clear c63b0
               try clear c63b1
               try clear c64
               try clear c64b0
               try clear c64b1
               try clear p64
               try clear c66
               try clear c67
               try clear c69
               try clear c70
               try clear c73
               try clear c73b0
               try clear c75
               try clear c75b0
               try clear hcz10_0
               try clear hcz10_1
               try clear hcz10_2
               try clear hcz13_0
               try clear hcz13_1
               try clear hcz13_2
               try clear hcz15_0
               try clear hcz15_1
               try clear hcz15_2
               try clear hcz21_0
               try clear hcz21_1
               try clear hcz21_2
               try clear hcz25_0
               try clear hcz25_1
               try clear hcz25_2
               try clear hcz27_0
               try clear hcz27_1
               try clear hcz27_2
               try clear hcz31_0
               try clear hcz31_1
               try clear hcz31_2
               try clear hcz33_0
               try clear hcz33_1
               try clear hcz33_2
               try clear hcz39_0
               try clear hcz39_1
               try clear hcz39_2
               try clear hcz41_0
               try clear hcz41_1
               try clear hcz41_2
               try clear hcz43_0
               try clear hcz43_1
               try clear hcz43_2
               try clear hcz44_0
               try clear hcz44_1
               try clear hcz44_2
               try clear hcz48_0
               try clear hcz48_1
               try clear hcz48_2
               try clear hcz50_0
               try clear hcz50_1
               try clear hcz50_2
               try clear hcz53_0
               try clear hcz53_1
               try clear hcz53_2
               try clear hcz68_0
               try clear hcz68_1
               try clear hcz68_2
               try clear hcz71_0
               try clear hcz71_1
               try clear hcz71_2
               try clear hcz72_0
               try clear hcz72_1
               try clear hcz72_2
               try clear hfz10_0
               try clear hfz10_1
               try clear hfz10_2
               try clear hfz13_0
               try clear hfz13_1
               try clear hfz13_2
               try clear hfz15_0
               try clear hfz15_1
               try clear hfz15_2
               try clear hfz21_0
               try clear hfz21_1
               try clear hfz21_2
               try clear hfz25_0
               try clear hfz25_1
               try clear hfz25_2
               try clear hfz27_0
               try clear hfz27_1
               try clear hfz27_2
               try clear hfz31_0
               try clear hfz31_1
               try clear hfz31_2
               try clear hfz33_0
               try clear hfz33_1
               try clear hfz33_2
               try clear hfz39_0
               try clear hfz39_1
               try clear hfz39_2
               try clear hfz41_0
               try clear hfz41_1
               try clear hfz41_2
               try clear hfz43_0
               try clear hfz43_1
               try clear hfz43_2
               try clear hfz44_0
               try clear hfz44_1
               try clear hfz44_2
               try clear hfz48_0
               try clear hfz48_1
               try clear hfz48_2
               try clear hfz50_0
               try clear hfz50_1
               try clear hfz50_2
               try clear hfz53_0
               try clear hfz53_1
               try clear hfz53_2
               try clear hfz68_0
               try clear hfz68_1
               try clear hfz68_2
               try clear hfz71_0
               try clear hfz71_1
               try clear hfz71_2
               try clear hfz72_0
               try clear hfz72_1
               try clear hfz72_2
               try clear p2
               try clear p6
               try clear p64
               obtain ⟨kq, x9_73, rfl, HA, HJ73, BK246, BK247, BK248, HB⟩ := hcut
               cases kq with
               | zero => exact absurd HA.out (by simp [gimbalref31_Meet.j3])
               | succ kj73 =>
                have H := HA.out
                clear HA
                simp only [gimbalref31_Meet.j3] at H
                replace H := Option.bind_eq_some_iff.mp H
                obtain ⟨t267, A780, H⟩ := H
                replace H : (if t258 = 0 then (none) else ((gimbalref31_size.f x248001_21).bind fun t268 => ((gimbalref31_size.f x247002_21).bind fun t269 => ((gimbalref31_size.f x247001_21).bind fun t270 => ((gimbalref31_class.f kj73 (IntKind.u64.wrap ((IntKind.u64.wrap (Int.tdiv t267 t258)) * t268)) (IntKind.u64.wrap (t269 + (IntKind.u64.wrap (t270 * x9_73)))) false).bind fun bt271 => (some (bt271.1, bt271.2.1, bt271.2.2))))))) = some (r1, r2, r3) := H
                have A78 := Aside0.mk A780
                clear A780
                by_cases c79 : t258 = 0
                ·
                 rw [if_pos c79] at H
                 exact absurd H (by simp)
                ·
                 rw [if_neg c79] at H
                 have c79b0 : (t258 == 0) = false := beq_eq_false_iff_ne.mpr c79
                 have c79b1 : (t258 != 0) = true := bne_iff_ne.mpr c79
                 replace H := Option.bind_eq_some_iff.mp H
                 obtain ⟨t268, A800, H⟩ := H
                 replace H : ((gimbalref31_size.f x247002_21).bind fun t269 => ((gimbalref31_size.f x247001_21).bind fun t270 => ((gimbalref31_class.f kj73 (IntKind.u64.wrap ((IntKind.u64.wrap (Int.tdiv t267 t258)) * t268)) (IntKind.u64.wrap (t269 + (IntKind.u64.wrap (t270 * x9_73)))) false).bind fun bt271 => (some (bt271.1, bt271.2.1, bt271.2.2))))) = some (r1, r2, r3) := H
                 have A80 := Aside0.mk A800
                 clear A800
                 replace H := Option.bind_eq_some_iff.mp H
                 obtain ⟨t269, A810, H⟩ := H
                 replace H : ((gimbalref31_size.f x247001_21).bind fun t270 => ((gimbalref31_class.f kj73 (IntKind.u64.wrap ((IntKind.u64.wrap (Int.tdiv t267 t258)) * t268)) (IntKind.u64.wrap (t269 + (IntKind.u64.wrap (t270 * x9_73)))) false).bind fun bt271 => (some (bt271.1, bt271.2.1, bt271.2.2)))) = some (r1, r2, r3) := H
                 have A81 := Aside0.mk A810
                 clear A810
                 replace H := Option.bind_eq_some_iff.mp H
                 obtain ⟨t270, A820, H⟩ := H
                 replace H : ((gimbalref31_class.f kj73 (IntKind.u64.wrap ((IntKind.u64.wrap (Int.tdiv t267 t258)) * t268)) (IntKind.u64.wrap (t269 + (IntKind.u64.wrap (t270 * x9_73)))) false).bind fun bt271 => (some (bt271.1, bt271.2.1, bt271.2.2))) = some (r1, r2, r3) := H
                 have A82 := Aside0.mk A820
                 clear A820
                 replace H := Option.bind_eq_some_iff.mp H
                 obtain ⟨⟨t271, t272, t273⟩, A830, H⟩ := H
                 replace H : (some (t271, t272, t273)) = some (r1, r2, r3) := H
                 have A83 := Aside0.mk A830
                 clear A830
                 simp only [Option.some.injEq, Prod.mk.injEq] at H
                 obtain ⟨rfl, rfl, rfl⟩ := H
                 try go_wp2
                 replace BK246 := Aside0.mk (blk_drew BK246.out)
                 replace BK247 := Aside0.mk (blk_drew BK247.out)
                 replace BK248 := Aside0.mk (blk_drew BK248.out)
                 replace HB := Aside0.mk (below_drew1 HB.out)
                 refine start_ (n := 20) (S := fun w' => w'.cell? ⟨gb246, 0, none⟩ = some (.bool x247000_21) ∧ w'.cell? ⟨gb246, 1, none⟩ = some (.int .i64 x247001_21) ∧ w'.cell? ⟨gb246, 2, none⟩ = some (.int .i64 x247002_21) ∧ w'.cell? ⟨gb247, 0, none⟩ = some (.bool x248000_21) ∧ w'.cell? ⟨gb247, 1, none⟩ = some (.int .i64 x248001_21) ∧ w'.cell? ⟨gb247, 2, none⟩ = some (.int .i64 x248002_21)) (ds := []) #[false, false, false, false, false, false, false, false, false, false, false, false, false, false, false, false, false, false, false, false] (by kernel_rfl) rfl rfl ⟨cz0 BK246, cz1 BK246, cz2 BK246, cz0 BK247, cz1 BK247, cz2 BK247⟩ (fun hHeld => ?_); refine with_tabW gimbalref31_Meet.tab20 gimbalref31_Meet.bits20 (fun HT_ HW_ => ?_)
                 generalize wc.drew = w84 at BK246 BK247 BK248 HB hHeld ⊢
                 refine pure_ (i := 0) (N := some 88) (v := ?_) (a' := ?_) #[true, false, false, false, false, false, false, false, false, false, false, false, false, false, false, false, false, false, false, false] rfl rfl (any_of HT_.out (by kernel_rfl)) (fun _ _ _ h => h) (Or.inl ⟨by rfl, ?_⟩) ?_ ?_
                 rotate_left
                 ·
                  intro w'
                  go_simp
                  with_reducible rfl
                 rotate_left
                 ·
                  simp only [Act.put, lA, lB, lC, i64_w, i32_w]
                  rfl
                 refine pure_ (i := 3) (N := some 91) (v := ?_) (a' := ?_) #[true, false, false, true, false, false, false, false, false, false, false, false, false, false, false, false, false, false, false, false] rfl rfl (any_of HT_.out (by kernel_rfl)) (fun _ _ _ h => h) (Or.inl ⟨by rfl, ?_⟩) ?_ ?_
                 rotate_left
                 ·
                  intro w'
                  go_simp
                  with_reducible rfl
                 rotate_left
                 ·
                  simp only [Act.put, lA, lB, lC, i64_w, i32_w]
                  rfl
                 refine pure_ (i := 5) (N := some 93) (v := ?_) (a' := ?_) #[true, false, false, true, false, true, false, false, false, false, false, false, false, false, false, false, false, false, false, false] rfl rfl (any_of HT_.out (by kernel_rfl)) (fun _ _ _ h => h) (Or.inl ⟨by rfl, ?_⟩) ?_ ?_
                 rotate_left
                 ·
                  intro w'
                  go_simp
                  with_reducible rfl
                 rotate_left
                 ·
                  simp only [Act.put, lA, lB, lC, i64_w, i32_w]
                  rfl
                 refine pure_ (i := 9) (N := some 97) (v := ?_) (a' := ?_) #[true, false, false, true, false, true, false, false, false, true, false, false, false, false, false, false, false, false, false, false] rfl rfl (any_of HT_.out (by kernel_rfl)) (fun _ _ _ h => h) (Or.inl ⟨by rfl, ?_⟩) ?_ ?_
                 rotate_left
                 ·
                  intro w'
                  go_simp
                  with_reducible rfl
                 rotate_left
                 ·
                  simp only [Act.put, lA, lB, lC, i64_w, i32_w]
                  rfl
                 refine pure_ (i := 12) (N := some 100) (v := ?_) (a' := ?_) #[true, false, false, true, false, true, false, false, false, true, false, false, true, false, false, false, false, false, false, false] rfl rfl (any_of HT_.out (by kernel_rfl)) (fun _ _ _ h => h) (Or.inl ⟨by rfl, ?_⟩) ?_ ?_
                 rotate_left
                 ·
                  intro w'
                  go_simp
                  with_reducible rfl
                 rotate_left
                 ·
                  simp only [Act.put, lA, lB, lC, i64_w, i32_w]
                  rfl
                 refine pure_ (i := 15) (N := some 103) (v := ?_) (a' := ?_) #[true, false, false, true, false, true, false, false, false, true, false, false, true, false, false, true, false, false, false, false] rfl rfl (any_of HT_.out (by kernel_rfl)) (fun _ _ _ h => h) (Or.inl ⟨by rfl, ?_⟩) ?_ ?_
                 rotate_left
                 ·
                  intro w'
                  go_simp
                  with_reducible rfl
                 rotate_left
                 ·
                  simp only [Act.put, lA, lB, lC, i64_w, i32_w]
                  rfl
                 refine take_ (i := 1) (N := some 89) (v := ?_) (a' := ?_) #[true, true, false, true, false, true, false, false, false, true, false, false, true, false, false, true, false, false, false, false] rfl rfl (take_ofW HT_.out HW_.out (by kernel_rfl)) (fun _ _ _ h => h) (Or.inl ⟨by rfl, ?_⟩) hHeld ?_ ?_
                 rotate_left
                 ·
                  rintro w' ⟨s0, s1, s2, s3, s4, s5⟩
                  go_simp
                  with_reducible rfl
                 rotate_left
                 ·
                  simp only [Act.put, lA, lB, lC, i64_w, i32_w]
                  rfl
                 refine take_ (i := 6) (N := some 94) (v := ?_) (a' := ?_) #[true, true, false, true, false, true, true, false, false, true, false, false, true, false, false, true, false, false, false, false] rfl rfl (take_ofW HT_.out HW_.out (by kernel_rfl)) (fun _ _ _ h => h) (Or.inl ⟨by rfl, ?_⟩) hHeld ?_ ?_
                 rotate_left
                 ·
                  rintro w' ⟨s0, s1, s2, s3, s4, s5⟩
                  go_simp
                  with_reducible rfl
                 rotate_left
                 ·
                  simp only [Act.put, lA, lB, lC, i64_w, i32_w]
                  rfl
                 refine take_ (i := 10) (N := some 98) (v := ?_) (a' := ?_) #[true, true, false, true, false, true, true, false, false, true, true, false, true, false, false, true, false, false, false, false] rfl rfl (take_ofW HT_.out HW_.out (by kernel_rfl)) (fun _ _ _ h => h) (Or.inl ⟨by rfl, ?_⟩) hHeld ?_ ?_
                 rotate_left
                 ·
                  rintro w' ⟨s0, s1, s2, s3, s4, s5⟩
                  go_simp
                  with_reducible rfl
                 rotate_left
                 ·
                  simp only [Act.put, lA, lB, lC, i64_w, i32_w]
                  rfl
                 refine take_ (i := 13) (N := some 101) (v := ?_) (a' := ?_) #[true, true, false, true, false, true, true, false, false, true, true, false, true, true, false, true, false, false, false, false] rfl rfl (take_ofW HT_.out HW_.out (by kernel_rfl)) (fun _ _ _ h => h) (Or.inl ⟨by rfl, ?_⟩) hHeld ?_ ?_
                 rotate_left
                 ·
                  rintro w' ⟨s0, s1, s2, s3, s4, s5⟩
                  go_simp
                  with_reducible rfl
                 rotate_left
                 ·
                  simp only [Act.put, lA, lB, lC, i64_w, i32_w]
                  rfl
                 refine one_ (i := 2) (N := some 90) #[true, true, true, true, false, true, true, false, false, true, true, false, true, true, false, true, false, false, false, false] rfl rfl (one_of HT_.out (by kernel_rfl)) (by decide) (fun K hK => ?_)
                 refine goes_ Tryd.func55 (by kernel_rfl) rfl #[.int .i64 x247001_21] (by rfl) rfl rfl mS ?_
                 with_reducible refine (gimbalref31_size.calls x247001_21 t267 _ A78.out).mono ?_
                 rintro e w' ⟨rfl, ⟨nd, rfl⟩⟩
                 refine ⟨_, rfl, ?_⟩
                 refine hK.out _ _ ⟨cz0 BK246, cz1 BK246, cz2 BK246, cz0 BK247, cz1 BK247, cz2 BK247⟩ (fun hHeld => ?_)
                 clear hK K
                 refine norm_ (a' := ?_) ?_ ?_
                 rotate_left
                 ·
                  show Act.put _ (some 90) _ = _
                  simp only [Act.put, lA, lB, lC, i64_w, i32_w]
                  rfl
                 refine pure_ (i := 4) (N := some 92) (v := ?_) (a' := ?_) #[true, true, true, true, true, true, true, false, false, true, true, false, true, true, false, true, false, false, false, false] rfl rfl (any_of HT_.out (by kernel_rfl)) (fun _ _ _ h => h) (Or.inl ⟨by rfl, ?_⟩) ?_ ?_
                 rotate_left
                 ·
                  intro w'
                  go_simp
                  with_reducible rfl
                 rotate_left
                 ·
                  simp only [Act.put, lA, lB, lC, i64_w, i32_w]
                  rfl
                 refine one_ (i := 7) (N := some 95) #[true, true, true, true, true, true, true, true, false, true, true, false, true, true, false, true, false, false, false, false] rfl rfl (one_of HT_.out (by kernel_rfl)) (by decide) (fun K hK => ?_)
                 refine goes_ Tryd.func55 (by kernel_rfl) rfl #[.int .i64 x248001_21] (by rfl) rfl rfl mS ?_
                 with_reducible refine (gimbalref31_size.calls x248001_21 t268 _ A80.out).mono ?_
                 rintro e w' ⟨rfl, ⟨nd, rfl⟩⟩
                 refine ⟨_, rfl, ?_⟩
                 refine hK.out _ _ ⟨cz0 BK246, cz1 BK246, cz2 BK246, cz0 BK247, cz1 BK247, cz2 BK247⟩ (fun hHeld => ?_)
                 clear hK K
                 refine norm_ (a' := ?_) ?_ ?_
                 rotate_left
                 ·
                  show Act.put _ (some 95) _ = _
                  simp only [Act.put, lA, lB, lC, i64_w, i32_w]
                  rfl
                 refine pure_ (i := 8) (N := some 96) (v := ?_) (a' := ?_) #[true, true, true, true, true, true, true, true, true, true, true, false, true, true, false, true, false, false, false, false] rfl rfl (any_of HT_.out (by kernel_rfl)) (fun _ _ _ h => h) (Or.inl ⟨by rfl, ?_⟩) ?_ ?_
                 rotate_left
                 ·
                  intro w'
                  go_simp
                  with_reducible rfl
                 rotate_left
                 ·
                  simp only [Act.put, lA, lB, lC, i64_w, i32_w]
                  rfl
                 refine one_ (i := 11) (N := some 99) #[true, true, true, true, true, true, true, true, true, true, true, true, true, true, false, true, false, false, false, false] rfl rfl (one_of HT_.out (by kernel_rfl)) (by decide) (fun K hK => ?_)
                 refine goes_ Tryd.func55 (by kernel_rfl) rfl #[.int .i64 x247002_21] (by rfl) rfl rfl mS ?_
                 with_reducible refine (gimbalref31_size.calls x247002_21 t269 _ A81.out).mono ?_
                 rintro e w' ⟨rfl, ⟨nd, rfl⟩⟩
                 refine ⟨_, rfl, ?_⟩
                 refine hK.out _ _ ⟨cz0 BK246, cz1 BK246, cz2 BK246, cz0 BK247, cz1 BK247, cz2 BK247⟩ (fun hHeld => ?_)
                 clear hK K
                 refine norm_ (a' := ?_) ?_ ?_
                 rotate_left
                 ·
                  show Act.put _ (some 99) _ = _
                  simp only [Act.put, lA, lB, lC, i64_w, i32_w]
                  rfl
                 refine one_ (i := 14) (N := some 102) #[true, true, true, true, true, true, true, true, true, true, true, true, true, true, true, true, false, false, false, false] rfl rfl (one_of HT_.out (by kernel_rfl)) (by decide) (fun K hK => ?_)
                 refine goes_ Tryd.func55 (by kernel_rfl) rfl #[.int .i64 x247001_21] (by rfl) rfl rfl mS ?_
                 with_reducible refine (gimbalref31_size.calls x247001_21 t270 _ A82.out).mono ?_
                 rintro e w' ⟨rfl, ⟨nd, rfl⟩⟩
                 refine ⟨_, rfl, ?_⟩
                 refine hK.out _ _ ⟨cz0 BK246, cz1 BK246, cz2 BK246, cz0 BK247, cz1 BK247, cz2 BK247⟩ (fun hHeld => ?_)
                 clear hK K
                 refine norm_ (a' := ?_) ?_ ?_
                 rotate_left
                 ·
                  show Act.put _ (some 102) _ = _
                  simp only [Act.put, lA, lB, lC, i64_w, i32_w]
                  rfl
                 refine pure_ (i := 16) (N := some 104) (v := ?_) (a' := ?_) #[true, true, true, true, true, true, true, true, true, true, true, true, true, true, true, true, true, false, false, false] rfl rfl (any_of HT_.out (by kernel_rfl)) (fun _ _ _ h => h) (Or.inl ⟨by rfl, ?_⟩) ?_ ?_
                 rotate_left
                 ·
                  intro w'
                  go_simp
                  with_reducible rfl
                 rotate_left
                 ·
                  simp only [Act.put, lA, lB, lC, i64_w, i32_w]
                  rfl
                 refine pure_ (i := 17) (N := some 105) (v := ?_) (a' := ?_) #[true, true, true, true, true, true, true, true, true, true, true, true, true, true, true, true, true, true, false, false] rfl rfl (any_of HT_.out (by kernel_rfl)) (fun _ _ _ h => h) (Or.inl ⟨by rfl, ?_⟩) ?_ ?_
                 rotate_left
                 ·
                  intro w'
                  go_simp
                  with_reducible rfl
                 rotate_left
                 ·
                  simp only [Act.put, lA, lB, lC, i64_w, i32_w]
                  rfl
                 refine one_ (i := 18) (N := some 106) #[true, true, true, true, true, true, true, true, true, true, true, true, true, true, true, true, true, true, true, false] rfl rfl (one_of HT_.out (by kernel_rfl)) (by decide) (fun K hK => ?_)
                 refine goes_ Tryd.func54 (by kernel_rfl) rfl #[.int .u64 (IntKind.u64.wrap ((IntKind.u64.wrap (Int.tdiv t267 t258)) * t268)), .int .u64 (IntKind.u64.wrap (t269 + (IntKind.u64.wrap (t270 * x9_73)))), .bool false] (by rfl) rfl rfl mS ?_
                 with_reducible refine (gimbalref31_class.calls kj73 (IntKind.u64.wrap ((IntKind.u64.wrap (Int.tdiv t267 t258)) * t268)) (IntKind.u64.wrap (t269 + (IntKind.u64.wrap (t270 * x9_73)))) false t271 t272 t273 _ A83.out).mono ?_
                 rintro e w85 ⟨rfl, hb⟩
                 refine ⟨_, rfl, ?_⟩
                 replace BK246 := kB BK246 hb
                 replace BK247 := kB BK247 hb
                 replace BK248 := kB BK248 hb
                 replace HB := kW HB hb
                 (try clear hb)
                 (try clear hb2)
                 (try clear hk)
                 (try clear hi)
                 refine hK.out _ _ ⟨cz0 BK246, cz1 BK246, cz2 BK246, cz0 BK247, cz1 BK247, cz2 BK247⟩ (fun hHeld => ?_)
                 clear hK K
                 refine norm_ (a' := ?_) ?_ ?_
                 rotate_left
                 ·
                  show Act.put _ (some 106) _ = _
                  simp only [Act.put, lA, lB, lC, i64_w, i32_w]
                  rfl
                 refine one_ (i := 19) (N := none) #[true, true, true, true, true, true, true, true, true, true, true, true, true, true, true, true, true, true, true, true] rfl rfl (one_of HT_.out (by kernel_rfl)) (by decide) (fun K hK => ?_)
                 have hs86 : w85.cell? ⟨gb248, 0, none⟩ = some (.bool false) := cz0 BK248
                 have hfs86 := fz BK248 0
                 have hns86_0 := NB246_248.out
                 have hns86_1 := NB247_248.out
                 have hms86_0 := NB248_246.out
                 have hms86_1 := NB248_247.out
                 have hs87 : w85.cell? ⟨gb248, 1, none⟩ = some (.int .i64 0) := cz1 BK248
                 have hfs87 := fz BK248 1
                 have hns87_0 := NB246_248.out
                 have hns87_1 := NB247_248.out
                 have hms87_0 := NB248_246.out
                 have hms87_1 := NB248_247.out
                 have hs88 : w85.cell? ⟨gb248, 2, none⟩ = some (.int .i64 0) := cz2 BK248
                 have hfs88 := fz BK248 2
                 have hns88_0 := NB246_248.out
                 have hns88_1 := NB247_248.out
                 have hms88_0 := NB248_246.out
                 have hms88_1 := NB248_247.out
                 refine skip_ (w1 := ?_) (by rfl) rfl ?_ ?_
                 rotate_left
                 ·
                  go_simp
                  rfl
                 refine hK.out _ _ ⟨((cell_far (p := ⟨gb248, _, none⟩) NB246_248.out _).trans (((cell_far (p := ⟨gb248, _, none⟩) NB246_248.out _).trans (((cell_far (p := ⟨gb248, _, none⟩) NB246_248.out _).trans (hHeld.1)))))), ((cell_far (p := ⟨gb248, _, none⟩) NB246_248.out _).trans (((cell_far (p := ⟨gb248, _, none⟩) NB246_248.out _).trans (((cell_far (p := ⟨gb248, _, none⟩) NB246_248.out _).trans (hHeld.2.1)))))), ((cell_far (p := ⟨gb248, _, none⟩) NB246_248.out _).trans (((cell_far (p := ⟨gb248, _, none⟩) NB246_248.out _).trans (((cell_far (p := ⟨gb248, _, none⟩) NB246_248.out _).trans (hHeld.2.2.1)))))), ((cell_far (p := ⟨gb248, _, none⟩) NB247_248.out _).trans (((cell_far (p := ⟨gb248, _, none⟩) NB247_248.out _).trans (((cell_far (p := ⟨gb248, _, none⟩) NB247_248.out _).trans (hHeld.2.2.2.1)))))), ((cell_far (p := ⟨gb248, _, none⟩) NB247_248.out _).trans (((cell_far (p := ⟨gb248, _, none⟩) NB247_248.out _).trans (((cell_far (p := ⟨gb248, _, none⟩) NB247_248.out _).trans (hHeld.2.2.2.2.1)))))), ((cell_far (p := ⟨gb248, _, none⟩) NB247_248.out _).trans (((cell_far (p := ⟨gb248, _, none⟩) NB247_248.out _).trans (((cell_far (p := ⟨gb248, _, none⟩) NB247_248.out _).trans (hHeld.2.2.2.2.2))))))⟩ (fun hHeld => ?_)
                 clear hK K
                 refine done_ (done_of HT_.out (by kernel_rfl)) ?_
                 try go_wp2
                 refine bodyPost_ret (results_cell_row rfl _ _ gb248 23 #[.bool t271, .int .i64 t272, .int .i64 t273] (0, 0) _ rfl (by (with_reducible repeat (first | refine b1 ?_ _ | refine b2 ?_ | refine b3 ?_ _)); refine blk_put (cs := #[.bool t271, .int .i64 t272, .int .i64 0]) ?_ 2 _ rfl; (with_reducible repeat (first | refine b1 ?_ _ | refine b2 ?_ | refine b3 ?_ _)); refine blk_put (cs := #[.bool t271, .int .i64 0, .int .i64 0]) ?_ 1 _ rfl; (with_reducible repeat (first | refine b1 ?_ _ | refine b2 ?_ | refine b3 ?_ _)); refine blk_put (cs := #[.bool false, .int .i64 0, .int .i64 0]) ?_ 0 _ rfl; (with_reducible repeat (first | refine b1 ?_ _ | refine b2 ?_ | refine b3 ?_ _)); exact BK248.out) Tryd.underlying23 rfl (by kernel_rfl)) rfl ?_
                 exact ⟨eS, bS HB⟩
        ·
         rw [if_neg c59] at H
         have c59b0 : ((Int.tmod t259 t258) == 0) = false := beq_eq_false_iff_ne.mpr c59
         have c59b1 : ((Int.tmod t259 t258) != 0) = true := bne_iff_ne.mpr c59
         replace H := Option.bind_eq_some_iff.mp H
         obtain ⟨⟨t260, t261, t262⟩, A890, H⟩ := H
         replace H : (some (t260, t261, t262)) = some (r1, r2, r3) := H
         have A89 := Aside0.mk A890
         clear A890
         simp only [Option.some.injEq, Prod.mk.injEq] at H
         obtain ⟨rfl, rfl, rfl⟩ := H
         have hnb90 := NB247_246.out
         have hnc90 := NB246_247.out
         have hnb91 := NB247_248.out
         have hnc91 := NB248_247.out
         have hcz92_0 : wc.cell? ⟨gb247, 0, none⟩ = some (.bool x248000_21) := cz0 BK247
         have hcz92_1 : wc.cell? ⟨gb247, 1, none⟩ = some (.int .i64 x248001_21) := cz1 BK247
         have hcz92_2 : wc.cell? ⟨gb247, 2, none⟩ = some (.int .i64 x248002_21) := cz2 BK247
         have hfz92_0 := fz BK247 0
         have hfz92_1 := fz BK247 1
         have hfz92_2 := fz BK247 2
         try go_wp2
         replace BK246 := Aside0.mk (blk_drew BK246.out)
         replace BK247 := Aside0.mk (blk_drew BK247.out)
         replace BK248 := Aside0.mk (blk_drew BK248.out)
         replace HB := Aside0.mk (below_drew1 HB.out)
         refine start_ (n := 8) (S := fun w' => w'.cell? ⟨gb246, 0, none⟩ = some (.bool x247000_21) ∧ w'.cell? ⟨gb246, 1, none⟩ = some (.int .i64 x247001_21) ∧ w'.cell? ⟨gb246, 2, none⟩ = some (.int .i64 x247002_21) ∧ w'.cell? ⟨gb247, 0, none⟩ = some (.bool x248000_21) ∧ w'.cell? ⟨gb247, 1, none⟩ = some (.int .i64 x248001_21) ∧ w'.cell? ⟨gb247, 2, none⟩ = some (.int .i64 x248002_21)) (ds := []) #[false, false, false, false, false, false, false, false] (by kernel_rfl) rfl rfl ⟨cz0 BK246, cz1 BK246, cz2 BK246, cz0 BK247, cz1 BK247, cz2 BK247⟩ (fun hHeld => ?_); refine with_tabW gimbalref31_Meet.tab9 gimbalref31_Meet.bits9 (fun HT_ HW_ => ?_)
         generalize wc.drew = w93 at BK246 BK247 BK248 HB hHeld ⊢
         refine pure_ (i := 0) (N := some 33) (v := ?_) (a' := ?_) #[true, false, false, false, false, false, false, false] rfl rfl (any_of HT_.out (by kernel_rfl)) (fun _ _ _ h => h) (Or.inl ⟨by rfl, ?_⟩) ?_ ?_
         rotate_left
         ·
          intro w'
          go_simp
          with_reducible rfl
         rotate_left
         ·
          simp only [Act.put, lA, lB, lC, i64_w, i32_w]
          rfl
         refine pure_ (i := 3) (N := some 36) (v := ?_) (a' := ?_) #[true, false, false, true, false, false, false, false] rfl rfl (any_of HT_.out (by kernel_rfl)) (fun _ _ _ h => h) (Or.inl ⟨by rfl, ?_⟩) ?_ ?_
         rotate_left
         ·
          intro w'
          go_simp
          with_reducible rfl
         rotate_left
         ·
          simp only [Act.put, lA, lB, lC, i64_w, i32_w]
          rfl
         refine take_ (i := 1) (N := some 34) (v := ?_) (a' := ?_) #[true, true, false, true, false, false, false, false] rfl rfl (take_ofW HT_.out HW_.out (by kernel_rfl)) (fun _ _ _ h => h) (Or.inl ⟨by rfl, ?_⟩) hHeld ?_ ?_
         rotate_left
         ·
          rintro w' ⟨s0, s1, s2, s3, s4, s5⟩
          go_simp
          with_reducible rfl
         rotate_left
         ·
          simp only [Act.put, lA, lB, lC, i64_w, i32_w]
          rfl
         refine take_ (i := 4) (N := some 37) (v := ?_) (a' := ?_) #[true, true, false, true, true, false, false, false] rfl rfl (take_ofW HT_.out HW_.out (by kernel_rfl)) (fun _ _ _ h => h) (Or.inl ⟨by rfl, ?_⟩) hHeld ?_ ?_
         rotate_left
         ·
          rintro w' ⟨s0, s1, s2, s3, s4, s5⟩
          go_simp
          with_reducible rfl
         rotate_left
         ·
          simp only [Act.put, lA, lB, lC, i64_w, i32_w]
          rfl
         refine one_ (i := 2) (N := some 35) #[true, true, true, true, true, false, false, false] rfl rfl (one_of HT_.out (by kernel_rfl)) (by decide) (fun K hK => ?_)
         refine goes_ Tryd.func55 (by kernel_rfl) rfl #[.int .i64 x247001_21] (by rfl) rfl rfl mS ?_
         with_reducible refine (gimbalref31_size.calls x247001_21 t256 _ A54.out).mono ?_
         rintro e w' ⟨rfl, ⟨nd, rfl⟩⟩
         refine ⟨_, rfl, ?_⟩
         refine hK.out _ _ ⟨cz0 BK246, cz1 BK246, cz2 BK246, cz0 BK247, cz1 BK247, cz2 BK247⟩ (fun hHeld => ?_)
         clear hK K
         refine norm_ (a' := ?_) ?_ ?_
         rotate_left
         ·
          show Act.put _ (some 35) _ = _
          simp only [Act.put, lA, lB, lC, i64_w, i32_w]
          rfl
         refine one_ (i := 5) (N := some 38) #[true, true, true, true, true, true, false, false] rfl rfl (one_of HT_.out (by kernel_rfl)) (by decide) (fun K hK => ?_)
         refine goes_ Tryd.func55 (by kernel_rfl) rfl #[.int .i64 x248001_21] (by rfl) rfl rfl mS ?_
         with_reducible refine (gimbalref31_size.calls x248001_21 t257 _ A55.out).mono ?_
         rintro e w' ⟨rfl, ⟨nd, rfl⟩⟩
         refine ⟨_, rfl, ?_⟩
         refine hK.out _ _ ⟨cz0 BK246, cz1 BK246, cz2 BK246, cz0 BK247, cz1 BK247, cz2 BK247⟩ (fun hHeld => ?_)
         clear hK K
         refine norm_ (a' := ?_) ?_ ?_
         rotate_left
         ·
          show Act.put _ (some 38) _ = _
          simp only [Act.put, lA, lB, lC, i64_w, i32_w]
          rfl
         refine one_ (i := 6) (N := some 39) #[true, true, true, true, true, true, true, false] rfl rfl (one_of HT_.out (by kernel_rfl)) (by decide) (fun K hK => ?_)
         refine goes_ Tryd.func80 (by kernel_rfl) rfl #[.int .u64 t256, .int .u64 t257] (by rfl) rfl rfl mS ?_
         with_reducible refine (gimbalref31_gcd.calls kj21 t256 t257 t258 _ A56.out).mono ?_
         rintro e w' ⟨rfl, ⟨nd, rfl⟩⟩
         refine ⟨_, rfl, ?_⟩
         refine hK.out _ _ ⟨cz0 BK246, cz1 BK246, cz2 BK246, cz0 BK247, cz1 BK247, cz2 BK247⟩ (fun hHeld => ?_)
         clear hK K
         refine norm_ (a' := ?_) ?_ ?_
         rotate_left
         ·
          show Act.put _ (some 39) _ = _
          simp only [Act.put, lA, lB, lC, i64_w, i32_w]
          rfl
         refine pure_ (i := 7) (N := some 5) (v := ?_) (a' := ?_) #[true, true, true, true, true, true, true, true] rfl rfl (any_of HT_.out (by kernel_rfl)) (fun _ _ _ h => h) (Or.inl ⟨by rfl, ?_⟩) ?_ ?_
         rotate_left
         ·
          intro w'
          go_simp
          with_reducible rfl
         rotate_left
         ·
          simp only [Act.put, lA, lB, lC, i64_w, i32_w]
          rfl
         refine done_ (done_of HT_.out (by kernel_rfl)) ?_
         have hnb94 := NB246_248.out
         have hnc94 := NB248_246.out
         have hcz95_0 := cz0 BK246
         have hcz95_1 := cz1 BK246
         have hcz95_2 := cz2 BK246
         have hfz95_0 := fz BK246 0
         have hfz95_1 := fz BK246 1
         have hfz95_2 := fz BK246 2
         have hcz96_0 := cz0 BK247
         have hcz96_1 := cz1 BK247
         have hcz96_2 := cz2 BK247
         have hfz96_0 := fz BK247 0
         have hfz96_1 := fz BK247 1
         have hfz96_2 := fz BK247 2
         try go_wp2_with (first | ((with_reducible refine gate_callee (f := 55) rfl ?_); refine goesL_ (some 45) rfl rfl Tryd.func55 (by kernel_rfl) rfl #[.int .i64 (wrap64 (x247002_21 - x248002_21))] rfl mS ?_; (with_reducible refine (gimbalref31_size.calls (wrap64 (x247002_21 - x248002_21)) t259 _ A57.out).mono ?_); rintro e w' ⟨rfl, ⟨nd, rfl⟩⟩; refine ⟨_, rfl, ?_⟩; (try (rw [drewN_self w93]; generalize hq_ : World.drewN w93 _ = w93; have n0_ : Aside0 (w93.heap[gb246]? = some (.cells #[.bool x247000_21, .int .i64 x247001_21, .int .i64 x247002_21] 23 (0, 0))) := ⟨by rw [← hq_]; exact (bkS BK246)⟩; have n1_ : Aside0 (w93.heap[gb247]? = some (.cells #[.bool x248000_21, .int .i64 x248001_21, .int .i64 x248002_21] 23 (0, 0))) := ⟨by rw [← hq_]; exact (bkS BK247)⟩; have n2_ : Aside0 (w93.heap[gb248]? = some (.cells #[.bool false, .int .i64 0, .int .i64 0] 23 (0, 0))) := ⟨by rw [← hq_]; exact (bkS BK248)⟩; have n3_ : Aside0 (Below w.heap.size w w93) := ⟨by rw [← hq_]; exact (bS HB)⟩; clear BK246 BK247 BK248 HB hq_; have BK246 := n0_; have BK247 := n1_; have BK248 := n2_; have HB := n3_; clear n0_ n1_ n2_ n3_))) | ((with_reducible refine gate_callee (f := 69) rfl ?_); refine goesL_ (some 49) rfl rfl Tryd.func69 (by kernel_rfl) rfl #[] rfl mS ?_; (with_reducible refine (gimbalref31_None.calls  t260 t261 t262 _ A89.out).mono ?_); rintro e w97 ⟨rfl, hb⟩; refine ⟨_, rfl, ?_⟩; replace BK246 := kB BK246 hb; replace BK247 := kB BK247 hb; replace BK248 := kB BK248 hb; replace HB := kW HB hb; (try clear hb); (try clear hb2); (try clear hk); (try clear hi); have hcz98_0 := cz0 BK248; have hcz98_1 := cz1 BK248; have hcz98_2 := cz2 BK248; have hfz98_0 := fz BK248 0; have hfz98_1 := fz BK248 1; have hfz98_2 := fz BK248 2))
         refine bodyPost_ret (results_cell_row rfl _ _ gb248 23 #[.bool t260, .int .i64 t261, .int .i64 t262] (0, 0) _ rfl (by (with_reducible repeat (first | refine b1 ?_ _ | refine b2 ?_ | refine b3 ?_ _)); refine blk_put (cs := #[.bool t260, .int .i64 t261, .int .i64 0]) ?_ 2 _ rfl; (with_reducible repeat (first | refine b1 ?_ _ | refine b2 ?_ | refine b3 ?_ _)); refine blk_put (cs := #[.bool t260, .int .i64 0, .int .i64 0]) ?_ 1 _ rfl; (with_reducible repeat (first | refine b1 ?_ _ | refine b2 ?_ | refine b3 ?_ _)); refine blk_put (cs := #[.bool false, .int .i64 0, .int .i64 0]) ?_ 0 _ rfl; (with_reducible repeat (first | refine b1 ?_ _ | refine b2 ?_ | refine b3 ?_ _)); exact BK248.out) Tryd.underlying23 rfl (by kernel_rfl)) rfl ?_
         exact ⟨eS, bS HB⟩

end Go.Proofs.YtfmmjekhknaniaaDoor.Pr

namespace Go.Proofs.YtfmmjekhknaniaaDoor.Core
open Go.RowKit Go.Proofs.YtfmmjekhknaniaaDoor.Pr Go.Proofs.YtfmmjekhknaniaaDoor.Given Go.Proofs.YtfmmjekhknaniaaDoorW.PrintWords

theorem wraps_u64 (n : Int) (h₀ : 0 ≤ n) (h₁ : n < 2 ^ 64) : IntKind.u64.wrap n = n := by rw [IntKind.wrap_u64]; omega
theorem mask32 {x : Int} (h₀ : 0 ≤ x) (h₁ : x ≤ 18446744073709551615) : Go.bits .and .u64 x 4294967295 = x % 4294967296 :=
  bits_mask .u64 64 (by decide) wraps_u64 32 (by decide) x h₀ (by omega)

theorem mul64_f {a b : Int} (ha : 0 ≤ a) (ha' : a ≤ 18446744073709551615) (hb : 0 ≤ b) (hb' : b ≤ 18446744073709551615) (h : a * b ≤ 18446744073709551615) :
    bits_Mul64.f a b = some (0, a * b) := by
  have hab := Int.mul_nonneg ha hb
  unfold bits_Mul64.f
  rw [mask32 ha ha', mask32 hb hb', u64_id (n := a * b) hab h]
  have ex : a = a / 4294967296 * 4294967296 + a % 4294967296 := by omega
  have ey : b = b / 4294967296 * 4294967296 + b % 4294967296 := by omega
  have p1 : 0 ≤ a / 4294967296 := by omega
  have p2 : 0 ≤ b / 4294967296 := by omega
  have p3 : 0 ≤ a % 4294967296 ∧ a % 4294967296 ≤ 4294967295 := by omega
  have p4 : 0 ≤ b % 4294967296 ∧ b % 4294967296 ≤ 4294967295 := by omega
  have p5 : a / 4294967296 ≤ 4294967295 := by omega
  have p6 : b / 4294967296 ≤ 4294967295 := by omega
  generalize a / 4294967296 = x1 at *
  generalize b / 4294967296 = y1 at *
  generalize a % 4294967296 = x0 at *
  generalize b % 4294967296 = y0 at *
  have hz : a * b = x1 * y1 * 18446744073709551616 + (x1 * y0 + x0 * y1) * 4294967296 + x0 * y0 := by rw [ex, ey]; grind
  have q11 := Int.mul_nonneg p1 p2
  have q10 := Int.mul_nonneg p1 p4.1
  have q01 := Int.mul_nonneg p3.1 p2
  have q00 := Int.mul_nonneg p3.1 p4.1
  have r00 : x0 * y0 ≤ 4294967295 * 4294967295 := Int.mul_le_mul p3.2 p4.2 p4.1 (by omega)
  generalize x1 * y1 = m11 at *
  generalize x1 * y0 = m10 at *
  generalize x0 * y1 = m01 at *
  generalize x0 * y0 = m00 at *
  rw [u64_id (n := m11) (by omega) (by omega), u64_id (n := m00) (by omega) (by omega), u64_id (n := m10) (by omega) (by omega), u64_id (n := m01) (by omega) (by omega)]
  rw [u64_id (n := m10 + m00 / 4294967296) (by omega) (by omega)]
  rw [mask32 (by omega) (by omega), u64_id (n := (m10 + m00 / 4294967296) % 4294967296 + m01) (by omega) (by omega)]
  rw [u64_id (n := m11 + (m10 + m00 / 4294967296) / 4294967296) (by omega) (by omega), u64_id (by omega) (by omega)]
  congr 2
  omega

theorem prod_le {x y : Int} (h0 : 0 ≤ x) (h1 : x ≤ 4294967295) (h2 : 0 ≤ y) (h3 : y ≤ 4294967295) : 0 ≤ x * y ∧ x * y ≤ 18446744065119617025 := by
  refine ⟨Int.mul_nonneg h0 h2, ?_⟩
  have := Int.mul_le_mul h1 h3 h2 (show (0 : Int) ≤ 4294967295 by omega)
  omega

/-- what holds at each step: X and Y are x and y without their signs, which are not the same. -/
structure Steps (n a x y r s X Y : Int) : Prop where
  n1 : 0 < n
  n2 : n ≤ 4294967295
  r0 : 0 ≤ r
  r1 : r ≤ 4294967295
  s0 : 0 ≤ s
  s1 : s ≤ 4294967295
  sg : (X = x ∧ Y = -y) ∨ (X = -x ∧ Y = y)
  X0 : 0 ≤ X
  X1 : X ≤ n
  Y0 : 0 ≤ Y
  Y1 : Y ≤ n
  sum : X * s + Y * r = n
  d1 : n ∣ x * a - r
  d2 : n ∣ y * a - s
  g : G r s = 1

theorem Steps.next {n a x y r s X Y : Int} (h : Steps n a x y r s X Y) (hs : s ≠ 0) :
    Steps n a y (x - r / s * y) s (r % s) Y (X + r / s * Y) ∧ 0 ≤ r / s ∧ r / s ≤ r ∧ r / s * Y ≤ n ∧ r - r / s * s = r % s := by
  have hs0 : 0 < s := by have := h.s0; omega
  have q0 : 0 ≤ r / s := Int.ediv_nonneg h.r0 h.s0
  have q1 : r / s ≤ r := Int.ediv_le_self _ h.r0
  have e := Int.mul_ediv_add_emod r s
  have m0 := Int.emod_nonneg r hs
  have m1 := Int.emod_lt_of_pos r hs0
  have qY := Int.mul_nonneg q0 h.Y0
  have er : r - r / s * s = r % s := by rw [Int.mul_comm]; omega
  have sum' : Y * (r % s) + (X + r / s * Y) * s = n := by
    rw [← er, ← h.sum]; grind
  have hY' : X + r / s * Y ≤ n := by
    have h1 : (X + r / s * Y) * 1 ≤ (X + r / s * Y) * s := Int.mul_le_mul_of_nonneg_left (by omega) (by have := h.X0; omega)
    have h2 := Int.mul_nonneg h.Y0 m0
    omega
  refine ⟨⟨h.n1, h.n2, h.s0, h.s1, m0, by have := h.s1; omega, ?_, h.Y0, h.Y1, by have := h.X0; omega, hY', sum', h.d2, ?_, ?_⟩, q0, q1, by have := h.X0; omega, er⟩
  · rcases h.sg with ⟨a1, a2⟩ | ⟨a1, a2⟩
    · right
      refine ⟨a2, ?_⟩
      rw [a1, a2, Int.mul_neg]; omega
    · left
      refine ⟨a2, ?_⟩
      rw [a1, a2]; omega
  · have := Int.dvd_sub h.d1 (Int.dvd_trans h.d2 (Int.dvd_mul_left (r / s) _))
    rwa [show x * a - r - r / s * (y * a - s) = (x - r / s * y) * a - r % s by rw [← er]; grind] at this
  · rw [G_step]; exact h.g

theorem inv_l0 : ∀ (m : Nat) (n a x y r s X Y : Int), Steps n a x y r s X Y → s ≤ m → ∃ z, n ∣ z * a - 1 ∧ ∀ k, congr_inverse.l0 (k + m + 1) n x y r s = some (z % n)
  | m, n, a, x, y, r, s, X, Y, h, hm => by
    have hn1 := h.n1
    have hn2 := h.n2
    have hX0 := h.X0
    have hX1 := h.X1
    have hsg := h.sg
    by_cases hs : s = 0
    · subst hs
      refine ⟨x, ?_, fun k => ?_⟩
      · have hg := h.g
        rw [G_zero _ h.r0] at hg
        have := h.d1
        rwa [hg] at this
      · simp only [congr_inverse.l0, if_true]
        rw [rest_f (by omega) (by omega) hn1 (by omega)]; rfl
    · obtain ⟨h', q0, q1, q2, er⟩ := h.next hs
      have hr0 := h.r0
      have hr1 := h.r1
      have hs0 := h.s0
      have hs1 := h.s1
      have hY1 := h.Y1
      have hY0 := h.Y0
      obtain ⟨m, rfl⟩ : ∃ j, m = j + 1 := ⟨m - 1, by omega⟩
      have es := Int.emod_lt_of_pos r (show 0 < s by omega)
      have es' := Int.emod_nonneg r hs
      obtain ⟨z, hz, hk⟩ := inv_l0 m n a y (x - r / s * y) s (r % s) Y (X + r / s * Y) h' (by omega)
      refine ⟨z, hz, fun k => ?_⟩
      have e0 : congr_inverse.l0 (k + (m + 1) + 1) n x y r s = if s = 0 then ((congr_rest.f x n).bind fun t => some t) else (congr_inverse.l0 (k + m + 1) n y (wrap64 (x - (wrap64 ((wrap64 (Int.tdiv r s)) * y)))) s (wrap64 (r - (wrap64 ((wrap64 (Int.tdiv r s)) * s))))) := rfl
      have eq : -n ≤ r / s * y ∧ r / s * y ≤ n := by
        have q3 := Int.mul_nonneg q0 hY0
        rcases hsg with ⟨_, a2⟩ | ⟨_, a2⟩
        · rw [a2, Int.mul_neg] at q2 q3
          omega
        · rw [a2] at q2 q3
          omega
      rw [e0, if_neg hs, Int.tdiv_eq_ediv_of_nonneg hr0, w64_id (n := r / s) (by omega) (by omega), w64_id (n := r / s * y) (by omega) (by omega), w64_id (n := x - r / s * y) (by omega) (by omega), w64_id (n := r / s * s) (by omega) (by omega), er, w64_id (n := r % s) (by omega) (by omega)]
      exact hk k
  termination_by m => m

theorem rinv_l0 : ∀ (m : Nat) (n a x y r s X Y : Int), Steps n a x y r s X Y → s ≤ m → ∃ z, n ∣ z * a - 1 ∧ 0 ≤ z ∧ z ≤ n ∧ ∀ k, gimbalref31_inverse.l0 (k + m + 1) n r s x y = some z
  | m, n, a, x, y, r, s, X, Y, h, hm => by
    have hn1 := h.n1
    have hn2 := h.n2
    have hX0 := h.X0
    have hX1 := h.X1
    have hsg := h.sg
    by_cases hs : s = 0
    · subst hs
      have hg := h.g
      rw [G_zero _ h.r0] at hg
      have hd := h.d1
      rw [hg] at hd
      by_cases hx : x < 0
      · refine ⟨x + n, ?_, by omega, by omega, fun k => ?_⟩
        · have := Int.dvd_add hd (Int.dvd_mul_right n a)
          rwa [show x * a - 1 + n * a = (x + n) * a - 1 by grind] at this
        · simp only [gimbalref31_inverse.l0, if_true]
          rw [if_pos hx, w64_id (n := n) (by omega) (by omega), w64_id (by omega) (by omega), u64_id (by omega) (by omega)]
      · refine ⟨x, hd, by omega, by omega, fun k => ?_⟩
        simp only [gimbalref31_inverse.l0, if_true]
        rw [if_neg hx, u64_id (by omega) (by omega)]
    · obtain ⟨h', q0, q1, q2, er⟩ := h.next hs
      have hr0 := h.r0
      have hr1 := h.r1
      have hs0 := h.s0
      have hs1 := h.s1
      have hY1 := h.Y1
      have hY0 := h.Y0
      obtain ⟨m, rfl⟩ : ∃ j, m = j + 1 := ⟨m - 1, by omega⟩
      have es := Int.emod_lt_of_pos r (show 0 < s by omega)
      have es' := Int.emod_nonneg r hs
      obtain ⟨z, hz, hz0, hz1, hk⟩ := rinv_l0 m n a y (x - r / s * y) s (r % s) Y (X + r / s * Y) h' (by omega)
      refine ⟨z, hz, hz0, hz1, fun k => ?_⟩
      have e0 : gimbalref31_inverse.l0 (k + (m + 1) + 1) n r s x y = if s = 0 then (if x < 0 then (some (IntKind.u64.wrap (wrap64 (x + (wrap64 n))))) else (some (IntKind.u64.wrap x))) else (gimbalref31_inverse.l0 (k + m + 1) n s (wrap64 (r - (wrap64 ((wrap64 (Int.tdiv r s)) * s)))) y (wrap64 (x - (wrap64 ((wrap64 (Int.tdiv r s)) * y))))) := rfl
      have eq : -n ≤ r / s * y ∧ r / s * y ≤ n := by
        have q3 := Int.mul_nonneg q0 hY0
        rcases hsg with ⟨_, a2⟩ | ⟨_, a2⟩
        · rw [a2, Int.mul_neg] at q2 q3
          omega
        · rw [a2] at q2 q3
          omega
      rw [e0, if_neg hs, Int.tdiv_eq_ediv_of_nonneg hr0, w64_id (n := r / s) (by omega) (by omega), w64_id (n := r / s * y) (by omega) (by omega), w64_id (n := x - r / s * y) (by omega) (by omega), w64_id (n := r / s * s) (by omega) (by omega), er, w64_id (n := r % s) (by omega) (by omega)]
      exact hk k
  termination_by m => m

theorem inverse_f {a n : Int} (h0 : 0 ≤ a) (h1 : a < n) (h2 : n ≤ 4294967295) (hg : G a n = 1) : ∃ z, n ∣ z * a - 1 ∧ Ev (fun k => congr_inverse.f k a n) (z % n) := by
  have st : Steps n a 1 0 a n 1 0 := ⟨by omega, h2, h0, by omega, by omega, h2, Or.inl ⟨rfl, rfl⟩, by omega, by omega, by omega, by omega, by omega, by simp, by simp, hg⟩
  obtain ⟨z, hz, hk⟩ := inv_l0 n.toNat n a 1 0 a n 1 0 st (by omega)
  refine ⟨z, hz, ev_of (n.toNat + 1) fun k => ?_⟩
  show congr_inverse.l0 (k + n.toNat + 1) n 1 0 (wrap64 a) (wrap64 n) = _
  rw [w64_id (by omega) (by omega), w64_id (by omega) (by omega)]
  exact hk k

theorem G_comm (a b : Int) : G a b = G b a := by unfold G; rw [Int.gcd_comm]

theorem rinverse_f {a n : Int} (h0 : 0 ≤ a) (h1 : a < n) (h2 : n ≤ 4294967295) (hg : G a n = 1) : ∃ z, n ∣ z * a - 1 ∧ 0 ≤ z ∧ z ≤ n ∧ Ev (fun k => gimbalref31_inverse.f k a n) z := by
  have st : Steps n a 0 1 n a 0 1 := ⟨by omega, h2, by omega, h2, h0, by omega, Or.inr ⟨rfl, rfl⟩, by omega, by omega, by omega, by omega, by omega, by simp, by simp, by rw [G_comm]; exact hg⟩
  obtain ⟨z, hz, hz0, hz1, hk⟩ := rinv_l0 a.toNat n a 0 1 n a 0 1 st (by omega)
  refine ⟨z, hz, hz0, hz1, ev_of (a.toNat + 1) fun k => ?_⟩
  show gimbalref31_inverse.l0 (k + a.toNat + 1) n (wrap64 n) (wrap64 a) 0 1 = _
  rw [w64_id (by omega) (by omega), w64_id (by omega) (by omega)]
  exact hk k

theorem cop {m n d m' n' : Int} (hd : d = G m n) (hd0 : 0 < d) (hm : m = d * m') (hn : n = d * n') : G m' n' = 1 := by
  have h1 : d * G m' n' ∣ d := by
    rw (occs := [2]) [hd]
    rw [dvd_G]
    exact ⟨by rw [hm]; exact Int.mul_dvd_mul_left d (G_dvd_l _ _), by rw [hn]; exact Int.mul_dvd_mul_left d (G_dvd_r _ _)⟩
  have h2 : G m' n' ∣ 1 := by
    obtain ⟨q, hq⟩ := h1
    refine ⟨q, ?_⟩
    have : d * 1 = d * (G m' n' * q) := by rw [← Int.mul_assoc]; omega
    exact Int.eq_of_mul_eq_mul_left (by omega) this
  have h3 := Int.le_of_dvd (by omega) h2
  have h4 := G_nonneg m' n'
  have h5 : G m' n' ≠ 0 := fun e => by rw [e, Int.zero_dvd] at h2; omega
  omega

theorem dvd_of_cop {n m u : Int} (h : n ∣ m * u) (hg : G m n = 1) : n ∣ u := by
  rw [← Int.natAbs_dvd_natAbs] at h ⊢
  rw [Int.natAbs_mul] at h
  have hc : Nat.Coprime n.natAbs m.natAbs := by
    unfold G Int.gcd at hg
    rw [Nat.Coprime, Nat.gcd_comm]; omega
  exact hc.dvd_of_dvd_mul_left h

/-- a number of both: of both just the numbers that are its least common multiple apart. -/
theorem meet_norm {a b : Cg} (na : a.1 = false) (nb : b.1 = false) {d m' n' v : Int} (ha : 0 < a.2.1) (hb : 0 < b.2.1) (hd : d = G a.2.1 b.2.1) (hm : a.2.1 = d * m') (hn : b.2.1 = d * n')
    (h1 : a.2.1 ∣ v - a.2.2) (h2 : b.2.1 ∣ v - b.2.2) : IsMeet a b (norm (a.2.1 * n') v) := by
  have hd0 : 0 < d := by
    have := G_nonneg a.2.1 b.2.1
    have : d ≠ 0 := fun e => by rw [e] at hm; omega
    omega
  have hn0 : 0 ≤ n' := by
    by_cases h : 0 ≤ n'
    · exact h
    · have := Int.mul_neg_of_pos_of_neg hd0 (show n' < 0 by omega); omega
  have hg := cop hd hd0 hm hn
  have hL : 0 ≤ a.2.1 * n' := Int.mul_nonneg (by omega) hn0
  refine ⟨fit_norm hL, fun x => ?_⟩
  rw [mem_norm hL]
  unfold Mem
  constructor
  · rintro ⟨i, h⟩
    have e : b.2.1 * m' = a.2.1 * n' := by rw [hn, hm]; grind
    refine ⟨⟨na, i, dvd_sub_trans (Int.dvd_trans (Int.dvd_mul_right _ _) h) h1⟩, ⟨nb, i, dvd_sub_trans (Int.dvd_trans ?_ h) h2⟩⟩
    rw [← e]; exact Int.dvd_mul_right _ _
  · rintro ⟨⟨_, i, k1⟩, ⟨_, _, k2⟩⟩
    refine ⟨i, ?_⟩
    have w1 := dvd_sub_trans k1 (dvd_sub_comm' h1)
    have w2 := dvd_sub_trans k2 (dvd_sub_comm' h2)
    obtain ⟨u, hu⟩ := w1
    rw [hu] at w2 ⊢
    refine Int.mul_dvd_mul_left _ ?_
    rw [hn, hm, Int.mul_assoc] at w2
    have w3 : n' ∣ m' * u := Int.dvd_of_mul_dvd_mul_left (by omega) w2
    exact dvd_of_cop w3 hg

theorem meet_none {a b : Cg} (h : ∀ x, ¬ (a.2.1 ∣ x - a.2.2 ∧ b.2.1 ∣ x - b.2.2)) : IsMeet a b (true, 0, 0) :=
  ⟨fit_none, fun x => ⟨(fun hx => by cases hx.1), fun ⟨h1, h2⟩ => absurd ⟨h1.2.2, h2.2.2⟩ (h x)⟩⟩
theorem meet_none_l {a b : Cg} (h : a.1 = true ∨ b.1 = true) : IsMeet a b (true, 0, 0) :=
  ⟨fit_none, fun x => ⟨(fun hx => by cases hx.1), fun ⟨h1, h2⟩ => by
    rcases h with h | h
    · rw [h1.1] at h; cases h
    · rw [h2.1] at h; cases h⟩⟩
theorem meet_const {a b : Cg} (ha : Fit a) (h0 : a.2.1 = 0) : IsMeet a b (if memB b a.2.2 = true then a else (true, 0, 0)) := by
  have hr := fit_rem ha
  have only : ∀ x, Mem a x → x = a.2.2 := fun x hx => by
    have := hx.2.2
    rw [h0, Int.zero_dvd] at this
    omega
  by_cases h : memB b a.2.2 = true
  · rw [if_pos h]
    refine ⟨ha, fun x => ⟨fun hx => ⟨hx, ?_⟩, fun hx => hx.1⟩⟩
    rw [only x hx]; exact memB_iff.mp h
  · rw [if_neg h]
    refine ⟨fit_none, fun x => ⟨(fun hx => by cases hx.1), fun ⟨h1, h2⟩ => ?_⟩⟩
    rw [only x h1] at h2
    exact absurd (memB_iff.mpr h2) h

/-- the number that the steps find. -/
theorem found {m n d m' n' ra rb e k z : Int} (hm : m = d * m') (hn : n = d * n') (he : rb - ra = d * e) (hz : n' ∣ z * (m' % n') - 1) (hk : n' ∣ k - e * z) : n ∣ m * k + ra - rb := by
  have h1 : n' ∣ m' * k - e := by
    obtain ⟨p, hp⟩ := hk
    obtain ⟨q, hq⟩ := hz
    obtain ⟨t, ht⟩ := emod_dvd_sub n' m'
    have ek : k = n' * p + e * z := by omega
    have em : m' % n' = m' - n' * t := by omega
    rw [em] at hq
    refine ⟨m' * p + e * q + e * z * t, ?_⟩
    have : e * (z * (m' - n' * t) - 1) = e * (n' * q) := by rw [hq]
    rw [ek]; grind
  obtain ⟨u, hu⟩ := h1
  refine ⟨u, ?_⟩
  rw [hm, hn]
  have : d * (m' * k - e) = d * (n' * u) := by rw [hu]
  grind

theorem apart_none {a b : Cg} (h : ¬ G a.2.1 b.2.1 ∣ a.2.2 - b.2.2) : ∀ x, ¬ (a.2.1 ∣ x - a.2.2 ∧ b.2.1 ∣ x - b.2.2) := fun _ ⟨h1, h2⟩ =>
  h (dvd_sub_trans (dvd_sub_comm' (Int.dvd_trans (G_dvd_l _ _) h1)) (Int.dvd_trans (G_dvd_r _ _) h2))

theorem Meet_f {a b : Cg} (ha : Fit a) (hb : Fit b) : ∃ r, IsMeet a b r ∧ Ev (fun k => congr_Meet.f k a.1 a.2.1 a.2.2 b.1 b.2.1 b.2.2) r := by
  have ma := fit_mod ha
  have mb := fit_mod hb
  have fa := fit_rem ha
  have fb := fit_rem hb
  by_cases h1 : a.1 = true
  · refine ⟨_, meet_none_l (Or.inl h1), ev_of 9 fun k => ?_⟩
    simp [congr_Meet.f, congr_Meet.j0, congr_none.f, h1]
  by_cases h2 : b.1 = true
  · refine ⟨_, meet_none_l (Or.inr h2), ev_of 9 fun k => ?_⟩
    simp [congr_Meet.f, congr_Meet.j0, congr_none.f, h1, h2]
  have na := bfalse h1
  have nb := bfalse h2
  by_cases h3 : a.2.1 = 0
  · refine ⟨_, meet_const ha h3, ev_of 12 fun k => ?_⟩
    simp only [congr_Meet.f, congr_Meet.j0, congr_Meet.j1, congr_Meet.j2]
    rw [if_neg h1, if_neg h2, if_pos h3, if_pos trivial, if_pos h3, Has_f hb (by unfold I64; omega)]
    simp only [Option.bind_some]
    split <;> rfl
  by_cases h4 : b.2.1 = 0
  · refine ⟨_, (meet_const hb h4).comm, ev_of 12 fun k => ?_⟩
    simp only [congr_Meet.f, congr_Meet.j0, congr_Meet.j1, congr_Meet.j2]
    rw [if_neg h1, if_neg h2, if_neg h3, show (b.2.1 == 0) = true by simp [h4], if_pos rfl, if_neg h3, Has_f ha (by unfold I64; omega)]
    simp only [Option.bind_some]
    split <;> rfl
  have a0 : 0 < a.2.1 := by omega
  have b0 : 0 < b.2.1 := by omega
  obtain ⟨K, hK⟩ := gcd_f (a := a.2.1) (b := b.2.1) (by omega) (by omega)
  have hd0 : 0 < G a.2.1 b.2.1 := by
    have := G_nonneg a.2.1 b.2.1
    have : G a.2.1 b.2.1 ≠ 0 := fun e => by have h := G_dvd_l a.2.1 b.2.1; rw [e, Int.zero_dvd] at h; omega
    omega
  obtain ⟨m', hm⟩ := G_dvd_l a.2.1 b.2.1
  obtain ⟨n', hn⟩ := G_dvd_r a.2.1 b.2.1
  have hdle : G a.2.1 b.2.1 ≤ 4294967295 := G_le (by omega) (by omega) (by omega) (by omega)
  have hdd := @rfl _ (G a.2.1 b.2.1)
  have hcop := cop (m' := m') (n' := n') hdd hd0 hm hn
  have hap := apart_none (a := a) (b := b)
  have hmn := fun (v : Int) (k1 : a.2.1 ∣ v - a.2.2) (k2 : b.2.1 ∣ v - b.2.2) => meet_norm na nb a0 b0 hdd hm hn k1 k2
  clear hdd
  dsimp only at hK
  -- the part that both ways share
  have pre : ∀ j, K + 12 ≤ j → congr_Meet.f j a.1 a.2.1 a.2.2 b.1 b.2.1 b.2.2 = congr_Meet.j1 (j - 1) false a.1 a.2.1 a.2.2 b.1 b.2.1 b.2.2 := fun j hj => by
    obtain ⟨i, rfl⟩ : ∃ i, j = i + 1 := ⟨j - 1, by omega⟩
    simp only [congr_Meet.f, congr_Meet.j0]
    rw [if_neg h1, if_neg h2, if_neg h3, show (b.2.1 == 0) = false by simp [h4]]; rfl
  generalize hdG : G a.2.1 b.2.1 = d at *
  have m0 : 0 < m' := by
    rcases Int.lt_trichotomy m' 0 with h | h | h
    · have := Int.mul_neg_of_pos_of_neg hd0 h; omega
    · rw [h] at hm; omega
    · exact h
  have n0 : 0 < n' := by
    rcases Int.lt_trichotomy n' 0 with h | h | h
    · have := Int.mul_neg_of_pos_of_neg hd0 h; omega
    · rw [h] at hn; omega
    · exact h
  have m1 : m' ≤ a.2.1 := by
    have : 1 * m' ≤ d * m' := Int.mul_le_mul_of_nonneg_right (by omega) (by omega)
    omega
  have n1 : n' ≤ b.2.1 := by
    have : 1 * n' ≤ d * n' := Int.mul_le_mul_of_nonneg_right (by omega) (by omega)
    omega
  have qm : a.2.1.tdiv d = m' := by rw [hm, Int.mul_tdiv_cancel_left _ (by omega)]
  have qn : b.2.1.tdiv d = n' := by rw [hn, Int.mul_tdiv_cancel_left _ (by omega)]
  have pL := prod_le (x := a.2.1) (y := n') (by omega) (by omega) (by omega) (by omega)
  have tm : Int.tmod (ab (a.2.2 - b.2.2)) d = ab (a.2.2 - b.2.2) % d := Int.tmod_eq_emod_of_nonneg (ab_nonneg _)
  by_cases h5 : d ∣ a.2.2 - b.2.2
  · obtain ⟨e, he⟩ := dvd_sub_comm' h5
    have qe : (b.2.2 - a.2.2).tdiv d = e := by rw [he, Int.mul_tdiv_cancel_left _ (by omega)]
    have er := tdiv_range (x := b.2.2 - a.2.2) (d := d) (m := 9223372036854775807) (by omega) (by omega)
    rw [qe] at er
    have t0 : ab (a.2.2 - b.2.2) % d = 0 := emod_zero_iff.mpr (dvd_ab.mpr h5)
    by_cases h6 : n' > 1
    · have mm0 := Int.emod_nonneg m' (show n' ≠ 0 by omega)
      have mm1 := Int.emod_lt_of_pos m' n0
      obtain ⟨z, hz, L, hL⟩ := inverse_f mm0 mm1 (by omega) (by rw [G_comm, G_step, hcop])
      dsimp only at hL
      have z0 := Int.emod_nonneg z (show n' ≠ 0 by omega)
      have z1 := Int.emod_lt_of_pos z n0
      have e0 := Int.emod_nonneg e (show n' ≠ 0 by omega)
      have e1 := Int.emod_lt_of_pos e n0
      have pz := prod_le (x := e % n') (y := z % n') e0 (by omega) z0 (by omega)
      have k0 := Int.emod_nonneg (e % n' * (z % n')) (show n' ≠ 0 by omega)
      have k1 := Int.emod_lt_of_pos (e % n' * (z % n')) n0
      have kd := emod_dvd_sub n' (e % n' * (z % n'))
      generalize hk : e % n' * (z % n') % n' = k at *
      have pk : a.2.1 * k + a.2.1 ≤ a.2.1 * n' := by
        have : a.2.1 * (k + 1) ≤ a.2.1 * n' := Int.mul_le_mul_of_nonneg_left (by omega) (by omega)
        rw [Int.mul_add] at this; omega
      have pk0 := Int.mul_nonneg (show 0 ≤ a.2.1 by omega) k0
      have kez : n' ∣ k - e * z := by
        obtain ⟨p, hp⟩ := emod_dvd_sub n' e
        obtain ⟨q, hq⟩ := emod_dvd_sub n' z
        obtain ⟨t, ht⟩ := kd
        refine ⟨-t - e * q - z * p + n' * p * q, ?_⟩
        have ee : e % n' = e - n' * p := by omega
        have ez : z % n' = z - n' * q := by omega
        rw [ee, ez] at ht
        grind
      refine ⟨norm (a.2.1 * n') (a.2.1 * k + a.2.2), hmn _ ?_ (found hm hn he hz kez), K + L + 20, fun j hj => ?_⟩
      · rw [show a.2.1 * k + a.2.2 - a.2.2 = a.2.1 * k by omega]; exact Int.dvd_mul_right _ _
      dsimp only
      rw [pre j (by omega)]
      obtain ⟨i, rfl⟩ : ∃ i, j = i + 3 := ⟨j - 3, by omega⟩
      show congr_Meet.j1 (i + 1 + 1) _ _ _ _ _ _ _ = _
      simp only [congr_Meet.j1, Bool.false_eq_true, if_false]
      rw [u64_id (n := a.2.1) (by omega) (by omega), u64_id (n := b.2.1) (by omega) (by omega), hK _ (by omega)]
      simp only [Option.bind_some]
      rw [w64_id (n := a.2.2 - b.2.2) (by omega) (by omega), w64_id (n := b.2.2 - a.2.2) (by omega) (by omega), w64_id (n := d) (by omega) (by omega), size_f (by omega) (by omega)]
      simp only [Option.bind_some]
      rw [if_neg (show ¬ d = 0 by omega), tm, if_pos t0, qn, qm, u64_id (n := n') (by omega) (by omega), u64_id (n := m') (by omega) (by omega), if_pos h6, if_neg (show ¬ d = 0 by omega), qe, w64_id (n := e) (by omega) (by omega), rest_f (by omega) (by omega) n0 (by omega)]
      simp only [Option.bind_some]
      rw [if_neg (show ¬ n' = 0 by omega), Int.tmod_eq_emod_of_nonneg (show 0 ≤ m' by omega), hL _ (by omega)]
      simp only [Option.bind_some]
      rw [mul64_f e0 (by omega) z0 (by omega) (by omega)]
      simp only [Option.bind_some]
      rw [show congr_words_rest.f 0 (e % n' * (z % n')) n' = some k by unfold congr_words_rest.f; rw [if_pos (by omega), hk]]
      simp only [Option.bind_some]
      rw [u64_id (n := a.2.1 * n') (by omega) (by omega), u64_id (n := a.2.1 * k) (by omega) (by omega), u64_id (n := a.2.2) (by omega) (by omega), u64_id (n := a.2.1 * k + a.2.2) (by omega) (by omega),
        of_f (by omega) (by omega) (by omega) (by omega)]; rfl
    · have hn1 : n' = 1 := by omega
      subst hn1
      refine ⟨norm (a.2.1 * 1) (a.2.1 * 0 + a.2.2), hmn _ ?_ (found hm hn he (z := 0) (by exact Int.one_dvd _) (Int.one_dvd _)), K + 20, fun j hj => ?_⟩
      · rw [show a.2.1 * 0 + a.2.2 - a.2.2 = 0 by omega]; exact Int.dvd_zero _
      dsimp only
      rw [pre j (by omega)]
      obtain ⟨i, rfl⟩ : ∃ i, j = i + 3 := ⟨j - 3, by omega⟩
      show congr_Meet.j1 (i + 1 + 1) _ _ _ _ _ _ _ = _
      simp only [congr_Meet.j1, Bool.false_eq_true, if_false]
      rw [u64_id (n := a.2.1) (by omega) (by omega), u64_id (n := b.2.1) (by omega) (by omega), hK _ (by omega)]
      simp only [Option.bind_some]
      rw [w64_id (n := a.2.2 - b.2.2) (by omega) (by omega), size_f (by omega) (by omega)]
      simp only [Option.bind_some]
      rw [if_neg (show ¬ d = 0 by omega), tm, if_pos t0, qn, u64_id (n := 1) (by omega) (by omega), if_neg h6]
      rw [u64_id (n := a.2.1 * 1) (by omega) (by omega), u64_id (n := a.2.1 * 0) (by omega) (by omega), u64_id (n := a.2.2) (by omega) (by omega), u64_id (n := a.2.1 * 0 + a.2.2) (by omega) (by omega),
        of_f (by omega) (by omega) (by omega) (by omega)]; rfl
  · refine ⟨_, meet_none (hap h5), K + 20, fun j hj => ?_⟩
    dsimp only
    rw [pre j (by omega)]
    obtain ⟨i, rfl⟩ : ∃ i, j = i + 3 := ⟨j - 3, by omega⟩
    show congr_Meet.j1 (i + 1 + 1) _ _ _ _ _ _ _ = _
    simp only [congr_Meet.j1, Bool.false_eq_true, if_false]
    rw [u64_id (n := a.2.1) (by omega) (by omega), u64_id (n := b.2.1) (by omega) (by omega), hK _ (by omega)]
    simp only [Option.bind_some]
    rw [w64_id (n := a.2.2 - b.2.2) (by omega) (by omega), size_f (by omega) (by omega)]
    simp only [Option.bind_some]
    rw [if_neg (show ¬ d = 0 by omega), tm, if_neg (fun e => h5 (dvd_ab.mp (emod_zero_iff.mp e)))]; rfl

theorem tmod_fix {e n : Int} (hn : 0 < n) : (if Int.tmod e n < 0 then Int.tmod e n + n else Int.tmod e n) = e % n := by
  have hd := tmod_dvd (g := n) (x := e) (Int.dvd_refl n)
  have h1 : (Int.tmod e n).natAbs < n.natAbs := by rw [Int.natAbs_tmod]; exact Nat.mod_lt _ (by omega)
  symm
  by_cases h : Int.tmod e n < 0
  · rw [if_pos h]
    refine emod_unique (by omega) (by omega) ?_
    have := Int.dvd_sub (dvd_sub_comm' hd) (Int.dvd_refl n)
    rwa [show e - e.tmod n - n = e - (e.tmod n + n) by omega] at this
  · rw [if_neg h]
    exact emod_unique (by omega) (by omega) (dvd_sub_comm' hd)

theorem rMeet_j1 {a b : Cg} (ha : Fit a) (hb : Fit b) (na : a.1 = false) (nb : b.1 = false) (hle : b.2.1 ≤ a.2.1) :
    ∃ r, IsMeet a b r ∧ Ev (fun k => gimbalref31_Meet.j1 k a.1 a.2.1 a.2.2 b.1 b.2.1 b.2.2) r := by
  have ma := fit_mod ha
  have mb := fit_mod hb
  have fa := fit_rem ha
  have fb := fit_rem hb
  by_cases h4 : b.2.1 = 0
  · refine ⟨_, (meet_const hb h4).comm, ev_of 9 fun k => ?_⟩
    simp only [gimbalref31_Meet.j1]
    rw [if_pos h4, rHas_f ha (by unfold I64; omega)]
    simp only [Option.bind_some]
    split <;> rfl
  have b0 : 0 < b.2.1 := by omega
  have a0 : 0 < a.2.1 := by omega
  obtain ⟨K, hK⟩ := rgcd_f (a := a.2.1) (b := b.2.1) (by omega) (by omega)
  have hd0 : 0 < G a.2.1 b.2.1 := by
    have := G_nonneg a.2.1 b.2.1
    have : G a.2.1 b.2.1 ≠ 0 := fun e => by have h := G_dvd_l a.2.1 b.2.1; rw [e, Int.zero_dvd] at h; omega
    omega
  obtain ⟨m', hm⟩ := G_dvd_l a.2.1 b.2.1
  obtain ⟨n', hn⟩ := G_dvd_r a.2.1 b.2.1
  have hdle : G a.2.1 b.2.1 ≤ 4294967295 := G_le (by omega) (by omega) (by omega) (by omega)
  have hdd := @rfl _ (G a.2.1 b.2.1)
  have hcop := cop (m' := m') (n' := n') hdd hd0 hm hn
  have hap := apart_none (a := a) (b := b)
  have hmn := fun (v : Int) (k1 : a.2.1 ∣ v - a.2.2) (k2 : b.2.1 ∣ v - b.2.2) => meet_norm na nb a0 b0 hdd hm hn k1 k2
  clear hdd
  dsimp only at hK
  generalize hdG : G a.2.1 b.2.1 = d at *
  have m0 : 0 < m' := by
    rcases Int.lt_trichotomy m' 0 with h | h | h
    · have := Int.mul_neg_of_pos_of_neg hd0 h; omega
    · rw [h] at hm; omega
    · exact h
  have n0 : 0 < n' := by
    rcases Int.lt_trichotomy n' 0 with h | h | h
    · have := Int.mul_neg_of_pos_of_neg hd0 h; omega
    · rw [h] at hn; omega
    · exact h
  have m1 : m' ≤ a.2.1 := by
    have : 1 * m' ≤ d * m' := Int.mul_le_mul_of_nonneg_right (by omega) (by omega)
    omega
  have n1 : n' ≤ b.2.1 := by
    have : 1 * n' ≤ d * n' := Int.mul_le_mul_of_nonneg_right (by omega) (by omega)
    omega
  have qm : a.2.1.tdiv d = m' := by rw [hm, Int.mul_tdiv_cancel_left _ (by omega)]
  have qn : b.2.1.tdiv d = n' := by rw [hn, Int.mul_tdiv_cancel_left _ (by omega)]
  have pL := prod_le (x := a.2.1) (y := n') (by omega) (by omega) (by omega) (by omega)
  have eL : m' * b.2.1 = a.2.1 * n' := by rw [hn, hm]; grind
  have tm : Int.tmod (ab (a.2.2 - b.2.2)) d = ab (a.2.2 - b.2.2) % d := Int.tmod_eq_emod_of_nonneg (ab_nonneg _)
  -- from the number of steps on
  have fin : ∀ (t : Int) (j : Nat), 0 ≤ t → a.2.1 * t + a.2.1 ≤ a.2.1 * n' → gimbalref31_Meet.j3 (j + 9) d t a.1 a.2.1 a.2.2 b.1 b.2.1 b.2.2 = some (norm (a.2.1 * n') (a.2.1 * t + a.2.2)) := fun t j ht hle => by
    have pk0 := Int.mul_nonneg (show 0 ≤ a.2.1 by omega) ht
    simp only [gimbalref31_Meet.j3]
    rw [rsize_f (x := a.2.1) (by omega) (by omega), rsize_f (x := b.2.1) (by omega) (by omega), rsize_f (x := a.2.2) (by omega) (by omega), ab_of_nonneg (x := a.2.1) (by omega), ab_of_nonneg (x := b.2.1) (by omega), ab_of_nonneg (x := a.2.2) (by omega)]
    simp only [Option.bind_some]
    rw [if_neg (show ¬ d = 0 by omega), qm, u64_id (n := m') (by omega) (by omega), eL, u64_id (n := a.2.1 * n') (by omega) (by omega), u64_id (n := a.2.1 * t) (by omega) (by omega), u64_id (n := a.2.2 + a.2.1 * t) (by omega) (by omega),
      class_f false (by omega) (by omega) (by omega) (by omega), Int.add_comm]
    simp
  by_cases h5 : d ∣ a.2.2 - b.2.2
  · obtain ⟨e, he⟩ := dvd_sub_comm' h5
    have qe : (b.2.2 - a.2.2).tdiv d = e := by rw [he, Int.mul_tdiv_cancel_left _ (by omega)]
    have er := tdiv_range (x := b.2.2 - a.2.2) (d := d) (m := 9223372036854775807) (by omega) (by omega)
    rw [qe] at er
    have t0 : ab (a.2.2 - b.2.2) % d = 0 := emod_zero_iff.mpr (dvd_ab.mpr h5)
    have e0 := Int.emod_nonneg e (show n' ≠ 0 by omega)
    have e1 := Int.emod_lt_of_pos e n0
    have mm0 := Int.emod_nonneg m' (show n' ≠ 0 by omega)
    have mm1 := Int.emod_lt_of_pos m' n0
    -- as far as the number that is wanted
    have want : ∀ j, K ≤ j → gimbalref31_Meet.j1 (j + 1) a.1 a.2.1 a.2.2 b.1 b.2.1 b.2.2 = gimbalref31_Meet.j2 j d n' (m' % n') (e % n') a.1 a.2.1 a.2.2 b.1 b.2.1 b.2.2 := fun j hj => by
      simp only [gimbalref31_Meet.j1]
      rw [if_neg h4, rsize_f (x := a.2.1) (by omega) (by omega), rsize_f (x := b.2.1) (by omega) (by omega), ab_of_nonneg (x := a.2.1) (by omega), ab_of_nonneg (x := b.2.1) (by omega)]
      simp only [Option.bind_some]
      rw [hK _ hj]
      simp only [Option.bind_some]
      rw [w64_id (n := a.2.2 - b.2.2) (by omega) (by omega), w64_id (n := b.2.2 - a.2.2) (by omega) (by omega), w64_id (n := d) (by omega) (by omega), rsize_f (by omega) (by omega)]
      simp only [Option.bind_some]
      rw [if_neg (show ¬ d = 0 by omega), tm, if_pos t0, qn, qm, u64_id (n := n') (by omega) (by omega), u64_id (n := m') (by omega) (by omega), w64_id (n := n') (by omega) (by omega), if_neg (show ¬ n' = 0 by omega), if_neg (show ¬ d = 0 by omega), if_neg (show ¬ n' = 0 by omega), qe, w64_id (n := e) (by omega) (by omega),
        Int.tmod_eq_emod_of_nonneg (show 0 ≤ m' by omega)]
      have f := tmod_fix (e := e) n0
      by_cases hw : Int.tmod e n' < 0
      · rw [if_pos hw] at f ⊢
        rw [f, w64_id (by omega) (by omega)]
      · rw [if_neg hw] at f ⊢
        rw [f]
    by_cases h6 : n' > 1
    · obtain ⟨z, hz, z0, z1, L, hL⟩ := rinverse_f mm0 mm1 (by omega) (by rw [G_comm, G_step, hcop])
      dsimp only at hL
      have pz := prod_le (x := e % n') (y := z) e0 (by omega) z0 (by omega)
      have k0 := Int.emod_nonneg (e % n' * z) (show n' ≠ 0 by omega)
      have k1 := Int.emod_lt_of_pos (e % n' * z) n0
      have kd := emod_dvd_sub n' (e % n' * z)
      generalize hk : e % n' * z % n' = k at *
      have pk : a.2.1 * k + a.2.1 ≤ a.2.1 * n' := by
        have : a.2.1 * (k + 1) ≤ a.2.1 * n' := Int.mul_le_mul_of_nonneg_left (by omega) (by omega)
        rw [Int.mul_add] at this; omega
      have kez : n' ∣ k - e * z := by
        obtain ⟨p, hp⟩ := emod_dvd_sub n' e
        obtain ⟨t, ht⟩ := kd
        refine ⟨-t - z * p, ?_⟩
        have ee : e % n' = e - n' * p := by omega
        rw [ee] at ht
        grind
      refine ⟨norm (a.2.1 * n') (a.2.1 * k + a.2.2), hmn _ ?_ (found hm hn he hz kez), K + L + 20, fun j hj => ?_⟩
      · rw [show a.2.1 * k + a.2.2 - a.2.2 = a.2.1 * k by omega]; exact Int.dvd_mul_right _ _
      obtain ⟨i, rfl⟩ : ∃ i, j = i + 9 + 1 + 1 := ⟨j - 11, by omega⟩
      dsimp only
      rw [want _ (by omega)]
      simp only [gimbalref31_Meet.j2]
      rw [if_pos h6, hL _ (by omega)]
      simp only [Option.bind_some]
      unfold gimbalref31_times.f
      rw [u64_id (n := e % n') (by omega) (by omega), if_neg (show ¬ n' = 0 by omega), u64_id (n := e % n' * z) (by omega) (by omega), Int.tmod_eq_emod_of_nonneg (by omega), hk]
      simp only [Option.bind_some]
      exact fin k i k0 pk
    · have hn1 : n' = 1 := by omega
      subst hn1
      refine ⟨norm (a.2.1 * 1) (a.2.1 * 0 + a.2.2), hmn _ ?_ (found hm hn he (z := 0) (by exact Int.one_dvd _) (Int.one_dvd _)), K + 20, fun j hj => ?_⟩
      · rw [show a.2.1 * 0 + a.2.2 - a.2.2 = 0 by omega]; exact Int.dvd_zero _
      obtain ⟨i, rfl⟩ : ∃ i, j = i + 9 + 1 + 1 := ⟨j - 11, by omega⟩
      dsimp only
      rw [want _ (by omega)]
      simp only [gimbalref31_Meet.j2]
      rw [if_neg h6]
      exact fin 0 i (by omega) (by omega)
  · refine ⟨_, meet_none (hap h5), K + 20, fun j hj => ?_⟩
    obtain ⟨i, rfl⟩ : ∃ i, j = i + 1 := ⟨j - 1, by omega⟩
    simp only [gimbalref31_Meet.j1]
    rw [if_neg h4, rsize_f (x := a.2.1) (by omega) (by omega), rsize_f (x := b.2.1) (by omega) (by omega), ab_of_nonneg (x := a.2.1) (by omega), ab_of_nonneg (x := b.2.1) (by omega)]
    simp only [Option.bind_some]
    rw [hK _ (by omega)]
    simp only [Option.bind_some]
    rw [w64_id (n := a.2.2 - b.2.2) (by omega) (by omega), rsize_f (by omega) (by omega)]
    simp only [Option.bind_some]
    rw [if_neg (show ¬ d = 0 by omega), tm, if_neg (fun e => h5 (dvd_ab.mp (emod_zero_iff.mp e)))]; rfl

theorem rMeet_f {a b : Cg} (ha : Fit a) (hb : Fit b) : ∃ r, IsMeet a b r ∧ Ev (fun k => gimbalref31_Meet.f k a.1 a.2.1 a.2.2 b.1 b.2.1 b.2.2) r := by
  by_cases h1 : a.1 = true
  · refine ⟨_, meet_none_l (Or.inl h1), ev_of 9 fun k => ?_⟩
    simp [gimbalref31_Meet.f, gimbalref31_Meet.j0, gimbalref31_None.f, h1]
  by_cases h2 : b.1 = true
  · refine ⟨_, meet_none_l (Or.inr h2), ev_of 9 fun k => ?_⟩
    simp [gimbalref31_Meet.f, gimbalref31_Meet.j0, gimbalref31_None.f, h1, h2]
  by_cases h3 : a.2.1 < b.2.1
  · obtain ⟨r, hr, K, hK⟩ := rMeet_j1 hb ha (bfalse h2) (bfalse h1) (by omega)
    refine ⟨r, hr.comm, K + 2, fun k hk => ?_⟩
    obtain ⟨i, rfl⟩ : ∃ i, k = i + 1 := ⟨k - 1, by omega⟩
    dsimp only at hK ⊢
    simp only [gimbalref31_Meet.f, gimbalref31_Meet.j0]
    rw [if_neg h1, if_neg h2, if_pos h3, hK _ (by omega)]
  · obtain ⟨r, hr, K, hK⟩ := rMeet_j1 ha hb (bfalse h1) (bfalse h2) (by omega)
    refine ⟨r, hr, K + 2, fun k hk => ?_⟩
    obtain ⟨i, rfl⟩ : ∃ i, k = i + 1 := ⟨k - 1, by omega⟩
    dsimp only at hK ⊢
    simp only [gimbalref31_Meet.f, gimbalref31_Meet.j0]
    rw [if_neg h1, if_neg h2, if_neg h3, hK _ (by omega)]

end Go.Proofs.YtfmmjekhknaniaaDoor.Core

namespace Go.Proofs.YtfmmjekhknaniaaDoor.Pr
open Go.RowKit Go.Proofs.YtfmmjekhknaniaaDoor.Given Go.Proofs.YtfmmjekhknaniaaDoorW.PrintWords Go.Proofs.YtfmmjekhknaniaaDoorW.PrintLast Go.Proofs.YtfmmjekhknaniaaDoorW.PrintMore
attribute [local go_sem] max2_int min2_int max_two min_two max_three min_three max_four min_four   -- for this text's walks alone
set_option linter.unusedVariables false
set_option linter.unusedSimpArgs false

def congr_holds.f (a0 : Int) (a1 : Int) (a2 : Int) : Option (Bool) := if a0 = 14 then (some (a1 == a2)) else (if a0 = 15 then (some (a1 != a2)) else (if a0 = 16 then (some (decide (a1 < a2))) else (if a0 = 17 then (some (decide (a1 ≤ a2))) else (if a0 = 18 then (some (decide (a1 > a2))) else (some (decide (a1 ≥ a2)))))))
set_option maxHeartbeats 8000000 in
set_option maxRecDepth 100000 in
theorem congr_holds.calls (a0 : Int) (a1 : Int) (a2 : Int) (r : Bool) (w : World) (h : congr_holds.f a0 a1 a2 = some r) :
  Calls Tryd.prog 67 #[.int .i64 a0, .int .i64 a1, .int .i64 a2] w fun e w' => e = .returned (.bool r) ∧ Drawn0 w w' := by
 have H : (if a0 = 14 then (some (a1 == a2)) else (if a0 = 15 then (some (a1 != a2)) else (if a0 = 16 then (some (decide (a1 < a2))) else (if a0 = 17 then (some (decide (a1 ≤ a2))) else (if a0 = 18 then (some (decide (a1 > a2))) else (some (decide (a1 ≥ a2)))))))) = some r := h
 clear h
 by_cases c4 : a0 = 14
 ·
  rw [if_pos c4] at H
  have c4b0 : (a0 == 14) = true := beq_iff_eq.mpr c4
  have c4b1 : (a0 != 14) = false := bne_eq_false_iff_eq.mpr c4
  clear c4
  obtain rfl := Option.some.inj H
  go_enter Tryd.func67, Tryd.ntmps67
  go_wp2
  go_ret
  exact ⟨by first | rfl | (simp; done) | (simp [*]; done), by repeat (first | exact Drawn0.refl _ | apply Drawn0.step)⟩
 ·
  rw [if_neg c4] at H
  have c4b0 : (a0 == 14) = false := beq_eq_false_iff_ne.mpr c4
  have c4b1 : (a0 != 14) = true := bne_iff_ne.mpr c4
  by_cases c5 : a0 = 15
  ·
   rw [if_pos c5] at H
   have c5b0 : (a0 == 15) = true := beq_iff_eq.mpr c5
   have c5b1 : (a0 != 15) = false := bne_eq_false_iff_eq.mpr c5
   clear c5
   obtain rfl := Option.some.inj H
   go_enter Tryd.func67, Tryd.ntmps67
   go_wp2
   go_ret
   exact ⟨by first | rfl | (simp; done) | (simp [*]; done), by repeat (first | exact Drawn0.refl _ | apply Drawn0.step)⟩
  ·
   rw [if_neg c5] at H
   have c5b0 : (a0 == 15) = false := beq_eq_false_iff_ne.mpr c5
   have c5b1 : (a0 != 15) = true := bne_iff_ne.mpr c5
   by_cases c6 : a0 = 16
   ·
    rw [if_pos c6] at H
    have c6b0 : (a0 == 16) = true := beq_iff_eq.mpr c6
    have c6b1 : (a0 != 16) = false := bne_eq_false_iff_eq.mpr c6
    clear c6
    obtain rfl := Option.some.inj H
    go_enter Tryd.func67, Tryd.ntmps67
    go_wp2
    go_ret
    exact ⟨by first | rfl | (simp; done) | (simp [*]; done), by repeat (first | exact Drawn0.refl _ | apply Drawn0.step)⟩
   ·
    rw [if_neg c6] at H
    have c6b0 : (a0 == 16) = false := beq_eq_false_iff_ne.mpr c6
    have c6b1 : (a0 != 16) = true := bne_iff_ne.mpr c6
    by_cases c7 : a0 = 17
    ·
     rw [if_pos c7] at H
     have c7b0 : (a0 == 17) = true := beq_iff_eq.mpr c7
     have c7b1 : (a0 != 17) = false := bne_eq_false_iff_eq.mpr c7
     clear c7
     obtain rfl := Option.some.inj H
     go_enter Tryd.func67, Tryd.ntmps67
     go_wp2
     go_ret
     exact ⟨by first | rfl | (simp; done) | (simp [*]; done), by repeat (first | exact Drawn0.refl _ | apply Drawn0.step)⟩
    ·
     rw [if_neg c7] at H
     have c7b0 : (a0 == 17) = false := beq_eq_false_iff_ne.mpr c7
     have c7b1 : (a0 != 17) = true := bne_iff_ne.mpr c7
     by_cases c8 : a0 = 18
     ·
      rw [if_pos c8] at H
      have c8b0 : (a0 == 18) = true := beq_iff_eq.mpr c8
      have c8b1 : (a0 != 18) = false := bne_eq_false_iff_eq.mpr c8
      clear c8
      obtain rfl := Option.some.inj H
      go_enter Tryd.func67, Tryd.ntmps67
      go_wp2
      go_ret
      exact ⟨by first | rfl | (simp; done) | (simp [*]; done), by repeat (first | exact Drawn0.refl _ | apply Drawn0.step)⟩
     ·
      rw [if_neg c8] at H
      have c8b0 : (a0 == 18) = false := beq_eq_false_iff_ne.mpr c8
      have c8b1 : (a0 != 18) = true := bne_iff_ne.mpr c8
      obtain rfl := Option.some.inj H
      go_enter Tryd.func67, Tryd.ntmps67
      go_wp2
      go_ret
      exact ⟨by first | rfl | (simp; done) | (simp [*]; done), by repeat (first | exact Drawn0.refl _ | apply Drawn0.step)⟩

end Go.Proofs.YtfmmjekhknaniaaDoor.Pr

