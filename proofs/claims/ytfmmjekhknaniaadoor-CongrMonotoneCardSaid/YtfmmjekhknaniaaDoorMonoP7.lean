/- This claim's own texts, joined, with only what the claim uses: Hx20, Hx56, Hx57, FnD, FnE, Hx24. -/
import Derived.Test.YtfmmjekhknaniaaDoorMonoP5
import Derived.Test.YtfmmjekhknaniaaDoorMonoP6
namespace Go.Proofs.YtfmmjekhknaniaaDoor.Pr
open Go.RowKit Go.Proofs.YtfmmjekhknaniaaDoor.Given Go.Proofs.YtfmmjekhknaniaaDoorW.PrintWords Go.Proofs.YtfmmjekhknaniaaDoorW.PrintLast Go.Proofs.YtfmmjekhknaniaaDoorW.PrintMore
attribute [local go_sem] max2_int min2_int max_two min_two max_three min_three max_four min_four   -- for this text's walks alone
set_option linter.unusedVariables false
set_option linter.unusedSimpArgs false

mutual
def congr_Meet.j0 : Nat → Bool → Bool → Int → Int → Bool → Int → Int → Option (Bool × Int × Int)
 | 0, _, _, _, _, _, _, _ => none
 | k + 1, x11, x198000, x198001, x198002, x199000, x199001, x199002 => if x11 = true then ((congr_none.f).bind fun bt200 => (some (bt200.1, bt200.2.1, bt200.2.2))) else (if x198001 = 0 then (congr_Meet.j1 k true x198000 x198001 x198002 x199000 x199001 x199002) else (congr_Meet.j1 k (x199001 == 0) x198000 x198001 x198002 x199000 x199001 x199002))
def congr_Meet.j1 : Nat → Bool → Bool → Int → Int → Bool → Int → Int → Option (Bool × Int × Int)
 | 0, _, _, _, _, _, _, _ => none
 | k + 1, x19, x198000, x198001, x198002, x199000, x199001, x199002 => if x19 = true then (if x198001 = 0 then (congr_Meet.j2 k x198000 x198001 x198002 x199000 x199001 x199002) else (congr_Meet.j2 k x199000 x199001 x199002 x198000 x198001 x198002)) else ((congr_gcd_uint64.f k (IntKind.u64.wrap (x198001)) (IntKind.u64.wrap (x199001))).bind fun t207 => ((congr_size.f (wrap64 (x198002 - x199002))).bind fun t208 => (if t207 = 0 then (none) else (if (Int.tmod t208 t207) = 0 then (if (IntKind.u64.wrap (Int.tdiv (IntKind.u64.wrap (x199001)) t207)) > 1 then (if (wrap64 (t207)) = 0 then (none) else ((congr_rest.f (wrap64 (Int.tdiv (wrap64 (x199002 - x198002)) (wrap64 (t207)))) (IntKind.u64.wrap (Int.tdiv (IntKind.u64.wrap (x199001)) t207))).bind fun t212 => (if (IntKind.u64.wrap (Int.tdiv (IntKind.u64.wrap (x199001)) t207)) = 0 then (none) else ((congr_inverse.f k (Int.tmod (IntKind.u64.wrap (Int.tdiv (IntKind.u64.wrap (x198001)) t207)) (IntKind.u64.wrap (Int.tdiv (IntKind.u64.wrap (x199001)) t207))) (IntKind.u64.wrap (Int.tdiv (IntKind.u64.wrap (x199001)) t207))).bind fun t213 => ((bits_Mul64.f t212 t213).bind fun bt214 => ((congr_words_rest.f bt214.1 bt214.2 (IntKind.u64.wrap (Int.tdiv (IntKind.u64.wrap (x199001)) t207))).bind fun t216 => ((congr_of.f k (IntKind.u64.wrap ((IntKind.u64.wrap (x198001)) * (IntKind.u64.wrap (Int.tdiv (IntKind.u64.wrap (x199001)) t207)))) (IntKind.u64.wrap ((IntKind.u64.wrap ((IntKind.u64.wrap (x198001)) * t216)) + (IntKind.u64.wrap (x198002))))).bind fun bt217 => (some (bt217.1, bt217.2.1, bt217.2.2))))))))) else ((congr_of.f k (IntKind.u64.wrap ((IntKind.u64.wrap (x198001)) * (IntKind.u64.wrap (Int.tdiv (IntKind.u64.wrap (x199001)) t207)))) (IntKind.u64.wrap ((IntKind.u64.wrap ((IntKind.u64.wrap (x198001)) * 0)) + (IntKind.u64.wrap (x198002))))).bind fun bt220 => (some (bt220.1, bt220.2.1, bt220.2.2)))) else ((congr_none.f).bind fun bt209 => (some (bt209.1, bt209.2.1, bt209.2.2)))))))
def congr_Meet.j2 : Nat → Bool → Int → Int → Bool → Int → Int → Option (Bool × Int × Int)
 | 0, _, _, _, _, _, _ => none
 | k + 1, x198000, x198001, x198002, x199000, x199001, x199002 => (congr_Has.f k x199000 x199001 x199002 x198002).bind fun t203 => (if t203 = true then (some (x198000, x198001, x198002)) else ((congr_none.f).bind fun bt204 => (some (bt204.1, bt204.2.1, bt204.2.2))))
end
def congr_Meet.f (k : Nat) (a0_0 : Bool) (a0_1 : Int) (a0_2 : Int) (a1_0 : Bool) (a1_1 : Int) (a1_2 : Int) : Option (Bool × Int × Int) := if a0_0 = true then (congr_Meet.j0 k true a0_0 a0_1 a0_2 a1_0 a1_1 a1_2) else (congr_Meet.j0 k a1_0 a0_0 a0_1 a0_2 a1_0 a1_1 a1_2)
def congr_Meet.T9 : Bool × List (List Nat × List Nat) := (true, [([], []), ([0], [0]), ([1], [1]), ([], []), ([3], [3]), ([4], [4]), ([2, 0, 1, 2], [2]), ([5, 6, 0, 1, 2, 3, 4, 5, 6], [5])])
def congr_Meet.B9 : List Nat := [0, 1, 3, 0, 8, 24, 7, 127]
theorem congr_Meet.tab9 : rtab .any (opsOf Tryd.f20 9) = congr_Meet.T9 := by kernel_rfl
theorem congr_Meet.bits9 : waitsOk congr_Meet.T9.2 congr_Meet.B9 = true := by kernel_rfl
def congr_Meet.T15 : Bool × List (List Nat × List Nat) := (true, [([], []), ([0], [0]), ([], []), ([2], [2]), ([1, 3], [1, 3]), ([], []), ([5], [5]), ([4, 6], [4, 6]), ([], []), ([], []), ([8, 9], [8, 9]), ([7, 10], [7, 10]), ([], []), ([], []), ([12, 13], [12, 13]), ([], []), ([], []), ([15, 16], [15, 16]), ([14, 17], [14, 17]), ([], []), ([], []), ([19, 20], [19, 20]), ([18, 21, 11], [18, 21]), ([11, 22, 22], [11, 22]), ([23], [23]), ([24], [24]), ([24], [24]), ([25, 23, 0, 1, 2, 3, 4, 5, 6, 7, 8, 9, 10, 11, 12, 13, 14, 15, 16, 17, 18, 19, 20, 21, 22, 23, 24, 25], [25]), ([26, 27, 0, 1, 2, 3, 4, 5, 6, 7, 8, 9, 10, 11, 12, 13, 14, 15, 16, 17, 18, 19, 20, 21, 22, 23, 24, 25, 26, 27], [26])])
def congr_Meet.B15 : List Nat := [0, 1, 0, 4, 15, 0, 32, 127, 0, 0, 768, 2047, 0, 0, 12288, 0, 0, 98304, 258048, 0, 0, 1572864, 4194303, 8388607, 16777215, 33554431, 33554431, 67108863, 268435455]
theorem congr_Meet.tab15 : rtab .any (opsOf Tryd.f20 15) = congr_Meet.T15 := by kernel_rfl
theorem congr_Meet.bits15 : waitsOk congr_Meet.T15.2 congr_Meet.B15 = true := by kernel_rfl
def congr_Meet.T17 : Bool × List (List Nat × List Nat) := (true, [([], []), ([], []), ([], []), ([1, 2], [1, 2]), ([0, 3], [0, 3]), ([], []), ([], []), ([5, 6], [5, 6]), ([], []), ([8], [8]), ([9], [9]), ([7, 10], [7, 10]), ([4, 11], [4, 11]), ([12, 12, 0, 1, 2, 3, 4, 5, 6, 7, 8, 9, 10, 11, 12], [12])])
def congr_Meet.B17 : List Nat := [0, 0, 0, 6, 15, 0, 0, 96, 0, 256, 768, 2016, 4095, 8191]
theorem congr_Meet.tab17 : rtab .any (opsOf Tryd.f20 17) = congr_Meet.T17 := by kernel_rfl
theorem congr_Meet.bits17 : waitsOk congr_Meet.T17.2 congr_Meet.B17 = true := by kernel_rfl
set_option maxHeartbeats 8000000 in
set_option maxRecDepth 100000 in
theorem congr_Meet.calls (k : Nat) (a0_0 : Bool) (a0_1 : Int) (a0_2 : Int) (a1_0 : Bool) (a1_1 : Int) (a1_2 : Int) (r1 : Bool) (r2 : Int) (r3 : Int) (w : World) (h : congr_Meet.f k a0_0 a0_1 a0_2 a1_0 a1_1 a1_2 = some (r1, r2, r3)) :
  Calls Tryd.prog 20 #[.agg #[.bool a0_0, .int .i64 a0_1, .int .i64 a0_2], .agg #[.bool a1_0, .int .i64 a1_1, .int .i64 a1_2]] w fun e w' => e = .returned (.agg #[.bool r1, .int .i64 r2, .int .i64 r3]) ∧ Below w.heap.size w w' := by
 have hu23 := Tryd.underlying23
 have hu67 := Tryd.underlying67
 have HB := Aside0.mk (Below.refl w.heap.size w)
 have H : (if a0_0 = true then (congr_Meet.j0 k true a0_0 a0_1 a0_2 a1_0 a1_1 a1_2) else (congr_Meet.j0 k a1_0 a0_0 a0_1 a0_2 a1_0 a1_1 a1_2)) = some (r1, r2, r3) := h
 clear h
 have HC3 := Aside0.mk H
 clear H
 go_enter Tryd.func20, Tryd.ntmps20
 go_upto_region 1 with (first | ((with_reducible refine gate_dst (N := 2) rfl ?_); refine box_event ?hg (N := 2) ?hd (cs := #[.bool a0_0, .int .i64 a0_1, .int .i64 a0_2]) (t := 23) ?hr ?_; (case hd => rfl); (case hg => rfl); (case hr => first | (go_simp; done) | (go_simp; rfl)); intro gb197 hg w4 hbox hb; have n0_ := kW HB hb; have n1_ := Aside0.mk (hbox); have n2_ := Aside0.mk ((by rw [hg]; exact (below_size (bS HB)) : w.heap.size ≤ gb197)); have n3_ := Aside0.mk ((by rw [hg]; exact (below_size (bS HB)) : w.heap.size ≤ gb197)); clear HB; have HB := n0_; have BK197 := n1_; have GW197 := n2_; have GE197 := n3_; clear n0_ n1_ n2_ n3_; clear hb hbox hg) | ((with_reducible refine gate_dst (N := 3) rfl ?_); refine box_event ?hg (N := 3) ?hd (cs := #[.bool a1_0, .int .i64 a1_1, .int .i64 a1_2]) (t := 23) ?hr ?_; (case hd => rfl); (case hg => rfl); (case hr => first | (go_simp; done) | (go_simp; rfl)); intro gb198 hg w5 hbox hb; have n0_ := kB BK197 hb; have n1_ := kW HB hb; have n2_ := Aside0.mk (hbox); have n3_ := Aside0.mk ((by rw [hg]; exact (below_size (bS HB)) : w.heap.size ≤ gb198)); have n4_ := Aside0.mk ((by rw [hg]; exact (below_size (bS HB)) : w.heap.size ≤ gb198)); have n5_ := Aside0.mk ((by rw [hg]; exact Nat.ne_of_lt (blk_lt (bkS BK197)) : gb197 ≠ gb198)); have n6_ := Aside0.mk ((by rw [hg]; exact Nat.ne_of_gt (blk_lt (bkS BK197)) : gb198 ≠ gb197)); clear BK197; clear HB; have BK197 := n0_; have HB := n1_; have BK198 := n2_; have GW198 := n3_; have GE198 := n4_; have NB197_198 := n5_; have NB198_197 := n6_; clear n0_ n1_ n2_ n3_ n4_ n5_ n6_; clear hb hbox hg) | ((with_reducible refine gate_dst (N := 4) rfl ?_); refine box_event ?hg (N := 4) ?hd (cs := #[.bool false, .int .i64 0, .int .i64 0]) (t := 23) ?hr ?_; (case hd => rfl); (case hg => rfl); (case hr => first | (go_simp; done) | (go_simp; rfl)); intro gb199 hg w6 hbox hb; have n0_ := kB BK197 hb; have n1_ := kB BK198 hb; have n2_ := kW HB hb; have n3_ := Aside0.mk (hbox); have n4_ := Aside0.mk ((by rw [hg]; exact (below_size (bS HB)) : w.heap.size ≤ gb199)); have n5_ := Aside0.mk ((by rw [hg]; exact (below_size (bS HB)) : w.heap.size ≤ gb199)); have n6_ := Aside0.mk ((by rw [hg]; exact Nat.ne_of_lt (blk_lt (bkS BK197)) : gb197 ≠ gb199)); have n7_ := Aside0.mk ((by rw [hg]; exact Nat.ne_of_gt (blk_lt (bkS BK197)) : gb199 ≠ gb197)); have n8_ := Aside0.mk ((by rw [hg]; exact Nat.ne_of_lt (blk_lt (bkS BK198)) : gb198 ≠ gb199)); have n9_ := Aside0.mk ((by rw [hg]; exact Nat.ne_of_gt (blk_lt (bkS BK198)) : gb199 ≠ gb198)); clear BK197; clear BK198; clear HB; have BK197 := n0_; have BK198 := n1_; have HB := n2_; have BK199 := n3_; have GW199 := n4_; have GE199 := n5_; have NB197_199 := n6_; have NB199_197 := n7_; have NB198_199 := n8_; have NB199_198 := n9_; clear n0_ n1_ n2_ n3_ n4_ n5_ n6_ n7_ n8_ n9_; clear hb hbox hg))
 (try simp only [Act.put, lA, lB, lC])
 go_cut [11] (fun v11 wc => ∃ (kq : Nat) (x11_2 : Bool), v11 = .bool x11_2 ∧ Aside0 (congr_Meet.j0 kq x11_2 a0_0 a0_1 a0_2 a1_0 a1_1 a1_2 = some (r1, r2, r3)) ∧ Aside0 (kq ≤ k) ∧ Aside0 (wc.heap[gb197]? = some (.cells #[.bool a0_0, .int .i64 a0_1, .int .i64 a0_2] 23 (0, 0))) ∧ Aside0 (wc.heap[gb198]? = some (.cells #[.bool a1_0, .int .i64 a1_1, .int .i64 a1_2] 23 (0, 0))) ∧ Aside0 (wc.heap[gb199]? = some (.cells #[.bool false, .int .i64 0, .int .i64 0] 23 (0, 0))) ∧ Aside0 (Below w.heap.size w wc))
 case first =>
  have H := HC3.out
  clear HC3
  by_cases c7 : a0_0 = true
  ·
   subst c7
   have H1 : (congr_Meet.j0 k true true a0_1 a0_2 a1_0 a1_1 a1_2) = some (r1, r2, r3) := by rw [if_pos rfl] at H; exact H
   clear H
   have H := H1
   clear H1
   have H' := Aside0.mk H
   clear H
   have hnb8 := NB197_198.out
   have hnc8 := NB198_197.out
   have hnb9 := NB197_199.out
   have hnc9 := NB199_197.out
   have hcz10_0 := cz0 BK197
   have hcz10_1 := cz1 BK197
   have hcz10_2 := cz2 BK197
   have hfz10_0 := fz BK197 0
   have hfz10_1 := fz BK197 1
   have hfz10_2 := fz BK197 2
   go_wp2
   go_meet
   case rel => exact ⟨_, (true), (by first | rfl | (simp; done) | (simp [*]; done)), H', ⟨by first | omega | exact Nat.le_refl _⟩, ⟨bkS BK197⟩, ⟨bkS BK198⟩, ⟨bkS BK199⟩, ⟨bS HB⟩⟩
  ·
   replace c7 := Bool.eq_false_iff.mpr c7
   subst c7
   have H1 : (congr_Meet.j0 k a1_0 false a0_1 a0_2 a1_0 a1_1 a1_2) = some (r1, r2, r3) := by rw [if_neg (show ¬ (false = true) by decide)] at H; exact H
   clear H
   have H := H1
   clear H1
   have H' := Aside0.mk H
   clear H
   have hnb11 := NB197_198.out
   have hnc11 := NB198_197.out
   have hnb12 := NB197_199.out
   have hnc12 := NB199_197.out
   have hcz13_0 := cz0 BK197
   have hcz13_1 := cz1 BK197
   have hcz13_2 := cz2 BK197
   have hfz13_0 := fz BK197 0
   have hfz13_1 := fz BK197 1
   have hfz13_2 := fz BK197 2
   have hnb14 := NB198_199.out
   have hnc14 := NB199_198.out
   have hcz15_0 := cz0 BK198
   have hcz15_1 := cz1 BK198
   have hcz15_2 := cz2 BK198
   have hfz15_0 := fz BK198 0
   have hfz15_1 := fz BK198 1
   have hfz15_2 := fz BK198 2
   go_wp2
   go_meet
   case rel => exact ⟨_, (a1_0), (by first | rfl | (simp; done) | (simp [*]; done)), H', ⟨by first | omega | exact Nat.le_refl _⟩, ⟨bkS BK197⟩, ⟨bkS BK198⟩, ⟨bkS BK199⟩, ⟨bS HB⟩⟩
 case rest =>
  clear HC3
  try clear c1
  try clear c2
  try clear p2
  try clear c7
  try clear c8
  try clear c9
  try clear c11
  try clear c12
  try clear c14
  try clear hcz10_0
  try clear hcz10_1
  try clear hcz10_2
  try clear hcz13_0
  try clear hcz13_1
  try clear hcz13_2
  try clear hcz15_0
  try clear hcz15_1
  try clear hcz15_2
  try clear hfz10_0
  try clear hfz10_1
  try clear hfz10_2
  try clear hfz13_0
  try clear hfz13_1
  try clear hfz13_2
  try clear hfz15_0
  try clear hfz15_1
  try clear hfz15_2
  obtain ⟨kq, x11_2, rfl, HA, HJ2, BK197, BK198, BK199, HB⟩ := hcut
  cases kq with
  | zero => exact absurd HA.out (by simp [congr_Meet.j0])
  | succ kj2 =>
   have H := HA.out
   clear HA
   simp only [congr_Meet.j0] at H
   by_cases c16 : x11_2 = true
   ·
    subst c16
    have H1 : ((congr_none.f).bind fun bt200 => (some (bt200.1, bt200.2.1, bt200.2.2))) = some (r1, r2, r3) := by rw [if_pos rfl] at H; exact H
    clear H
    have H := H1
    clear H1
    replace H := Option.bind_eq_some_iff.mp H
    obtain ⟨⟨t200, t201, t202⟩, A170, H⟩ := H
    replace H : (some (t200, t201, t202)) = some (r1, r2, r3) := H
    have A17 := Aside0.mk A170
    clear A170
    simp only [Option.some.injEq, Prod.mk.injEq] at H
    obtain ⟨rfl, rfl, rfl⟩ := H
    go_wp2_with (first | ((with_reducible refine gate_callee (f := 56) rfl ?_); refine goesL_ (some 18) rfl rfl Tryd.func56 (by kernel_rfl) rfl #[] rfl mS ?_; (with_reducible refine (congr_none.calls  t200 t201 t202 _ A17.out).mono ?_); rintro e w18 ⟨rfl, hb⟩; refine ⟨_, rfl, ?_⟩; replace BK197 := kB BK197 hb; replace BK198 := kB BK198 hb; replace BK199 := kB BK199 hb; replace HB := kW HB hb; (try clear hb); (try clear hb2); (try clear hk); (try clear hi); have hnb19 := NB199_197.out; have hnc19 := NB197_199.out; have hnb20 := NB199_198.out; have hnc20 := NB198_199.out; have hcz21_0 := cz0 BK199; have hcz21_1 := cz1 BK199; have hcz21_2 := cz2 BK199; have hfz21_0 := fz BK199 0; have hfz21_1 := fz BK199 1; have hfz21_2 := fz BK199 2))
    refine bodyPost_ret (results_cell_row rfl _ _ gb199 23 #[.bool t200, .int .i64 t201, .int .i64 t202] (0, 0) _ rfl (by (with_reducible repeat (first | refine b1 ?_ _ | refine b2 ?_ | refine b3 ?_ _)); refine blk_put (cs := #[.bool t200, .int .i64 t201, .int .i64 0]) ?_ 2 _ rfl; (with_reducible repeat (first | refine b1 ?_ _ | refine b2 ?_ | refine b3 ?_ _)); refine blk_put (cs := #[.bool t200, .int .i64 0, .int .i64 0]) ?_ 1 _ rfl; (with_reducible repeat (first | refine b1 ?_ _ | refine b2 ?_ | refine b3 ?_ _)); refine blk_put (cs := #[.bool false, .int .i64 0, .int .i64 0]) ?_ 0 _ rfl; (with_reducible repeat (first | refine b1 ?_ _ | refine b2 ?_ | refine b3 ?_ _)); exact BK199.out) Tryd.underlying23 rfl (by kernel_rfl)) rfl ?_
    exact ⟨eS, bS HB⟩
   ·
    replace c16 := Bool.eq_false_iff.mpr c16
    subst c16
    have H1 : (if a0_1 = 0 then (congr_Meet.j1 kj2 true a0_0 a0_1 a0_2 a1_0 a1_1 a1_2) else (congr_Meet.j1 kj2 (a1_1 == 0) a0_0 a0_1 a0_2 a1_0 a1_1 a1_2)) = some (r1, r2, r3) := by rw [if_neg (show ¬ (false = true) by decide)] at H; exact H
    clear H
    have H := H1
    clear H1
    have HC22 := Aside0.mk H
    clear H
    go_upto_region 3 with (fail)
    go_cut [19] (fun v19 wc => ∃ (kq : Nat) (x19_21 : Bool), v19 = .bool x19_21 ∧ Aside0 (congr_Meet.j1 kq x19_21 a0_0 a0_1 a0_2 a1_0 a1_1 a1_2 = some (r1, r2, r3)) ∧ Aside0 (kq ≤ kj2) ∧ Aside0 (wc.heap[gb197]? = some (.cells #[.bool a0_0, .int .i64 a0_1, .int .i64 a0_2] 23 (0, 0))) ∧ Aside0 (wc.heap[gb198]? = some (.cells #[.bool a1_0, .int .i64 a1_1, .int .i64 a1_2] 23 (0, 0))) ∧ Aside0 (wc.heap[gb199]? = some (.cells #[.bool false, .int .i64 0, .int .i64 0] 23 (0, 0))) ∧ Aside0 (Below w.heap.size w wc))
    case first =>
     have H := HC22.out
     clear HC22
     by_cases c23 : a0_1 = 0
     ·
      rw [if_pos c23] at H
      have c23b0 : (a0_1 == 0) = true := beq_iff_eq.mpr c23
      have c23b1 : (a0_1 != 0) = false := bne_eq_false_iff_eq.mpr c23
      clear c23
      (first | rw [c23b0] | (simp only [i64_w, i32_w]; rw [c23b0]) | skip)
      have H' := Aside0.mk H
      clear H
      have hnb24 := NB197_198.out
      have hnc24 := NB198_197.out
      have hnb25 := NB197_199.out
      have hnc25 := NB199_197.out
      have hcz26_0 : wc.cell? ⟨gb197, 0, none⟩ = some (.bool a0_0) := cz0 BK197
      have hcz26_1 : wc.cell? ⟨gb197, 1, none⟩ = some (.int .i64 a0_1) := cz1 BK197
      have hcz26_2 : wc.cell? ⟨gb197, 2, none⟩ = some (.int .i64 a0_2) := cz2 BK197
      have hfz26_0 := fz BK197 0
      have hfz26_1 := fz BK197 1
      have hfz26_2 := fz BK197 2
      go_wp2
      go_meet
      case rel => exact ⟨_, (true), (by first | rfl | (simp; done) | (simp [*]; done)), H', ⟨by have := HJ2.out; first | omega | exact Nat.le_refl _⟩, ⟨bkS BK197⟩, ⟨bkS BK198⟩, ⟨bkS BK199⟩, ⟨bS HB⟩⟩
     ·
      rw [if_neg c23] at H
      have c23b0 : (a0_1 == 0) = false := beq_eq_false_iff_ne.mpr c23
      have c23b1 : (a0_1 != 0) = true := bne_iff_ne.mpr c23
      (first | rw [c23b0] | (simp only [i64_w, i32_w]; rw [c23b0]) | skip)
      have H' := Aside0.mk H
      clear H
      have hnb27 := NB197_198.out
      have hnc27 := NB198_197.out
      have hnb28 := NB197_199.out
      have hnc28 := NB199_197.out
      have hcz29_0 : wc.cell? ⟨gb197, 0, none⟩ = some (.bool a0_0) := cz0 BK197
      have hcz29_1 : wc.cell? ⟨gb197, 1, none⟩ = some (.int .i64 a0_1) := cz1 BK197
      have hcz29_2 : wc.cell? ⟨gb197, 2, none⟩ = some (.int .i64 a0_2) := cz2 BK197
      have hfz29_0 := fz BK197 0
      have hfz29_1 := fz BK197 1
      have hfz29_2 := fz BK197 2
      have hnb30 := NB198_199.out
      have hnc30 := NB199_198.out
      have hcz31_0 : wc.cell? ⟨gb198, 0, none⟩ = some (.bool a1_0) := cz0 BK198
      have hcz31_1 : wc.cell? ⟨gb198, 1, none⟩ = some (.int .i64 a1_1) := cz1 BK198
      have hcz31_2 : wc.cell? ⟨gb198, 2, none⟩ = some (.int .i64 a1_2) := cz2 BK198
      have hfz31_0 := fz BK198 0
      have hfz31_1 := fz BK198 1
      have hfz31_2 := fz BK198 2
      go_wp2
      go_meet
      case rel => exact ⟨_, ((a1_1 == 0)), (by first | rfl | (simp; done) | (simp [*]; done)), H', ⟨by have := HJ2.out; first | omega | exact Nat.le_refl _⟩, ⟨bkS BK197⟩, ⟨bkS BK198⟩, ⟨bkS BK199⟩, ⟨bS HB⟩⟩
    case rest =>
     clear HC22
     try clear c1
     try clear c2
     try clear p2
     try clear c3
     try clear c5
     try clear c7
     try clear c8
     try clear c9
     try clear c11
     try clear c12
     try clear c14
     try clear c16
     try clear c19
     try clear c20
     try clear c23
     try clear c23b0
     try clear c23b1
     try clear c24
     try clear c25
     try clear c27
     try clear c28
     try clear c30
     try clear hcz10_0
     try clear hcz10_1
     try clear hcz10_2
     try clear hcz13_0
     try clear hcz13_1
     try clear hcz13_2
     try clear hcz15_0
     try clear hcz15_1
     try clear hcz15_2
     try clear hcz21_0
     try clear hcz21_1
     try clear hcz21_2
     try clear hcz26_0
     try clear hcz26_1
     try clear hcz26_2
     try clear hcz29_0
     try clear hcz29_1
     try clear hcz29_2
     try clear hcz31_0
     try clear hcz31_1
     try clear hcz31_2
     try clear hfz10_0
     try clear hfz10_1
     try clear hfz10_2
     try clear hfz13_0
     try clear hfz13_1
     try clear hfz13_2
     try clear hfz15_0
     try clear hfz15_1
     try clear hfz15_2
     try clear hfz21_0
     try clear hfz21_1
     try clear hfz21_2
     try clear hfz26_0
     try clear hfz26_1
     try clear hfz26_2
     try clear hfz29_0
     try clear hfz29_1
     try clear hfz29_2
     try clear hfz31_0
     try clear hfz31_1
     try clear hfz31_2
     try clear p2
     obtain ⟨kq, x19_21, rfl, HA, HJ21, BK197, BK198, BK199, HB⟩ := hcut
     cases kq with
     | zero => exact absurd HA.out (by simp [congr_Meet.j1])
     | succ kj21 =>
      have H := HA.out
      clear HA
      simp only [congr_Meet.j1] at H
      by_cases c32 : x19_21 = true
      ·
       subst c32
       have H1 : (if a0_1 = 0 then (congr_Meet.j2 kj21 a0_0 a0_1 a0_2 a1_0 a1_1 a1_2) else (congr_Meet.j2 kj21 a1_0 a1_1 a1_2 a0_0 a0_1 a0_2)) = some (r1, r2, r3) := by rw [if_pos rfl] at H; exact H
       clear H
       have H := H1
       clear H1
       have HC33 := Aside0.mk H
       clear H
       have hnb34 := NB197_198.out
       have hnc34 := NB198_197.out
       have hnb35 := NB197_199.out
       have hnc35 := NB199_197.out
       have hcz36_0 : wc.cell? ⟨gb197, 0, none⟩ = some (.bool a0_0) := cz0 BK197
       have hcz36_1 : wc.cell? ⟨gb197, 1, none⟩ = some (.int .i64 a0_1) := cz1 BK197
       have hcz36_2 : wc.cell? ⟨gb197, 2, none⟩ = some (.int .i64 a0_2) := cz2 BK197
       have hfz36_0 := fz BK197 0
       have hfz36_1 := fz BK197 1
       have hfz36_2 := fz BK197 2
       go_upto_if 30 with (fail)
       go_cut [] (fun wc => ∃ (kq : Nat) (x198000_32 : Bool) (x198001_32 : Int) (x198002_32 : Int) (x199000_32 : Bool) (x199001_32 : Int) (x199002_32 : Int), Aside0 (congr_Meet.j2 kq x198000_32 x198001_32 x198002_32 x199000_32 x199001_32 x199002_32 = some (r1, r2, r3)) ∧ Aside0 (kq ≤ kj21) ∧ Aside0 (wc.heap[gb197]? = some (.cells #[.bool x198000_32, .int .i64 x198001_32, .int .i64 x198002_32] 23 (0, 0))) ∧ Aside0 (wc.heap[gb198]? = some (.cells #[.bool x199000_32, .int .i64 x199001_32, .int .i64 x199002_32] 23 (0, 0))) ∧ Aside0 (wc.heap[gb199]? = some (.cells #[.bool false, .int .i64 0, .int .i64 0] 23 (0, 0))) ∧ Aside0 (Below w.heap.size w wc))
       case first =>
        have H := HC33.out
        clear HC33
        by_cases c37 : a0_1 = 0
        ·
         rw [if_pos c37] at H
         have c37b0 : (a0_1 == 0) = true := beq_iff_eq.mpr c37
         have c37b1 : (a0_1 != 0) = false := bne_eq_false_iff_eq.mpr c37
         clear c37
         (first | rw [c37b0] | (simp only [i64_w, i32_w]; rw [c37b0]) | skip)
         have H' := Aside0.mk H
         clear H
         go_wp2
         go_meet
         case rel => exact ⟨_, (a0_0), (a0_1), (a0_2), (a1_0), (a1_1), (a1_2), H', ⟨by have := HJ2.out; have := HJ21.out; first | omega | exact Nat.le_refl _⟩, ⟨bkS BK197⟩, ⟨bkS BK198⟩, ⟨bkS BK199⟩, ⟨bS HB⟩⟩
        ·
         rw [if_neg c37] at H
         have c37b0 : (a0_1 == 0) = false := beq_eq_false_iff_ne.mpr c37
         have c37b1 : (a0_1 != 0) = true := bne_iff_ne.mpr c37
         (first | rw [c37b0] | (simp only [i64_w, i32_w]; rw [c37b0]) | skip)
         have H' := Aside0.mk H
         clear H
         have hnb38 := NB198_197.out
         have hnc38 := NB197_198.out
         have hnb39 := NB198_199.out
         have hnc39 := NB199_198.out
         have hcz40_0 : wc.cell? ⟨gb198, 0, none⟩ = some (.bool a1_0) := cz0 BK198
         have hcz40_1 : wc.cell? ⟨gb198, 1, none⟩ = some (.int .i64 a1_1) := cz1 BK198
         have hcz40_2 : wc.cell? ⟨gb198, 2, none⟩ = some (.int .i64 a1_2) := cz2 BK198
         have hfz40_0 := fz BK198 0
         have hfz40_1 := fz BK198 1
         have hfz40_2 := fz BK198 2
         have hnb41 := NB197_199.out
         have hnc41 := NB199_197.out
         have hcz42_0 : wc.cell? ⟨gb197, 0, none⟩ = some (.bool a0_0) := cz0 BK197
         have hcz42_1 : wc.cell? ⟨gb197, 1, none⟩ = some (.int .i64 a0_1) := cz1 BK197
         have hcz42_2 : wc.cell? ⟨gb197, 2, none⟩ = some (.int .i64 a0_2) := cz2 BK197
         have hfz42_0 := fz BK197 0
         have hfz42_1 := fz BK197 1
         have hfz42_2 := fz BK197 2
         go_wp2
         go_meet
         case rel => exact ⟨_, (a1_0), (a1_1), (a1_2), (a0_0), (a0_1), (a0_2), H', ⟨by have := HJ2.out; have := HJ21.out; first | omega | exact Nat.le_refl _⟩, ⟨by (with_reducible repeat (first | refine b1 ?_ _ | refine b2 ?_ | refine b3 ?_ _)); refine blk_far ?_ NB197_198.out _; (with_reducible repeat (first | refine b1 ?_ _ | refine b2 ?_ | refine b3 ?_ _)); refine blk_far ?_ NB197_198.out _; (with_reducible repeat (first | refine b1 ?_ _ | refine b2 ?_ | refine b3 ?_ _)); refine blk_far ?_ NB197_198.out _; (with_reducible repeat (first | refine b1 ?_ _ | refine b2 ?_ | refine b3 ?_ _)); refine blk_put (cs := #[.bool a1_0, .int .i64 a1_1, .int .i64 a0_2]) ?_ 2 _ rfl; (with_reducible repeat (first | refine b1 ?_ _ | refine b2 ?_ | refine b3 ?_ _)); refine blk_put (cs := #[.bool a1_0, .int .i64 a0_1, .int .i64 a0_2]) ?_ 1 _ rfl; (with_reducible repeat (first | refine b1 ?_ _ | refine b2 ?_ | refine b3 ?_ _)); refine blk_put (cs := #[.bool a0_0, .int .i64 a0_1, .int .i64 a0_2]) ?_ 0 _ rfl; (with_reducible repeat (first | refine b1 ?_ _ | refine b2 ?_ | refine b3 ?_ _)); exact BK197.out⟩, ⟨by (with_reducible repeat (first | refine b1 ?_ _ | refine b2 ?_ | refine b3 ?_ _)); refine blk_put (cs := #[.bool a0_0, .int .i64 a0_1, .int .i64 a1_2]) ?_ 2 _ rfl; (with_reducible repeat (first | refine b1 ?_ _ | refine b2 ?_ | refine b3 ?_ _)); refine blk_put (cs := #[.bool a0_0, .int .i64 a1_1, .int .i64 a1_2]) ?_ 1 _ rfl; (with_reducible repeat (first | refine b1 ?_ _ | refine b2 ?_ | refine b3 ?_ _)); refine blk_put (cs := #[.bool a1_0, .int .i64 a1_1, .int .i64 a1_2]) ?_ 0 _ rfl; (with_reducible repeat (first | refine b1 ?_ _ | refine b2 ?_ | refine b3 ?_ _)); refine blk_far ?_ NB198_197.out _; (with_reducible repeat (first | refine b1 ?_ _ | refine b2 ?_ | refine b3 ?_ _)); refine blk_far ?_ NB198_197.out _; (with_reducible repeat (first | refine b1 ?_ _ | refine b2 ?_ | refine b3 ?_ _)); refine blk_far ?_ NB198_197.out _; (with_reducible repeat (first | refine b1 ?_ _ | refine b2 ?_ | refine b3 ?_ _)); exact BK198.out⟩, ⟨bkS BK199⟩, ⟨bS HB⟩⟩
       case rest =>
        clear HC33
        try clear c1
        try clear c2
        try clear p2
        try clear c3
        try clear c4
        try clear c5
        try clear c7
        try clear c8
        try clear c9
        try clear c11
        try clear c12
        try clear c14
        try clear c16
        try clear c19
        try clear c20
        try clear c23
        try clear c23b0
        try clear c23b1
        try clear c24
        try clear c25
        try clear c27
        try clear c28
        try clear c30
        try clear c32
        try clear c34
        try clear c35
        try clear c37
        try clear c37b0
        try clear c37b1
        try clear c38
        try clear c39
        try clear c41
        try clear hcz10_0
        try clear hcz10_1
        try clear hcz10_2
        try clear hcz13_0
        try clear hcz13_1
        try clear hcz13_2
        try clear hcz15_0
        try clear hcz15_1
        try clear hcz15_2
        try clear hcz21_0
        try clear hcz21_1
        try clear hcz21_2
        try clear hcz26_0
        try clear hcz26_1
        try clear hcz26_2
        try clear hcz29_0
        try clear hcz29_1
        try clear hcz29_2
        try clear hcz31_0
        try clear hcz31_1
        try clear hcz31_2
        try clear hcz36_0
        try clear hcz36_1
        try clear hcz36_2
        try clear hcz40_0
        try clear hcz40_1
        try clear hcz40_2
        try clear hcz42_0
        try clear hcz42_1
        try clear hcz42_2
        try clear hfz10_0
        try clear hfz10_1
        try clear hfz10_2
        try clear hfz13_0
        try clear hfz13_1
        try clear hfz13_2
        try clear hfz15_0
        try clear hfz15_1
        try clear hfz15_2
        try clear hfz21_0
        try clear hfz21_1
        try clear hfz21_2
        try clear hfz26_0
        try clear hfz26_1
        try clear hfz26_2
        try clear hfz29_0
        try clear hfz29_1
        try clear hfz29_2
        try clear hfz31_0
        try clear hfz31_1
        try clear hfz31_2
        try clear hfz36_0
        try clear hfz36_1
        try clear hfz36_2
        try clear hfz40_0
        try clear hfz40_1
        try clear hfz40_2
        try clear hfz42_0
        try clear hfz42_1
        try clear hfz42_2
        try clear p2
        obtain ⟨kq, x198000_32, x198001_32, x198002_32, x199000_32, x199001_32, x199002_32, HA, HJ32, BK197, BK198, BK199, HB⟩ := hcut
        cases kq with
        | zero => exact absurd HA.out (by simp [congr_Meet.j2])
        | succ kj32 =>
         have H := HA.out
         clear HA
         simp only [congr_Meet.j2] at H
         replace H := Option.bind_eq_some_iff.mp H
         obtain ⟨t203, A430, H⟩ := H
         replace H : (if t203 = true then (some (x198000_32, x198001_32, x198002_32)) else ((congr_none.f).bind fun bt204 => (some (bt204.1, bt204.2.1, bt204.2.2)))) = some (r1, r2, r3) := H
         have A43 := Aside0.mk A430
         clear A430
         by_cases c44 : t203 = true
         ·
          subst c44
          have H1 : (some (x198000_32, x198001_32, x198002_32)) = some (r1, r2, r3) := by rw [if_pos rfl] at H; exact H
          clear H
          have H := H1
          clear H1
          simp only [Option.some.injEq, Prod.mk.injEq] at H
          obtain ⟨rfl, rfl, rfl⟩ := H
          have hnb45 := NB198_197.out
          have hnc45 := NB197_198.out
          have hnb46 := NB198_199.out
          have hnc46 := NB199_198.out
          have hcz47_0 : wc.cell? ⟨gb198, 0, none⟩ = some (.bool x199000_32) := cz0 BK198
          have hcz47_1 : wc.cell? ⟨gb198, 1, none⟩ = some (.int .i64 x199001_32) := cz1 BK198
          have hcz47_2 : wc.cell? ⟨gb198, 2, none⟩ = some (.int .i64 x199002_32) := cz2 BK198
          have hfz47_0 := fz BK198 0
          have hfz47_1 := fz BK198 1
          have hfz47_2 := fz BK198 2
          have hnb48 := NB197_199.out
          have hnc48 := NB199_197.out
          have hcz49_0 : wc.cell? ⟨gb197, 0, none⟩ = some (.bool x198000_32) := cz0 BK197
          have hcz49_1 : wc.cell? ⟨gb197, 1, none⟩ = some (.int .i64 x198001_32) := cz1 BK197
          have hcz49_2 : wc.cell? ⟨gb197, 2, none⟩ = some (.int .i64 x198002_32) := cz2 BK197
          have hfz49_0 := fz BK197 0
          have hfz49_1 := fz BK197 1
          have hfz49_2 := fz BK197 2
          go_wp2_with (first | ((with_reducible refine gate_callee (f := 14) rfl ?_); refine goesL_ (some 36) rfl rfl Tryd.func14 (by kernel_rfl) rfl #[.agg #[.bool x199000_32, .int .i64 x199001_32, .int .i64 x199002_32], .int .i64 x198002_32] rfl mS ?_; (with_reducible refine (congr_Has.calls kj32 x199000_32 x199001_32 x199002_32 x198002_32 true _ A43.out).mono ?_); rintro e w50 ⟨rfl, hb⟩; refine ⟨_, rfl, ?_⟩; replace BK197 := kB BK197 hb; replace BK198 := kB BK198 hb; replace BK199 := kB BK199 hb; replace HB := kW HB hb; (try clear hb); (try clear hb2); (try clear hk); (try clear hi); have hcz51_0 := cz0 BK197; have hcz51_1 := cz1 BK197; have hcz51_2 := cz2 BK197; have hfz51_0 := fz BK197 0; have hfz51_1 := fz BK197 1; have hfz51_2 := fz BK197 2; have hcz52_0 := cz0 BK199; have hcz52_1 := cz1 BK199; have hcz52_2 := cz2 BK199; have hfz52_0 := fz BK199 0; have hfz52_1 := fz BK199 1; have hfz52_2 := fz BK199 2))
          refine bodyPost_ret (results_cell_row rfl _ _ gb199 23 #[.bool x198000_32, .int .i64 x198001_32, .int .i64 x198002_32] (0, 0) _ rfl (by (with_reducible repeat (first | refine b1 ?_ _ | refine b2 ?_ | refine b3 ?_ _)); refine blk_put (cs := #[.bool x198000_32, .int .i64 x198001_32, .int .i64 0]) ?_ 2 _ rfl; (with_reducible repeat (first | refine b1 ?_ _ | refine b2 ?_ | refine b3 ?_ _)); refine blk_put (cs := #[.bool x198000_32, .int .i64 0, .int .i64 0]) ?_ 1 _ rfl; (with_reducible repeat (first | refine b1 ?_ _ | refine b2 ?_ | refine b3 ?_ _)); refine blk_put (cs := #[.bool false, .int .i64 0, .int .i64 0]) ?_ 0 _ rfl; (with_reducible repeat (first | refine b1 ?_ _ | refine b2 ?_ | refine b3 ?_ _)); exact BK199.out) Tryd.underlying23 rfl (by kernel_rfl)) rfl ?_
          exact ⟨eS, bS HB⟩
         ·
          replace c44 := Bool.eq_false_iff.mpr c44
          subst c44
          have H1 : ((congr_none.f).bind fun bt204 => (some (bt204.1, bt204.2.1, bt204.2.2))) = some (r1, r2, r3) := by rw [if_neg (show ¬ (false = true) by decide)] at H; exact H
          clear H
          have H := H1
          clear H1
          replace H := Option.bind_eq_some_iff.mp H
          obtain ⟨⟨t204, t205, t206⟩, A530, H⟩ := H
          replace H : (some (t204, t205, t206)) = some (r1, r2, r3) := H
          have A53 := Aside0.mk A530
          clear A530
          simp only [Option.some.injEq, Prod.mk.injEq] at H
          obtain ⟨rfl, rfl, rfl⟩ := H
          have hnb54 := NB198_197.out
          have hnc54 := NB197_198.out
          have hnb55 := NB198_199.out
          have hnc55 := NB199_198.out
          have hcz56_0 : wc.cell? ⟨gb198, 0, none⟩ = some (.bool x199000_32) := cz0 BK198
          have hcz56_1 : wc.cell? ⟨gb198, 1, none⟩ = some (.int .i64 x199001_32) := cz1 BK198
          have hcz56_2 : wc.cell? ⟨gb198, 2, none⟩ = some (.int .i64 x199002_32) := cz2 BK198
          have hfz56_0 := fz BK198 0
          have hfz56_1 := fz BK198 1
          have hfz56_2 := fz BK198 2
          have hnb57 := NB197_199.out
          have hnc57 := NB199_197.out
          have hcz58_0 : wc.cell? ⟨gb197, 0, none⟩ = some (.bool x198000_32) := cz0 BK197
          have hcz58_1 : wc.cell? ⟨gb197, 1, none⟩ = some (.int .i64 x198001_32) := cz1 BK197
          have hcz58_2 : wc.cell? ⟨gb197, 2, none⟩ = some (.int .i64 x198002_32) := cz2 BK197
          have hfz58_0 := fz BK197 0
          have hfz58_1 := fz BK197 1
          have hfz58_2 := fz BK197 2
          go_wp2_with (first | ((with_reducible refine gate_callee (f := 14) rfl ?_); refine goesL_ (some 36) rfl rfl Tryd.func14 (by kernel_rfl) rfl #[.agg #[.bool x199000_32, .int .i64 x199001_32, .int .i64 x199002_32], .int .i64 x198002_32] rfl mS ?_; (with_reducible refine (congr_Has.calls kj32 x199000_32 x199001_32 x199002_32 x198002_32 false _ A43.out).mono ?_); rintro e w59 ⟨rfl, hb⟩; refine ⟨_, rfl, ?_⟩; replace BK197 := kB BK197 hb; replace BK198 := kB BK198 hb; replace BK199 := kB BK199 hb; replace HB := kW HB hb; (try clear hb); (try clear hb2); (try clear hk); (try clear hi)) | ((with_reducible refine gate_callee (f := 56) rfl ?_); refine goesL_ (some 38) rfl rfl Tryd.func56 (by kernel_rfl) rfl #[] rfl mS ?_; (with_reducible refine (congr_none.calls  t204 t205 t206 _ A53.out).mono ?_); rintro e w60 ⟨rfl, hb⟩; refine ⟨_, rfl, ?_⟩; replace BK197 := kB BK197 hb; replace BK198 := kB BK198 hb; replace BK199 := kB BK199 hb; replace HB := kW HB hb; (try clear hb); (try clear hb2); (try clear hk); (try clear hi); have hcz61_0 := cz0 BK199; have hcz61_1 := cz1 BK199; have hcz61_2 := cz2 BK199; have hfz61_0 := fz BK199 0; have hfz61_1 := fz BK199 1; have hfz61_2 := fz BK199 2))
          refine bodyPost_ret (results_cell_row rfl _ _ gb199 23 #[.bool t204, .int .i64 t205, .int .i64 t206] (0, 0) _ rfl (by (with_reducible repeat (first | refine b1 ?_ _ | refine b2 ?_ | refine b3 ?_ _)); refine blk_put (cs := #[.bool t204, .int .i64 t205, .int .i64 0]) ?_ 2 _ rfl; (with_reducible repeat (first | refine b1 ?_ _ | refine b2 ?_ | refine b3 ?_ _)); refine blk_put (cs := #[.bool t204, .int .i64 0, .int .i64 0]) ?_ 1 _ rfl; (with_reducible repeat (first | refine b1 ?_ _ | refine b2 ?_ | refine b3 ?_ _)); refine blk_put (cs := #[.bool false, .int .i64 0, .int .i64 0]) ?_ 0 _ rfl; (with_reducible repeat (first | refine b1 ?_ _ | refine b2 ?_ | refine b3 ?_ _)); exact BK199.out) Tryd.underlying23 rfl (by kernel_rfl)) rfl ?_
          exact ⟨eS, bS HB⟩
      ·
       replace c32 := Bool.eq_false_iff.mpr c32
       subst c32
       have H1 : ((congr_gcd_uint64.f kj21 (IntKind.u64.wrap (a0_1)) (IntKind.u64.wrap (a1_1))).bind fun t207 => ((congr_size.f (wrap64 (a0_2 - a1_2))).bind fun t208 => (if t207 = 0 then (none) else (if (Int.tmod t208 t207) = 0 then (if (IntKind.u64.wrap (Int.tdiv (IntKind.u64.wrap (a1_1)) t207)) > 1 then (if (wrap64 (t207)) = 0 then (none) else ((congr_rest.f (wrap64 (Int.tdiv (wrap64 (a1_2 - a0_2)) (wrap64 (t207)))) (IntKind.u64.wrap (Int.tdiv (IntKind.u64.wrap (a1_1)) t207))).bind fun t212 => (if (IntKind.u64.wrap (Int.tdiv (IntKind.u64.wrap (a1_1)) t207)) = 0 then (none) else ((congr_inverse.f kj21 (Int.tmod (IntKind.u64.wrap (Int.tdiv (IntKind.u64.wrap (a0_1)) t207)) (IntKind.u64.wrap (Int.tdiv (IntKind.u64.wrap (a1_1)) t207))) (IntKind.u64.wrap (Int.tdiv (IntKind.u64.wrap (a1_1)) t207))).bind fun t213 => ((bits_Mul64.f t212 t213).bind fun bt214 => ((congr_words_rest.f bt214.1 bt214.2 (IntKind.u64.wrap (Int.tdiv (IntKind.u64.wrap (a1_1)) t207))).bind fun t216 => ((congr_of.f kj21 (IntKind.u64.wrap ((IntKind.u64.wrap (a0_1)) * (IntKind.u64.wrap (Int.tdiv (IntKind.u64.wrap (a1_1)) t207)))) (IntKind.u64.wrap ((IntKind.u64.wrap ((IntKind.u64.wrap (a0_1)) * t216)) + (IntKind.u64.wrap (a0_2))))).bind fun bt217 => (some (bt217.1, bt217.2.1, bt217.2.2))))))))) else ((congr_of.f kj21 (IntKind.u64.wrap ((IntKind.u64.wrap (a0_1)) * (IntKind.u64.wrap (Int.tdiv (IntKind.u64.wrap (a1_1)) t207)))) (IntKind.u64.wrap ((IntKind.u64.wrap ((IntKind.u64.wrap (a0_1)) * 0)) + (IntKind.u64.wrap (a0_2))))).bind fun bt220 => (some (bt220.1, bt220.2.1, bt220.2.2)))) else ((congr_none.f).bind fun bt209 => (some (bt209.1, bt209.2.1, bt209.2.2))))))) = some (r1, r2, r3) := by rw [if_neg (show ¬ (false = true) by decide)] at H; exact H
       clear H
       have H := H1
       clear H1
       replace H := Option.bind_eq_some_iff.mp H
       obtain ⟨t207, A620, H⟩ := H
       replace H : ((congr_size.f (wrap64 (a0_2 - a1_2))).bind fun t208 => (if t207 = 0 then (none) else (if (Int.tmod t208 t207) = 0 then (if (IntKind.u64.wrap (Int.tdiv (IntKind.u64.wrap (a1_1)) t207)) > 1 then (if (wrap64 (t207)) = 0 then (none) else ((congr_rest.f (wrap64 (Int.tdiv (wrap64 (a1_2 - a0_2)) (wrap64 (t207)))) (IntKind.u64.wrap (Int.tdiv (IntKind.u64.wrap (a1_1)) t207))).bind fun t212 => (if (IntKind.u64.wrap (Int.tdiv (IntKind.u64.wrap (a1_1)) t207)) = 0 then (none) else ((congr_inverse.f kj21 (Int.tmod (IntKind.u64.wrap (Int.tdiv (IntKind.u64.wrap (a0_1)) t207)) (IntKind.u64.wrap (Int.tdiv (IntKind.u64.wrap (a1_1)) t207))) (IntKind.u64.wrap (Int.tdiv (IntKind.u64.wrap (a1_1)) t207))).bind fun t213 => ((bits_Mul64.f t212 t213).bind fun bt214 => ((congr_words_rest.f bt214.1 bt214.2 (IntKind.u64.wrap (Int.tdiv (IntKind.u64.wrap (a1_1)) t207))).bind fun t216 => ((congr_of.f kj21 (IntKind.u64.wrap ((IntKind.u64.wrap (a0_1)) * (IntKind.u64.wrap (Int.tdiv (IntKind.u64.wrap (a1_1)) t207)))) (IntKind.u64.wrap ((IntKind.u64.wrap ((IntKind.u64.wrap (a0_1)) * t216)) + (IntKind.u64.wrap (a0_2))))).bind fun bt217 => (some (bt217.1, bt217.2.1, bt217.2.2))))))))) else ((congr_of.f kj21 (IntKind.u64.wrap ((IntKind.u64.wrap (a0_1)) * (IntKind.u64.wrap (Int.tdiv (IntKind.u64.wrap (a1_1)) t207)))) (IntKind.u64.wrap ((IntKind.u64.wrap ((IntKind.u64.wrap (a0_1)) * 0)) + (IntKind.u64.wrap (a0_2))))).bind fun bt220 => (some (bt220.1, bt220.2.1, bt220.2.2)))) else ((congr_none.f).bind fun bt209 => (some (bt209.1, bt209.2.1, bt209.2.2)))))) = some (r1, r2, r3) := H
       have A62 := Aside0.mk A620
       clear A620
       replace H := Option.bind_eq_some_iff.mp H
       obtain ⟨t208, A630, H⟩ := H
       replace H : (if t207 = 0 then (none) else (if (Int.tmod t208 t207) = 0 then (if (IntKind.u64.wrap (Int.tdiv (IntKind.u64.wrap (a1_1)) t207)) > 1 then (if (wrap64 (t207)) = 0 then (none) else ((congr_rest.f (wrap64 (Int.tdiv (wrap64 (a1_2 - a0_2)) (wrap64 (t207)))) (IntKind.u64.wrap (Int.tdiv (IntKind.u64.wrap (a1_1)) t207))).bind fun t212 => (if (IntKind.u64.wrap (Int.tdiv (IntKind.u64.wrap (a1_1)) t207)) = 0 then (none) else ((congr_inverse.f kj21 (Int.tmod (IntKind.u64.wrap (Int.tdiv (IntKind.u64.wrap (a0_1)) t207)) (IntKind.u64.wrap (Int.tdiv (IntKind.u64.wrap (a1_1)) t207))) (IntKind.u64.wrap (Int.tdiv (IntKind.u64.wrap (a1_1)) t207))).bind fun t213 => ((bits_Mul64.f t212 t213).bind fun bt214 => ((congr_words_rest.f bt214.1 bt214.2 (IntKind.u64.wrap (Int.tdiv (IntKind.u64.wrap (a1_1)) t207))).bind fun t216 => ((congr_of.f kj21 (IntKind.u64.wrap ((IntKind.u64.wrap (a0_1)) * (IntKind.u64.wrap (Int.tdiv (IntKind.u64.wrap (a1_1)) t207)))) (IntKind.u64.wrap ((IntKind.u64.wrap ((IntKind.u64.wrap (a0_1)) * t216)) + (IntKind.u64.wrap (a0_2))))).bind fun bt217 => (some (bt217.1, bt217.2.1, bt217.2.2))))))))) else ((congr_of.f kj21 (IntKind.u64.wrap ((IntKind.u64.wrap (a0_1)) * (IntKind.u64.wrap (Int.tdiv (IntKind.u64.wrap (a1_1)) t207)))) (IntKind.u64.wrap ((IntKind.u64.wrap ((IntKind.u64.wrap (a0_1)) * 0)) + (IntKind.u64.wrap (a0_2))))).bind fun bt220 => (some (bt220.1, bt220.2.1, bt220.2.2)))) else ((congr_none.f).bind fun bt209 => (some (bt209.1, bt209.2.1, bt209.2.2))))) = some (r1, r2, r3) := H
       have A63 := Aside0.mk A630
       clear A630
       by_cases c64 : t207 = 0
       ·
        rw [if_pos c64] at H
        exact absurd H (by simp)
       ·
        rw [if_neg c64] at H
        have c64b0 : (t207 == 0) = false := beq_eq_false_iff_ne.mpr c64
        have c64b1 : (t207 != 0) = true := bne_iff_ne.mpr c64
        by_cases c65 : (Int.tmod t208 t207) = 0
        ·
         rw [if_pos c65] at H
         have c65b0 : ((Int.tmod t208 t207) == 0) = true := beq_iff_eq.mpr c65
         have c65b1 : ((Int.tmod t208 t207) != 0) = false := bne_eq_false_iff_eq.mpr c65
         clear c65
         by_cases c66 : (IntKind.u64.wrap (Int.tdiv (IntKind.u64.wrap (a1_1)) t207)) > 1
         ·
          rw [if_pos c66] at H
          have c66b0 : decide (1 < (IntKind.u64.wrap (Int.tdiv (IntKind.u64.wrap (a1_1)) t207))) = true := decide_eq_true c66
          clear c66
          by_cases c67 : (wrap64 (t207)) = 0
          ·
           rw [if_pos c67] at H
           exact absurd H (by simp)
          ·
           rw [if_neg c67] at H
           have c67b0 : ((wrap64 (t207)) == 0) = false := beq_eq_false_iff_ne.mpr c67
           have c67b1 : ((wrap64 (t207)) != 0) = true := bne_iff_ne.mpr c67
           replace H := Option.bind_eq_some_iff.mp H
           obtain ⟨t212, A680, H⟩ := H
           replace H : (if (IntKind.u64.wrap (Int.tdiv (IntKind.u64.wrap (a1_1)) t207)) = 0 then (none) else ((congr_inverse.f kj21 (Int.tmod (IntKind.u64.wrap (Int.tdiv (IntKind.u64.wrap (a0_1)) t207)) (IntKind.u64.wrap (Int.tdiv (IntKind.u64.wrap (a1_1)) t207))) (IntKind.u64.wrap (Int.tdiv (IntKind.u64.wrap (a1_1)) t207))).bind fun t213 => ((bits_Mul64.f t212 t213).bind fun bt214 => ((congr_words_rest.f bt214.1 bt214.2 (IntKind.u64.wrap (Int.tdiv (IntKind.u64.wrap (a1_1)) t207))).bind fun t216 => ((congr_of.f kj21 (IntKind.u64.wrap ((IntKind.u64.wrap (a0_1)) * (IntKind.u64.wrap (Int.tdiv (IntKind.u64.wrap (a1_1)) t207)))) (IntKind.u64.wrap ((IntKind.u64.wrap ((IntKind.u64.wrap (a0_1)) * t216)) + (IntKind.u64.wrap (a0_2))))).bind fun bt217 => (some (bt217.1, bt217.2.1, bt217.2.2))))))) = some (r1, r2, r3) := H
           have A68 := Aside0.mk A680
           clear A680
           by_cases c69 : (IntKind.u64.wrap (Int.tdiv (IntKind.u64.wrap (a1_1)) t207)) = 0
           ·
            rw [if_pos c69] at H
            exact absurd H (by simp)
           ·
            rw [if_neg c69] at H
            have c69b0 : ((IntKind.u64.wrap (Int.tdiv (IntKind.u64.wrap (a1_1)) t207)) == 0) = false := beq_eq_false_iff_ne.mpr c69
            have c69b1 : ((IntKind.u64.wrap (Int.tdiv (IntKind.u64.wrap (a1_1)) t207)) != 0) = true := bne_iff_ne.mpr c69
            replace H := Option.bind_eq_some_iff.mp H
            obtain ⟨t213, A700, H⟩ := H
            replace H : ((bits_Mul64.f t212 t213).bind fun bt214 => ((congr_words_rest.f bt214.1 bt214.2 (IntKind.u64.wrap (Int.tdiv (IntKind.u64.wrap (a1_1)) t207))).bind fun t216 => ((congr_of.f kj21 (IntKind.u64.wrap ((IntKind.u64.wrap (a0_1)) * (IntKind.u64.wrap (Int.tdiv (IntKind.u64.wrap (a1_1)) t207)))) (IntKind.u64.wrap ((IntKind.u64.wrap ((IntKind.u64.wrap (a0_1)) * t216)) + (IntKind.u64.wrap (a0_2))))).bind fun bt217 => (some (bt217.1, bt217.2.1, bt217.2.2))))) = some (r1, r2, r3) := H
            have A70 := Aside0.mk A700
            clear A700
            replace H := Option.bind_eq_some_iff.mp H
            obtain ⟨⟨t214, t215⟩, A710, H⟩ := H
            replace H : ((congr_words_rest.f t214 t215 (IntKind.u64.wrap (Int.tdiv (IntKind.u64.wrap (a1_1)) t207))).bind fun t216 => ((congr_of.f kj21 (IntKind.u64.wrap ((IntKind.u64.wrap (a0_1)) * (IntKind.u64.wrap (Int.tdiv (IntKind.u64.wrap (a1_1)) t207)))) (IntKind.u64.wrap ((IntKind.u64.wrap ((IntKind.u64.wrap (a0_1)) * t216)) + (IntKind.u64.wrap (a0_2))))).bind fun bt217 => (some (bt217.1, bt217.2.1, bt217.2.2)))) = some (r1, r2, r3) := H
            have A71 := Aside0.mk A710
            clear A710
            replace H := Option.bind_eq_some_iff.mp H
            obtain ⟨t216, A720, H⟩ := H
            replace H : ((congr_of.f kj21 (IntKind.u64.wrap ((IntKind.u64.wrap (a0_1)) * (IntKind.u64.wrap (Int.tdiv (IntKind.u64.wrap (a1_1)) t207)))) (IntKind.u64.wrap ((IntKind.u64.wrap ((IntKind.u64.wrap (a0_1)) * t216)) + (IntKind.u64.wrap (a0_2))))).bind fun bt217 => (some (bt217.1, bt217.2.1, bt217.2.2))) = some (r1, r2, r3) := H
            have A72 := Aside0.mk A720
            clear A720
            replace H := Option.bind_eq_some_iff.mp H
            obtain ⟨⟨t217, t218, t219⟩, A730, H⟩ := H
            replace H : (some (t217, t218, t219)) = some (r1, r2, r3) := H
            have A73 := Aside0.mk A730
            clear A730
            simp only [Option.some.injEq, Prod.mk.injEq] at H
            obtain ⟨rfl, rfl, rfl⟩ := H
            try go_wp2
            replace BK197 := Aside0.mk (blk_drew BK197.out)
            replace BK198 := Aside0.mk (blk_drew BK198.out)
            replace BK199 := Aside0.mk (blk_drew BK199.out)
            replace HB := Aside0.mk (below_drew1 HB.out)
            refine start_ (n := 8) (S := fun w' => w'.cell? ⟨gb197, 0, none⟩ = some (.bool a0_0) ∧ w'.cell? ⟨gb197, 1, none⟩ = some (.int .i64 a0_1) ∧ w'.cell? ⟨gb197, 2, none⟩ = some (.int .i64 a0_2) ∧ w'.cell? ⟨gb198, 0, none⟩ = some (.bool a1_0) ∧ w'.cell? ⟨gb198, 1, none⟩ = some (.int .i64 a1_1) ∧ w'.cell? ⟨gb198, 2, none⟩ = some (.int .i64 a1_2)) (ds := []) #[false, false, false, false, false, false, false, false] (by kernel_rfl) rfl rfl ⟨cz0 BK197, cz1 BK197, cz2 BK197, cz0 BK198, cz1 BK198, cz2 BK198⟩ (fun hHeld => ?_); refine with_tabW congr_Meet.tab9 congr_Meet.bits9 (fun HT_ HW_ => ?_)
            generalize wc.drew = w74 at BK197 BK198 BK199 HB hHeld ⊢
            refine pure_ (i := 0) (N := some 39) (v := ?_) (a' := ?_) #[true, false, false, false, false, false, false, false] rfl rfl (any_of HT_.out (by kernel_rfl)) (fun _ _ _ h => h) (Or.inl ⟨by rfl, ?_⟩) ?_ ?_
            rotate_left
            ·
             intro w'
             go_simp
             with_reducible rfl
            rotate_left
            ·
             simp only [Act.put, lA, lB, lC, i64_w, i32_w]
             rfl
            refine pure_ (i := 3) (N := some 42) (v := ?_) (a' := ?_) #[true, false, false, true, false, false, false, false] rfl rfl (any_of HT_.out (by kernel_rfl)) (fun _ _ _ h => h) (Or.inl ⟨by rfl, ?_⟩) ?_ ?_
            rotate_left
            ·
             intro w'
             go_simp
             with_reducible rfl
            rotate_left
            ·
             simp only [Act.put, lA, lB, lC, i64_w, i32_w]
             rfl
            refine take_ (i := 1) (N := some 40) (v := ?_) (a' := ?_) #[true, true, false, true, false, false, false, false] rfl rfl (take_ofW HT_.out HW_.out (by kernel_rfl)) (fun _ _ _ h => h) (Or.inl ⟨by rfl, ?_⟩) hHeld ?_ ?_
            rotate_left
            ·
             rintro w' ⟨s0, s1, s2, s3, s4, s5⟩
             go_simp
             with_reducible rfl
            rotate_left
            ·
             simp only [Act.put, lA, lB, lC, i64_w, i32_w]
             rfl
            refine pure_ (i := 2) (N := some 41) (v := ?_) (a' := ?_) #[true, true, true, true, false, false, false, false] rfl rfl (any_of HT_.out (by kernel_rfl)) (fun _ _ _ h => h) (Or.inl ⟨by rfl, ?_⟩) ?_ ?_
            rotate_left
            ·
             intro w'
             go_simp
             with_reducible rfl
            rotate_left
            ·
             simp only [Act.put, lA, lB, lC, i64_w, i32_w]
             rfl
            refine pure_ (i := 6) (N := some 5) (v := ?_) (a' := ?_) #[true, true, true, true, false, false, true, false] rfl rfl (any_of HT_.out (by kernel_rfl)) (fun _ _ _ h => h) (Or.inl ⟨by rfl, ?_⟩) ?_ ?_
            rotate_left
            ·
             intro w'
             go_simp
             with_reducible rfl
            rotate_left
            ·
             simp only [Act.put, lA, lB, lC, i64_w, i32_w]
             rfl
            refine take_ (i := 4) (N := some 43) (v := ?_) (a' := ?_) #[true, true, true, true, true, false, true, false] rfl rfl (take_ofW HT_.out HW_.out (by kernel_rfl)) (fun _ _ _ h => h) (Or.inl ⟨by rfl, ?_⟩) hHeld ?_ ?_
            rotate_left
            ·
             rintro w' ⟨s0, s1, s2, s3, s4, s5⟩
             go_simp
             with_reducible rfl
            rotate_left
            ·
             simp only [Act.put, lA, lB, lC, i64_w, i32_w]
             rfl
            refine pure_ (i := 5) (N := some 44) (v := ?_) (a' := ?_) #[true, true, true, true, true, true, true, false] rfl rfl (any_of HT_.out (by kernel_rfl)) (fun _ _ _ h => h) (Or.inl ⟨by rfl, ?_⟩) ?_ ?_
            rotate_left
            ·
             intro w'
             go_simp
             with_reducible rfl
            rotate_left
            ·
             simp only [Act.put, lA, lB, lC, i64_w, i32_w]
             rfl
            refine pure_ (i := 7) (N := some 6) (v := ?_) (a' := ?_) #[true, true, true, true, true, true, true, true] rfl rfl (any_of HT_.out (by kernel_rfl)) (fun _ _ _ h => h) (Or.inl ⟨by rfl, ?_⟩) ?_ ?_
            rotate_left
            ·
             intro w'
             go_simp
             with_reducible rfl
            rotate_left
            ·
             simp only [Act.put, lA, lB, lC, i64_w, i32_w]
             rfl
            refine done_ (done_of HT_.out (by kernel_rfl)) ?_
            try go_wp2_with (first | ((with_reducible refine gate_callee (f := 62) rfl ?_); refine goesL_ (some 47) rfl rfl Tryd.func62 (by kernel_rfl) rfl #[.int .u64 (IntKind.u64.wrap (a0_1)), .int .u64 (IntKind.u64.wrap (a1_1))] rfl mS ?_; (with_reducible refine (congr_gcd_uint64.calls kj21 (IntKind.u64.wrap (a0_1)) (IntKind.u64.wrap (a1_1)) t207 _ A62.out).mono ?_); rintro e w' ⟨rfl, ⟨nd, rfl⟩⟩; refine ⟨_, rfl, ?_⟩; (try (rw [drewN_self w74]; generalize hq_ : World.drewN w74 _ = w74; have n0_ : Aside0 (w74.heap[gb197]? = some (.cells #[.bool a0_0, .int .i64 a0_1, .int .i64 a0_2] 23 (0, 0))) := ⟨by rw [← hq_]; exact (bkS BK197)⟩; have n1_ : Aside0 (w74.heap[gb198]? = some (.cells #[.bool a1_0, .int .i64 a1_1, .int .i64 a1_2] 23 (0, 0))) := ⟨by rw [← hq_]; exact (bkS BK198)⟩; have n2_ : Aside0 (w74.heap[gb199]? = some (.cells #[.bool false, .int .i64 0, .int .i64 0] 23 (0, 0))) := ⟨by rw [← hq_]; exact (bkS BK199)⟩; have n3_ : Aside0 (Below w.heap.size w w74) := ⟨by rw [← hq_]; exact (bS HB)⟩; clear BK197 BK198 BK199 HB hq_; have BK197 := n0_; have BK198 := n1_; have BK199 := n2_; have HB := n3_; clear n0_ n1_ n2_ n3_)); have hnb75 := NB197_198.out; have hnc75 := NB198_197.out; have hnb76 := NB197_199.out; have hnc76 := NB199_197.out; have hcz77_0 := cz0 BK197; have hcz77_1 := cz1 BK197; have hcz77_2 := cz2 BK197; have hfz77_0 := fz BK197 0; have hfz77_1 := fz BK197 1; have hfz77_2 := fz BK197 2; have hnb78 := NB198_199.out; have hnc78 := NB199_198.out; have hcz79_0 := cz0 BK198; have hcz79_1 := cz1 BK198; have hcz79_2 := cz2 BK198; have hfz79_0 := fz BK198 0; have hfz79_1 := fz BK198 1; have hfz79_2 := fz BK198 2) | ((with_reducible refine gate_callee (f := 52) rfl ?_); refine goesL_ (some 53) rfl rfl Tryd.func52 (by kernel_rfl) rfl #[.int .i64 (wrap64 (a0_2 - a1_2))] rfl mS ?_; (with_reducible refine (congr_size.calls (wrap64 (a0_2 - a1_2)) t208 _ A63.out).mono ?_); rintro e w' ⟨rfl, ⟨nd, rfl⟩⟩; refine ⟨_, rfl, ?_⟩; (try (rw [drewN_self w74]; generalize hq_ : World.drewN w74 _ = w74; have n0_ : Aside0 (w74.heap[gb197]? = some (.cells #[.bool a0_0, .int .i64 a0_1, .int .i64 a0_2] 23 (0, 0))) := ⟨by rw [← hq_]; exact (bkS BK197)⟩; have n1_ : Aside0 (w74.heap[gb198]? = some (.cells #[.bool a1_0, .int .i64 a1_1, .int .i64 a1_2] 23 (0, 0))) := ⟨by rw [← hq_]; exact (bkS BK198)⟩; have n2_ : Aside0 (w74.heap[gb199]? = some (.cells #[.bool false, .int .i64 0, .int .i64 0] 23 (0, 0))) := ⟨by rw [← hq_]; exact (bkS BK199)⟩; have n3_ : Aside0 (Below w.heap.size w w74) := ⟨by rw [← hq_]; exact (bS HB)⟩; clear BK197 BK198 BK199 HB hq_; have BK197 := n0_; have BK198 := n1_; have BK199 := n2_; have HB := n3_; clear n0_ n1_ n2_ n3_))))
            replace BK197 := Aside0.mk (blk_drew BK197.out)
            replace BK198 := Aside0.mk (blk_drew BK198.out)
            replace BK199 := Aside0.mk (blk_drew BK199.out)
            replace HB := Aside0.mk (below_drew1 HB.out)
            refine start_ (n := 29) (S := fun w' => w'.cell? ⟨gb198, 0, none⟩ = some (.bool a1_0) ∧ w'.cell? ⟨gb198, 1, none⟩ = some (.int .i64 a1_1) ∧ w'.cell? ⟨gb198, 2, none⟩ = some (.int .i64 a1_2) ∧ w'.cell? ⟨gb197, 0, none⟩ = some (.bool a0_0) ∧ w'.cell? ⟨gb197, 1, none⟩ = some (.int .i64 a0_1) ∧ w'.cell? ⟨gb197, 2, none⟩ = some (.int .i64 a0_2)) (ds := []) #[false, false, false, false, false, false, false, false, false, false, false, false, false, false, false, false, false, false, false, false, false, false, false, false, false, false, false, false, false] (by kernel_rfl) rfl rfl ⟨cz0 BK198, cz1 BK198, cz2 BK198, cz0 BK197, cz1 BK197, cz2 BK197⟩ (fun hHeld => ?_); refine with_tabW congr_Meet.tab15 congr_Meet.bits15 (fun HT_ HW_ => ?_)
            generalize w74.drew = w80 at BK197 BK198 BK199 HB hHeld ⊢
            refine pure_ (i := 0) (N := some 63) (v := ?_) (a' := ?_) #[true, false, false, false, false, false, false, false, false, false, false, false, false, false, false, false, false, false, false, false, false, false, false, false, false, false, false, false, false] rfl rfl (any_of HT_.out (by kernel_rfl)) (fun _ _ _ h => h) (Or.inl ⟨by rfl, ?_⟩) ?_ ?_
            rotate_left
            ·
             intro w'
             go_simp
             with_reducible rfl
            rotate_left
            ·
             simp only [Act.put, lA, lB, lC, i64_w, i32_w]
             rfl
            refine pure_ (i := 2) (N := some 65) (v := ?_) (a' := ?_) #[true, false, true, false, false, false, false, false, false, false, false, false, false, false, false, false, false, false, false, false, false, false, false, false, false, false, false, false, false] rfl rfl (any_of HT_.out (by kernel_rfl)) (fun _ _ _ h => h) (Or.inl ⟨by rfl, ?_⟩) ?_ ?_
            rotate_left
            ·
             intro w'
             go_simp
             with_reducible rfl
            rotate_left
            ·
             simp only [Act.put, lA, lB, lC, i64_w, i32_w]
             rfl
            refine pure_ (i := 5) (N := some 68) (v := ?_) (a' := ?_) #[true, false, true, false, false, true, false, false, false, false, false, false, false, false, false, false, false, false, false, false, false, false, false, false, false, false, false, false, false] rfl rfl (any_of HT_.out (by kernel_rfl)) (fun _ _ _ h => h) (Or.inl ⟨by rfl, ?_⟩) ?_ ?_
            rotate_left
            ·
             intro w'
             go_simp
             with_reducible rfl
            rotate_left
            ·
             simp only [Act.put, lA, lB, lC, i64_w, i32_w]
             rfl
            refine pure_ (i := 6) (N := some 69) (v := ?_) (a' := ?_) #[true, false, true, false, false, true, true, false, false, false, false, false, false, false, false, false, false, false, false, false, false, false, false, false, false, false, false, false, false] rfl rfl (any_of HT_.out (by kernel_rfl)) (fun _ _ _ h => h) (Or.inl ⟨by rfl, ?_⟩) ?_ ?_
            rotate_left
            ·
             intro w'
             go_simp
             with_reducible rfl
            rotate_left
            ·
             simp only [Act.put, lA, lB, lC, i64_w, i32_w]
             rfl
            refine pure_ (i := 8) (N := some 71) (v := ?_) (a' := ?_) #[true, false, true, false, false, true, true, false, true, false, false, false, false, false, false, false, false, false, false, false, false, false, false, false, false, false, false, false, false] rfl rfl (any_of HT_.out (by kernel_rfl)) (fun _ _ _ h => h) (Or.inl ⟨by rfl, ?_⟩) ?_ ?_
            rotate_left
            ·
             intro w'
             go_simp
             with_reducible rfl
            rotate_left
            ·
             simp only [Act.put, lA, lB, lC, i64_w, i32_w]
             rfl
            refine pure_ (i := 9) (N := some 72) (v := ?_) (a' := ?_) #[true, false, true, false, false, true, true, false, true, true, false, false, false, false, false, false, false, false, false, false, false, false, false, false, false, false, false, false, false] rfl rfl (any_of HT_.out (by kernel_rfl)) (fun _ _ _ h => h) (Or.inl ⟨by rfl, ?_⟩) ?_ ?_
            rotate_left
            ·
             intro w'
             go_simp
             with_reducible rfl
            rotate_left
            ·
             simp only [Act.put, lA, lB, lC, i64_w, i32_w]
             rfl
            refine pure_ (i := 10) (N := some 73) (v := ?_) (a' := ?_) #[true, false, true, false, false, true, true, false, true, true, true, false, false, false, false, false, false, false, false, false, false, false, false, false, false, false, false, false, false] rfl rfl (any_of HT_.out (by kernel_rfl)) (fun _ _ _ h => h) (Or.inl ⟨by rfl, ?_⟩) ?_ ?_
            rotate_left
            ·
             intro w'
             go_simp
             with_reducible rfl
            rotate_left
            ·
             simp only [Act.put, lA, lB, lC, i64_w, i32_w]
             rfl
            refine pure_ (i := 12) (N := some 75) (v := ?_) (a' := ?_) #[true, false, true, false, false, true, true, false, true, true, true, false, true, false, false, false, false, false, false, false, false, false, false, false, false, false, false, false, false] rfl rfl (any_of HT_.out (by kernel_rfl)) (fun _ _ _ h => h) (Or.inl ⟨by rfl, ?_⟩) ?_ ?_
            rotate_left
            ·
             intro w'
             go_simp
             with_reducible rfl
            rotate_left
            ·
             simp only [Act.put, lA, lB, lC, i64_w, i32_w]
             rfl
            refine pure_ (i := 13) (N := some 76) (v := ?_) (a' := ?_) #[true, false, true, false, false, true, true, false, true, true, true, false, true, true, false, false, false, false, false, false, false, false, false, false, false, false, false, false, false] rfl rfl (any_of HT_.out (by kernel_rfl)) (fun _ _ _ h => h) (Or.inl ⟨by rfl, ?_⟩) ?_ ?_
            rotate_left
            ·
             intro w'
             go_simp
             with_reducible rfl
            rotate_left
            ·
             simp only [Act.put, lA, lB, lC, i64_w, i32_w]
             rfl
            refine pure_ (i := 14) (N := some 77) (v := ?_) (a' := ?_) #[true, false, true, false, false, true, true, false, true, true, true, false, true, true, true, false, false, false, false, false, false, false, false, false, false, false, false, false, false] rfl rfl (any_of HT_.out (by kernel_rfl)) (fun _ _ _ h => h) (Or.inl ⟨by rfl, ?_⟩) ?_ ?_
            rotate_left
            ·
             intro w'
             go_simp
             with_reducible rfl
            rotate_left
            ·
             simp only [Act.put, lA, lB, lC, i64_w, i32_w]
             rfl
            refine pure_ (i := 15) (N := some 78) (v := ?_) (a' := ?_) #[true, false, true, false, false, true, true, false, true, true, true, false, true, true, true, true, false, false, false, false, false, false, false, false, false, false, false, false, false] rfl rfl (any_of HT_.out (by kernel_rfl)) (fun _ _ _ h => h) (Or.inl ⟨by rfl, ?_⟩) ?_ ?_
            rotate_left
            ·
             intro w'
             go_simp
             with_reducible rfl
            rotate_left
            ·
             simp only [Act.put, lA, lB, lC, i64_w, i32_w]
             rfl
            refine pure_ (i := 16) (N := some 79) (v := ?_) (a' := ?_) #[true, false, true, false, false, true, true, false, true, true, true, false, true, true, true, true, true, false, false, false, false, false, false, false, false, false, false, false, false] rfl rfl (any_of HT_.out (by kernel_rfl)) (fun _ _ _ h => h) (Or.inl ⟨by rfl, ?_⟩) ?_ ?_
            rotate_left
            ·
             intro w'
             go_simp
             with_reducible rfl
            rotate_left
            ·
             simp only [Act.put, lA, lB, lC, i64_w, i32_w]
             rfl
            refine pure_ (i := 17) (N := some 80) (v := ?_) (a' := ?_) #[true, false, true, false, false, true, true, false, true, true, true, false, true, true, true, true, true, true, false, false, false, false, false, false, false, false, false, false, false] rfl rfl (any_of HT_.out (by kernel_rfl)) (fun _ _ _ h => h) (Or.inl ⟨by rfl, ?_⟩) ?_ ?_
            rotate_left
            ·
             intro w'
             go_simp
             with_reducible rfl
            rotate_left
            ·
             simp only [Act.put, lA, lB, lC, i64_w, i32_w]
             rfl
            refine pure_ (i := 18) (N := some 81) (v := ?_) (a' := ?_) #[true, false, true, false, false, true, true, false, true, true, true, false, true, true, true, true, true, true, true, false, false, false, false, false, false, false, false, false, false] rfl rfl (any_of HT_.out (by kernel_rfl)) (fun _ _ _ h => h) (Or.inl ⟨by rfl, ?_⟩) ?_ ?_
            rotate_left
            ·
             intro w'
             go_simp
             with_reducible rfl
            rotate_left
            ·
             simp only [Act.put, lA, lB, lC, i64_w, i32_w]
             rfl
            refine pure_ (i := 19) (N := some 82) (v := ?_) (a' := ?_) #[true, false, true, false, false, true, true, false, true, true, true, false, true, true, true, true, true, true, true, true, false, false, false, false, false, false, false, false, false] rfl rfl (any_of HT_.out (by kernel_rfl)) (fun _ _ _ h => h) (Or.inl ⟨by rfl, ?_⟩) ?_ ?_
            rotate_left
            ·
             intro w'
             go_simp
             with_reducible rfl
            rotate_left
            ·
             simp only [Act.put, lA, lB, lC, i64_w, i32_w]
             rfl
            refine pure_ (i := 20) (N := some 83) (v := ?_) (a' := ?_) #[true, false, true, false, false, true, true, false, true, true, true, false, true, true, true, true, true, true, true, true, true, false, false, false, false, false, false, false, false] rfl rfl (any_of HT_.out (by kernel_rfl)) (fun _ _ _ h => h) (Or.inl ⟨by rfl, ?_⟩) ?_ ?_
            rotate_left
            ·
             intro w'
             go_simp
             with_reducible rfl
            rotate_left
            ·
             simp only [Act.put, lA, lB, lC, i64_w, i32_w]
             rfl
            refine pure_ (i := 21) (N := some 84) (v := ?_) (a' := ?_) #[true, false, true, false, false, true, true, false, true, true, true, false, true, true, true, true, true, true, true, true, true, true, false, false, false, false, false, false, false] rfl rfl (any_of HT_.out (by kernel_rfl)) (fun _ _ _ h => h) (Or.inl ⟨by rfl, ?_⟩) ?_ ?_
            rotate_left
            ·
             intro w'
             go_simp
             with_reducible rfl
            rotate_left
            ·
             simp only [Act.put, lA, lB, lC, i64_w, i32_w]
             rfl
            refine take_ (i := 1) (N := some 64) (v := ?_) (a' := ?_) #[true, true, true, false, false, true, true, false, true, true, true, false, true, true, true, true, true, true, true, true, true, true, false, false, false, false, false, false, false] rfl rfl (take_ofW HT_.out HW_.out (by kernel_rfl)) (fun _ _ _ h => h) (Or.inl ⟨by rfl, ?_⟩) hHeld ?_ ?_
            rotate_left
            ·
             rintro w' ⟨s0, s1, s2, s3, s4, s5⟩
             go_simp
             with_reducible rfl
            rotate_left
            ·
             simp only [Act.put, lA, lB, lC, i64_w, i32_w]
             rfl
            refine take_ (i := 3) (N := some 66) (v := ?_) (a' := ?_) #[true, true, true, true, false, true, true, false, true, true, true, false, true, true, true, true, true, true, true, true, true, true, false, false, false, false, false, false, false] rfl rfl (take_ofW HT_.out HW_.out (by kernel_rfl)) (fun _ _ _ h => h) (Or.inl ⟨by rfl, ?_⟩) hHeld ?_ ?_
            rotate_left
            ·
             rintro w' ⟨s0, s1, s2, s3, s4, s5⟩
             go_simp
             with_reducible rfl
            rotate_left
            ·
             simp only [Act.put, lA, lB, lC, i64_w, i32_w]
             rfl
            refine pure_ (i := 4) (N := some 67) (v := ?_) (a' := ?_) #[true, true, true, true, true, true, true, false, true, true, true, false, true, true, true, true, true, true, true, true, true, true, false, false, false, false, false, false, false] rfl rfl (any_of HT_.out (by kernel_rfl)) (fun _ _ _ h => h) (Or.inl ⟨by rfl, ?_⟩) ?_ ?_
            rotate_left
            ·
             intro w'
             go_simp
             with_reducible rfl
            rotate_left
            ·
             simp only [Act.put, lA, lB, lC, i64_w, i32_w]
             rfl
            refine pure_ (i := 7) (N := some 70) (v := ?_) (a' := ?_) #[true, true, true, true, true, true, true, true, true, true, true, false, true, true, true, true, true, true, true, true, true, true, false, false, false, false, false, false, false] rfl rfl (any_of HT_.out (by kernel_rfl)) (fun _ _ _ h => h) (Or.inl ⟨by rfl, ?_⟩) ?_ ?_
            rotate_left
            ·
             intro w'
             go_simp
             with_reducible rfl
            rotate_left
            ·
             simp only [Act.put, lA, lB, lC, i64_w, i32_w]
             rfl
            refine one_ (i := 11) (N := some 74) #[true, true, true, true, true, true, true, true, true, true, true, true, true, true, true, true, true, true, true, true, true, true, false, false, false, false, false, false, false] rfl rfl (one_of HT_.out (by kernel_rfl)) (by decide) (fun K hK => ?_)
            refine goes_ Tryd.func53 (by kernel_rfl) rfl #[.int .i64 (wrap64 (Int.tdiv (wrap64 (a1_2 - a0_2)) (wrap64 (t207)))), .int .u64 (IntKind.u64.wrap (Int.tdiv (IntKind.u64.wrap (a1_1)) t207))] (by rfl) rfl rfl mS ?_
            with_reducible refine (congr_rest.calls (wrap64 (Int.tdiv (wrap64 (a1_2 - a0_2)) (wrap64 (t207)))) (IntKind.u64.wrap (Int.tdiv (IntKind.u64.wrap (a1_1)) t207)) t212 _ A68.out).mono ?_
            rintro e w' ⟨rfl, ⟨nd, rfl⟩⟩
            refine ⟨_, rfl, ?_⟩
            refine hK.out _ _ ⟨cz0 BK198, cz1 BK198, cz2 BK198, cz0 BK197, cz1 BK197, cz2 BK197⟩ (fun hHeld => ?_)
            clear hK K
            refine norm_ (a' := ?_) ?_ ?_
            rotate_left
            ·
             show Act.put _ (some 74) _ = _
             simp only [Act.put, lA, lB, lC, i64_w, i32_w]
             rfl
            refine one_ (i := 22) (N := some 85) #[true, true, true, true, true, true, true, true, true, true, true, true, true, true, true, true, true, true, true, true, true, true, true, false, false, false, false, false, false] rfl rfl (one_of HT_.out (by kernel_rfl)) (by decide) (fun K hK => ?_)
            refine goes_ Tryd.func64 (by kernel_rfl) rfl #[.int .u64 (Int.tmod (IntKind.u64.wrap (Int.tdiv (IntKind.u64.wrap (a0_1)) t207)) (IntKind.u64.wrap (Int.tdiv (IntKind.u64.wrap (a1_1)) t207))), .int .u64 (IntKind.u64.wrap (Int.tdiv (IntKind.u64.wrap (a1_1)) t207))] (by rfl) rfl rfl mS ?_
            with_reducible refine (congr_inverse.calls kj21 (Int.tmod (IntKind.u64.wrap (Int.tdiv (IntKind.u64.wrap (a0_1)) t207)) (IntKind.u64.wrap (Int.tdiv (IntKind.u64.wrap (a1_1)) t207))) (IntKind.u64.wrap (Int.tdiv (IntKind.u64.wrap (a1_1)) t207)) t213 _ A70.out).mono ?_
            rintro e w' ⟨rfl, ⟨nd, rfl⟩⟩
            refine ⟨_, rfl, ?_⟩
            refine hK.out _ _ ⟨cz0 BK198, cz1 BK198, cz2 BK198, cz0 BK197, cz1 BK197, cz2 BK197⟩ (fun hHeld => ?_)
            clear hK K
            refine norm_ (a' := ?_) ?_ ?_
            rotate_left
            ·
             show Act.put _ (some 85) _ = _
             simp only [Act.put, lA, lB, lC, i64_w, i32_w]
             rfl
            refine one_ (i := 23) (N := some 86) #[true, true, true, true, true, true, true, true, true, true, true, true, true, true, true, true, true, true, true, true, true, true, true, true, false, false, false, false, false] rfl rfl (one_of HT_.out (by kernel_rfl)) (by decide) (fun K hK => ?_)
            refine goes_ Tryd.func63 (by kernel_rfl) rfl #[.int .u64 t212, .int .u64 t213] (by rfl) rfl rfl mS ?_
            with_reducible refine (bits_Mul64.calls t212 t213 t214 t215 _ A71.out).mono ?_
            rintro e w' ⟨rfl, ⟨nd, rfl⟩⟩
            refine ⟨_, rfl, ?_⟩
            refine hK.out _ _ ⟨cz0 BK198, cz1 BK198, cz2 BK198, cz0 BK197, cz1 BK197, cz2 BK197⟩ (fun hHeld => ?_)
            clear hK K
            refine norm_ (a' := ?_) ?_ ?_
            rotate_left
            ·
             show Act.put _ (some 86) _ = _
             simp only [Act.put, lA, lB, lC, i64_w, i32_w]
             rfl
            refine pure_ (i := 24) (N := some 62) (v := ?_) (a' := ?_) #[true, true, true, true, true, true, true, true, true, true, true, true, true, true, true, true, true, true, true, true, true, true, true, true, true, false, false, false, false] rfl rfl (any_of HT_.out (by kernel_rfl)) (fun _ _ _ h => h) (Or.inl ⟨by rfl, ?_⟩) ?_ ?_
            rotate_left
            ·
             intro w'
             go_simp
             with_reducible rfl
            rotate_left
            ·
             simp only [Act.put, lA, lB, lC, i64_w, i32_w]
             rfl
            refine pure_ (i := 25) (N := some 87) (v := ?_) (a' := ?_) #[true, true, true, true, true, true, true, true, true, true, true, true, true, true, true, true, true, true, true, true, true, true, true, true, true, true, false, false, false] rfl rfl (any_of HT_.out (by kernel_rfl)) (fun _ _ _ h => h) (Or.inl ⟨by rfl, ?_⟩) ?_ ?_
            rotate_left
            ·
             intro w'
             go_simp
             with_reducible rfl
            rotate_left
            ·
             simp only [Act.put, lA, lB, lC, i64_w, i32_w]
             rfl
            refine pure_ (i := 26) (N := some 88) (v := ?_) (a' := ?_) #[true, true, true, true, true, true, true, true, true, true, true, true, true, true, true, true, true, true, true, true, true, true, true, true, true, true, true, false, false] rfl rfl (any_of HT_.out (by kernel_rfl)) (fun _ _ _ h => h) (Or.inl ⟨by rfl, ?_⟩) ?_ ?_
            rotate_left
            ·
             intro w'
             go_simp
             with_reducible rfl
            rotate_left
            ·
             simp only [Act.put, lA, lB, lC, i64_w, i32_w]
             rfl
            refine pure_ (i := 27) (N := some 9) (v := ?_) (a' := ?_) #[true, true, true, true, true, true, true, true, true, true, true, true, true, true, true, true, true, true, true, true, true, true, true, true, true, true, true, true, false] rfl rfl (any_of HT_.out (by kernel_rfl)) (fun _ _ _ h => h) (Or.inl ⟨by rfl, ?_⟩) ?_ ?_
            rotate_left
            ·
             intro w'
             go_simp
             with_reducible rfl
            rotate_left
            ·
             simp only [Act.put, lA, lB, lC, i64_w, i32_w]
             rfl
            refine pure_ (i := 28) (N := some 10) (v := ?_) (a' := ?_) #[true, true, true, true, true, true, true, true, true, true, true, true, true, true, true, true, true, true, true, true, true, true, true, true, true, true, true, true, true] rfl rfl (any_of HT_.out (by kernel_rfl)) (fun _ _ _ h => h) (Or.inl ⟨by rfl, ?_⟩) ?_ ?_
            rotate_left
            ·
             intro w'
             go_simp
             with_reducible rfl
            rotate_left
            ·
             simp only [Act.put, lA, lB, lC, i64_w, i32_w]
             rfl
            refine done_ (done_of HT_.out (by kernel_rfl)) ?_
            try go_wp2_with (first | ((with_reducible refine gate_callee (f := 65) rfl ?_); refine goesL_ (some 95) rfl rfl Tryd.func65 (by kernel_rfl) rfl #[.agg #[.int .u64 t214, .int .u64 t215], .int .u64 (IntKind.u64.wrap (Int.tdiv (IntKind.u64.wrap (a1_1)) t207))] rfl mS ?_; (with_reducible refine (congr_words_rest.calls t214 t215 (IntKind.u64.wrap (Int.tdiv (IntKind.u64.wrap (a1_1)) t207)) t216 _ A72.out).mono ?_); rintro e w81 ⟨rfl, hb⟩; refine ⟨_, rfl, ?_⟩; replace BK197 := kB BK197 hb; replace BK198 := kB BK198 hb; replace BK199 := kB BK199 hb; replace HB := kW HB hb; (try clear hb); (try clear hb2); (try clear hk); (try clear hi)))
            replace BK197 := Aside0.mk (blk_drew BK197.out)
            replace BK198 := Aside0.mk (blk_drew BK198.out)
            replace BK199 := Aside0.mk (blk_drew BK199.out)
            replace HB := Aside0.mk (below_drew1 HB.out)
            refine start_ (n := 14) (S := fun w' => w'.cell? ⟨gb197, 0, none⟩ = some (.bool a0_0) ∧ w'.cell? ⟨gb197, 1, none⟩ = some (.int .i64 a0_1) ∧ w'.cell? ⟨gb197, 2, none⟩ = some (.int .i64 a0_2)) (ds := []) #[false, false, false, false, false, false, false, false, false, false, false, false, false, false] (by kernel_rfl) rfl rfl ⟨cz0 BK197, cz1 BK197, cz2 BK197⟩ (fun hHeld => ?_); refine with_tabW congr_Meet.tab17 congr_Meet.bits17 (fun HT_ HW_ => ?_)
            generalize w81.drew = w82 at BK197 BK198 BK199 HB hHeld ⊢
            refine pure_ (i := 0) (N := some 96) (v := ?_) (a' := ?_) #[true, false, false, false, false, false, false, false, false, false, false, false, false, false] rfl rfl (any_of HT_.out (by kernel_rfl)) (fun _ _ _ h => h) (Or.inl ⟨by rfl, ?_⟩) ?_ ?_
            rotate_left
            ·
             intro w'
             go_simp
             with_reducible rfl
            rotate_left
            ·
             simp only [Act.put, lA, lB, lC, i64_w, i32_w]
             rfl
            refine pure_ (i := 1) (N := some 97) (v := ?_) (a' := ?_) #[true, true, false, false, false, false, false, false, false, false, false, false, false, false] rfl rfl (any_of HT_.out (by kernel_rfl)) (fun _ _ _ h => h) (Or.inl ⟨by rfl, ?_⟩) ?_ ?_
            rotate_left
            ·
             intro w'
             go_simp
             with_reducible rfl
            rotate_left
            ·
             simp only [Act.put, lA, lB, lC, i64_w, i32_w]
             rfl
            refine pure_ (i := 2) (N := some 98) (v := ?_) (a' := ?_) #[true, true, true, false, false, false, false, false, false, false, false, false, false, false] rfl rfl (any_of HT_.out (by kernel_rfl)) (fun _ _ _ h => h) (Or.inl ⟨by rfl, ?_⟩) ?_ ?_
            rotate_left
            ·
             intro w'
             go_simp
             with_reducible rfl
            rotate_left
            ·
             simp only [Act.put, lA, lB, lC, i64_w, i32_w]
             rfl
            refine pure_ (i := 3) (N := some 99) (v := ?_) (a' := ?_) #[true, true, true, true, false, false, false, false, false, false, false, false, false, false] rfl rfl (any_of HT_.out (by kernel_rfl)) (fun _ _ _ h => h) (Or.inl ⟨by rfl, ?_⟩) ?_ ?_
            rotate_left
            ·
             intro w'
             go_simp
             with_reducible rfl
            rotate_left
            ·
             simp only [Act.put, lA, lB, lC, i64_w, i32_w]
             rfl
            refine pure_ (i := 4) (N := some 100) (v := ?_) (a' := ?_) #[true, true, true, true, true, false, false, false, false, false, false, false, false, false] rfl rfl (any_of HT_.out (by kernel_rfl)) (fun _ _ _ h => h) (Or.inl ⟨by rfl, ?_⟩) ?_ ?_
            rotate_left
            ·
             intro w'
             go_simp
             with_reducible rfl
            rotate_left
            ·
             simp only [Act.put, lA, lB, lC, i64_w, i32_w]
             rfl
            refine pure_ (i := 5) (N := some 101) (v := ?_) (a' := ?_) #[true, true, true, true, true, true, false, false, false, false, false, false, false, false] rfl rfl (any_of HT_.out (by kernel_rfl)) (fun _ _ _ h => h) (Or.inl ⟨by rfl, ?_⟩) ?_ ?_
            rotate_left
            ·
             intro w'
             go_simp
             with_reducible rfl
            rotate_left
            ·
             simp only [Act.put, lA, lB, lC, i64_w, i32_w]
             rfl
            refine pure_ (i := 6) (N := some 102) (v := ?_) (a' := ?_) #[true, true, true, true, true, true, true, false, false, false, false, false, false, false] rfl rfl (any_of HT_.out (by kernel_rfl)) (fun _ _ _ h => h) (Or.inl ⟨by rfl, ?_⟩) ?_ ?_
            rotate_left
            ·
             intro w'
             go_simp
             with_reducible rfl
            rotate_left
            ·
             simp only [Act.put, lA, lB, lC, i64_w, i32_w]
             rfl
            refine pure_ (i := 7) (N := some 103) (v := ?_) (a' := ?_) #[true, true, true, true, true, true, true, true, false, false, false, false, false, false] rfl rfl (any_of HT_.out (by kernel_rfl)) (fun _ _ _ h => h) (Or.inl ⟨by rfl, ?_⟩) ?_ ?_
            rotate_left
            ·
             intro w'
             go_simp
             with_reducible rfl
            rotate_left
            ·
             simp only [Act.put, lA, lB, lC, i64_w, i32_w]
             rfl
            refine pure_ (i := 8) (N := some 104) (v := ?_) (a' := ?_) #[true, true, true, true, true, true, true, true, true, false, false, false, false, false] rfl rfl (any_of HT_.out (by kernel_rfl)) (fun _ _ _ h => h) (Or.inl ⟨by rfl, ?_⟩) ?_ ?_
            rotate_left
            ·
             intro w'
             go_simp
             with_reducible rfl
            rotate_left
            ·
             simp only [Act.put, lA, lB, lC, i64_w, i32_w]
             rfl
            refine take_ (i := 9) (N := some 105) (v := ?_) (a' := ?_) #[true, true, true, true, true, true, true, true, true, true, false, false, false, false] rfl rfl (take_ofW HT_.out HW_.out (by kernel_rfl)) (fun _ _ _ h => h) (Or.inl ⟨by rfl, ?_⟩) hHeld ?_ ?_
            rotate_left
            ·
             rintro w' ⟨s0, s1, s2⟩
             go_simp
             with_reducible rfl
            rotate_left
            ·
             simp only [Act.put, lA, lB, lC, i64_w, i32_w]
             rfl
            refine pure_ (i := 10) (N := some 106) (v := ?_) (a' := ?_) #[true, true, true, true, true, true, true, true, true, true, true, false, false, false] rfl rfl (any_of HT_.out (by kernel_rfl)) (fun _ _ _ h => h) (Or.inl ⟨by rfl, ?_⟩) ?_ ?_
            rotate_left
            ·
             intro w'
             go_simp
             with_reducible rfl
            rotate_left
            ·
             simp only [Act.put, lA, lB, lC, i64_w, i32_w]
             rfl
            refine pure_ (i := 11) (N := some 107) (v := ?_) (a' := ?_) #[true, true, true, true, true, true, true, true, true, true, true, true, false, false] rfl rfl (any_of HT_.out (by kernel_rfl)) (fun _ _ _ h => h) (Or.inl ⟨by rfl, ?_⟩) ?_ ?_
            rotate_left
            ·
             intro w'
             go_simp
             with_reducible rfl
            rotate_left
            ·
             simp only [Act.put, lA, lB, lC, i64_w, i32_w]
             rfl
            refine one_ (i := 12) (N := some 108) #[true, true, true, true, true, true, true, true, true, true, true, true, true, false] rfl rfl (one_of HT_.out (by kernel_rfl)) (by decide) (fun K hK => ?_)
            refine goes_ Tryd.func51 (by kernel_rfl) rfl #[.int .u64 (IntKind.u64.wrap ((IntKind.u64.wrap (a0_1)) * (IntKind.u64.wrap (Int.tdiv (IntKind.u64.wrap (a1_1)) t207)))), .int .u64 (IntKind.u64.wrap ((IntKind.u64.wrap ((IntKind.u64.wrap (a0_1)) * t216)) + (IntKind.u64.wrap (a0_2))))] (by rfl) rfl rfl mS ?_
            with_reducible refine (congr_of.calls kj21 (IntKind.u64.wrap ((IntKind.u64.wrap (a0_1)) * (IntKind.u64.wrap (Int.tdiv (IntKind.u64.wrap (a1_1)) t207)))) (IntKind.u64.wrap ((IntKind.u64.wrap ((IntKind.u64.wrap (a0_1)) * t216)) + (IntKind.u64.wrap (a0_2)))) t217 t218 t219 _ A73.out).mono ?_
            rintro e w83 ⟨rfl, hb⟩
            refine ⟨_, rfl, ?_⟩
            replace BK197 := kB BK197 hb
            replace BK198 := kB BK198 hb
            replace BK199 := kB BK199 hb
            replace HB := kW HB hb
            (try clear hb)
            (try clear hb2)
            (try clear hk)
            (try clear hi)
            refine hK.out _ _ ⟨cz0 BK197, cz1 BK197, cz2 BK197⟩ (fun hHeld => ?_)
            clear hK K
            refine norm_ (a' := ?_) ?_ ?_
            rotate_left
            ·
             show Act.put _ (some 108) _ = _
             simp only [Act.put, lA, lB, lC, i64_w, i32_w]
             rfl
            refine one_ (i := 13) (N := none) #[true, true, true, true, true, true, true, true, true, true, true, true, true, true] rfl rfl (one_of HT_.out (by kernel_rfl)) (by decide) (fun K hK => ?_)
            have hs84 : w83.cell? ⟨gb199, 0, none⟩ = some (.bool false) := cz0 BK199
            have hfs84 := fz BK199 0
            have hns84_0 := NB197_199.out
            have hns84_1 := NB198_199.out
            have hms84_0 := NB199_197.out
            have hms84_1 := NB199_198.out
            have hs85 : w83.cell? ⟨gb199, 1, none⟩ = some (.int .i64 0) := cz1 BK199
            have hfs85 := fz BK199 1
            have hns85_0 := NB197_199.out
            have hns85_1 := NB198_199.out
            have hms85_0 := NB199_197.out
            have hms85_1 := NB199_198.out
            have hs86 : w83.cell? ⟨gb199, 2, none⟩ = some (.int .i64 0) := cz2 BK199
            have hfs86 := fz BK199 2
            have hns86_0 := NB197_199.out
            have hns86_1 := NB198_199.out
            have hms86_0 := NB199_197.out
            have hms86_1 := NB199_198.out
            refine skip_ (w1 := ?_) (by rfl) rfl ?_ ?_
            rotate_left
            ·
             go_simp
             rfl
            refine hK.out _ _ ⟨((cell_far (p := ⟨gb199, _, none⟩) NB197_199.out _).trans (((cell_far (p := ⟨gb199, _, none⟩) NB197_199.out _).trans (((cell_far (p := ⟨gb199, _, none⟩) NB197_199.out _).trans (hHeld.1)))))), ((cell_far (p := ⟨gb199, _, none⟩) NB197_199.out _).trans (((cell_far (p := ⟨gb199, _, none⟩) NB197_199.out _).trans (((cell_far (p := ⟨gb199, _, none⟩) NB197_199.out _).trans (hHeld.2.1)))))), ((cell_far (p := ⟨gb199, _, none⟩) NB197_199.out _).trans (((cell_far (p := ⟨gb199, _, none⟩) NB197_199.out _).trans (((cell_far (p := ⟨gb199, _, none⟩) NB197_199.out _).trans (hHeld.2.2))))))⟩ (fun hHeld => ?_)
            clear hK K
            refine done_ (done_of HT_.out (by kernel_rfl)) ?_
            try go_wp2
            refine bodyPost_ret (results_cell_row rfl _ _ gb199 23 #[.bool t217, .int .i64 t218, .int .i64 t219] (0, 0) _ rfl (by (with_reducible repeat (first | refine b1 ?_ _ | refine b2 ?_ | refine b3 ?_ _)); refine blk_put (cs := #[.bool t217, .int .i64 t218, .int .i64 0]) ?_ 2 _ rfl; (with_reducible repeat (first | refine b1 ?_ _ | refine b2 ?_ | refine b3 ?_ _)); refine blk_put (cs := #[.bool t217, .int .i64 0, .int .i64 0]) ?_ 1 _ rfl; (with_reducible repeat (first | refine b1 ?_ _ | refine b2 ?_ | refine b3 ?_ _)); refine blk_put (cs := #[.bool false, .int .i64 0, .int .i64 0]) ?_ 0 _ rfl; (with_reducible repeat (first | refine b1 ?_ _ | refine b2 ?_ | refine b3 ?_ _)); exact BK199.out) Tryd.underlying23 rfl (by kernel_rfl)) rfl ?_
            exact ⟨eS, bS HB⟩
         ·
          rw [if_neg c66] at H
          have c66b0 : decide (1 < (IntKind.u64.wrap (Int.tdiv (IntKind.u64.wrap (a1_1)) t207))) = false := decide_eq_false c66
          clear c66
          replace H := Option.bind_eq_some_iff.mp H
          obtain ⟨⟨t220, t221, t222⟩, A870, H⟩ := H
          replace H : (some (t220, t221, t222)) = some (r1, r2, r3) := H
          have A87 := Aside0.mk A870
          clear A870
          simp only [Option.some.injEq, Prod.mk.injEq] at H
          obtain ⟨rfl, rfl, rfl⟩ := H
          try go_wp2
          replace BK197 := Aside0.mk (blk_drew BK197.out)
          replace BK198 := Aside0.mk (blk_drew BK198.out)
          replace BK199 := Aside0.mk (blk_drew BK199.out)
          replace HB := Aside0.mk (below_drew1 HB.out)
          refine start_ (n := 8) (S := fun w' => w'.cell? ⟨gb197, 0, none⟩ = some (.bool a0_0) ∧ w'.cell? ⟨gb197, 1, none⟩ = some (.int .i64 a0_1) ∧ w'.cell? ⟨gb197, 2, none⟩ = some (.int .i64 a0_2) ∧ w'.cell? ⟨gb198, 0, none⟩ = some (.bool a1_0) ∧ w'.cell? ⟨gb198, 1, none⟩ = some (.int .i64 a1_1) ∧ w'.cell? ⟨gb198, 2, none⟩ = some (.int .i64 a1_2)) (ds := []) #[false, false, false, false, false, false, false, false] (by kernel_rfl) rfl rfl ⟨cz0 BK197, cz1 BK197, cz2 BK197, cz0 BK198, cz1 BK198, cz2 BK198⟩ (fun hHeld => ?_); refine with_tabW congr_Meet.tab9 congr_Meet.bits9 (fun HT_ HW_ => ?_)
          generalize wc.drew = w88 at BK197 BK198 BK199 HB hHeld ⊢
          refine pure_ (i := 0) (N := some 39) (v := ?_) (a' := ?_) #[true, false, false, false, false, false, false, false] rfl rfl (any_of HT_.out (by kernel_rfl)) (fun _ _ _ h => h) (Or.inl ⟨by rfl, ?_⟩) ?_ ?_
          rotate_left
          ·
           intro w'
           go_simp
           with_reducible rfl
          rotate_left
          ·
           simp only [Act.put, lA, lB, lC, i64_w, i32_w]
           rfl
          refine pure_ (i := 3) (N := some 42) (v := ?_) (a' := ?_) #[true, false, false, true, false, false, false, false] rfl rfl (any_of HT_.out (by kernel_rfl)) (fun _ _ _ h => h) (Or.inl ⟨by rfl, ?_⟩) ?_ ?_
          rotate_left
          ·
           intro w'
           go_simp
           with_reducible rfl
          rotate_left
          ·
           simp only [Act.put, lA, lB, lC, i64_w, i32_w]
           rfl
          refine take_ (i := 1) (N := some 40) (v := ?_) (a' := ?_) #[true, true, false, true, false, false, false, false] rfl rfl (take_ofW HT_.out HW_.out (by kernel_rfl)) (fun _ _ _ h => h) (Or.inl ⟨by rfl, ?_⟩) hHeld ?_ ?_
          rotate_left
          ·
           rintro w' ⟨s0, s1, s2, s3, s4, s5⟩
           go_simp
           with_reducible rfl
          rotate_left
          ·
           simp only [Act.put, lA, lB, lC, i64_w, i32_w]
           rfl
          refine pure_ (i := 2) (N := some 41) (v := ?_) (a' := ?_) #[true, true, true, true, false, false, false, false] rfl rfl (any_of HT_.out (by kernel_rfl)) (fun _ _ _ h => h) (Or.inl ⟨by rfl, ?_⟩) ?_ ?_
          rotate_left
          ·
           intro w'
           go_simp
           with_reducible rfl
          rotate_left
          ·
           simp only [Act.put, lA, lB, lC, i64_w, i32_w]
           rfl
          refine pure_ (i := 6) (N := some 5) (v := ?_) (a' := ?_) #[true, true, true, true, false, false, true, false] rfl rfl (any_of HT_.out (by kernel_rfl)) (fun _ _ _ h => h) (Or.inl ⟨by rfl, ?_⟩) ?_ ?_
          rotate_left
          ·
           intro w'
           go_simp
           with_reducible rfl
          rotate_left
          ·
           simp only [Act.put, lA, lB, lC, i64_w, i32_w]
           rfl
          refine take_ (i := 4) (N := some 43) (v := ?_) (a' := ?_) #[true, true, true, true, true, false, true, false] rfl rfl (take_ofW HT_.out HW_.out (by kernel_rfl)) (fun _ _ _ h => h) (Or.inl ⟨by rfl, ?_⟩) hHeld ?_ ?_
          rotate_left
          ·
           rintro w' ⟨s0, s1, s2, s3, s4, s5⟩
           go_simp
           with_reducible rfl
          rotate_left
          ·
           simp only [Act.put, lA, lB, lC, i64_w, i32_w]
           rfl
          refine pure_ (i := 5) (N := some 44) (v := ?_) (a' := ?_) #[true, true, true, true, true, true, true, false] rfl rfl (any_of HT_.out (by kernel_rfl)) (fun _ _ _ h => h) (Or.inl ⟨by rfl, ?_⟩) ?_ ?_
          rotate_left
          ·
           intro w'
           go_simp
           with_reducible rfl
          rotate_left
          ·
           simp only [Act.put, lA, lB, lC, i64_w, i32_w]
           rfl
          refine pure_ (i := 7) (N := some 6) (v := ?_) (a' := ?_) #[true, true, true, true, true, true, true, true] rfl rfl (any_of HT_.out (by kernel_rfl)) (fun _ _ _ h => h) (Or.inl ⟨by rfl, ?_⟩) ?_ ?_
          rotate_left
          ·
           intro w'
           go_simp
           with_reducible rfl
          rotate_left
          ·
           simp only [Act.put, lA, lB, lC, i64_w, i32_w]
           rfl
          refine done_ (done_of HT_.out (by kernel_rfl)) ?_
          try go_wp2_with (first | ((with_reducible refine gate_callee (f := 62) rfl ?_); refine goesL_ (some 47) rfl rfl Tryd.func62 (by kernel_rfl) rfl #[.int .u64 (IntKind.u64.wrap (a0_1)), .int .u64 (IntKind.u64.wrap (a1_1))] rfl mS ?_; (with_reducible refine (congr_gcd_uint64.calls kj21 (IntKind.u64.wrap (a0_1)) (IntKind.u64.wrap (a1_1)) t207 _ A62.out).mono ?_); rintro e w' ⟨rfl, ⟨nd, rfl⟩⟩; refine ⟨_, rfl, ?_⟩; (try (rw [drewN_self w88]; generalize hq_ : World.drewN w88 _ = w88; have n0_ : Aside0 (w88.heap[gb197]? = some (.cells #[.bool a0_0, .int .i64 a0_1, .int .i64 a0_2] 23 (0, 0))) := ⟨by rw [← hq_]; exact (bkS BK197)⟩; have n1_ : Aside0 (w88.heap[gb198]? = some (.cells #[.bool a1_0, .int .i64 a1_1, .int .i64 a1_2] 23 (0, 0))) := ⟨by rw [← hq_]; exact (bkS BK198)⟩; have n2_ : Aside0 (w88.heap[gb199]? = some (.cells #[.bool false, .int .i64 0, .int .i64 0] 23 (0, 0))) := ⟨by rw [← hq_]; exact (bkS BK199)⟩; have n3_ : Aside0 (Below w.heap.size w w88) := ⟨by rw [← hq_]; exact (bS HB)⟩; clear BK197 BK198 BK199 HB hq_; have BK197 := n0_; have BK198 := n1_; have BK199 := n2_; have HB := n3_; clear n0_ n1_ n2_ n3_)); have hnb89 := NB197_198.out; have hnc89 := NB198_197.out; have hnb90 := NB197_199.out; have hnc90 := NB199_197.out; have hcz91_0 := cz0 BK197; have hcz91_1 := cz1 BK197; have hcz91_2 := cz2 BK197; have hfz91_0 := fz BK197 0; have hfz91_1 := fz BK197 1; have hfz91_2 := fz BK197 2; have hnb92 := NB198_199.out; have hnc92 := NB199_198.out; have hcz93_0 := cz0 BK198; have hcz93_1 := cz1 BK198; have hcz93_2 := cz2 BK198; have hfz93_0 := fz BK198 0; have hfz93_1 := fz BK198 1; have hfz93_2 := fz BK198 2) | ((with_reducible refine gate_callee (f := 52) rfl ?_); refine goesL_ (some 53) rfl rfl Tryd.func52 (by kernel_rfl) rfl #[.int .i64 (wrap64 (a0_2 - a1_2))] rfl mS ?_; (with_reducible refine (congr_size.calls (wrap64 (a0_2 - a1_2)) t208 _ A63.out).mono ?_); rintro e w' ⟨rfl, ⟨nd, rfl⟩⟩; refine ⟨_, rfl, ?_⟩; (try (rw [drewN_self w88]; generalize hq_ : World.drewN w88 _ = w88; have n0_ : Aside0 (w88.heap[gb197]? = some (.cells #[.bool a0_0, .int .i64 a0_1, .int .i64 a0_2] 23 (0, 0))) := ⟨by rw [← hq_]; exact (bkS BK197)⟩; have n1_ : Aside0 (w88.heap[gb198]? = some (.cells #[.bool a1_0, .int .i64 a1_1, .int .i64 a1_2] 23 (0, 0))) := ⟨by rw [← hq_]; exact (bkS BK198)⟩; have n2_ : Aside0 (w88.heap[gb199]? = some (.cells #[.bool false, .int .i64 0, .int .i64 0] 23 (0, 0))) := ⟨by rw [← hq_]; exact (bkS BK199)⟩; have n3_ : Aside0 (Below w.heap.size w w88) := ⟨by rw [← hq_]; exact (bS HB)⟩; clear BK197 BK198 BK199 HB hq_; have BK197 := n0_; have BK198 := n1_; have BK199 := n2_; have HB := n3_; clear n0_ n1_ n2_ n3_))))
          replace BK197 := Aside0.mk (blk_drew BK197.out)
          replace BK198 := Aside0.mk (blk_drew BK198.out)
          replace BK199 := Aside0.mk (blk_drew BK199.out)
          replace HB := Aside0.mk (below_drew1 HB.out)
          refine start_ (n := 14) (S := fun w' => w'.cell? ⟨gb197, 0, none⟩ = some (.bool a0_0) ∧ w'.cell? ⟨gb197, 1, none⟩ = some (.int .i64 a0_1) ∧ w'.cell? ⟨gb197, 2, none⟩ = some (.int .i64 a0_2)) (ds := []) #[false, false, false, false, false, false, false, false, false, false, false, false, false, false] (by kernel_rfl) rfl rfl ⟨cz0 BK197, cz1 BK197, cz2 BK197⟩ (fun hHeld => ?_); refine with_tabW congr_Meet.tab17 congr_Meet.bits17 (fun HT_ HW_ => ?_)
          generalize w88.drew = w94 at BK197 BK198 BK199 HB hHeld ⊢
          refine pure_ (i := 0) (N := some 96) (v := ?_) (a' := ?_) #[true, false, false, false, false, false, false, false, false, false, false, false, false, false] rfl rfl (any_of HT_.out (by kernel_rfl)) (fun _ _ _ h => h) (Or.inl ⟨by rfl, ?_⟩) ?_ ?_
          rotate_left
          ·
           intro w'
           go_simp
           with_reducible rfl
          rotate_left
          ·
           simp only [Act.put, lA, lB, lC, i64_w, i32_w]
           rfl
          refine pure_ (i := 1) (N := some 97) (v := ?_) (a' := ?_) #[true, true, false, false, false, false, false, false, false, false, false, false, false, false] rfl rfl (any_of HT_.out (by kernel_rfl)) (fun _ _ _ h => h) (Or.inl ⟨by rfl, ?_⟩) ?_ ?_
          rotate_left
          ·
           intro w'
           go_simp
           with_reducible rfl
          rotate_left
          ·
           simp only [Act.put, lA, lB, lC, i64_w, i32_w]
           rfl
          refine pure_ (i := 2) (N := some 98) (v := ?_) (a' := ?_) #[true, true, true, false, false, false, false, false, false, false, false, false, false, false] rfl rfl (any_of HT_.out (by kernel_rfl)) (fun _ _ _ h => h) (Or.inl ⟨by rfl, ?_⟩) ?_ ?_
          rotate_left
          ·
           intro w'
           go_simp
           with_reducible rfl
          rotate_left
          ·
           simp only [Act.put, lA, lB, lC, i64_w, i32_w]
           rfl
          refine pure_ (i := 3) (N := some 99) (v := ?_) (a' := ?_) #[true, true, true, true, false, false, false, false, false, false, false, false, false, false] rfl rfl (any_of HT_.out (by kernel_rfl)) (fun _ _ _ h => h) (Or.inl ⟨by rfl, ?_⟩) ?_ ?_
          rotate_left
          ·
           intro w'
           go_simp
           with_reducible rfl
          rotate_left
          ·
           simp only [Act.put, lA, lB, lC, i64_w, i32_w]
           rfl
          refine pure_ (i := 4) (N := some 100) (v := ?_) (a' := ?_) #[true, true, true, true, true, false, false, false, false, false, false, false, false, false] rfl rfl (any_of HT_.out (by kernel_rfl)) (fun _ _ _ h => h) (Or.inl ⟨by rfl, ?_⟩) ?_ ?_
          rotate_left
          ·
           intro w'
           go_simp
           with_reducible rfl
          rotate_left
          ·
           simp only [Act.put, lA, lB, lC, i64_w, i32_w]
           rfl
          refine pure_ (i := 5) (N := some 101) (v := ?_) (a' := ?_) #[true, true, true, true, true, true, false, false, false, false, false, false, false, false] rfl rfl (any_of HT_.out (by kernel_rfl)) (fun _ _ _ h => h) (Or.inl ⟨by rfl, ?_⟩) ?_ ?_
          rotate_left
          ·
           intro w'
           go_simp
           with_reducible rfl
          rotate_left
          ·
           simp only [Act.put, lA, lB, lC, i64_w, i32_w]
           rfl
          refine pure_ (i := 6) (N := some 102) (v := ?_) (a' := ?_) #[true, true, true, true, true, true, true, false, false, false, false, false, false, false] rfl rfl (any_of HT_.out (by kernel_rfl)) (fun _ _ _ h => h) (Or.inl ⟨by rfl, ?_⟩) ?_ ?_
          rotate_left
          ·
           intro w'
           go_simp
           with_reducible rfl
          rotate_left
          ·
           simp only [Act.put, lA, lB, lC, i64_w, i32_w]
           rfl
          refine pure_ (i := 7) (N := some 103) (v := ?_) (a' := ?_) #[true, true, true, true, true, true, true, true, false, false, false, false, false, false] rfl rfl (any_of HT_.out (by kernel_rfl)) (fun _ _ _ h => h) (Or.inl ⟨by rfl, ?_⟩) ?_ ?_
          rotate_left
          ·
           intro w'
           go_simp
           with_reducible rfl
          rotate_left
          ·
           simp only [Act.put, lA, lB, lC, i64_w, i32_w]
           rfl
          refine pure_ (i := 8) (N := some 104) (v := ?_) (a' := ?_) #[true, true, true, true, true, true, true, true, true, false, false, false, false, false] rfl rfl (any_of HT_.out (by kernel_rfl)) (fun _ _ _ h => h) (Or.inl ⟨by rfl, ?_⟩) ?_ ?_
          rotate_left
          ·
           intro w'
           go_simp
           with_reducible rfl
          rotate_left
          ·
           simp only [Act.put, lA, lB, lC, i64_w, i32_w]
           rfl
          refine take_ (i := 9) (N := some 105) (v := ?_) (a' := ?_) #[true, true, true, true, true, true, true, true, true, true, false, false, false, false] rfl rfl (take_ofW HT_.out HW_.out (by kernel_rfl)) (fun _ _ _ h => h) (Or.inl ⟨by rfl, ?_⟩) hHeld ?_ ?_
          rotate_left
          ·
           rintro w' ⟨s0, s1, s2⟩
           go_simp
           with_reducible rfl
          rotate_left
          ·
           simp only [Act.put, lA, lB, lC, i64_w, i32_w]
           rfl
          refine pure_ (i := 10) (N := some 106) (v := ?_) (a' := ?_) #[true, true, true, true, true, true, true, true, true, true, true, false, false, false] rfl rfl (any_of HT_.out (by kernel_rfl)) (fun _ _ _ h => h) (Or.inl ⟨by rfl, ?_⟩) ?_ ?_
          rotate_left
          ·
           intro w'
           go_simp
           with_reducible rfl
          rotate_left
          ·
           simp only [Act.put, lA, lB, lC, i64_w, i32_w]
           rfl
          refine pure_ (i := 11) (N := some 107) (v := ?_) (a' := ?_) #[true, true, true, true, true, true, true, true, true, true, true, true, false, false] rfl rfl (any_of HT_.out (by kernel_rfl)) (fun _ _ _ h => h) (Or.inl ⟨by rfl, ?_⟩) ?_ ?_
          rotate_left
          ·
           intro w'
           go_simp
           with_reducible rfl
          rotate_left
          ·
           simp only [Act.put, lA, lB, lC, i64_w, i32_w]
           rfl
          refine one_ (i := 12) (N := some 108) #[true, true, true, true, true, true, true, true, true, true, true, true, true, false] rfl rfl (one_of HT_.out (by kernel_rfl)) (by decide) (fun K hK => ?_)
          refine goes_ Tryd.func51 (by kernel_rfl) rfl #[.int .u64 (IntKind.u64.wrap ((IntKind.u64.wrap (a0_1)) * (IntKind.u64.wrap (Int.tdiv (IntKind.u64.wrap (a1_1)) t207)))), .int .u64 (IntKind.u64.wrap ((IntKind.u64.wrap ((IntKind.u64.wrap (a0_1)) * 0)) + (IntKind.u64.wrap (a0_2))))] (by rfl) rfl rfl (by (try simp only [List.map_toArray, List.map_cons, List.map_nil]); first | done | rfl | (go_simp; done) | (simp [go_sem]; done) | (simp [go_sem, IntKind.wrap_u64]; done) | (simp only [List.length_drop, List.length_take]; rfl)) ?_
          with_reducible refine (congr_of.calls kj21 (IntKind.u64.wrap ((IntKind.u64.wrap (a0_1)) * (IntKind.u64.wrap (Int.tdiv (IntKind.u64.wrap (a1_1)) t207)))) (IntKind.u64.wrap ((IntKind.u64.wrap ((IntKind.u64.wrap (a0_1)) * 0)) + (IntKind.u64.wrap (a0_2)))) t220 t221 t222 _ A87.out).mono ?_
          rintro e w95 ⟨rfl, hb⟩
          refine ⟨_, rfl, ?_⟩
          replace BK197 := kB BK197 hb
          replace BK198 := kB BK198 hb
          replace BK199 := kB BK199 hb
          replace HB := kW HB hb
          (try clear hb)
          (try clear hb2)
          (try clear hk)
          (try clear hi)
          refine hK.out _ _ ⟨cz0 BK197, cz1 BK197, cz2 BK197⟩ (fun hHeld => ?_)
          clear hK K
          refine norm_ (a' := ?_) ?_ ?_
          rotate_left
          ·
           show Act.put _ (some 108) _ = _
           simp only [Act.put, lA, lB, lC, i64_w, i32_w]
           rfl
          refine one_ (i := 13) (N := none) #[true, true, true, true, true, true, true, true, true, true, true, true, true, true] rfl rfl (one_of HT_.out (by kernel_rfl)) (by decide) (fun K hK => ?_)
          have hs96 : w95.cell? ⟨gb199, 0, none⟩ = some (.bool false) := cz0 BK199
          have hfs96 := fz BK199 0
          have hns96_0 := NB197_199.out
          have hns96_1 := NB198_199.out
          have hms96_0 := NB199_197.out
          have hms96_1 := NB199_198.out
          have hs97 : w95.cell? ⟨gb199, 1, none⟩ = some (.int .i64 0) := cz1 BK199
          have hfs97 := fz BK199 1
          have hns97_0 := NB197_199.out
          have hns97_1 := NB198_199.out
          have hms97_0 := NB199_197.out
          have hms97_1 := NB199_198.out
          have hs98 : w95.cell? ⟨gb199, 2, none⟩ = some (.int .i64 0) := cz2 BK199
          have hfs98 := fz BK199 2
          have hns98_0 := NB197_199.out
          have hns98_1 := NB198_199.out
          have hms98_0 := NB199_197.out
          have hms98_1 := NB199_198.out
          refine skip_ (w1 := ?_) (by rfl) rfl ?_ ?_
          rotate_left
          ·
           go_simp
           rfl
          refine hK.out _ _ ⟨((cell_far (p := ⟨gb199, _, none⟩) NB197_199.out _).trans (((cell_far (p := ⟨gb199, _, none⟩) NB197_199.out _).trans (((cell_far (p := ⟨gb199, _, none⟩) NB197_199.out _).trans (hHeld.1)))))), ((cell_far (p := ⟨gb199, _, none⟩) NB197_199.out _).trans (((cell_far (p := ⟨gb199, _, none⟩) NB197_199.out _).trans (((cell_far (p := ⟨gb199, _, none⟩) NB197_199.out _).trans (hHeld.2.1)))))), ((cell_far (p := ⟨gb199, _, none⟩) NB197_199.out _).trans (((cell_far (p := ⟨gb199, _, none⟩) NB197_199.out _).trans (((cell_far (p := ⟨gb199, _, none⟩) NB197_199.out _).trans (hHeld.2.2))))))⟩ (fun hHeld => ?_)
          clear hK K
          refine done_ (done_of HT_.out (by kernel_rfl)) ?_
          try go_wp2
          refine bodyPost_ret (results_cell_row rfl _ _ gb199 23 #[.bool t220, .int .i64 t221, .int .i64 t222] (0, 0) _ rfl (by (with_reducible repeat (first | refine b1 ?_ _ | refine b2 ?_ | refine b3 ?_ _)); refine blk_put (cs := #[.bool t220, .int .i64 t221, .int .i64 0]) ?_ 2 _ rfl; (with_reducible repeat (first | refine b1 ?_ _ | refine b2 ?_ | refine b3 ?_ _)); refine blk_put (cs := #[.bool t220, .int .i64 0, .int .i64 0]) ?_ 1 _ rfl; (with_reducible repeat (first | refine b1 ?_ _ | refine b2 ?_ | refine b3 ?_ _)); refine blk_put (cs := #[.bool false, .int .i64 0, .int .i64 0]) ?_ 0 _ rfl; (with_reducible repeat (first | refine b1 ?_ _ | refine b2 ?_ | refine b3 ?_ _)); exact BK199.out) Tryd.underlying23 rfl (by kernel_rfl)) rfl ?_
          exact ⟨eS, bS HB⟩
        ·
         rw [if_neg c65] at H
         have c65b0 : ((Int.tmod t208 t207) == 0) = false := beq_eq_false_iff_ne.mpr c65
         have c65b1 : ((Int.tmod t208 t207) != 0) = true := bne_iff_ne.mpr c65
         replace H := Option.bind_eq_some_iff.mp H
         obtain ⟨⟨t209, t210, t211⟩, A990, H⟩ := H
         replace H : (some (t209, t210, t211)) = some (r1, r2, r3) := H
         have A99 := Aside0.mk A990
         clear A990
         simp only [Option.some.injEq, Prod.mk.injEq] at H
         obtain ⟨rfl, rfl, rfl⟩ := H
         try go_wp2
         replace BK197 := Aside0.mk (blk_drew BK197.out)
         replace BK198 := Aside0.mk (blk_drew BK198.out)
         replace BK199 := Aside0.mk (blk_drew BK199.out)
         replace HB := Aside0.mk (below_drew1 HB.out)
         refine start_ (n := 8) (S := fun w' => w'.cell? ⟨gb197, 0, none⟩ = some (.bool a0_0) ∧ w'.cell? ⟨gb197, 1, none⟩ = some (.int .i64 a0_1) ∧ w'.cell? ⟨gb197, 2, none⟩ = some (.int .i64 a0_2) ∧ w'.cell? ⟨gb198, 0, none⟩ = some (.bool a1_0) ∧ w'.cell? ⟨gb198, 1, none⟩ = some (.int .i64 a1_1) ∧ w'.cell? ⟨gb198, 2, none⟩ = some (.int .i64 a1_2)) (ds := []) #[false, false, false, false, false, false, false, false] (by kernel_rfl) rfl rfl ⟨cz0 BK197, cz1 BK197, cz2 BK197, cz0 BK198, cz1 BK198, cz2 BK198⟩ (fun hHeld => ?_); refine with_tabW congr_Meet.tab9 congr_Meet.bits9 (fun HT_ HW_ => ?_)
         generalize wc.drew = w100 at BK197 BK198 BK199 HB hHeld ⊢
         refine pure_ (i := 0) (N := some 39) (v := ?_) (a' := ?_) #[true, false, false, false, false, false, false, false] rfl rfl (any_of HT_.out (by kernel_rfl)) (fun _ _ _ h => h) (Or.inl ⟨by rfl, ?_⟩) ?_ ?_
         rotate_left
         ·
          intro w'
          go_simp
          with_reducible rfl
         rotate_left
         ·
          simp only [Act.put, lA, lB, lC, i64_w, i32_w]
          rfl
         refine pure_ (i := 3) (N := some 42) (v := ?_) (a' := ?_) #[true, false, false, true, false, false, false, false] rfl rfl (any_of HT_.out (by kernel_rfl)) (fun _ _ _ h => h) (Or.inl ⟨by rfl, ?_⟩) ?_ ?_
         rotate_left
         ·
          intro w'
          go_simp
          with_reducible rfl
         rotate_left
         ·
          simp only [Act.put, lA, lB, lC, i64_w, i32_w]
          rfl
         refine take_ (i := 1) (N := some 40) (v := ?_) (a' := ?_) #[true, true, false, true, false, false, false, false] rfl rfl (take_ofW HT_.out HW_.out (by kernel_rfl)) (fun _ _ _ h => h) (Or.inl ⟨by rfl, ?_⟩) hHeld ?_ ?_
         rotate_left
         ·
          rintro w' ⟨s0, s1, s2, s3, s4, s5⟩
          go_simp
          with_reducible rfl
         rotate_left
         ·
          simp only [Act.put, lA, lB, lC, i64_w, i32_w]
          rfl
         refine pure_ (i := 2) (N := some 41) (v := ?_) (a' := ?_) #[true, true, true, true, false, false, false, false] rfl rfl (any_of HT_.out (by kernel_rfl)) (fun _ _ _ h => h) (Or.inl ⟨by rfl, ?_⟩) ?_ ?_
         rotate_left
         ·
          intro w'
          go_simp
          with_reducible rfl
         rotate_left
         ·
          simp only [Act.put, lA, lB, lC, i64_w, i32_w]
          rfl
         refine pure_ (i := 6) (N := some 5) (v := ?_) (a' := ?_) #[true, true, true, true, false, false, true, false] rfl rfl (any_of HT_.out (by kernel_rfl)) (fun _ _ _ h => h) (Or.inl ⟨by rfl, ?_⟩) ?_ ?_
         rotate_left
         ·
          intro w'
          go_simp
          with_reducible rfl
         rotate_left
         ·
          simp only [Act.put, lA, lB, lC, i64_w, i32_w]
          rfl
         refine take_ (i := 4) (N := some 43) (v := ?_) (a' := ?_) #[true, true, true, true, true, false, true, false] rfl rfl (take_ofW HT_.out HW_.out (by kernel_rfl)) (fun _ _ _ h => h) (Or.inl ⟨by rfl, ?_⟩) hHeld ?_ ?_
         rotate_left
         ·
          rintro w' ⟨s0, s1, s2, s3, s4, s5⟩
          go_simp
          with_reducible rfl
         rotate_left
         ·
          simp only [Act.put, lA, lB, lC, i64_w, i32_w]
          rfl
         refine pure_ (i := 5) (N := some 44) (v := ?_) (a' := ?_) #[true, true, true, true, true, true, true, false] rfl rfl (any_of HT_.out (by kernel_rfl)) (fun _ _ _ h => h) (Or.inl ⟨by rfl, ?_⟩) ?_ ?_
         rotate_left
         ·
          intro w'
          go_simp
          with_reducible rfl
         rotate_left
         ·
          simp only [Act.put, lA, lB, lC, i64_w, i32_w]
          rfl
         refine pure_ (i := 7) (N := some 6) (v := ?_) (a' := ?_) #[true, true, true, true, true, true, true, true] rfl rfl (any_of HT_.out (by kernel_rfl)) (fun _ _ _ h => h) (Or.inl ⟨by rfl, ?_⟩) ?_ ?_
         rotate_left
         ·
          intro w'
          go_simp
          with_reducible rfl
         rotate_left
         ·
          simp only [Act.put, lA, lB, lC, i64_w, i32_w]
          rfl
         refine done_ (done_of HT_.out (by kernel_rfl)) ?_
         try go_wp2_with (first | ((with_reducible refine gate_callee (f := 62) rfl ?_); refine goesL_ (some 47) rfl rfl Tryd.func62 (by kernel_rfl) rfl #[.int .u64 (IntKind.u64.wrap (a0_1)), .int .u64 (IntKind.u64.wrap (a1_1))] rfl mS ?_; (with_reducible refine (congr_gcd_uint64.calls kj21 (IntKind.u64.wrap (a0_1)) (IntKind.u64.wrap (a1_1)) t207 _ A62.out).mono ?_); rintro e w' ⟨rfl, ⟨nd, rfl⟩⟩; refine ⟨_, rfl, ?_⟩; (try (rw [drewN_self w100]; generalize hq_ : World.drewN w100 _ = w100; have n0_ : Aside0 (w100.heap[gb197]? = some (.cells #[.bool a0_0, .int .i64 a0_1, .int .i64 a0_2] 23 (0, 0))) := ⟨by rw [← hq_]; exact (bkS BK197)⟩; have n1_ : Aside0 (w100.heap[gb198]? = some (.cells #[.bool a1_0, .int .i64 a1_1, .int .i64 a1_2] 23 (0, 0))) := ⟨by rw [← hq_]; exact (bkS BK198)⟩; have n2_ : Aside0 (w100.heap[gb199]? = some (.cells #[.bool false, .int .i64 0, .int .i64 0] 23 (0, 0))) := ⟨by rw [← hq_]; exact (bkS BK199)⟩; have n3_ : Aside0 (Below w.heap.size w w100) := ⟨by rw [← hq_]; exact (bS HB)⟩; clear BK197 BK198 BK199 HB hq_; have BK197 := n0_; have BK198 := n1_; have BK199 := n2_; have HB := n3_; clear n0_ n1_ n2_ n3_)); have hnb101 := NB197_198.out; have hnc101 := NB198_197.out; have hnb102 := NB197_199.out; have hnc102 := NB199_197.out; have hcz103_0 := cz0 BK197; have hcz103_1 := cz1 BK197; have hcz103_2 := cz2 BK197; have hfz103_0 := fz BK197 0; have hfz103_1 := fz BK197 1; have hfz103_2 := fz BK197 2; have hnb104 := NB198_199.out; have hnc104 := NB199_198.out; have hcz105_0 := cz0 BK198; have hcz105_1 := cz1 BK198; have hcz105_2 := cz2 BK198; have hfz105_0 := fz BK198 0; have hfz105_1 := fz BK198 1; have hfz105_2 := fz BK198 2) | ((with_reducible refine gate_callee (f := 52) rfl ?_); refine goesL_ (some 53) rfl rfl Tryd.func52 (by kernel_rfl) rfl #[.int .i64 (wrap64 (a0_2 - a1_2))] rfl mS ?_; (with_reducible refine (congr_size.calls (wrap64 (a0_2 - a1_2)) t208 _ A63.out).mono ?_); rintro e w' ⟨rfl, ⟨nd, rfl⟩⟩; refine ⟨_, rfl, ?_⟩; (try (rw [drewN_self w100]; generalize hq_ : World.drewN w100 _ = w100; have n0_ : Aside0 (w100.heap[gb197]? = some (.cells #[.bool a0_0, .int .i64 a0_1, .int .i64 a0_2] 23 (0, 0))) := ⟨by rw [← hq_]; exact (bkS BK197)⟩; have n1_ : Aside0 (w100.heap[gb198]? = some (.cells #[.bool a1_0, .int .i64 a1_1, .int .i64 a1_2] 23 (0, 0))) := ⟨by rw [← hq_]; exact (bkS BK198)⟩; have n2_ : Aside0 (w100.heap[gb199]? = some (.cells #[.bool false, .int .i64 0, .int .i64 0] 23 (0, 0))) := ⟨by rw [← hq_]; exact (bkS BK199)⟩; have n3_ : Aside0 (Below w.heap.size w w100) := ⟨by rw [← hq_]; exact (bS HB)⟩; clear BK197 BK198 BK199 HB hq_; have BK197 := n0_; have BK198 := n1_; have BK199 := n2_; have HB := n3_; clear n0_ n1_ n2_ n3_))) | ((with_reducible refine gate_callee (f := 56) rfl ?_); refine goesL_ (some 57) rfl rfl Tryd.func56 (by kernel_rfl) rfl #[] rfl mS ?_; (with_reducible refine (congr_none.calls  t209 t210 t211 _ A99.out).mono ?_); rintro e w106 ⟨rfl, hb⟩; refine ⟨_, rfl, ?_⟩; replace BK197 := kB BK197 hb; replace BK198 := kB BK198 hb; replace BK199 := kB BK199 hb; replace HB := kW HB hb; (try clear hb); (try clear hb2); (try clear hk); (try clear hi); have hcz107_0 := cz0 BK199; have hcz107_1 := cz1 BK199; have hcz107_2 := cz2 BK199; have hfz107_0 := fz BK199 0; have hfz107_1 := fz BK199 1; have hfz107_2 := fz BK199 2))
         refine bodyPost_ret (results_cell_row rfl _ _ gb199 23 #[.bool t209, .int .i64 t210, .int .i64 t211] (0, 0) _ rfl (by (with_reducible repeat (first | refine b1 ?_ _ | refine b2 ?_ | refine b3 ?_ _)); refine blk_put (cs := #[.bool t209, .int .i64 t210, .int .i64 0]) ?_ 2 _ rfl; (with_reducible repeat (first | refine b1 ?_ _ | refine b2 ?_ | refine b3 ?_ _)); refine blk_put (cs := #[.bool t209, .int .i64 0, .int .i64 0]) ?_ 1 _ rfl; (with_reducible repeat (first | refine b1 ?_ _ | refine b2 ?_ | refine b3 ?_ _)); refine blk_put (cs := #[.bool false, .int .i64 0, .int .i64 0]) ?_ 0 _ rfl; (with_reducible repeat (first | refine b1 ?_ _ | refine b2 ?_ | refine b3 ?_ _)); exact BK199.out) Tryd.underlying23 rfl (by kernel_rfl)) rfl ?_
         exact ⟨eS, bS HB⟩

def congr_times.f (a0 : Int) (a1 : Int) : Option (Int × Int × Bool) := (congr_size.f a0).bind fun t511 => ((congr_size.f a1).bind fun t512 => ((bits_Mul64.f t511 t512).bind fun bt513 => (some (bt513.1, bt513.2, ((decide (a0 < 0)) != (decide (a1 < 0)))))))
set_option maxHeartbeats 8000000 in
set_option maxRecDepth 100000 in
theorem congr_times.calls (a0 : Int) (a1 : Int) (r1 : Int) (r2 : Int) (r3 : Bool) (w : World) (h : congr_times.f a0 a1 = some (r1, r2, r3)) :
  Calls Tryd.prog 83 #[.int .i64 a0, .int .i64 a1] w fun e w' => e = .returned (.agg #[.int .u64 r1, .int .u64 r2, .bool r3]) ∧ Below w.heap.size w w' := by
 have hu74 := Tryd.underlying74
 have hu67 := Tryd.underlying67
 have HB := Aside0.mk (Below.refl w.heap.size w)
 have H : ((congr_size.f a0).bind fun t511 => ((congr_size.f a1).bind fun t512 => ((bits_Mul64.f t511 t512).bind fun bt513 => (some (bt513.1, bt513.2, ((decide (a0 < 0)) != (decide (a1 < 0)))))))) = some (r1, r2, r3) := h
 clear h
 replace H := Option.bind_eq_some_iff.mp H
 obtain ⟨t511, A30, H⟩ := H
 replace H : ((congr_size.f a1).bind fun t512 => ((bits_Mul64.f t511 t512).bind fun bt513 => (some (bt513.1, bt513.2, ((decide (a0 < 0)) != (decide (a1 < 0))))))) = some (r1, r2, r3) := H
 have A3 := Aside0.mk A30
 clear A30
 replace H := Option.bind_eq_some_iff.mp H
 obtain ⟨t512, A40, H⟩ := H
 replace H : ((bits_Mul64.f t511 t512).bind fun bt513 => (some (bt513.1, bt513.2, ((decide (a0 < 0)) != (decide (a1 < 0)))))) = some (r1, r2, r3) := H
 have A4 := Aside0.mk A40
 clear A40
 replace H := Option.bind_eq_some_iff.mp H
 obtain ⟨⟨t513, t514⟩, A50, H⟩ := H
 replace H : (some (t513, t514, ((decide (a0 < 0)) != (decide (a1 < 0))))) = some (r1, r2, r3) := H
 have A5 := Aside0.mk A50
 clear A50
 simp only [Option.some.injEq, Prod.mk.injEq] at H
 obtain ⟨rfl, rfl, rfl⟩ := H
 go_enter Tryd.func83, Tryd.ntmps83
 go_wp2_with (first | ((with_reducible refine gate_dst (N := 4) rfl ?_); refine box_event ?hg (N := 4) ?hd (cs := #[.int .u64 0, .int .u64 0, .bool false]) (t := 74) ?hr ?_; (case hd => rfl); (case hg => rfl); (case hr => first | (go_simp; done) | (go_simp; rfl)); intro gb510 hg w6 hbox hb; have n0_ := kW HB hb; have n1_ := Aside0.mk (hbox); have n2_ := Aside0.mk ((by rw [hg]; exact (below_size (bS HB)) : w.heap.size ≤ gb510)); have n3_ := Aside0.mk ((by rw [hg]; exact (below_size (bS HB)) : w.heap.size ≤ gb510)); clear HB; have HB := n0_; have BK510 := n1_; have GW510 := n2_; have GE510 := n3_; clear n0_ n1_ n2_ n3_; clear hb hbox hg) | ((with_reducible refine gate_callee (f := 52) rfl ?_); refine goesL_ (some 9) rfl rfl Tryd.func52 (by kernel_rfl) rfl #[.int .i64 a0] rfl mS ?_; (with_reducible refine (congr_size.calls a0 t511 _ A3.out).mono ?_); rintro e w' ⟨rfl, ⟨nd, rfl⟩⟩; refine ⟨_, rfl, ?_⟩; (try (rw [drewN_self w6]; generalize hq_ : World.drewN w6 _ = w6; have n0_ : Aside0 (w6.heap[gb510]? = some (.cells #[.int .u64 0, .int .u64 0, .bool false] 74 (0, 0))) := ⟨by rw [← hq_]; exact (bkS BK510)⟩; have n1_ : Aside0 (Below w.heap.size w w6) := ⟨by rw [← hq_]; exact (bS HB)⟩; clear BK510 HB hq_; have BK510 := n0_; have HB := n1_; clear n0_ n1_))) | ((with_reducible refine gate_callee (f := 52) rfl ?_); refine goesL_ (some 11) rfl rfl Tryd.func52 (by kernel_rfl) rfl #[.int .i64 a1] rfl mS ?_; (with_reducible refine (congr_size.calls a1 t512 _ A4.out).mono ?_); rintro e w' ⟨rfl, ⟨nd, rfl⟩⟩; refine ⟨_, rfl, ?_⟩; (try (rw [drewN_self w6]; generalize hq_ : World.drewN w6 _ = w6; have n0_ : Aside0 (w6.heap[gb510]? = some (.cells #[.int .u64 0, .int .u64 0, .bool false] 74 (0, 0))) := ⟨by rw [← hq_]; exact (bkS BK510)⟩; have n1_ : Aside0 (Below w.heap.size w w6) := ⟨by rw [← hq_]; exact (bS HB)⟩; clear BK510 HB hq_; have BK510 := n0_; have HB := n1_; clear n0_ n1_))) | ((with_reducible refine gate_callee (f := 63) rfl ?_); refine goesL_ (some 12) rfl rfl Tryd.func63 (by kernel_rfl) rfl #[.int .u64 t511, .int .u64 t512] rfl mS ?_; (with_reducible refine (bits_Mul64.calls t511 t512 t513 t514 _ A5.out).mono ?_); rintro e w' ⟨rfl, ⟨nd, rfl⟩⟩; refine ⟨_, rfl, ?_⟩; (try (rw [drewN_self w6]; generalize hq_ : World.drewN w6 _ = w6; have n0_ : Aside0 (w6.heap[gb510]? = some (.cells #[.int .u64 0, .int .u64 0, .bool false] 74 (0, 0))) := ⟨by rw [← hq_]; exact (bkS BK510)⟩; have n1_ : Aside0 (Below w.heap.size w w6) := ⟨by rw [← hq_]; exact (bS HB)⟩; clear BK510 HB hq_; have BK510 := n0_; have HB := n1_; clear n0_ n1_)); have hcz7_0 := cz0 BK510; have hcz7_1 := cz1 BK510; have hcz7_2 := cz2 BK510; have hfz7_0 := fz BK510 0; have hfz7_1 := fz BK510 1; have hfz7_2 := fz BK510 2))
 refine bodyPost_ret (results_cell_row rfl _ _ gb510 74 #[.int .u64 t513, .int .u64 t514, .bool ((decide (a0 < 0)) != (decide (a1 < 0)))] (0, 0) _ rfl (by (with_reducible repeat (first | refine b1 ?_ _ | refine b2 ?_ | refine b3 ?_ _)); refine blk_put (cs := #[.int .u64 t513, .int .u64 t514, .bool false]) ?_ 2 _ rfl; (with_reducible repeat (first | refine b1 ?_ _ | refine b2 ?_ | refine b3 ?_ _)); refine blk_put (cs := #[.int .u64 t513, .int .u64 0, .bool false]) ?_ 1 _ rfl; (with_reducible repeat (first | refine b1 ?_ _ | refine b2 ?_ | refine b3 ?_ _)); refine blk_put (cs := #[.int .u64 0, .int .u64 0, .bool false]) ?_ 0 _ rfl; (with_reducible repeat (first | refine b1 ?_ _ | refine b2 ?_ | refine b3 ?_ _)); exact BK510.out) Tryd.underlying74 rfl (by kernel_rfl)) rfl ?_
 exact ⟨eS, bS HB⟩

mutual
def congr_Mul.j0 : Nat → Bool → Bool → Int → Int → Bool → Int → Int → Option (Bool × Int × Int)
 | 0, _, _, _, _, _, _, _ => none
 | k + 1, x13, x516000, x516001, x516002, x517000, x517001, x517002 => if x13 = true then ((congr_none.f).bind fun bt518 => (some (bt518.1, bt518.2.1, bt518.2.2))) else ((congr_size.f x517002).bind fun t521 => ((congr_gcd_uint64.f k (IntKind.u64.wrap ((IntKind.u64.wrap (x516001)) * (IntKind.u64.wrap (x517001)))) (IntKind.u64.wrap ((IntKind.u64.wrap (x516001)) * t521))).bind fun t522 => ((congr_size.f x516002).bind fun t523 => ((congr_gcd_uint64.f k t522 (IntKind.u64.wrap ((IntKind.u64.wrap (x517001)) * t523))).bind fun t524 => ((congr_times.f x516002 x517002).bind fun bt525 => (if t524 = 0 then (if bt525.1 = 0 then (congr_Mul.j1 k (decide (bt525.2.1 > 4611686018427387904)) bt525.1 bt525.2.1 bt525.2.2) else (congr_Mul.j1 k true bt525.1 bt525.2.1 bt525.2.2)) else ((congr_words_rest.f bt525.1 bt525.2.1 t524).bind fun t538 => (if bt525.2.2 = true then (if t538 > 0 then ((congr_of.f k t524 (IntKind.u64.wrap (t524 - t538))).bind fun bt539 => (some (bt539.1, bt539.2.1, bt539.2.2))) else ((congr_of.f k t524 t538).bind fun bt542 => (some (bt542.1, bt542.2.1, bt542.2.2)))) else ((congr_of.f k t524 t538).bind fun bt545 => (some (bt545.1, bt545.2.1, bt545.2.2)))))))))))
def congr_Mul.j1 : Nat → Bool → Int → Int → Bool → Option (Bool × Int × Int)
 | 0, _, _, _, _ => none
 | k + 1, x54, x529000, x529001, x529002 => if x54 = true then ((congr_none.f).bind fun bt529 => (some (bt529.1, bt529.2.1, bt529.2.2))) else (if x529002 = true then ((congr_constant.f (wrap64 (-(wrap64 (x529001))))).bind fun bt532 => (some (bt532.1, bt532.2.1, bt532.2.2))) else ((congr_constant.f (wrap64 (x529001))).bind fun bt535 => (some (bt535.1, bt535.2.1, bt535.2.2))))
end
def congr_Mul.f (k : Nat) (a0_0 : Bool) (a0_1 : Int) (a0_2 : Int) (a1_0 : Bool) (a1_1 : Int) (a1_2 : Int) : Option (Bool × Int × Int) := if a0_0 = true then (congr_Mul.j0 k true a0_0 a0_1 a0_2 a1_0 a1_1 a1_2) else (congr_Mul.j0 k a1_0 a0_0 a0_1 a0_2 a1_0 a1_1 a1_2)
set_option maxHeartbeats 8000000 in
set_option maxRecDepth 100000 in
theorem congr_Mul.calls (k : Nat) (a0_0 : Bool) (a0_1 : Int) (a0_2 : Int) (a1_0 : Bool) (a1_1 : Int) (a1_2 : Int) (r1 : Bool) (r2 : Int) (r3 : Int) (w : World) (h : congr_Mul.f k a0_0 a0_1 a0_2 a1_0 a1_1 a1_2 = some (r1, r2, r3)) :
  Calls Tryd.prog 39 #[.agg #[.bool a0_0, .int .i64 a0_1, .int .i64 a0_2], .agg #[.bool a1_0, .int .i64 a1_1, .int .i64 a1_2]] w fun e w' => e = .returned (.agg #[.bool r1, .int .i64 r2, .int .i64 r3]) ∧ Below w.heap.size w w' := by
 have hu23 := Tryd.underlying23
 have hu74 := Tryd.underlying74
 have hu67 := Tryd.underlying67
 have HB := Aside0.mk (Below.refl w.heap.size w)
 have H : (if a0_0 = true then (congr_Mul.j0 k true a0_0 a0_1 a0_2 a1_0 a1_1 a1_2) else (congr_Mul.j0 k a1_0 a0_0 a0_1 a0_2 a1_0 a1_1 a1_2)) = some (r1, r2, r3) := h
 clear h
 have HC3 := Aside0.mk H
 clear H
 go_enter Tryd.func39, Tryd.ntmps39
 go_upto_region 1 with (first | ((with_reducible refine gate_dst (N := 2) rfl ?_); refine box_event ?hg (N := 2) ?hd (cs := #[.bool a0_0, .int .i64 a0_1, .int .i64 a0_2]) (t := 23) ?hr ?_; (case hd => rfl); (case hg => rfl); (case hr => first | (go_simp; done) | (go_simp; rfl)); intro gb515 hg w4 hbox hb; have n0_ := kW HB hb; have n1_ := Aside0.mk (hbox); have n2_ := Aside0.mk ((by rw [hg]; exact (below_size (bS HB)) : w.heap.size ≤ gb515)); have n3_ := Aside0.mk ((by rw [hg]; exact (below_size (bS HB)) : w.heap.size ≤ gb515)); clear HB; have HB := n0_; have BK515 := n1_; have GW515 := n2_; have GE515 := n3_; clear n0_ n1_ n2_ n3_; clear hb hbox hg) | ((with_reducible refine gate_dst (N := 3) rfl ?_); refine box_event ?hg (N := 3) ?hd (cs := #[.bool a1_0, .int .i64 a1_1, .int .i64 a1_2]) (t := 23) ?hr ?_; (case hd => rfl); (case hg => rfl); (case hr => first | (go_simp; done) | (go_simp; rfl)); intro gb516 hg w5 hbox hb; have n0_ := kB BK515 hb; have n1_ := kW HB hb; have n2_ := Aside0.mk (hbox); have n3_ := Aside0.mk ((by rw [hg]; exact (below_size (bS HB)) : w.heap.size ≤ gb516)); have n4_ := Aside0.mk ((by rw [hg]; exact (below_size (bS HB)) : w.heap.size ≤ gb516)); have n5_ := Aside0.mk ((by rw [hg]; exact Nat.ne_of_lt (blk_lt (bkS BK515)) : gb515 ≠ gb516)); have n6_ := Aside0.mk ((by rw [hg]; exact Nat.ne_of_gt (blk_lt (bkS BK515)) : gb516 ≠ gb515)); clear BK515; clear HB; have BK515 := n0_; have HB := n1_; have BK516 := n2_; have GW516 := n3_; have GE516 := n4_; have NB515_516 := n5_; have NB516_515 := n6_; clear n0_ n1_ n2_ n3_ n4_ n5_ n6_; clear hb hbox hg) | ((with_reducible refine gate_dst (N := 4) rfl ?_); refine box_event ?hg (N := 4) ?hd (cs := #[.bool false, .int .i64 0, .int .i64 0]) (t := 23) ?hr ?_; (case hd => rfl); (case hg => rfl); (case hr => first | (go_simp; done) | (go_simp; rfl)); intro gb517 hg w6 hbox hb; have n0_ := kB BK515 hb; have n1_ := kB BK516 hb; have n2_ := kW HB hb; have n3_ := Aside0.mk (hbox); have n4_ := Aside0.mk ((by rw [hg]; exact (below_size (bS HB)) : w.heap.size ≤ gb517)); have n5_ := Aside0.mk ((by rw [hg]; exact (below_size (bS HB)) : w.heap.size ≤ gb517)); have n6_ := Aside0.mk ((by rw [hg]; exact Nat.ne_of_lt (blk_lt (bkS BK515)) : gb515 ≠ gb517)); have n7_ := Aside0.mk ((by rw [hg]; exact Nat.ne_of_gt (blk_lt (bkS BK515)) : gb517 ≠ gb515)); have n8_ := Aside0.mk ((by rw [hg]; exact Nat.ne_of_lt (blk_lt (bkS BK516)) : gb516 ≠ gb517)); have n9_ := Aside0.mk ((by rw [hg]; exact Nat.ne_of_gt (blk_lt (bkS BK516)) : gb517 ≠ gb516)); clear BK515; clear BK516; clear HB; have BK515 := n0_; have BK516 := n1_; have HB := n2_; have BK517 := n3_; have GW517 := n4_; have GE517 := n5_; have NB515_517 := n6_; have NB517_515 := n7_; have NB516_517 := n8_; have NB517_516 := n9_; clear n0_ n1_ n2_ n3_ n4_ n5_ n6_ n7_ n8_ n9_; clear hb hbox hg))
 repeat (go_quiet (first | ((with_reducible refine gate_dst (N := 2) rfl ?_); refine box_event ?hg (N := 2) ?hd (cs := #[.bool a0_0, .int .i64 a0_1, .int .i64 a0_2]) (t := 23) ?hr ?_; (case hd => rfl); (case hg => rfl); (case hr => first | (go_simp; done) | (go_simp; rfl)); intro gb515 hg w4 hbox hb; have n0_ := kW HB hb; have n1_ := Aside0.mk (hbox); have n2_ := Aside0.mk ((by rw [hg]; exact (below_size (bS HB)) : w.heap.size ≤ gb515)); have n3_ := Aside0.mk ((by rw [hg]; exact (below_size (bS HB)) : w.heap.size ≤ gb515)); clear HB; have HB := n0_; have BK515 := n1_; have GW515 := n2_; have GE515 := n3_; clear n0_ n1_ n2_ n3_; clear hb hbox hg) | ((with_reducible refine gate_dst (N := 3) rfl ?_); refine box_event ?hg (N := 3) ?hd (cs := #[.bool a1_0, .int .i64 a1_1, .int .i64 a1_2]) (t := 23) ?hr ?_; (case hd => rfl); (case hg => rfl); (case hr => first | (go_simp; done) | (go_simp; rfl)); intro gb516 hg w5 hbox hb; have n0_ := kB BK515 hb; have n1_ := kW HB hb; have n2_ := Aside0.mk (hbox); have n3_ := Aside0.mk ((by rw [hg]; exact (below_size (bS HB)) : w.heap.size ≤ gb516)); have n4_ := Aside0.mk ((by rw [hg]; exact (below_size (bS HB)) : w.heap.size ≤ gb516)); have n5_ := Aside0.mk ((by rw [hg]; exact Nat.ne_of_lt (blk_lt (bkS BK515)) : gb515 ≠ gb516)); have n6_ := Aside0.mk ((by rw [hg]; exact Nat.ne_of_gt (blk_lt (bkS BK515)) : gb516 ≠ gb515)); clear BK515; clear HB; have BK515 := n0_; have HB := n1_; have BK516 := n2_; have GW516 := n3_; have GE516 := n4_; have NB515_516 := n5_; have NB516_515 := n6_; clear n0_ n1_ n2_ n3_ n4_ n5_ n6_; clear hb hbox hg) | ((with_reducible refine gate_dst (N := 4) rfl ?_); refine box_event ?hg (N := 4) ?hd (cs := #[.bool false, .int .i64 0, .int .i64 0]) (t := 23) ?hr ?_; (case hd => rfl); (case hg => rfl); (case hr => first | (go_simp; done) | (go_simp; rfl)); intro gb517 hg w6 hbox hb; have n0_ := kB BK515 hb; have n1_ := kB BK516 hb; have n2_ := kW HB hb; have n3_ := Aside0.mk (hbox); have n4_ := Aside0.mk ((by rw [hg]; exact (below_size (bS HB)) : w.heap.size ≤ gb517)); have n5_ := Aside0.mk ((by rw [hg]; exact (below_size (bS HB)) : w.heap.size ≤ gb517)); have n6_ := Aside0.mk ((by rw [hg]; exact Nat.ne_of_lt (blk_lt (bkS BK515)) : gb515 ≠ gb517)); have n7_ := Aside0.mk ((by rw [hg]; exact Nat.ne_of_gt (blk_lt (bkS BK515)) : gb517 ≠ gb515)); have n8_ := Aside0.mk ((by rw [hg]; exact Nat.ne_of_lt (blk_lt (bkS BK516)) : gb516 ≠ gb517)); have n9_ := Aside0.mk ((by rw [hg]; exact Nat.ne_of_gt (blk_lt (bkS BK516)) : gb517 ≠ gb516)); clear BK515; clear BK516; clear HB; have BK515 := n0_; have BK516 := n1_; have HB := n2_; have BK517 := n3_; have GW517 := n4_; have GE517 := n5_; have NB515_517 := n6_; have NB517_515 := n7_; have NB516_517 := n8_; have NB517_516 := n9_; clear n0_ n1_ n2_ n3_ n4_ n5_ n6_ n7_ n8_ n9_; clear hb hbox hg)); go_upto_region 1 with (first | ((with_reducible refine gate_dst (N := 2) rfl ?_); refine box_event ?hg (N := 2) ?hd (cs := #[.bool a0_0, .int .i64 a0_1, .int .i64 a0_2]) (t := 23) ?hr ?_; (case hd => rfl); (case hg => rfl); (case hr => first | (go_simp; done) | (go_simp; rfl)); intro gb515 hg w4 hbox hb; have n0_ := kW HB hb; have n1_ := Aside0.mk (hbox); have n2_ := Aside0.mk ((by rw [hg]; exact (below_size (bS HB)) : w.heap.size ≤ gb515)); have n3_ := Aside0.mk ((by rw [hg]; exact (below_size (bS HB)) : w.heap.size ≤ gb515)); clear HB; have HB := n0_; have BK515 := n1_; have GW515 := n2_; have GE515 := n3_; clear n0_ n1_ n2_ n3_; clear hb hbox hg) | ((with_reducible refine gate_dst (N := 3) rfl ?_); refine box_event ?hg (N := 3) ?hd (cs := #[.bool a1_0, .int .i64 a1_1, .int .i64 a1_2]) (t := 23) ?hr ?_; (case hd => rfl); (case hg => rfl); (case hr => first | (go_simp; done) | (go_simp; rfl)); intro gb516 hg w5 hbox hb; have n0_ := kB BK515 hb; have n1_ := kW HB hb; have n2_ := Aside0.mk (hbox); have n3_ := Aside0.mk ((by rw [hg]; exact (below_size (bS HB)) : w.heap.size ≤ gb516)); have n4_ := Aside0.mk ((by rw [hg]; exact (below_size (bS HB)) : w.heap.size ≤ gb516)); have n5_ := Aside0.mk ((by rw [hg]; exact Nat.ne_of_lt (blk_lt (bkS BK515)) : gb515 ≠ gb516)); have n6_ := Aside0.mk ((by rw [hg]; exact Nat.ne_of_gt (blk_lt (bkS BK515)) : gb516 ≠ gb515)); clear BK515; clear HB; have BK515 := n0_; have HB := n1_; have BK516 := n2_; have GW516 := n3_; have GE516 := n4_; have NB515_516 := n5_; have NB516_515 := n6_; clear n0_ n1_ n2_ n3_ n4_ n5_ n6_; clear hb hbox hg) | ((with_reducible refine gate_dst (N := 4) rfl ?_); refine box_event ?hg (N := 4) ?hd (cs := #[.bool false, .int .i64 0, .int .i64 0]) (t := 23) ?hr ?_; (case hd => rfl); (case hg => rfl); (case hr => first | (go_simp; done) | (go_simp; rfl)); intro gb517 hg w6 hbox hb; have n0_ := kB BK515 hb; have n1_ := kB BK516 hb; have n2_ := kW HB hb; have n3_ := Aside0.mk (hbox); have n4_ := Aside0.mk ((by rw [hg]; exact (below_size (bS HB)) : w.heap.size ≤ gb517)); have n5_ := Aside0.mk ((by rw [hg]; exact (below_size (bS HB)) : w.heap.size ≤ gb517)); have n6_ := Aside0.mk ((by rw [hg]; exact Nat.ne_of_lt (blk_lt (bkS BK515)) : gb515 ≠ gb517)); have n7_ := Aside0.mk ((by rw [hg]; exact Nat.ne_of_gt (blk_lt (bkS BK515)) : gb517 ≠ gb515)); have n8_ := Aside0.mk ((by rw [hg]; exact Nat.ne_of_lt (blk_lt (bkS BK516)) : gb516 ≠ gb517)); have n9_ := Aside0.mk ((by rw [hg]; exact Nat.ne_of_gt (blk_lt (bkS BK516)) : gb517 ≠ gb516)); clear BK515; clear BK516; clear HB; have BK515 := n0_; have BK516 := n1_; have HB := n2_; have BK517 := n3_; have GW517 := n4_; have GE517 := n5_; have NB515_517 := n6_; have NB517_515 := n7_; have NB516_517 := n8_; have NB517_516 := n9_; clear n0_ n1_ n2_ n3_ n4_ n5_ n6_ n7_ n8_ n9_; clear hb hbox hg)))
 (try simp only [Act.put, lA, lB, lC])
 go_cut [13] (fun v13 wc => ∃ (kq : Nat) (x13_2 : Bool), v13 = .bool x13_2 ∧ Aside0 (congr_Mul.j0 kq x13_2 a0_0 a0_1 a0_2 a1_0 a1_1 a1_2 = some (r1, r2, r3)) ∧ Aside0 (kq ≤ k) ∧ Aside0 (wc.heap[gb515]? = some (.cells #[.bool a0_0, .int .i64 a0_1, .int .i64 a0_2] 23 (0, 0))) ∧ Aside0 (wc.heap[gb516]? = some (.cells #[.bool a1_0, .int .i64 a1_1, .int .i64 a1_2] 23 (0, 0))) ∧ Aside0 (wc.heap[gb517]? = some (.cells #[.bool false, .int .i64 0, .int .i64 0] 23 (0, 0))) ∧ Aside0 (Below w.heap.size w wc))
 case first =>
  have H := HC3.out
  clear HC3
  by_cases c7 : a0_0 = true
  ·
   subst c7
   have H1 : (congr_Mul.j0 k true true a0_1 a0_2 a1_0 a1_1 a1_2) = some (r1, r2, r3) := by rw [if_pos rfl] at H; exact H
   clear H
   have H := H1
   clear H1
   have H' := Aside0.mk H
   clear H
   have hnb8 := NB515_516.out
   have hnc8 := NB516_515.out
   have hnb9 := NB515_517.out
   have hnc9 := NB517_515.out
   have hcz10_0 := cz0 BK515
   have hcz10_1 := cz1 BK515
   have hcz10_2 := cz2 BK515
   have hfz10_0 := fz BK515 0
   have hfz10_1 := fz BK515 1
   have hfz10_2 := fz BK515 2
   go_wp2
   repeat (go_quiet (fail); try go_wp2)
   go_meet
   case rel => exact ⟨_, (true), (by first | rfl | (simp; done) | (simp [*]; done)), H', ⟨by first | omega | exact Nat.le_refl _⟩, ⟨bkS BK515⟩, ⟨bkS BK516⟩, ⟨bkS BK517⟩, ⟨bS HB⟩⟩
  ·
   replace c7 := Bool.eq_false_iff.mpr c7
   subst c7
   have H1 : (congr_Mul.j0 k a1_0 false a0_1 a0_2 a1_0 a1_1 a1_2) = some (r1, r2, r3) := by rw [if_neg (show ¬ (false = true) by decide)] at H; exact H
   clear H
   have H := H1
   clear H1
   have H' := Aside0.mk H
   clear H
   have hnb11 := NB515_516.out
   have hnc11 := NB516_515.out
   have hnb12 := NB515_517.out
   have hnc12 := NB517_515.out
   have hcz13_0 := cz0 BK515
   have hcz13_1 := cz1 BK515
   have hcz13_2 := cz2 BK515
   have hfz13_0 := fz BK515 0
   have hfz13_1 := fz BK515 1
   have hfz13_2 := fz BK515 2
   have hnb14 := NB516_517.out
   have hnc14 := NB517_516.out
   have hcz15_0 := cz0 BK516
   have hcz15_1 := cz1 BK516
   have hcz15_2 := cz2 BK516
   have hfz15_0 := fz BK516 0
   have hfz15_1 := fz BK516 1
   have hfz15_2 := fz BK516 2
   go_wp2
   repeat (go_quiet (fail); try go_wp2)
   go_meet
   case rel => exact ⟨_, (a1_0), (by first | rfl | (simp; done) | (simp [*]; done)), H', ⟨by first | omega | exact Nat.le_refl _⟩, ⟨bkS BK515⟩, ⟨bkS BK516⟩, ⟨bkS BK517⟩, ⟨bS HB⟩⟩
 case rest =>
  clear HC3
  try clear c1
  try clear p2
  try clear c3
  try clear c7
  try clear c8
  try clear c9
  try clear c11
  try clear c12
  try clear c14
  try clear hcz10_0
  try clear hcz10_1
  try clear hcz10_2
  try clear hcz13_0
  try clear hcz13_1
  try clear hcz13_2
  try clear hcz15_0
  try clear hcz15_1
  try clear hcz15_2
  try clear hfz10_0
  try clear hfz10_1
  try clear hfz10_2
  try clear hfz13_0
  try clear hfz13_1
  try clear hfz13_2
  try clear hfz15_0
  try clear hfz15_1
  try clear hfz15_2
  obtain ⟨kq, x13_2, rfl, HA, HJ2, BK515, BK516, BK517, HB⟩ := hcut
  cases kq with
  | zero => exact absurd HA.out (by simp [congr_Mul.j0])
  | succ kj2 =>
   have H := HA.out
   clear HA
   simp only [congr_Mul.j0] at H
   by_cases c16 : x13_2 = true
   ·
    subst c16
    have H1 : ((congr_none.f).bind fun bt518 => (some (bt518.1, bt518.2.1, bt518.2.2))) = some (r1, r2, r3) := by rw [if_pos rfl] at H; exact H
    clear H
    have H := H1
    clear H1
    replace H := Option.bind_eq_some_iff.mp H
    obtain ⟨⟨t518, t519, t520⟩, A170, H⟩ := H
    replace H : (some (t518, t519, t520)) = some (r1, r2, r3) := H
    have A17 := Aside0.mk A170
    clear A170
    simp only [Option.some.injEq, Prod.mk.injEq] at H
    obtain ⟨rfl, rfl, rfl⟩ := H
    go_wp2_with (first | (go_at_call 56; (with_reducible refine (congr_none.calls  t518 t519 t520 _ A17.out).mono ?_); rintro e w18 ⟨rfl, hb⟩; replace BK515 := kB BK515 hb; replace BK516 := kB BK516 hb; replace BK517 := kB BK517 hb; replace HB := kW HB hb; (try clear hb); (try clear hb2); (try clear hk); (try clear hi); have hnb19 := NB517_515.out; have hnc19 := NB515_517.out; have hnb20 := NB517_516.out; have hnc20 := NB516_517.out; have hcz21_0 := cz0 BK517; have hcz21_1 := cz1 BK517; have hcz21_2 := cz2 BK517; have hfz21_0 := fz BK517 0; have hfz21_1 := fz BK517 1; have hfz21_2 := fz BK517 2))
    repeat (go_quiet (first | (go_at_call 56; (with_reducible refine (congr_none.calls  t518 t519 t520 _ A17.out).mono ?_); rintro e w18 ⟨rfl, hb⟩; replace BK515 := kB BK515 hb; replace BK516 := kB BK516 hb; replace BK517 := kB BK517 hb; replace HB := kW HB hb; (try clear hb); (try clear hb2); (try clear hk); (try clear hi); have hnb19 := NB517_515.out; have hnc19 := NB515_517.out; have hnb20 := NB517_516.out; have hnc20 := NB516_517.out; have hcz21_0 := cz0 BK517; have hcz21_1 := cz1 BK517; have hcz21_2 := cz2 BK517; have hfz21_0 := fz BK517 0; have hfz21_1 := fz BK517 1; have hfz21_2 := fz BK517 2)); try go_wp2_with (first | (go_at_call 56; (with_reducible refine (congr_none.calls  t518 t519 t520 _ A17.out).mono ?_); rintro e w18 ⟨rfl, hb⟩; replace BK515 := kB BK515 hb; replace BK516 := kB BK516 hb; replace BK517 := kB BK517 hb; replace HB := kW HB hb; (try clear hb); (try clear hb2); (try clear hk); (try clear hi); have hnb19 := NB517_515.out; have hnc19 := NB515_517.out; have hnb20 := NB517_516.out; have hnc20 := NB516_517.out; have hcz21_0 := cz0 BK517; have hcz21_1 := cz1 BK517; have hcz21_2 := cz2 BK517; have hfz21_0 := fz BK517 0; have hfz21_1 := fz BK517 1; have hfz21_2 := fz BK517 2)))
    refine bodyPost_ret (results_cell_row rfl _ _ gb517 23 #[.bool t518, .int .i64 t519, .int .i64 t520] (0, 0) _ rfl (by (with_reducible repeat (first | refine b1 ?_ _ | refine b2 ?_ | refine b3 ?_ _)); refine blk_put (cs := #[.bool t518, .int .i64 t519, .int .i64 0]) ?_ 2 _ rfl; (with_reducible repeat (first | refine b1 ?_ _ | refine b2 ?_ | refine b3 ?_ _)); refine blk_put (cs := #[.bool t518, .int .i64 0, .int .i64 0]) ?_ 1 _ rfl; (with_reducible repeat (first | refine b1 ?_ _ | refine b2 ?_ | refine b3 ?_ _)); refine blk_put (cs := #[.bool false, .int .i64 0, .int .i64 0]) ?_ 0 _ rfl; (with_reducible repeat (first | refine b1 ?_ _ | refine b2 ?_ | refine b3 ?_ _)); exact BK517.out) Tryd.underlying23 rfl (by kernel_rfl)) rfl ?_
    exact ⟨eS, bS HB⟩
   ·
    replace c16 := Bool.eq_false_iff.mpr c16
    subst c16
    have H1 : ((congr_size.f a1_2).bind fun t521 => ((congr_gcd_uint64.f kj2 (IntKind.u64.wrap ((IntKind.u64.wrap (a0_1)) * (IntKind.u64.wrap (a1_1)))) (IntKind.u64.wrap ((IntKind.u64.wrap (a0_1)) * t521))).bind fun t522 => ((congr_size.f a0_2).bind fun t523 => ((congr_gcd_uint64.f kj2 t522 (IntKind.u64.wrap ((IntKind.u64.wrap (a1_1)) * t523))).bind fun t524 => ((congr_times.f a0_2 a1_2).bind fun bt525 => (if t524 = 0 then (if bt525.1 = 0 then (congr_Mul.j1 kj2 (decide (bt525.2.1 > 4611686018427387904)) bt525.1 bt525.2.1 bt525.2.2) else (congr_Mul.j1 kj2 true bt525.1 bt525.2.1 bt525.2.2)) else ((congr_words_rest.f bt525.1 bt525.2.1 t524).bind fun t538 => (if bt525.2.2 = true then (if t538 > 0 then ((congr_of.f kj2 t524 (IntKind.u64.wrap (t524 - t538))).bind fun bt539 => (some (bt539.1, bt539.2.1, bt539.2.2))) else ((congr_of.f kj2 t524 t538).bind fun bt542 => (some (bt542.1, bt542.2.1, bt542.2.2)))) else ((congr_of.f kj2 t524 t538).bind fun bt545 => (some (bt545.1, bt545.2.1, bt545.2.2))))))))))) = some (r1, r2, r3) := by rw [if_neg (show ¬ (false = true) by decide)] at H; exact H
    clear H
    have H := H1
    clear H1
    replace H := Option.bind_eq_some_iff.mp H
    obtain ⟨t521, A220, H⟩ := H
    replace H : ((congr_gcd_uint64.f kj2 (IntKind.u64.wrap ((IntKind.u64.wrap (a0_1)) * (IntKind.u64.wrap (a1_1)))) (IntKind.u64.wrap ((IntKind.u64.wrap (a0_1)) * t521))).bind fun t522 => ((congr_size.f a0_2).bind fun t523 => ((congr_gcd_uint64.f kj2 t522 (IntKind.u64.wrap ((IntKind.u64.wrap (a1_1)) * t523))).bind fun t524 => ((congr_times.f a0_2 a1_2).bind fun bt525 => (if t524 = 0 then (if bt525.1 = 0 then (congr_Mul.j1 kj2 (decide (bt525.2.1 > 4611686018427387904)) bt525.1 bt525.2.1 bt525.2.2) else (congr_Mul.j1 kj2 true bt525.1 bt525.2.1 bt525.2.2)) else ((congr_words_rest.f bt525.1 bt525.2.1 t524).bind fun t538 => (if bt525.2.2 = true then (if t538 > 0 then ((congr_of.f kj2 t524 (IntKind.u64.wrap (t524 - t538))).bind fun bt539 => (some (bt539.1, bt539.2.1, bt539.2.2))) else ((congr_of.f kj2 t524 t538).bind fun bt542 => (some (bt542.1, bt542.2.1, bt542.2.2)))) else ((congr_of.f kj2 t524 t538).bind fun bt545 => (some (bt545.1, bt545.2.1, bt545.2.2)))))))))) = some (r1, r2, r3) := H
    have A22 := Aside0.mk A220
    clear A220
    replace H := Option.bind_eq_some_iff.mp H
    obtain ⟨t522, A230, H⟩ := H
    replace H : ((congr_size.f a0_2).bind fun t523 => ((congr_gcd_uint64.f kj2 t522 (IntKind.u64.wrap ((IntKind.u64.wrap (a1_1)) * t523))).bind fun t524 => ((congr_times.f a0_2 a1_2).bind fun bt525 => (if t524 = 0 then (if bt525.1 = 0 then (congr_Mul.j1 kj2 (decide (bt525.2.1 > 4611686018427387904)) bt525.1 bt525.2.1 bt525.2.2) else (congr_Mul.j1 kj2 true bt525.1 bt525.2.1 bt525.2.2)) else ((congr_words_rest.f bt525.1 bt525.2.1 t524).bind fun t538 => (if bt525.2.2 = true then (if t538 > 0 then ((congr_of.f kj2 t524 (IntKind.u64.wrap (t524 - t538))).bind fun bt539 => (some (bt539.1, bt539.2.1, bt539.2.2))) else ((congr_of.f kj2 t524 t538).bind fun bt542 => (some (bt542.1, bt542.2.1, bt542.2.2)))) else ((congr_of.f kj2 t524 t538).bind fun bt545 => (some (bt545.1, bt545.2.1, bt545.2.2))))))))) = some (r1, r2, r3) := H
    have A23 := Aside0.mk A230
    clear A230
    replace H := Option.bind_eq_some_iff.mp H
    obtain ⟨t523, A240, H⟩ := H
    replace H : ((congr_gcd_uint64.f kj2 t522 (IntKind.u64.wrap ((IntKind.u64.wrap (a1_1)) * t523))).bind fun t524 => ((congr_times.f a0_2 a1_2).bind fun bt525 => (if t524 = 0 then (if bt525.1 = 0 then (congr_Mul.j1 kj2 (decide (bt525.2.1 > 4611686018427387904)) bt525.1 bt525.2.1 bt525.2.2) else (congr_Mul.j1 kj2 true bt525.1 bt525.2.1 bt525.2.2)) else ((congr_words_rest.f bt525.1 bt525.2.1 t524).bind fun t538 => (if bt525.2.2 = true then (if t538 > 0 then ((congr_of.f kj2 t524 (IntKind.u64.wrap (t524 - t538))).bind fun bt539 => (some (bt539.1, bt539.2.1, bt539.2.2))) else ((congr_of.f kj2 t524 t538).bind fun bt542 => (some (bt542.1, bt542.2.1, bt542.2.2)))) else ((congr_of.f kj2 t524 t538).bind fun bt545 => (some (bt545.1, bt545.2.1, bt545.2.2)))))))) = some (r1, r2, r3) := H
    have A24 := Aside0.mk A240
    clear A240
    replace H := Option.bind_eq_some_iff.mp H
    obtain ⟨t524, A250, H⟩ := H
    replace H : ((congr_times.f a0_2 a1_2).bind fun bt525 => (if t524 = 0 then (if bt525.1 = 0 then (congr_Mul.j1 kj2 (decide (bt525.2.1 > 4611686018427387904)) bt525.1 bt525.2.1 bt525.2.2) else (congr_Mul.j1 kj2 true bt525.1 bt525.2.1 bt525.2.2)) else ((congr_words_rest.f bt525.1 bt525.2.1 t524).bind fun t538 => (if bt525.2.2 = true then (if t538 > 0 then ((congr_of.f kj2 t524 (IntKind.u64.wrap (t524 - t538))).bind fun bt539 => (some (bt539.1, bt539.2.1, bt539.2.2))) else ((congr_of.f kj2 t524 t538).bind fun bt542 => (some (bt542.1, bt542.2.1, bt542.2.2)))) else ((congr_of.f kj2 t524 t538).bind fun bt545 => (some (bt545.1, bt545.2.1, bt545.2.2))))))) = some (r1, r2, r3) := H
    have A25 := Aside0.mk A250
    clear A250
    replace H := Option.bind_eq_some_iff.mp H
    obtain ⟨⟨t525, t526, t527⟩, A260, H⟩ := H
    replace H : (if t524 = 0 then (if t525 = 0 then (congr_Mul.j1 kj2 (decide (t526 > 4611686018427387904)) t525 t526 t527) else (congr_Mul.j1 kj2 true t525 t526 t527)) else ((congr_words_rest.f t525 t526 t524).bind fun t538 => (if t527 = true then (if t538 > 0 then ((congr_of.f kj2 t524 (IntKind.u64.wrap (t524 - t538))).bind fun bt539 => (some (bt539.1, bt539.2.1, bt539.2.2))) else ((congr_of.f kj2 t524 t538).bind fun bt542 => (some (bt542.1, bt542.2.1, bt542.2.2)))) else ((congr_of.f kj2 t524 t538).bind fun bt545 => (some (bt545.1, bt545.2.1, bt545.2.2)))))) = some (r1, r2, r3) := H
    have A26 := Aside0.mk A260
    clear A260
    by_cases c27 : t524 = 0
    ·
     rw [if_pos c27] at H
     have c27b0 : (t524 == 0) = true := beq_iff_eq.mpr c27
     have c27b1 : (t524 != 0) = false := bne_eq_false_iff_eq.mpr c27
     clear c27
     have HC28 := Aside0.mk H
     clear H
     have hnb29 := NB515_516.out
     have hnc29 := NB516_515.out
     have hnb30 := NB515_517.out
     have hnc30 := NB517_515.out
     have hcz31_0 : wc.cell? ⟨gb515, 0, none⟩ = some (.bool a0_0) := cz0 BK515
     have hcz31_1 : wc.cell? ⟨gb515, 1, none⟩ = some (.int .i64 a0_1) := cz1 BK515
     have hcz31_2 : wc.cell? ⟨gb515, 2, none⟩ = some (.int .i64 a0_2) := cz2 BK515
     have hfz31_0 := fz BK515 0
     have hfz31_1 := fz BK515 1
     have hfz31_2 := fz BK515 2
     have hnb32 := NB516_517.out
     have hnc32 := NB517_516.out
     have hcz33_0 : wc.cell? ⟨gb516, 0, none⟩ = some (.bool a1_0) := cz0 BK516
     have hcz33_1 : wc.cell? ⟨gb516, 1, none⟩ = some (.int .i64 a1_1) := cz1 BK516
     have hcz33_2 : wc.cell? ⟨gb516, 2, none⟩ = some (.int .i64 a1_2) := cz2 BK516
     have hfz33_0 := fz BK516 0
     have hfz33_1 := fz BK516 1
     have hfz33_2 := fz BK516 2
     go_upto_region 6 with (first | (go_at_call 52; (with_reducible refine (congr_size.calls a1_2 t521 _ A22.out).mono ?_); rintro e w' ⟨rfl, ⟨nd, rfl⟩⟩; (try first | exact ⟨rfl, _, World.drewN_drewN _ _ _⟩ | exact ⟨rfl, _, Eq.trans (World.drewN_drewN _ _ _) (congrArg (World.drewN _) (Nat.add_assoc _ _ _))⟩)) | (go_at_call 62; (with_reducible refine (congr_gcd_uint64.calls kj2 (IntKind.u64.wrap ((IntKind.u64.wrap (a0_1)) * (IntKind.u64.wrap (a1_1)))) (IntKind.u64.wrap ((IntKind.u64.wrap (a0_1)) * t521)) t522 _ A23.out).mono ?_); rintro e w' ⟨rfl, ⟨nd, rfl⟩⟩; (try first | exact ⟨rfl, _, World.drewN_drewN _ _ _⟩ | exact ⟨rfl, _, Eq.trans (World.drewN_drewN _ _ _) (congrArg (World.drewN _) (Nat.add_assoc _ _ _))⟩)) | (go_at_call 52; (with_reducible refine (congr_size.calls a0_2 t523 _ A24.out).mono ?_); rintro e w' ⟨rfl, ⟨nd, rfl⟩⟩; (try first | exact ⟨rfl, _, World.drewN_drewN _ _ _⟩ | exact ⟨rfl, _, Eq.trans (World.drewN_drewN _ _ _) (congrArg (World.drewN _) (Nat.add_assoc _ _ _))⟩)) | (go_at_call 62; (with_reducible refine (congr_gcd_uint64.calls kj2 t522 (IntKind.u64.wrap ((IntKind.u64.wrap (a1_1)) * t523)) t524 _ A25.out).mono ?_); rintro e w' ⟨rfl, ⟨nd, rfl⟩⟩; (try first | exact ⟨rfl, _, World.drewN_drewN _ _ _⟩ | exact ⟨rfl, _, Eq.trans (World.drewN_drewN _ _ _) (congrArg (World.drewN _) (Nat.add_assoc _ _ _))⟩)) | (go_at_call 83; (with_reducible refine (congr_times.calls a0_2 a1_2 t525 t526 t527 _ A26.out).mono ?_); rintro e w34 ⟨rfl, hb⟩; replace BK515 := kB BK515 hb; replace BK516 := kB BK516 hb; replace BK517 := kB BK517 hb; replace HB := kW HB hb; (try clear hb); (try clear hb2); (try clear hk); (try clear hi)) | ((with_reducible refine gate_dst (N := 6) rfl ?_); refine box_event ?hg (N := 6) ?hd (cs := #[.int .u64 0, .int .u64 0, .bool false]) (t := 74) ?hr ?_; (case hd => rfl); (case hg => rfl); (case hr => first | (go_simp; done) | (go_simp; rfl)); intro gb528 hg w35 hbox hb; have n0_ := kB BK515 hb; have n1_ := kB BK516 hb; have n2_ := kB BK517 hb; have n3_ := kW HB hb; have n4_ := Aside0.mk (hbox); have n5_ := Aside0.mk ((by rw [hg]; exact (below_size (bS HB)) : w.heap.size ≤ gb528)); have n6_ := Aside0.mk ((by rw [hg]; exact (below_size (bS HB)) : w.heap.size ≤ gb528)); have n7_ := Aside0.mk ((by rw [hg]; exact Nat.ne_of_lt (blk_lt (bkS BK515)) : gb515 ≠ gb528)); have n8_ := Aside0.mk ((by rw [hg]; exact Nat.ne_of_gt (blk_lt (bkS BK515)) : gb528 ≠ gb515)); have n9_ := Aside0.mk ((by rw [hg]; exact Nat.ne_of_lt (blk_lt (bkS BK516)) : gb516 ≠ gb528)); have n10_ := Aside0.mk ((by rw [hg]; exact Nat.ne_of_gt (blk_lt (bkS BK516)) : gb528 ≠ gb516)); have n11_ := Aside0.mk ((by rw [hg]; exact Nat.ne_of_lt (blk_lt (bkS BK517)) : gb517 ≠ gb528)); have n12_ := Aside0.mk ((by rw [hg]; exact Nat.ne_of_gt (blk_lt (bkS BK517)) : gb528 ≠ gb517)); clear BK515; clear BK516; clear BK517; clear HB; have BK515 := n0_; have BK516 := n1_; have BK517 := n2_; have HB := n3_; have BK528 := n4_; have GW528 := n5_; have GE528 := n6_; have NB515_528 := n7_; have NB528_515 := n8_; have NB516_528 := n9_; have NB528_516 := n10_; have NB517_528 := n11_; have NB528_517 := n12_; clear n0_ n1_ n2_ n3_ n4_ n5_ n6_ n7_ n8_ n9_ n10_ n11_ n12_; clear hb hbox hg; have hnb36 := NB528_515.out; have hnc36 := NB515_528.out; have hnb37 := NB528_516.out; have hnc37 := NB516_528.out; have hnb38 := NB528_517.out; have hnc38 := NB517_528.out; have hcz39_0 := cz0 BK528; have hcz39_1 := cz1 BK528; have hcz39_2 := cz2 BK528; have hfz39_0 := fz BK528 0; have hfz39_1 := fz BK528 1; have hfz39_2 := fz BK528 2))
     repeat (go_quiet (first | (go_at_call 52; (with_reducible refine (congr_size.calls a1_2 t521 _ A22.out).mono ?_); rintro e w' ⟨rfl, ⟨nd, rfl⟩⟩; (try first | exact ⟨rfl, _, World.drewN_drewN _ _ _⟩ | exact ⟨rfl, _, Eq.trans (World.drewN_drewN _ _ _) (congrArg (World.drewN _) (Nat.add_assoc _ _ _))⟩)) | (go_at_call 62; (with_reducible refine (congr_gcd_uint64.calls kj2 (IntKind.u64.wrap ((IntKind.u64.wrap (a0_1)) * (IntKind.u64.wrap (a1_1)))) (IntKind.u64.wrap ((IntKind.u64.wrap (a0_1)) * t521)) t522 _ A23.out).mono ?_); rintro e w' ⟨rfl, ⟨nd, rfl⟩⟩; (try first | exact ⟨rfl, _, World.drewN_drewN _ _ _⟩ | exact ⟨rfl, _, Eq.trans (World.drewN_drewN _ _ _) (congrArg (World.drewN _) (Nat.add_assoc _ _ _))⟩)) | (go_at_call 52; (with_reducible refine (congr_size.calls a0_2 t523 _ A24.out).mono ?_); rintro e w' ⟨rfl, ⟨nd, rfl⟩⟩; (try first | exact ⟨rfl, _, World.drewN_drewN _ _ _⟩ | exact ⟨rfl, _, Eq.trans (World.drewN_drewN _ _ _) (congrArg (World.drewN _) (Nat.add_assoc _ _ _))⟩)) | (go_at_call 62; (with_reducible refine (congr_gcd_uint64.calls kj2 t522 (IntKind.u64.wrap ((IntKind.u64.wrap (a1_1)) * t523)) t524 _ A25.out).mono ?_); rintro e w' ⟨rfl, ⟨nd, rfl⟩⟩; (try first | exact ⟨rfl, _, World.drewN_drewN _ _ _⟩ | exact ⟨rfl, _, Eq.trans (World.drewN_drewN _ _ _) (congrArg (World.drewN _) (Nat.add_assoc _ _ _))⟩)) | (go_at_call 83; (with_reducible refine (congr_times.calls a0_2 a1_2 t525 t526 t527 _ A26.out).mono ?_); rintro e w34 ⟨rfl, hb⟩; replace BK515 := kB BK515 hb; replace BK516 := kB BK516 hb; replace BK517 := kB BK517 hb; replace HB := kW HB hb; (try clear hb); (try clear hb2); (try clear hk); (try clear hi)) | ((with_reducible refine gate_dst (N := 6) rfl ?_); refine box_event ?hg (N := 6) ?hd (cs := #[.int .u64 0, .int .u64 0, .bool false]) (t := 74) ?hr ?_; (case hd => rfl); (case hg => rfl); (case hr => first | (go_simp; done) | (go_simp; rfl)); intro gb528 hg w35 hbox hb; have n0_ := kB BK515 hb; have n1_ := kB BK516 hb; have n2_ := kB BK517 hb; have n3_ := kW HB hb; have n4_ := Aside0.mk (hbox); have n5_ := Aside0.mk ((by rw [hg]; exact (below_size (bS HB)) : w.heap.size ≤ gb528)); have n6_ := Aside0.mk ((by rw [hg]; exact (below_size (bS HB)) : w.heap.size ≤ gb528)); have n7_ := Aside0.mk ((by rw [hg]; exact Nat.ne_of_lt (blk_lt (bkS BK515)) : gb515 ≠ gb528)); have n8_ := Aside0.mk ((by rw [hg]; exact Nat.ne_of_gt (blk_lt (bkS BK515)) : gb528 ≠ gb515)); have n9_ := Aside0.mk ((by rw [hg]; exact Nat.ne_of_lt (blk_lt (bkS BK516)) : gb516 ≠ gb528)); have n10_ := Aside0.mk ((by rw [hg]; exact Nat.ne_of_gt (blk_lt (bkS BK516)) : gb528 ≠ gb516)); have n11_ := Aside0.mk ((by rw [hg]; exact Nat.ne_of_lt (blk_lt (bkS BK517)) : gb517 ≠ gb528)); have n12_ := Aside0.mk ((by rw [hg]; exact Nat.ne_of_gt (blk_lt (bkS BK517)) : gb528 ≠ gb517)); clear BK515; clear BK516; clear BK517; clear HB; have BK515 := n0_; have BK516 := n1_; have BK517 := n2_; have HB := n3_; have BK528 := n4_; have GW528 := n5_; have GE528 := n6_; have NB515_528 := n7_; have NB528_515 := n8_; have NB516_528 := n9_; have NB528_516 := n10_; have NB517_528 := n11_; have NB528_517 := n12_; clear n0_ n1_ n2_ n3_ n4_ n5_ n6_ n7_ n8_ n9_ n10_ n11_ n12_; clear hb hbox hg; have hnb36 := NB528_515.out; have hnc36 := NB515_528.out; have hnb37 := NB528_516.out; have hnc37 := NB516_528.out; have hnb38 := NB528_517.out; have hnc38 := NB517_528.out; have hcz39_0 := cz0 BK528; have hcz39_1 := cz1 BK528; have hcz39_2 := cz2 BK528; have hfz39_0 := fz BK528 0; have hfz39_1 := fz BK528 1; have hfz39_2 := fz BK528 2)); go_upto_region 6 with (first | (go_at_call 52; (with_reducible refine (congr_size.calls a1_2 t521 _ A22.out).mono ?_); rintro e w' ⟨rfl, ⟨nd, rfl⟩⟩; (try first | exact ⟨rfl, _, World.drewN_drewN _ _ _⟩ | exact ⟨rfl, _, Eq.trans (World.drewN_drewN _ _ _) (congrArg (World.drewN _) (Nat.add_assoc _ _ _))⟩)) | (go_at_call 62; (with_reducible refine (congr_gcd_uint64.calls kj2 (IntKind.u64.wrap ((IntKind.u64.wrap (a0_1)) * (IntKind.u64.wrap (a1_1)))) (IntKind.u64.wrap ((IntKind.u64.wrap (a0_1)) * t521)) t522 _ A23.out).mono ?_); rintro e w' ⟨rfl, ⟨nd, rfl⟩⟩; (try first | exact ⟨rfl, _, World.drewN_drewN _ _ _⟩ | exact ⟨rfl, _, Eq.trans (World.drewN_drewN _ _ _) (congrArg (World.drewN _) (Nat.add_assoc _ _ _))⟩)) | (go_at_call 52; (with_reducible refine (congr_size.calls a0_2 t523 _ A24.out).mono ?_); rintro e w' ⟨rfl, ⟨nd, rfl⟩⟩; (try first | exact ⟨rfl, _, World.drewN_drewN _ _ _⟩ | exact ⟨rfl, _, Eq.trans (World.drewN_drewN _ _ _) (congrArg (World.drewN _) (Nat.add_assoc _ _ _))⟩)) | (go_at_call 62; (with_reducible refine (congr_gcd_uint64.calls kj2 t522 (IntKind.u64.wrap ((IntKind.u64.wrap (a1_1)) * t523)) t524 _ A25.out).mono ?_); rintro e w' ⟨rfl, ⟨nd, rfl⟩⟩; (try first | exact ⟨rfl, _, World.drewN_drewN _ _ _⟩ | exact ⟨rfl, _, Eq.trans (World.drewN_drewN _ _ _) (congrArg (World.drewN _) (Nat.add_assoc _ _ _))⟩)) | (go_at_call 83; (with_reducible refine (congr_times.calls a0_2 a1_2 t525 t526 t527 _ A26.out).mono ?_); rintro e w34 ⟨rfl, hb⟩; replace BK515 := kB BK515 hb; replace BK516 := kB BK516 hb; replace BK517 := kB BK517 hb; replace HB := kW HB hb; (try clear hb); (try clear hb2); (try clear hk); (try clear hi)) | ((with_reducible refine gate_dst (N := 6) rfl ?_); refine box_event ?hg (N := 6) ?hd (cs := #[.int .u64 0, .int .u64 0, .bool false]) (t := 74) ?hr ?_; (case hd => rfl); (case hg => rfl); (case hr => first | (go_simp; done) | (go_simp; rfl)); intro gb528 hg w35 hbox hb; have n0_ := kB BK515 hb; have n1_ := kB BK516 hb; have n2_ := kB BK517 hb; have n3_ := kW HB hb; have n4_ := Aside0.mk (hbox); have n5_ := Aside0.mk ((by rw [hg]; exact (below_size (bS HB)) : w.heap.size ≤ gb528)); have n6_ := Aside0.mk ((by rw [hg]; exact (below_size (bS HB)) : w.heap.size ≤ gb528)); have n7_ := Aside0.mk ((by rw [hg]; exact Nat.ne_of_lt (blk_lt (bkS BK515)) : gb515 ≠ gb528)); have n8_ := Aside0.mk ((by rw [hg]; exact Nat.ne_of_gt (blk_lt (bkS BK515)) : gb528 ≠ gb515)); have n9_ := Aside0.mk ((by rw [hg]; exact Nat.ne_of_lt (blk_lt (bkS BK516)) : gb516 ≠ gb528)); have n10_ := Aside0.mk ((by rw [hg]; exact Nat.ne_of_gt (blk_lt (bkS BK516)) : gb528 ≠ gb516)); have n11_ := Aside0.mk ((by rw [hg]; exact Nat.ne_of_lt (blk_lt (bkS BK517)) : gb517 ≠ gb528)); have n12_ := Aside0.mk ((by rw [hg]; exact Nat.ne_of_gt (blk_lt (bkS BK517)) : gb528 ≠ gb517)); clear BK515; clear BK516; clear BK517; clear HB; have BK515 := n0_; have BK516 := n1_; have BK517 := n2_; have HB := n3_; have BK528 := n4_; have GW528 := n5_; have GE528 := n6_; have NB515_528 := n7_; have NB528_515 := n8_; have NB516_528 := n9_; have NB528_516 := n10_; have NB517_528 := n11_; have NB528_517 := n12_; clear n0_ n1_ n2_ n3_ n4_ n5_ n6_ n7_ n8_ n9_ n10_ n11_ n12_; clear hb hbox hg; have hnb36 := NB528_515.out; have hnc36 := NB515_528.out; have hnb37 := NB528_516.out; have hnc37 := NB516_528.out; have hnb38 := NB528_517.out; have hnc38 := NB517_528.out; have hcz39_0 := cz0 BK528; have hcz39_1 := cz1 BK528; have hcz39_2 := cz2 BK528; have hfz39_0 := fz BK528 0; have hfz39_1 := fz BK528 1; have hfz39_2 := fz BK528 2)))
     (try simp only [Act.put, lA, lB, lC])
     go_cut [54] (fun v54 wc => ∃ (kq : Nat) (x54_27 : Bool), v54 = .bool x54_27 ∧ Aside0 (congr_Mul.j1 kq x54_27 t525 t526 t527 = some (r1, r2, r3)) ∧ Aside0 (kq ≤ kj2) ∧ Aside0 (wc.heap[gb515]? = some (.cells #[.bool a0_0, .int .i64 a0_1, .int .i64 a0_2] 23 (0, 0))) ∧ Aside0 (wc.heap[gb516]? = some (.cells #[.bool a1_0, .int .i64 a1_1, .int .i64 a1_2] 23 (0, 0))) ∧ Aside0 (wc.heap[gb517]? = some (.cells #[.bool false, .int .i64 0, .int .i64 0] 23 (0, 0))) ∧ Aside0 (wc.heap[gb528]? = some (.cells #[.int .u64 t525, .int .u64 t526, .bool t527] 74 (0, 0))) ∧ Aside0 (Below w.heap.size w wc))
     case first =>
      have H := HC28.out
      clear HC28
      by_cases c40 : t525 = 0
      ·
       rw [if_pos c40] at H
       have c40b0 : (t525 == 0) = true := beq_iff_eq.mpr c40
       have c40b1 : (t525 != 0) = false := bne_eq_false_iff_eq.mpr c40
       clear c40
       (first | rw [c40b0] | (simp only [i64_w, i32_w]; rw [c40b0]) | skip)
       have H' := Aside0.mk H
       clear H
       have hnb41 := NB528_515.out
       have hnc41 := NB515_528.out
       have hnb42 := NB528_516.out
       have hnc42 := NB516_528.out
       have hnb43 := NB528_517.out
       have hnc43 := NB517_528.out
       have hcz44_0 := cz0 BK528
       have hcz44_1 := cz1 BK528
       have hcz44_2 := cz2 BK528
       have hfz44_0 := fz BK528 0
       have hfz44_1 := fz BK528 1
       have hfz44_2 := fz BK528 2
       go_wp2
       repeat (go_quiet (fail); try go_wp2)
       go_meet
       case rel => exact ⟨_, (decide (t526 > 4611686018427387904)), (by first | rfl | (simp; done) | (simp [*]; done)), H', ⟨by have := HJ2.out; first | omega | exact Nat.le_refl _⟩, ⟨bkS BK515⟩, ⟨bkS BK516⟩, ⟨bkS BK517⟩, ⟨by (with_reducible repeat (first | refine b1 ?_ _ | refine b2 ?_ | refine b3 ?_ _)); refine blk_put (cs := #[.int .u64 t525, .int .u64 t526, .bool false]) ?_ 2 _ rfl; (with_reducible repeat (first | refine b1 ?_ _ | refine b2 ?_ | refine b3 ?_ _)); refine blk_put (cs := #[.int .u64 t525, .int .u64 0, .bool false]) ?_ 1 _ rfl; (with_reducible repeat (first | refine b1 ?_ _ | refine b2 ?_ | refine b3 ?_ _)); refine blk_put (cs := #[.int .u64 0, .int .u64 0, .bool false]) ?_ 0 _ rfl; (with_reducible repeat (first | refine b1 ?_ _ | refine b2 ?_ | refine b3 ?_ _)); exact BK528.out⟩, ⟨bS HB⟩⟩
      ·
       rw [if_neg c40] at H
       have c40b0 : (t525 == 0) = false := beq_eq_false_iff_ne.mpr c40
       have c40b1 : (t525 != 0) = true := bne_iff_ne.mpr c40
       (first | rw [c40b0] | (simp only [i64_w, i32_w]; rw [c40b0]) | skip)
       have H' := Aside0.mk H
       clear H
       have hnb45 := NB528_515.out
       have hnc45 := NB515_528.out
       have hnb46 := NB528_516.out
       have hnc46 := NB516_528.out
       have hnb47 := NB528_517.out
       have hnc47 := NB517_528.out
       have hcz48_0 := cz0 BK528
       have hcz48_1 := cz1 BK528
       have hcz48_2 := cz2 BK528
       have hfz48_0 := fz BK528 0
       have hfz48_1 := fz BK528 1
       have hfz48_2 := fz BK528 2
       go_wp2
       repeat (go_quiet (fail); try go_wp2)
       go_meet
       case rel => exact ⟨_, (true), (by first | rfl | (simp; done) | (simp [*]; done)), H', ⟨by have := HJ2.out; first | omega | exact Nat.le_refl _⟩, ⟨bkS BK515⟩, ⟨bkS BK516⟩, ⟨bkS BK517⟩, ⟨by (with_reducible repeat (first | refine b1 ?_ _ | refine b2 ?_ | refine b3 ?_ _)); refine blk_put (cs := #[.int .u64 t525, .int .u64 t526, .bool false]) ?_ 2 _ rfl; (with_reducible repeat (first | refine b1 ?_ _ | refine b2 ?_ | refine b3 ?_ _)); refine blk_put (cs := #[.int .u64 t525, .int .u64 0, .bool false]) ?_ 1 _ rfl; (with_reducible repeat (first | refine b1 ?_ _ | refine b2 ?_ | refine b3 ?_ _)); refine blk_put (cs := #[.int .u64 0, .int .u64 0, .bool false]) ?_ 0 _ rfl; (with_reducible repeat (first | refine b1 ?_ _ | refine b2 ?_ | refine b3 ?_ _)); exact BK528.out⟩, ⟨bS HB⟩⟩
     case rest =>
      clear HC28
      try clear c1
      try clear c2
      try clear p2
      try clear c3
      try clear c4
      try clear c7
      try clear c8
      try clear c9
      try clear c11
      try clear c12
      try clear c14
      try clear c16
      try clear c19
      try clear c20
      try clear c27
      try clear c27b0
      try clear c27b1
      try clear c29
      try clear c30
      try clear c32
      try clear c36
      try clear c37
      try clear c38
      try clear c39
      try clear c40
      try clear c40b0
      try clear c40b1
      try clear c41
      try clear c42
      try clear c43
      try clear c45
      try clear c46
      try clear c47
      try clear hcz10_0
      try clear hcz10_1
      try clear hcz10_2
      try clear hcz13_0
      try clear hcz13_1
      try clear hcz13_2
      try clear hcz15_0
      try clear hcz15_1
      try clear hcz15_2
      try clear hcz21_0
      try clear hcz21_1
      try clear hcz21_2
      try clear hcz31_0
      try clear hcz31_1
      try clear hcz31_2
      try clear hcz33_0
      try clear hcz33_1
      try clear hcz33_2
      try clear hcz39_0
      try clear hcz39_1
      try clear hcz39_2
      try clear hcz44_0
      try clear hcz44_1
      try clear hcz44_2
      try clear hcz48_0
      try clear hcz48_1
      try clear hcz48_2
      try clear hfz10_0
      try clear hfz10_1
      try clear hfz10_2
      try clear hfz13_0
      try clear hfz13_1
      try clear hfz13_2
      try clear hfz15_0
      try clear hfz15_1
      try clear hfz15_2
      try clear hfz21_0
      try clear hfz21_1
      try clear hfz21_2
      try clear hfz31_0
      try clear hfz31_1
      try clear hfz31_2
      try clear hfz33_0
      try clear hfz33_1
      try clear hfz33_2
      try clear hfz39_0
      try clear hfz39_1
      try clear hfz39_2
      try clear hfz44_0
      try clear hfz44_1
      try clear hfz44_2
      try clear hfz48_0
      try clear hfz48_1
      try clear hfz48_2
      try clear p2
      obtain ⟨kq, x54_27, rfl, HA, HJ27, BK515, BK516, BK517, BK528, HB⟩ := hcut
      cases kq with
      | zero => exact absurd HA.out (by simp [congr_Mul.j1])
      | succ kj27 =>
       have H := HA.out
       clear HA
       simp only [congr_Mul.j1] at H
       by_cases c49 : x54_27 = true
       ·
        subst c49
        have H1 : ((congr_none.f).bind fun bt529 => (some (bt529.1, bt529.2.1, bt529.2.2))) = some (r1, r2, r3) := by rw [if_pos rfl] at H; exact H
        clear H
        have H := H1
        clear H1
        replace H := Option.bind_eq_some_iff.mp H
        obtain ⟨⟨t529, t530, t531⟩, A500, H⟩ := H
        replace H : (some (t529, t530, t531)) = some (r1, r2, r3) := H
        have A50 := Aside0.mk A500
        clear A500
        simp only [Option.some.injEq, Prod.mk.injEq] at H
        obtain ⟨rfl, rfl, rfl⟩ := H
        go_wp2_with (first | (go_at_call 56; (with_reducible refine (congr_none.calls  t529 t530 t531 _ A50.out).mono ?_); rintro e w51 ⟨rfl, hb⟩; replace BK515 := kB BK515 hb; replace BK516 := kB BK516 hb; replace BK517 := kB BK517 hb; replace BK528 := kB BK528 hb; replace HB := kW HB hb; (try clear hb); (try clear hb2); (try clear hk); (try clear hi); have hnb52 := NB517_515.out; have hnc52 := NB515_517.out; have hnb53 := NB517_516.out; have hnc53 := NB516_517.out; have hnb54 := NB517_528.out; have hnc54 := NB528_517.out; have hcz55_0 := cz0 BK517; have hcz55_1 := cz1 BK517; have hcz55_2 := cz2 BK517; have hfz55_0 := fz BK517 0; have hfz55_1 := fz BK517 1; have hfz55_2 := fz BK517 2))
        repeat (go_quiet (first | (go_at_call 56; (with_reducible refine (congr_none.calls  t529 t530 t531 _ A50.out).mono ?_); rintro e w51 ⟨rfl, hb⟩; replace BK515 := kB BK515 hb; replace BK516 := kB BK516 hb; replace BK517 := kB BK517 hb; replace BK528 := kB BK528 hb; replace HB := kW HB hb; (try clear hb); (try clear hb2); (try clear hk); (try clear hi); have hnb52 := NB517_515.out; have hnc52 := NB515_517.out; have hnb53 := NB517_516.out; have hnc53 := NB516_517.out; have hnb54 := NB517_528.out; have hnc54 := NB528_517.out; have hcz55_0 := cz0 BK517; have hcz55_1 := cz1 BK517; have hcz55_2 := cz2 BK517; have hfz55_0 := fz BK517 0; have hfz55_1 := fz BK517 1; have hfz55_2 := fz BK517 2)); try go_wp2_with (first | (go_at_call 56; (with_reducible refine (congr_none.calls  t529 t530 t531 _ A50.out).mono ?_); rintro e w51 ⟨rfl, hb⟩; replace BK515 := kB BK515 hb; replace BK516 := kB BK516 hb; replace BK517 := kB BK517 hb; replace BK528 := kB BK528 hb; replace HB := kW HB hb; (try clear hb); (try clear hb2); (try clear hk); (try clear hi); have hnb52 := NB517_515.out; have hnc52 := NB515_517.out; have hnb53 := NB517_516.out; have hnc53 := NB516_517.out; have hnb54 := NB517_528.out; have hnc54 := NB528_517.out; have hcz55_0 := cz0 BK517; have hcz55_1 := cz1 BK517; have hcz55_2 := cz2 BK517; have hfz55_0 := fz BK517 0; have hfz55_1 := fz BK517 1; have hfz55_2 := fz BK517 2)))
        refine bodyPost_ret (results_cell_row rfl _ _ gb517 23 #[.bool t529, .int .i64 t530, .int .i64 t531] (0, 0) _ rfl (by (with_reducible repeat (first | refine b1 ?_ _ | refine b2 ?_ | refine b3 ?_ _)); refine blk_put (cs := #[.bool t529, .int .i64 t530, .int .i64 0]) ?_ 2 _ rfl; (with_reducible repeat (first | refine b1 ?_ _ | refine b2 ?_ | refine b3 ?_ _)); refine blk_put (cs := #[.bool t529, .int .i64 0, .int .i64 0]) ?_ 1 _ rfl; (with_reducible repeat (first | refine b1 ?_ _ | refine b2 ?_ | refine b3 ?_ _)); refine blk_put (cs := #[.bool false, .int .i64 0, .int .i64 0]) ?_ 0 _ rfl; (with_reducible repeat (first | refine b1 ?_ _ | refine b2 ?_ | refine b3 ?_ _)); exact BK517.out) Tryd.underlying23 rfl (by kernel_rfl)) rfl ?_
        exact ⟨eS, bS HB⟩
       ·
        replace c49 := Bool.eq_false_iff.mpr c49
        subst c49
        have H1 : (if t527 = true then ((congr_constant.f (wrap64 (-(wrap64 (t526))))).bind fun bt532 => (some (bt532.1, bt532.2.1, bt532.2.2))) else ((congr_constant.f (wrap64 (t526))).bind fun bt535 => (some (bt535.1, bt535.2.1, bt535.2.2)))) = some (r1, r2, r3) := by rw [if_neg (show ¬ (false = true) by decide)] at H; exact H
        clear H
        have H := H1
        clear H1
        by_cases c56 : t527 = true
        ·
         subst c56
         have H1 : ((congr_constant.f (wrap64 (-(wrap64 (t526))))).bind fun bt532 => (some (bt532.1, bt532.2.1, bt532.2.2))) = some (r1, r2, r3) := by rw [if_pos rfl] at H; exact H
         clear H
         have H := H1
         clear H1
         replace H := Option.bind_eq_some_iff.mp H
         obtain ⟨⟨t532, t533, t534⟩, A570, H⟩ := H
         replace H : (some (t532, t533, t534)) = some (r1, r2, r3) := H
         have A57 := Aside0.mk A570
         clear A570
         simp only [Option.some.injEq, Prod.mk.injEq] at H
         obtain ⟨rfl, rfl, rfl⟩ := H
         have hnb58 := NB528_515.out
         have hnc58 := NB515_528.out
         have hnb59 := NB528_516.out
         have hnc59 := NB516_528.out
         have hnb60 := NB528_517.out
         have hnc60 := NB517_528.out
         have hcz61_0 : wc.cell? ⟨gb528, 0, none⟩ = some (.int .u64 t525) := cz0 BK528
         have hcz61_1 : wc.cell? ⟨gb528, 1, none⟩ = some (.int .u64 t526) := cz1 BK528
         have hcz61_2 : wc.cell? ⟨gb528, 2, none⟩ = some (.bool true) := cz2 BK528
         have hfz61_0 := fz BK528 0
         have hfz61_1 := fz BK528 1
         have hfz61_2 := fz BK528 2
         go_wp2_with (first | (go_at_call 50; (with_reducible refine (congr_constant.calls (wrap64 (-(wrap64 (t526)))) t532 t533 t534 _ A57.out).mono ?_); rintro e w62 ⟨rfl, hb⟩; replace BK515 := kB BK515 hb; replace BK516 := kB BK516 hb; replace BK517 := kB BK517 hb; replace BK528 := kB BK528 hb; replace HB := kW HB hb; (try clear hb); (try clear hb2); (try clear hk); (try clear hi); have hnb63 := NB517_515.out; have hnc63 := NB515_517.out; have hnb64 := NB517_516.out; have hnc64 := NB516_517.out; have hcz65_0 := cz0 BK517; have hcz65_1 := cz1 BK517; have hcz65_2 := cz2 BK517; have hfz65_0 := fz BK517 0; have hfz65_1 := fz BK517 1; have hfz65_2 := fz BK517 2))
         repeat (go_quiet (first | (go_at_call 50; (with_reducible refine (congr_constant.calls (wrap64 (-(wrap64 (t526)))) t532 t533 t534 _ A57.out).mono ?_); rintro e w62 ⟨rfl, hb⟩; replace BK515 := kB BK515 hb; replace BK516 := kB BK516 hb; replace BK517 := kB BK517 hb; replace BK528 := kB BK528 hb; replace HB := kW HB hb; (try clear hb); (try clear hb2); (try clear hk); (try clear hi); have hnb63 := NB517_515.out; have hnc63 := NB515_517.out; have hnb64 := NB517_516.out; have hnc64 := NB516_517.out; have hcz65_0 := cz0 BK517; have hcz65_1 := cz1 BK517; have hcz65_2 := cz2 BK517; have hfz65_0 := fz BK517 0; have hfz65_1 := fz BK517 1; have hfz65_2 := fz BK517 2)); try go_wp2_with (first | (go_at_call 50; (with_reducible refine (congr_constant.calls (wrap64 (-(wrap64 (t526)))) t532 t533 t534 _ A57.out).mono ?_); rintro e w62 ⟨rfl, hb⟩; replace BK515 := kB BK515 hb; replace BK516 := kB BK516 hb; replace BK517 := kB BK517 hb; replace BK528 := kB BK528 hb; replace HB := kW HB hb; (try clear hb); (try clear hb2); (try clear hk); (try clear hi); have hnb63 := NB517_515.out; have hnc63 := NB515_517.out; have hnb64 := NB517_516.out; have hnc64 := NB516_517.out; have hcz65_0 := cz0 BK517; have hcz65_1 := cz1 BK517; have hcz65_2 := cz2 BK517; have hfz65_0 := fz BK517 0; have hfz65_1 := fz BK517 1; have hfz65_2 := fz BK517 2)))
         refine bodyPost_ret (results_cell_row rfl _ _ gb517 23 #[.bool t532, .int .i64 t533, .int .i64 t534] (0, 0) _ rfl (by (with_reducible repeat (first | refine b1 ?_ _ | refine b2 ?_ | refine b3 ?_ _)); refine blk_put (cs := #[.bool t532, .int .i64 t533, .int .i64 0]) ?_ 2 _ rfl; (with_reducible repeat (first | refine b1 ?_ _ | refine b2 ?_ | refine b3 ?_ _)); refine blk_put (cs := #[.bool t532, .int .i64 0, .int .i64 0]) ?_ 1 _ rfl; (with_reducible repeat (first | refine b1 ?_ _ | refine b2 ?_ | refine b3 ?_ _)); refine blk_put (cs := #[.bool false, .int .i64 0, .int .i64 0]) ?_ 0 _ rfl; (with_reducible repeat (first | refine b1 ?_ _ | refine b2 ?_ | refine b3 ?_ _)); exact BK517.out) Tryd.underlying23 rfl (by kernel_rfl)) rfl ?_
         exact ⟨eS, bS HB⟩
        ·
         replace c56 := Bool.eq_false_iff.mpr c56
         subst c56
         have H1 : ((congr_constant.f (wrap64 (t526))).bind fun bt535 => (some (bt535.1, bt535.2.1, bt535.2.2))) = some (r1, r2, r3) := by rw [if_neg (show ¬ (false = true) by decide)] at H; exact H
         clear H
         have H := H1
         clear H1
         replace H := Option.bind_eq_some_iff.mp H
         obtain ⟨⟨t535, t536, t537⟩, A660, H⟩ := H
         replace H : (some (t535, t536, t537)) = some (r1, r2, r3) := H
         have A66 := Aside0.mk A660
         clear A660
         simp only [Option.some.injEq, Prod.mk.injEq] at H
         obtain ⟨rfl, rfl, rfl⟩ := H
         have hnb67 := NB528_515.out
         have hnc67 := NB515_528.out
         have hnb68 := NB528_516.out
         have hnc68 := NB516_528.out
         have hnb69 := NB528_517.out
         have hnc69 := NB517_528.out
         have hcz70_0 : wc.cell? ⟨gb528, 0, none⟩ = some (.int .u64 t525) := cz0 BK528
         have hcz70_1 : wc.cell? ⟨gb528, 1, none⟩ = some (.int .u64 t526) := cz1 BK528
         have hcz70_2 : wc.cell? ⟨gb528, 2, none⟩ = some (.bool false) := cz2 BK528
         have hfz70_0 := fz BK528 0
         have hfz70_1 := fz BK528 1
         have hfz70_2 := fz BK528 2
         go_wp2_with (first | (go_at_call 50; (with_reducible refine (congr_constant.calls (wrap64 (t526)) t535 t536 t537 _ A66.out).mono ?_); rintro e w71 ⟨rfl, hb⟩; replace BK515 := kB BK515 hb; replace BK516 := kB BK516 hb; replace BK517 := kB BK517 hb; replace BK528 := kB BK528 hb; replace HB := kW HB hb; (try clear hb); (try clear hb2); (try clear hk); (try clear hi); have hnb72 := NB517_515.out; have hnc72 := NB515_517.out; have hnb73 := NB517_516.out; have hnc73 := NB516_517.out; have hcz74_0 := cz0 BK517; have hcz74_1 := cz1 BK517; have hcz74_2 := cz2 BK517; have hfz74_0 := fz BK517 0; have hfz74_1 := fz BK517 1; have hfz74_2 := fz BK517 2))
         repeat (go_quiet (first | (go_at_call 50; (with_reducible refine (congr_constant.calls (wrap64 (t526)) t535 t536 t537 _ A66.out).mono ?_); rintro e w71 ⟨rfl, hb⟩; replace BK515 := kB BK515 hb; replace BK516 := kB BK516 hb; replace BK517 := kB BK517 hb; replace BK528 := kB BK528 hb; replace HB := kW HB hb; (try clear hb); (try clear hb2); (try clear hk); (try clear hi); have hnb72 := NB517_515.out; have hnc72 := NB515_517.out; have hnb73 := NB517_516.out; have hnc73 := NB516_517.out; have hcz74_0 := cz0 BK517; have hcz74_1 := cz1 BK517; have hcz74_2 := cz2 BK517; have hfz74_0 := fz BK517 0; have hfz74_1 := fz BK517 1; have hfz74_2 := fz BK517 2)); try go_wp2_with (first | (go_at_call 50; (with_reducible refine (congr_constant.calls (wrap64 (t526)) t535 t536 t537 _ A66.out).mono ?_); rintro e w71 ⟨rfl, hb⟩; replace BK515 := kB BK515 hb; replace BK516 := kB BK516 hb; replace BK517 := kB BK517 hb; replace BK528 := kB BK528 hb; replace HB := kW HB hb; (try clear hb); (try clear hb2); (try clear hk); (try clear hi); have hnb72 := NB517_515.out; have hnc72 := NB515_517.out; have hnb73 := NB517_516.out; have hnc73 := NB516_517.out; have hcz74_0 := cz0 BK517; have hcz74_1 := cz1 BK517; have hcz74_2 := cz2 BK517; have hfz74_0 := fz BK517 0; have hfz74_1 := fz BK517 1; have hfz74_2 := fz BK517 2)))
         refine bodyPost_ret (results_cell_row rfl _ _ gb517 23 #[.bool t535, .int .i64 t536, .int .i64 t537] (0, 0) _ rfl (by (with_reducible repeat (first | refine b1 ?_ _ | refine b2 ?_ | refine b3 ?_ _)); refine blk_put (cs := #[.bool t535, .int .i64 t536, .int .i64 0]) ?_ 2 _ rfl; (with_reducible repeat (first | refine b1 ?_ _ | refine b2 ?_ | refine b3 ?_ _)); refine blk_put (cs := #[.bool t535, .int .i64 0, .int .i64 0]) ?_ 1 _ rfl; (with_reducible repeat (first | refine b1 ?_ _ | refine b2 ?_ | refine b3 ?_ _)); refine blk_put (cs := #[.bool false, .int .i64 0, .int .i64 0]) ?_ 0 _ rfl; (with_reducible repeat (first | refine b1 ?_ _ | refine b2 ?_ | refine b3 ?_ _)); exact BK517.out) Tryd.underlying23 rfl (by kernel_rfl)) rfl ?_
         exact ⟨eS, bS HB⟩
    ·
     rw [if_neg c27] at H
     have c27b0 : (t524 == 0) = false := beq_eq_false_iff_ne.mpr c27
     have c27b1 : (t524 != 0) = true := bne_iff_ne.mpr c27
     replace H := Option.bind_eq_some_iff.mp H
     obtain ⟨t538, A750, H⟩ := H
     replace H : (if t527 = true then (if t538 > 0 then ((congr_of.f kj2 t524 (IntKind.u64.wrap (t524 - t538))).bind fun bt539 => (some (bt539.1, bt539.2.1, bt539.2.2))) else ((congr_of.f kj2 t524 t538).bind fun bt542 => (some (bt542.1, bt542.2.1, bt542.2.2)))) else ((congr_of.f kj2 t524 t538).bind fun bt545 => (some (bt545.1, bt545.2.1, bt545.2.2)))) = some (r1, r2, r3) := H
     have A75 := Aside0.mk A750
     clear A750
     by_cases c76 : t527 = true
     ·
      subst c76
      have H1 : (if t538 > 0 then ((congr_of.f kj2 t524 (IntKind.u64.wrap (t524 - t538))).bind fun bt539 => (some (bt539.1, bt539.2.1, bt539.2.2))) else ((congr_of.f kj2 t524 t538).bind fun bt542 => (some (bt542.1, bt542.2.1, bt542.2.2)))) = some (r1, r2, r3) := by rw [if_pos rfl] at H; exact H
      clear H
      have H := H1
      clear H1
      by_cases c77 : t538 > 0
      ·
       rw [if_pos c77] at H
       have c77b0 : decide (0 < t538) = true := decide_eq_true c77
       clear c77
       replace H := Option.bind_eq_some_iff.mp H
       obtain ⟨⟨t539, t540, t541⟩, A780, H⟩ := H
       replace H : (some (t539, t540, t541)) = some (r1, r2, r3) := H
       have A78 := Aside0.mk A780
       clear A780
       simp only [Option.some.injEq, Prod.mk.injEq] at H
       obtain ⟨rfl, rfl, rfl⟩ := H
       have hnb79 := NB515_516.out
       have hnc79 := NB516_515.out
       have hnb80 := NB515_517.out
       have hnc80 := NB517_515.out
       have hcz81_0 : wc.cell? ⟨gb515, 0, none⟩ = some (.bool a0_0) := cz0 BK515
       have hcz81_1 : wc.cell? ⟨gb515, 1, none⟩ = some (.int .i64 a0_1) := cz1 BK515
       have hcz81_2 : wc.cell? ⟨gb515, 2, none⟩ = some (.int .i64 a0_2) := cz2 BK515
       have hfz81_0 := fz BK515 0
       have hfz81_1 := fz BK515 1
       have hfz81_2 := fz BK515 2
       have hnb82 := NB516_517.out
       have hnc82 := NB517_516.out
       have hcz83_0 : wc.cell? ⟨gb516, 0, none⟩ = some (.bool a1_0) := cz0 BK516
       have hcz83_1 : wc.cell? ⟨gb516, 1, none⟩ = some (.int .i64 a1_1) := cz1 BK516
       have hcz83_2 : wc.cell? ⟨gb516, 2, none⟩ = some (.int .i64 a1_2) := cz2 BK516
       have hfz83_0 := fz BK516 0
       have hfz83_1 := fz BK516 1
       have hfz83_2 := fz BK516 2
       go_wp2_with (first | (go_at_call 52; (with_reducible refine (congr_size.calls a1_2 t521 _ A22.out).mono ?_); rintro e w' ⟨rfl, ⟨nd, rfl⟩⟩; (try first | exact ⟨rfl, _, World.drewN_drewN _ _ _⟩ | exact ⟨rfl, _, Eq.trans (World.drewN_drewN _ _ _) (congrArg (World.drewN _) (Nat.add_assoc _ _ _))⟩)) | (go_at_call 62; (with_reducible refine (congr_gcd_uint64.calls kj2 (IntKind.u64.wrap ((IntKind.u64.wrap (a0_1)) * (IntKind.u64.wrap (a1_1)))) (IntKind.u64.wrap ((IntKind.u64.wrap (a0_1)) * t521)) t522 _ A23.out).mono ?_); rintro e w' ⟨rfl, ⟨nd, rfl⟩⟩; (try first | exact ⟨rfl, _, World.drewN_drewN _ _ _⟩ | exact ⟨rfl, _, Eq.trans (World.drewN_drewN _ _ _) (congrArg (World.drewN _) (Nat.add_assoc _ _ _))⟩)) | (go_at_call 52; (with_reducible refine (congr_size.calls a0_2 t523 _ A24.out).mono ?_); rintro e w' ⟨rfl, ⟨nd, rfl⟩⟩; (try first | exact ⟨rfl, _, World.drewN_drewN _ _ _⟩ | exact ⟨rfl, _, Eq.trans (World.drewN_drewN _ _ _) (congrArg (World.drewN _) (Nat.add_assoc _ _ _))⟩)) | (go_at_call 62; (with_reducible refine (congr_gcd_uint64.calls kj2 t522 (IntKind.u64.wrap ((IntKind.u64.wrap (a1_1)) * t523)) t524 _ A25.out).mono ?_); rintro e w' ⟨rfl, ⟨nd, rfl⟩⟩; (try first | exact ⟨rfl, _, World.drewN_drewN _ _ _⟩ | exact ⟨rfl, _, Eq.trans (World.drewN_drewN _ _ _) (congrArg (World.drewN _) (Nat.add_assoc _ _ _))⟩)) | (go_at_call 83; (with_reducible refine (congr_times.calls a0_2 a1_2 t525 t526 true _ A26.out).mono ?_); rintro e w84 ⟨rfl, hb⟩; replace BK515 := kB BK515 hb; replace BK516 := kB BK516 hb; replace BK517 := kB BK517 hb; replace HB := kW HB hb; (try clear hb); (try clear hb2); (try clear hk); (try clear hi)) | ((with_reducible refine gate_dst (N := 6) rfl ?_); refine box_event ?hg (N := 6) ?hd (cs := #[.int .u64 0, .int .u64 0, .bool false]) (t := 74) ?hr ?_; (case hd => rfl); (case hg => rfl); (case hr => first | (go_simp; done) | (go_simp; rfl)); intro gb528 hg w85 hbox hb; have n0_ := kB BK515 hb; have n1_ := kB BK516 hb; have n2_ := kB BK517 hb; have n3_ := kW HB hb; have n4_ := Aside0.mk (hbox); have n5_ := Aside0.mk ((by rw [hg]; exact (below_size (bS HB)) : w.heap.size ≤ gb528)); have n6_ := Aside0.mk ((by rw [hg]; exact (below_size (bS HB)) : w.heap.size ≤ gb528)); have n7_ := Aside0.mk ((by rw [hg]; exact Nat.ne_of_lt (blk_lt (bkS BK515)) : gb515 ≠ gb528)); have n8_ := Aside0.mk ((by rw [hg]; exact Nat.ne_of_gt (blk_lt (bkS BK515)) : gb528 ≠ gb515)); have n9_ := Aside0.mk ((by rw [hg]; exact Nat.ne_of_lt (blk_lt (bkS BK516)) : gb516 ≠ gb528)); have n10_ := Aside0.mk ((by rw [hg]; exact Nat.ne_of_gt (blk_lt (bkS BK516)) : gb528 ≠ gb516)); have n11_ := Aside0.mk ((by rw [hg]; exact Nat.ne_of_lt (blk_lt (bkS BK517)) : gb517 ≠ gb528)); have n12_ := Aside0.mk ((by rw [hg]; exact Nat.ne_of_gt (blk_lt (bkS BK517)) : gb528 ≠ gb517)); clear BK515; clear BK516; clear BK517; clear HB; have BK515 := n0_; have BK516 := n1_; have BK517 := n2_; have HB := n3_; have BK528 := n4_; have GW528 := n5_; have GE528 := n6_; have NB515_528 := n7_; have NB528_515 := n8_; have NB516_528 := n9_; have NB528_516 := n10_; have NB517_528 := n11_; have NB528_517 := n12_; clear n0_ n1_ n2_ n3_ n4_ n5_ n6_ n7_ n8_ n9_ n10_ n11_ n12_; clear hb hbox hg; have hnb86 := NB528_515.out; have hnc86 := NB515_528.out; have hnb87 := NB528_516.out; have hnc87 := NB516_528.out; have hnb88 := NB528_517.out; have hnc88 := NB517_528.out; have hcz89_0 := cz0 BK528; have hcz89_1 := cz1 BK528; have hcz89_2 := cz2 BK528; have hfz89_0 := fz BK528 0; have hfz89_1 := fz BK528 1; have hfz89_2 := fz BK528 2) | (go_at_call 65; (with_reducible refine (congr_words_rest.calls t525 t526 t524 t538 _ A75.out).mono ?_); rintro e w90 ⟨rfl, hb⟩; have n0_ := kB BK515 hb; have n1_ := kB BK516 hb; have n2_ := kB BK517 hb; have n3_ := Aside0.mk (blk_below (g := gb528) (o := .cells #[.int .u64 t525, .int .u64 t526, .bool true] 74 (0, 0)) (by (with_reducible repeat (first | refine b1 ?_ _ | refine b2 ?_ | refine b3 ?_ _)); refine blk_put (cs := #[.int .u64 t525, .int .u64 t526, .bool false]) ?_ 2 _ rfl; (with_reducible repeat (first | refine b1 ?_ _ | refine b2 ?_ | refine b3 ?_ _)); refine blk_put (cs := #[.int .u64 t525, .int .u64 0, .bool false]) ?_ 1 _ rfl; (with_reducible repeat (first | refine b1 ?_ _ | refine b2 ?_ | refine b3 ?_ _)); refine blk_put (cs := #[.int .u64 0, .int .u64 0, .bool false]) ?_ 0 _ rfl; (with_reducible repeat (first | refine b1 ?_ _ | refine b2 ?_ | refine b3 ?_ _)); exact BK528.out) hb); have n4_ := kW HB hb; clear BK515; clear BK516; clear BK517; clear BK528; clear HB; have BK515 := n0_; have BK516 := n1_; have BK517 := n2_; have BK528 := n3_; have HB := n4_; clear n0_ n1_ n2_ n3_ n4_; (try clear hb); (try clear hb2); (try clear hk); (try clear hi); have hcz91_0 := cz0 BK528; have hcz91_1 := cz1 BK528; have hcz91_2 := cz2 BK528; have hfz91_0 := fz BK528 0; have hfz91_1 := fz BK528 1; have hfz91_2 := fz BK528 2) | (go_at_call 51; (with_reducible refine (congr_of.calls kj2 t524 (IntKind.u64.wrap (t524 - t538)) t539 t540 t541 _ A78.out).mono ?_); rintro e w92 ⟨rfl, hb⟩; replace BK515 := kB BK515 hb; replace BK516 := kB BK516 hb; replace BK517 := kB BK517 hb; replace BK528 := kB BK528 hb; replace HB := kW HB hb; (try clear hb); (try clear hb2); (try clear hk); (try clear hi); have hcz93_0 := cz0 BK517; have hcz93_1 := cz1 BK517; have hcz93_2 := cz2 BK517; have hfz93_0 := fz BK517 0; have hfz93_1 := fz BK517 1; have hfz93_2 := fz BK517 2))
       repeat (go_quiet (first | (go_at_call 52; (with_reducible refine (congr_size.calls a1_2 t521 _ A22.out).mono ?_); rintro e w' ⟨rfl, ⟨nd, rfl⟩⟩; (try first | exact ⟨rfl, _, World.drewN_drewN _ _ _⟩ | exact ⟨rfl, _, Eq.trans (World.drewN_drewN _ _ _) (congrArg (World.drewN _) (Nat.add_assoc _ _ _))⟩)) | (go_at_call 62; (with_reducible refine (congr_gcd_uint64.calls kj2 (IntKind.u64.wrap ((IntKind.u64.wrap (a0_1)) * (IntKind.u64.wrap (a1_1)))) (IntKind.u64.wrap ((IntKind.u64.wrap (a0_1)) * t521)) t522 _ A23.out).mono ?_); rintro e w' ⟨rfl, ⟨nd, rfl⟩⟩; (try first | exact ⟨rfl, _, World.drewN_drewN _ _ _⟩ | exact ⟨rfl, _, Eq.trans (World.drewN_drewN _ _ _) (congrArg (World.drewN _) (Nat.add_assoc _ _ _))⟩)) | (go_at_call 52; (with_reducible refine (congr_size.calls a0_2 t523 _ A24.out).mono ?_); rintro e w' ⟨rfl, ⟨nd, rfl⟩⟩; (try first | exact ⟨rfl, _, World.drewN_drewN _ _ _⟩ | exact ⟨rfl, _, Eq.trans (World.drewN_drewN _ _ _) (congrArg (World.drewN _) (Nat.add_assoc _ _ _))⟩)) | (go_at_call 62; (with_reducible refine (congr_gcd_uint64.calls kj2 t522 (IntKind.u64.wrap ((IntKind.u64.wrap (a1_1)) * t523)) t524 _ A25.out).mono ?_); rintro e w' ⟨rfl, ⟨nd, rfl⟩⟩; (try first | exact ⟨rfl, _, World.drewN_drewN _ _ _⟩ | exact ⟨rfl, _, Eq.trans (World.drewN_drewN _ _ _) (congrArg (World.drewN _) (Nat.add_assoc _ _ _))⟩)) | (go_at_call 83; (with_reducible refine (congr_times.calls a0_2 a1_2 t525 t526 true _ A26.out).mono ?_); rintro e w84 ⟨rfl, hb⟩; replace BK515 := kB BK515 hb; replace BK516 := kB BK516 hb; replace BK517 := kB BK517 hb; replace HB := kW HB hb; (try clear hb); (try clear hb2); (try clear hk); (try clear hi)) | ((with_reducible refine gate_dst (N := 6) rfl ?_); refine box_event ?hg (N := 6) ?hd (cs := #[.int .u64 0, .int .u64 0, .bool false]) (t := 74) ?hr ?_; (case hd => rfl); (case hg => rfl); (case hr => first | (go_simp; done) | (go_simp; rfl)); intro gb528 hg w85 hbox hb; have n0_ := kB BK515 hb; have n1_ := kB BK516 hb; have n2_ := kB BK517 hb; have n3_ := kW HB hb; have n4_ := Aside0.mk (hbox); have n5_ := Aside0.mk ((by rw [hg]; exact (below_size (bS HB)) : w.heap.size ≤ gb528)); have n6_ := Aside0.mk ((by rw [hg]; exact (below_size (bS HB)) : w.heap.size ≤ gb528)); have n7_ := Aside0.mk ((by rw [hg]; exact Nat.ne_of_lt (blk_lt (bkS BK515)) : gb515 ≠ gb528)); have n8_ := Aside0.mk ((by rw [hg]; exact Nat.ne_of_gt (blk_lt (bkS BK515)) : gb528 ≠ gb515)); have n9_ := Aside0.mk ((by rw [hg]; exact Nat.ne_of_lt (blk_lt (bkS BK516)) : gb516 ≠ gb528)); have n10_ := Aside0.mk ((by rw [hg]; exact Nat.ne_of_gt (blk_lt (bkS BK516)) : gb528 ≠ gb516)); have n11_ := Aside0.mk ((by rw [hg]; exact Nat.ne_of_lt (blk_lt (bkS BK517)) : gb517 ≠ gb528)); have n12_ := Aside0.mk ((by rw [hg]; exact Nat.ne_of_gt (blk_lt (bkS BK517)) : gb528 ≠ gb517)); clear BK515; clear BK516; clear BK517; clear HB; have BK515 := n0_; have BK516 := n1_; have BK517 := n2_; have HB := n3_; have BK528 := n4_; have GW528 := n5_; have GE528 := n6_; have NB515_528 := n7_; have NB528_515 := n8_; have NB516_528 := n9_; have NB528_516 := n10_; have NB517_528 := n11_; have NB528_517 := n12_; clear n0_ n1_ n2_ n3_ n4_ n5_ n6_ n7_ n8_ n9_ n10_ n11_ n12_; clear hb hbox hg; have hnb86 := NB528_515.out; have hnc86 := NB515_528.out; have hnb87 := NB528_516.out; have hnc87 := NB516_528.out; have hnb88 := NB528_517.out; have hnc88 := NB517_528.out; have hcz89_0 := cz0 BK528; have hcz89_1 := cz1 BK528; have hcz89_2 := cz2 BK528; have hfz89_0 := fz BK528 0; have hfz89_1 := fz BK528 1; have hfz89_2 := fz BK528 2) | (go_at_call 65; (with_reducible refine (congr_words_rest.calls t525 t526 t524 t538 _ A75.out).mono ?_); rintro e w90 ⟨rfl, hb⟩; have n0_ := kB BK515 hb; have n1_ := kB BK516 hb; have n2_ := kB BK517 hb; have n3_ := Aside0.mk (blk_below (g := gb528) (o := .cells #[.int .u64 t525, .int .u64 t526, .bool true] 74 (0, 0)) (by (with_reducible repeat (first | refine b1 ?_ _ | refine b2 ?_ | refine b3 ?_ _)); refine blk_put (cs := #[.int .u64 t525, .int .u64 t526, .bool false]) ?_ 2 _ rfl; (with_reducible repeat (first | refine b1 ?_ _ | refine b2 ?_ | refine b3 ?_ _)); refine blk_put (cs := #[.int .u64 t525, .int .u64 0, .bool false]) ?_ 1 _ rfl; (with_reducible repeat (first | refine b1 ?_ _ | refine b2 ?_ | refine b3 ?_ _)); refine blk_put (cs := #[.int .u64 0, .int .u64 0, .bool false]) ?_ 0 _ rfl; (with_reducible repeat (first | refine b1 ?_ _ | refine b2 ?_ | refine b3 ?_ _)); exact BK528.out) hb); have n4_ := kW HB hb; clear BK515; clear BK516; clear BK517; clear BK528; clear HB; have BK515 := n0_; have BK516 := n1_; have BK517 := n2_; have BK528 := n3_; have HB := n4_; clear n0_ n1_ n2_ n3_ n4_; (try clear hb); (try clear hb2); (try clear hk); (try clear hi); have hcz91_0 := cz0 BK528; have hcz91_1 := cz1 BK528; have hcz91_2 := cz2 BK528; have hfz91_0 := fz BK528 0; have hfz91_1 := fz BK528 1; have hfz91_2 := fz BK528 2) | (go_at_call 51; (with_reducible refine (congr_of.calls kj2 t524 (IntKind.u64.wrap (t524 - t538)) t539 t540 t541 _ A78.out).mono ?_); rintro e w92 ⟨rfl, hb⟩; replace BK515 := kB BK515 hb; replace BK516 := kB BK516 hb; replace BK517 := kB BK517 hb; replace BK528 := kB BK528 hb; replace HB := kW HB hb; (try clear hb); (try clear hb2); (try clear hk); (try clear hi); have hcz93_0 := cz0 BK517; have hcz93_1 := cz1 BK517; have hcz93_2 := cz2 BK517; have hfz93_0 := fz BK517 0; have hfz93_1 := fz BK517 1; have hfz93_2 := fz BK517 2)); try go_wp2_with (first | (go_at_call 52; (with_reducible refine (congr_size.calls a1_2 t521 _ A22.out).mono ?_); rintro e w' ⟨rfl, ⟨nd, rfl⟩⟩; (try first | exact ⟨rfl, _, World.drewN_drewN _ _ _⟩ | exact ⟨rfl, _, Eq.trans (World.drewN_drewN _ _ _) (congrArg (World.drewN _) (Nat.add_assoc _ _ _))⟩)) | (go_at_call 62; (with_reducible refine (congr_gcd_uint64.calls kj2 (IntKind.u64.wrap ((IntKind.u64.wrap (a0_1)) * (IntKind.u64.wrap (a1_1)))) (IntKind.u64.wrap ((IntKind.u64.wrap (a0_1)) * t521)) t522 _ A23.out).mono ?_); rintro e w' ⟨rfl, ⟨nd, rfl⟩⟩; (try first | exact ⟨rfl, _, World.drewN_drewN _ _ _⟩ | exact ⟨rfl, _, Eq.trans (World.drewN_drewN _ _ _) (congrArg (World.drewN _) (Nat.add_assoc _ _ _))⟩)) | (go_at_call 52; (with_reducible refine (congr_size.calls a0_2 t523 _ A24.out).mono ?_); rintro e w' ⟨rfl, ⟨nd, rfl⟩⟩; (try first | exact ⟨rfl, _, World.drewN_drewN _ _ _⟩ | exact ⟨rfl, _, Eq.trans (World.drewN_drewN _ _ _) (congrArg (World.drewN _) (Nat.add_assoc _ _ _))⟩)) | (go_at_call 62; (with_reducible refine (congr_gcd_uint64.calls kj2 t522 (IntKind.u64.wrap ((IntKind.u64.wrap (a1_1)) * t523)) t524 _ A25.out).mono ?_); rintro e w' ⟨rfl, ⟨nd, rfl⟩⟩; (try first | exact ⟨rfl, _, World.drewN_drewN _ _ _⟩ | exact ⟨rfl, _, Eq.trans (World.drewN_drewN _ _ _) (congrArg (World.drewN _) (Nat.add_assoc _ _ _))⟩)) | (go_at_call 83; (with_reducible refine (congr_times.calls a0_2 a1_2 t525 t526 true _ A26.out).mono ?_); rintro e w84 ⟨rfl, hb⟩; replace BK515 := kB BK515 hb; replace BK516 := kB BK516 hb; replace BK517 := kB BK517 hb; replace HB := kW HB hb; (try clear hb); (try clear hb2); (try clear hk); (try clear hi)) | ((with_reducible refine gate_dst (N := 6) rfl ?_); refine box_event ?hg (N := 6) ?hd (cs := #[.int .u64 0, .int .u64 0, .bool false]) (t := 74) ?hr ?_; (case hd => rfl); (case hg => rfl); (case hr => first | (go_simp; done) | (go_simp; rfl)); intro gb528 hg w85 hbox hb; have n0_ := kB BK515 hb; have n1_ := kB BK516 hb; have n2_ := kB BK517 hb; have n3_ := kW HB hb; have n4_ := Aside0.mk (hbox); have n5_ := Aside0.mk ((by rw [hg]; exact (below_size (bS HB)) : w.heap.size ≤ gb528)); have n6_ := Aside0.mk ((by rw [hg]; exact (below_size (bS HB)) : w.heap.size ≤ gb528)); have n7_ := Aside0.mk ((by rw [hg]; exact Nat.ne_of_lt (blk_lt (bkS BK515)) : gb515 ≠ gb528)); have n8_ := Aside0.mk ((by rw [hg]; exact Nat.ne_of_gt (blk_lt (bkS BK515)) : gb528 ≠ gb515)); have n9_ := Aside0.mk ((by rw [hg]; exact Nat.ne_of_lt (blk_lt (bkS BK516)) : gb516 ≠ gb528)); have n10_ := Aside0.mk ((by rw [hg]; exact Nat.ne_of_gt (blk_lt (bkS BK516)) : gb528 ≠ gb516)); have n11_ := Aside0.mk ((by rw [hg]; exact Nat.ne_of_lt (blk_lt (bkS BK517)) : gb517 ≠ gb528)); have n12_ := Aside0.mk ((by rw [hg]; exact Nat.ne_of_gt (blk_lt (bkS BK517)) : gb528 ≠ gb517)); clear BK515; clear BK516; clear BK517; clear HB; have BK515 := n0_; have BK516 := n1_; have BK517 := n2_; have HB := n3_; have BK528 := n4_; have GW528 := n5_; have GE528 := n6_; have NB515_528 := n7_; have NB528_515 := n8_; have NB516_528 := n9_; have NB528_516 := n10_; have NB517_528 := n11_; have NB528_517 := n12_; clear n0_ n1_ n2_ n3_ n4_ n5_ n6_ n7_ n8_ n9_ n10_ n11_ n12_; clear hb hbox hg; have hnb86 := NB528_515.out; have hnc86 := NB515_528.out; have hnb87 := NB528_516.out; have hnc87 := NB516_528.out; have hnb88 := NB528_517.out; have hnc88 := NB517_528.out; have hcz89_0 := cz0 BK528; have hcz89_1 := cz1 BK528; have hcz89_2 := cz2 BK528; have hfz89_0 := fz BK528 0; have hfz89_1 := fz BK528 1; have hfz89_2 := fz BK528 2) | (go_at_call 65; (with_reducible refine (congr_words_rest.calls t525 t526 t524 t538 _ A75.out).mono ?_); rintro e w90 ⟨rfl, hb⟩; have n0_ := kB BK515 hb; have n1_ := kB BK516 hb; have n2_ := kB BK517 hb; have n3_ := Aside0.mk (blk_below (g := gb528) (o := .cells #[.int .u64 t525, .int .u64 t526, .bool true] 74 (0, 0)) (by (with_reducible repeat (first | refine b1 ?_ _ | refine b2 ?_ | refine b3 ?_ _)); refine blk_put (cs := #[.int .u64 t525, .int .u64 t526, .bool false]) ?_ 2 _ rfl; (with_reducible repeat (first | refine b1 ?_ _ | refine b2 ?_ | refine b3 ?_ _)); refine blk_put (cs := #[.int .u64 t525, .int .u64 0, .bool false]) ?_ 1 _ rfl; (with_reducible repeat (first | refine b1 ?_ _ | refine b2 ?_ | refine b3 ?_ _)); refine blk_put (cs := #[.int .u64 0, .int .u64 0, .bool false]) ?_ 0 _ rfl; (with_reducible repeat (first | refine b1 ?_ _ | refine b2 ?_ | refine b3 ?_ _)); exact BK528.out) hb); have n4_ := kW HB hb; clear BK515; clear BK516; clear BK517; clear BK528; clear HB; have BK515 := n0_; have BK516 := n1_; have BK517 := n2_; have BK528 := n3_; have HB := n4_; clear n0_ n1_ n2_ n3_ n4_; (try clear hb); (try clear hb2); (try clear hk); (try clear hi); have hcz91_0 := cz0 BK528; have hcz91_1 := cz1 BK528; have hcz91_2 := cz2 BK528; have hfz91_0 := fz BK528 0; have hfz91_1 := fz BK528 1; have hfz91_2 := fz BK528 2) | (go_at_call 51; (with_reducible refine (congr_of.calls kj2 t524 (IntKind.u64.wrap (t524 - t538)) t539 t540 t541 _ A78.out).mono ?_); rintro e w92 ⟨rfl, hb⟩; replace BK515 := kB BK515 hb; replace BK516 := kB BK516 hb; replace BK517 := kB BK517 hb; replace BK528 := kB BK528 hb; replace HB := kW HB hb; (try clear hb); (try clear hb2); (try clear hk); (try clear hi); have hcz93_0 := cz0 BK517; have hcz93_1 := cz1 BK517; have hcz93_2 := cz2 BK517; have hfz93_0 := fz BK517 0; have hfz93_1 := fz BK517 1; have hfz93_2 := fz BK517 2)))
       refine bodyPost_ret (results_cell_row rfl _ _ gb517 23 #[.bool t539, .int .i64 t540, .int .i64 t541] (0, 0) _ rfl (by (with_reducible repeat (first | refine b1 ?_ _ | refine b2 ?_ | refine b3 ?_ _)); refine blk_put (cs := #[.bool t539, .int .i64 t540, .int .i64 0]) ?_ 2 _ rfl; (with_reducible repeat (first | refine b1 ?_ _ | refine b2 ?_ | refine b3 ?_ _)); refine blk_put (cs := #[.bool t539, .int .i64 0, .int .i64 0]) ?_ 1 _ rfl; (with_reducible repeat (first | refine b1 ?_ _ | refine b2 ?_ | refine b3 ?_ _)); refine blk_put (cs := #[.bool false, .int .i64 0, .int .i64 0]) ?_ 0 _ rfl; (with_reducible repeat (first | refine b1 ?_ _ | refine b2 ?_ | refine b3 ?_ _)); exact BK517.out) Tryd.underlying23 rfl (by kernel_rfl)) rfl ?_
       exact ⟨eS, bS HB⟩
      ·
       rw [if_neg c77] at H
       have c77b0 : decide (0 < t538) = false := decide_eq_false c77
       clear c77
       replace H := Option.bind_eq_some_iff.mp H
       obtain ⟨⟨t542, t543, t544⟩, A940, H⟩ := H
       replace H : (some (t542, t543, t544)) = some (r1, r2, r3) := H
       have A94 := Aside0.mk A940
       clear A940
       simp only [Option.some.injEq, Prod.mk.injEq] at H
       obtain ⟨rfl, rfl, rfl⟩ := H
       have hnb95 := NB515_516.out
       have hnc95 := NB516_515.out
       have hnb96 := NB515_517.out
       have hnc96 := NB517_515.out
       have hcz97_0 : wc.cell? ⟨gb515, 0, none⟩ = some (.bool a0_0) := cz0 BK515
       have hcz97_1 : wc.cell? ⟨gb515, 1, none⟩ = some (.int .i64 a0_1) := cz1 BK515
       have hcz97_2 : wc.cell? ⟨gb515, 2, none⟩ = some (.int .i64 a0_2) := cz2 BK515
       have hfz97_0 := fz BK515 0
       have hfz97_1 := fz BK515 1
       have hfz97_2 := fz BK515 2
       have hnb98 := NB516_517.out
       have hnc98 := NB517_516.out
       have hcz99_0 : wc.cell? ⟨gb516, 0, none⟩ = some (.bool a1_0) := cz0 BK516
       have hcz99_1 : wc.cell? ⟨gb516, 1, none⟩ = some (.int .i64 a1_1) := cz1 BK516
       have hcz99_2 : wc.cell? ⟨gb516, 2, none⟩ = some (.int .i64 a1_2) := cz2 BK516
       have hfz99_0 := fz BK516 0
       have hfz99_1 := fz BK516 1
       have hfz99_2 := fz BK516 2
       go_wp2_with (first | (go_at_call 52; (with_reducible refine (congr_size.calls a1_2 t521 _ A22.out).mono ?_); rintro e w' ⟨rfl, ⟨nd, rfl⟩⟩; (try first | exact ⟨rfl, _, World.drewN_drewN _ _ _⟩ | exact ⟨rfl, _, Eq.trans (World.drewN_drewN _ _ _) (congrArg (World.drewN _) (Nat.add_assoc _ _ _))⟩)) | (go_at_call 62; (with_reducible refine (congr_gcd_uint64.calls kj2 (IntKind.u64.wrap ((IntKind.u64.wrap (a0_1)) * (IntKind.u64.wrap (a1_1)))) (IntKind.u64.wrap ((IntKind.u64.wrap (a0_1)) * t521)) t522 _ A23.out).mono ?_); rintro e w' ⟨rfl, ⟨nd, rfl⟩⟩; (try first | exact ⟨rfl, _, World.drewN_drewN _ _ _⟩ | exact ⟨rfl, _, Eq.trans (World.drewN_drewN _ _ _) (congrArg (World.drewN _) (Nat.add_assoc _ _ _))⟩)) | (go_at_call 52; (with_reducible refine (congr_size.calls a0_2 t523 _ A24.out).mono ?_); rintro e w' ⟨rfl, ⟨nd, rfl⟩⟩; (try first | exact ⟨rfl, _, World.drewN_drewN _ _ _⟩ | exact ⟨rfl, _, Eq.trans (World.drewN_drewN _ _ _) (congrArg (World.drewN _) (Nat.add_assoc _ _ _))⟩)) | (go_at_call 62; (with_reducible refine (congr_gcd_uint64.calls kj2 t522 (IntKind.u64.wrap ((IntKind.u64.wrap (a1_1)) * t523)) t524 _ A25.out).mono ?_); rintro e w' ⟨rfl, ⟨nd, rfl⟩⟩; (try first | exact ⟨rfl, _, World.drewN_drewN _ _ _⟩ | exact ⟨rfl, _, Eq.trans (World.drewN_drewN _ _ _) (congrArg (World.drewN _) (Nat.add_assoc _ _ _))⟩)) | (go_at_call 83; (with_reducible refine (congr_times.calls a0_2 a1_2 t525 t526 true _ A26.out).mono ?_); rintro e w100 ⟨rfl, hb⟩; replace BK515 := kB BK515 hb; replace BK516 := kB BK516 hb; replace BK517 := kB BK517 hb; replace HB := kW HB hb; (try clear hb); (try clear hb2); (try clear hk); (try clear hi)) | ((with_reducible refine gate_dst (N := 6) rfl ?_); refine box_event ?hg (N := 6) ?hd (cs := #[.int .u64 0, .int .u64 0, .bool false]) (t := 74) ?hr ?_; (case hd => rfl); (case hg => rfl); (case hr => first | (go_simp; done) | (go_simp; rfl)); intro gb528 hg w101 hbox hb; have n0_ := kB BK515 hb; have n1_ := kB BK516 hb; have n2_ := kB BK517 hb; have n3_ := kW HB hb; have n4_ := Aside0.mk (hbox); have n5_ := Aside0.mk ((by rw [hg]; exact (below_size (bS HB)) : w.heap.size ≤ gb528)); have n6_ := Aside0.mk ((by rw [hg]; exact (below_size (bS HB)) : w.heap.size ≤ gb528)); have n7_ := Aside0.mk ((by rw [hg]; exact Nat.ne_of_lt (blk_lt (bkS BK515)) : gb515 ≠ gb528)); have n8_ := Aside0.mk ((by rw [hg]; exact Nat.ne_of_gt (blk_lt (bkS BK515)) : gb528 ≠ gb515)); have n9_ := Aside0.mk ((by rw [hg]; exact Nat.ne_of_lt (blk_lt (bkS BK516)) : gb516 ≠ gb528)); have n10_ := Aside0.mk ((by rw [hg]; exact Nat.ne_of_gt (blk_lt (bkS BK516)) : gb528 ≠ gb516)); have n11_ := Aside0.mk ((by rw [hg]; exact Nat.ne_of_lt (blk_lt (bkS BK517)) : gb517 ≠ gb528)); have n12_ := Aside0.mk ((by rw [hg]; exact Nat.ne_of_gt (blk_lt (bkS BK517)) : gb528 ≠ gb517)); clear BK515; clear BK516; clear BK517; clear HB; have BK515 := n0_; have BK516 := n1_; have BK517 := n2_; have HB := n3_; have BK528 := n4_; have GW528 := n5_; have GE528 := n6_; have NB515_528 := n7_; have NB528_515 := n8_; have NB516_528 := n9_; have NB528_516 := n10_; have NB517_528 := n11_; have NB528_517 := n12_; clear n0_ n1_ n2_ n3_ n4_ n5_ n6_ n7_ n8_ n9_ n10_ n11_ n12_; clear hb hbox hg; have hnb102 := NB528_515.out; have hnc102 := NB515_528.out; have hnb103 := NB528_516.out; have hnc103 := NB516_528.out; have hnb104 := NB528_517.out; have hnc104 := NB517_528.out; have hcz105_0 := cz0 BK528; have hcz105_1 := cz1 BK528; have hcz105_2 := cz2 BK528; have hfz105_0 := fz BK528 0; have hfz105_1 := fz BK528 1; have hfz105_2 := fz BK528 2) | (go_at_call 65; (with_reducible refine (congr_words_rest.calls t525 t526 t524 t538 _ A75.out).mono ?_); rintro e w106 ⟨rfl, hb⟩; have n0_ := kB BK515 hb; have n1_ := kB BK516 hb; have n2_ := kB BK517 hb; have n3_ := Aside0.mk (blk_below (g := gb528) (o := .cells #[.int .u64 t525, .int .u64 t526, .bool true] 74 (0, 0)) (by (with_reducible repeat (first | refine b1 ?_ _ | refine b2 ?_ | refine b3 ?_ _)); refine blk_put (cs := #[.int .u64 t525, .int .u64 t526, .bool false]) ?_ 2 _ rfl; (with_reducible repeat (first | refine b1 ?_ _ | refine b2 ?_ | refine b3 ?_ _)); refine blk_put (cs := #[.int .u64 t525, .int .u64 0, .bool false]) ?_ 1 _ rfl; (with_reducible repeat (first | refine b1 ?_ _ | refine b2 ?_ | refine b3 ?_ _)); refine blk_put (cs := #[.int .u64 0, .int .u64 0, .bool false]) ?_ 0 _ rfl; (with_reducible repeat (first | refine b1 ?_ _ | refine b2 ?_ | refine b3 ?_ _)); exact BK528.out) hb); have n4_ := kW HB hb; clear BK515; clear BK516; clear BK517; clear BK528; clear HB; have BK515 := n0_; have BK516 := n1_; have BK517 := n2_; have BK528 := n3_; have HB := n4_; clear n0_ n1_ n2_ n3_ n4_; (try clear hb); (try clear hb2); (try clear hk); (try clear hi); have hcz107_0 := cz0 BK528; have hcz107_1 := cz1 BK528; have hcz107_2 := cz2 BK528; have hfz107_0 := fz BK528 0; have hfz107_1 := fz BK528 1; have hfz107_2 := fz BK528 2) | (go_at_call 51; (with_reducible refine (congr_of.calls kj2 t524 t538 t542 t543 t544 _ A94.out).mono ?_); rintro e w108 ⟨rfl, hb⟩; replace BK515 := kB BK515 hb; replace BK516 := kB BK516 hb; replace BK517 := kB BK517 hb; replace BK528 := kB BK528 hb; replace HB := kW HB hb; (try clear hb); (try clear hb2); (try clear hk); (try clear hi); have hcz109_0 := cz0 BK517; have hcz109_1 := cz1 BK517; have hcz109_2 := cz2 BK517; have hfz109_0 := fz BK517 0; have hfz109_1 := fz BK517 1; have hfz109_2 := fz BK517 2))
       repeat (go_quiet (first | (go_at_call 52; (with_reducible refine (congr_size.calls a1_2 t521 _ A22.out).mono ?_); rintro e w' ⟨rfl, ⟨nd, rfl⟩⟩; (try first | exact ⟨rfl, _, World.drewN_drewN _ _ _⟩ | exact ⟨rfl, _, Eq.trans (World.drewN_drewN _ _ _) (congrArg (World.drewN _) (Nat.add_assoc _ _ _))⟩)) | (go_at_call 62; (with_reducible refine (congr_gcd_uint64.calls kj2 (IntKind.u64.wrap ((IntKind.u64.wrap (a0_1)) * (IntKind.u64.wrap (a1_1)))) (IntKind.u64.wrap ((IntKind.u64.wrap (a0_1)) * t521)) t522 _ A23.out).mono ?_); rintro e w' ⟨rfl, ⟨nd, rfl⟩⟩; (try first | exact ⟨rfl, _, World.drewN_drewN _ _ _⟩ | exact ⟨rfl, _, Eq.trans (World.drewN_drewN _ _ _) (congrArg (World.drewN _) (Nat.add_assoc _ _ _))⟩)) | (go_at_call 52; (with_reducible refine (congr_size.calls a0_2 t523 _ A24.out).mono ?_); rintro e w' ⟨rfl, ⟨nd, rfl⟩⟩; (try first | exact ⟨rfl, _, World.drewN_drewN _ _ _⟩ | exact ⟨rfl, _, Eq.trans (World.drewN_drewN _ _ _) (congrArg (World.drewN _) (Nat.add_assoc _ _ _))⟩)) | (go_at_call 62; (with_reducible refine (congr_gcd_uint64.calls kj2 t522 (IntKind.u64.wrap ((IntKind.u64.wrap (a1_1)) * t523)) t524 _ A25.out).mono ?_); rintro e w' ⟨rfl, ⟨nd, rfl⟩⟩; (try first | exact ⟨rfl, _, World.drewN_drewN _ _ _⟩ | exact ⟨rfl, _, Eq.trans (World.drewN_drewN _ _ _) (congrArg (World.drewN _) (Nat.add_assoc _ _ _))⟩)) | (go_at_call 83; (with_reducible refine (congr_times.calls a0_2 a1_2 t525 t526 true _ A26.out).mono ?_); rintro e w100 ⟨rfl, hb⟩; replace BK515 := kB BK515 hb; replace BK516 := kB BK516 hb; replace BK517 := kB BK517 hb; replace HB := kW HB hb; (try clear hb); (try clear hb2); (try clear hk); (try clear hi)) | ((with_reducible refine gate_dst (N := 6) rfl ?_); refine box_event ?hg (N := 6) ?hd (cs := #[.int .u64 0, .int .u64 0, .bool false]) (t := 74) ?hr ?_; (case hd => rfl); (case hg => rfl); (case hr => first | (go_simp; done) | (go_simp; rfl)); intro gb528 hg w101 hbox hb; have n0_ := kB BK515 hb; have n1_ := kB BK516 hb; have n2_ := kB BK517 hb; have n3_ := kW HB hb; have n4_ := Aside0.mk (hbox); have n5_ := Aside0.mk ((by rw [hg]; exact (below_size (bS HB)) : w.heap.size ≤ gb528)); have n6_ := Aside0.mk ((by rw [hg]; exact (below_size (bS HB)) : w.heap.size ≤ gb528)); have n7_ := Aside0.mk ((by rw [hg]; exact Nat.ne_of_lt (blk_lt (bkS BK515)) : gb515 ≠ gb528)); have n8_ := Aside0.mk ((by rw [hg]; exact Nat.ne_of_gt (blk_lt (bkS BK515)) : gb528 ≠ gb515)); have n9_ := Aside0.mk ((by rw [hg]; exact Nat.ne_of_lt (blk_lt (bkS BK516)) : gb516 ≠ gb528)); have n10_ := Aside0.mk ((by rw [hg]; exact Nat.ne_of_gt (blk_lt (bkS BK516)) : gb528 ≠ gb516)); have n11_ := Aside0.mk ((by rw [hg]; exact Nat.ne_of_lt (blk_lt (bkS BK517)) : gb517 ≠ gb528)); have n12_ := Aside0.mk ((by rw [hg]; exact Nat.ne_of_gt (blk_lt (bkS BK517)) : gb528 ≠ gb517)); clear BK515; clear BK516; clear BK517; clear HB; have BK515 := n0_; have BK516 := n1_; have BK517 := n2_; have HB := n3_; have BK528 := n4_; have GW528 := n5_; have GE528 := n6_; have NB515_528 := n7_; have NB528_515 := n8_; have NB516_528 := n9_; have NB528_516 := n10_; have NB517_528 := n11_; have NB528_517 := n12_; clear n0_ n1_ n2_ n3_ n4_ n5_ n6_ n7_ n8_ n9_ n10_ n11_ n12_; clear hb hbox hg; have hnb102 := NB528_515.out; have hnc102 := NB515_528.out; have hnb103 := NB528_516.out; have hnc103 := NB516_528.out; have hnb104 := NB528_517.out; have hnc104 := NB517_528.out; have hcz105_0 := cz0 BK528; have hcz105_1 := cz1 BK528; have hcz105_2 := cz2 BK528; have hfz105_0 := fz BK528 0; have hfz105_1 := fz BK528 1; have hfz105_2 := fz BK528 2) | (go_at_call 65; (with_reducible refine (congr_words_rest.calls t525 t526 t524 t538 _ A75.out).mono ?_); rintro e w106 ⟨rfl, hb⟩; have n0_ := kB BK515 hb; have n1_ := kB BK516 hb; have n2_ := kB BK517 hb; have n3_ := Aside0.mk (blk_below (g := gb528) (o := .cells #[.int .u64 t525, .int .u64 t526, .bool true] 74 (0, 0)) (by (with_reducible repeat (first | refine b1 ?_ _ | refine b2 ?_ | refine b3 ?_ _)); refine blk_put (cs := #[.int .u64 t525, .int .u64 t526, .bool false]) ?_ 2 _ rfl; (with_reducible repeat (first | refine b1 ?_ _ | refine b2 ?_ | refine b3 ?_ _)); refine blk_put (cs := #[.int .u64 t525, .int .u64 0, .bool false]) ?_ 1 _ rfl; (with_reducible repeat (first | refine b1 ?_ _ | refine b2 ?_ | refine b3 ?_ _)); refine blk_put (cs := #[.int .u64 0, .int .u64 0, .bool false]) ?_ 0 _ rfl; (with_reducible repeat (first | refine b1 ?_ _ | refine b2 ?_ | refine b3 ?_ _)); exact BK528.out) hb); have n4_ := kW HB hb; clear BK515; clear BK516; clear BK517; clear BK528; clear HB; have BK515 := n0_; have BK516 := n1_; have BK517 := n2_; have BK528 := n3_; have HB := n4_; clear n0_ n1_ n2_ n3_ n4_; (try clear hb); (try clear hb2); (try clear hk); (try clear hi); have hcz107_0 := cz0 BK528; have hcz107_1 := cz1 BK528; have hcz107_2 := cz2 BK528; have hfz107_0 := fz BK528 0; have hfz107_1 := fz BK528 1; have hfz107_2 := fz BK528 2) | (go_at_call 51; (with_reducible refine (congr_of.calls kj2 t524 t538 t542 t543 t544 _ A94.out).mono ?_); rintro e w108 ⟨rfl, hb⟩; replace BK515 := kB BK515 hb; replace BK516 := kB BK516 hb; replace BK517 := kB BK517 hb; replace BK528 := kB BK528 hb; replace HB := kW HB hb; (try clear hb); (try clear hb2); (try clear hk); (try clear hi); have hcz109_0 := cz0 BK517; have hcz109_1 := cz1 BK517; have hcz109_2 := cz2 BK517; have hfz109_0 := fz BK517 0; have hfz109_1 := fz BK517 1; have hfz109_2 := fz BK517 2)); try go_wp2_with (first | (go_at_call 52; (with_reducible refine (congr_size.calls a1_2 t521 _ A22.out).mono ?_); rintro e w' ⟨rfl, ⟨nd, rfl⟩⟩; (try first | exact ⟨rfl, _, World.drewN_drewN _ _ _⟩ | exact ⟨rfl, _, Eq.trans (World.drewN_drewN _ _ _) (congrArg (World.drewN _) (Nat.add_assoc _ _ _))⟩)) | (go_at_call 62; (with_reducible refine (congr_gcd_uint64.calls kj2 (IntKind.u64.wrap ((IntKind.u64.wrap (a0_1)) * (IntKind.u64.wrap (a1_1)))) (IntKind.u64.wrap ((IntKind.u64.wrap (a0_1)) * t521)) t522 _ A23.out).mono ?_); rintro e w' ⟨rfl, ⟨nd, rfl⟩⟩; (try first | exact ⟨rfl, _, World.drewN_drewN _ _ _⟩ | exact ⟨rfl, _, Eq.trans (World.drewN_drewN _ _ _) (congrArg (World.drewN _) (Nat.add_assoc _ _ _))⟩)) | (go_at_call 52; (with_reducible refine (congr_size.calls a0_2 t523 _ A24.out).mono ?_); rintro e w' ⟨rfl, ⟨nd, rfl⟩⟩; (try first | exact ⟨rfl, _, World.drewN_drewN _ _ _⟩ | exact ⟨rfl, _, Eq.trans (World.drewN_drewN _ _ _) (congrArg (World.drewN _) (Nat.add_assoc _ _ _))⟩)) | (go_at_call 62; (with_reducible refine (congr_gcd_uint64.calls kj2 t522 (IntKind.u64.wrap ((IntKind.u64.wrap (a1_1)) * t523)) t524 _ A25.out).mono ?_); rintro e w' ⟨rfl, ⟨nd, rfl⟩⟩; (try first | exact ⟨rfl, _, World.drewN_drewN _ _ _⟩ | exact ⟨rfl, _, Eq.trans (World.drewN_drewN _ _ _) (congrArg (World.drewN _) (Nat.add_assoc _ _ _))⟩)) | (go_at_call 83; (with_reducible refine (congr_times.calls a0_2 a1_2 t525 t526 true _ A26.out).mono ?_); rintro e w100 ⟨rfl, hb⟩; replace BK515 := kB BK515 hb; replace BK516 := kB BK516 hb; replace BK517 := kB BK517 hb; replace HB := kW HB hb; (try clear hb); (try clear hb2); (try clear hk); (try clear hi)) | ((with_reducible refine gate_dst (N := 6) rfl ?_); refine box_event ?hg (N := 6) ?hd (cs := #[.int .u64 0, .int .u64 0, .bool false]) (t := 74) ?hr ?_; (case hd => rfl); (case hg => rfl); (case hr => first | (go_simp; done) | (go_simp; rfl)); intro gb528 hg w101 hbox hb; have n0_ := kB BK515 hb; have n1_ := kB BK516 hb; have n2_ := kB BK517 hb; have n3_ := kW HB hb; have n4_ := Aside0.mk (hbox); have n5_ := Aside0.mk ((by rw [hg]; exact (below_size (bS HB)) : w.heap.size ≤ gb528)); have n6_ := Aside0.mk ((by rw [hg]; exact (below_size (bS HB)) : w.heap.size ≤ gb528)); have n7_ := Aside0.mk ((by rw [hg]; exact Nat.ne_of_lt (blk_lt (bkS BK515)) : gb515 ≠ gb528)); have n8_ := Aside0.mk ((by rw [hg]; exact Nat.ne_of_gt (blk_lt (bkS BK515)) : gb528 ≠ gb515)); have n9_ := Aside0.mk ((by rw [hg]; exact Nat.ne_of_lt (blk_lt (bkS BK516)) : gb516 ≠ gb528)); have n10_ := Aside0.mk ((by rw [hg]; exact Nat.ne_of_gt (blk_lt (bkS BK516)) : gb528 ≠ gb516)); have n11_ := Aside0.mk ((by rw [hg]; exact Nat.ne_of_lt (blk_lt (bkS BK517)) : gb517 ≠ gb528)); have n12_ := Aside0.mk ((by rw [hg]; exact Nat.ne_of_gt (blk_lt (bkS BK517)) : gb528 ≠ gb517)); clear BK515; clear BK516; clear BK517; clear HB; have BK515 := n0_; have BK516 := n1_; have BK517 := n2_; have HB := n3_; have BK528 := n4_; have GW528 := n5_; have GE528 := n6_; have NB515_528 := n7_; have NB528_515 := n8_; have NB516_528 := n9_; have NB528_516 := n10_; have NB517_528 := n11_; have NB528_517 := n12_; clear n0_ n1_ n2_ n3_ n4_ n5_ n6_ n7_ n8_ n9_ n10_ n11_ n12_; clear hb hbox hg; have hnb102 := NB528_515.out; have hnc102 := NB515_528.out; have hnb103 := NB528_516.out; have hnc103 := NB516_528.out; have hnb104 := NB528_517.out; have hnc104 := NB517_528.out; have hcz105_0 := cz0 BK528; have hcz105_1 := cz1 BK528; have hcz105_2 := cz2 BK528; have hfz105_0 := fz BK528 0; have hfz105_1 := fz BK528 1; have hfz105_2 := fz BK528 2) | (go_at_call 65; (with_reducible refine (congr_words_rest.calls t525 t526 t524 t538 _ A75.out).mono ?_); rintro e w106 ⟨rfl, hb⟩; have n0_ := kB BK515 hb; have n1_ := kB BK516 hb; have n2_ := kB BK517 hb; have n3_ := Aside0.mk (blk_below (g := gb528) (o := .cells #[.int .u64 t525, .int .u64 t526, .bool true] 74 (0, 0)) (by (with_reducible repeat (first | refine b1 ?_ _ | refine b2 ?_ | refine b3 ?_ _)); refine blk_put (cs := #[.int .u64 t525, .int .u64 t526, .bool false]) ?_ 2 _ rfl; (with_reducible repeat (first | refine b1 ?_ _ | refine b2 ?_ | refine b3 ?_ _)); refine blk_put (cs := #[.int .u64 t525, .int .u64 0, .bool false]) ?_ 1 _ rfl; (with_reducible repeat (first | refine b1 ?_ _ | refine b2 ?_ | refine b3 ?_ _)); refine blk_put (cs := #[.int .u64 0, .int .u64 0, .bool false]) ?_ 0 _ rfl; (with_reducible repeat (first | refine b1 ?_ _ | refine b2 ?_ | refine b3 ?_ _)); exact BK528.out) hb); have n4_ := kW HB hb; clear BK515; clear BK516; clear BK517; clear BK528; clear HB; have BK515 := n0_; have BK516 := n1_; have BK517 := n2_; have BK528 := n3_; have HB := n4_; clear n0_ n1_ n2_ n3_ n4_; (try clear hb); (try clear hb2); (try clear hk); (try clear hi); have hcz107_0 := cz0 BK528; have hcz107_1 := cz1 BK528; have hcz107_2 := cz2 BK528; have hfz107_0 := fz BK528 0; have hfz107_1 := fz BK528 1; have hfz107_2 := fz BK528 2) | (go_at_call 51; (with_reducible refine (congr_of.calls kj2 t524 t538 t542 t543 t544 _ A94.out).mono ?_); rintro e w108 ⟨rfl, hb⟩; replace BK515 := kB BK515 hb; replace BK516 := kB BK516 hb; replace BK517 := kB BK517 hb; replace BK528 := kB BK528 hb; replace HB := kW HB hb; (try clear hb); (try clear hb2); (try clear hk); (try clear hi); have hcz109_0 := cz0 BK517; have hcz109_1 := cz1 BK517; have hcz109_2 := cz2 BK517; have hfz109_0 := fz BK517 0; have hfz109_1 := fz BK517 1; have hfz109_2 := fz BK517 2)))
       refine bodyPost_ret (results_cell_row rfl _ _ gb517 23 #[.bool t542, .int .i64 t543, .int .i64 t544] (0, 0) _ rfl (by (with_reducible repeat (first | refine b1 ?_ _ | refine b2 ?_ | refine b3 ?_ _)); refine blk_put (cs := #[.bool t542, .int .i64 t543, .int .i64 0]) ?_ 2 _ rfl; (with_reducible repeat (first | refine b1 ?_ _ | refine b2 ?_ | refine b3 ?_ _)); refine blk_put (cs := #[.bool t542, .int .i64 0, .int .i64 0]) ?_ 1 _ rfl; (with_reducible repeat (first | refine b1 ?_ _ | refine b2 ?_ | refine b3 ?_ _)); refine blk_put (cs := #[.bool false, .int .i64 0, .int .i64 0]) ?_ 0 _ rfl; (with_reducible repeat (first | refine b1 ?_ _ | refine b2 ?_ | refine b3 ?_ _)); exact BK517.out) Tryd.underlying23 rfl (by kernel_rfl)) rfl ?_
       exact ⟨eS, bS HB⟩
     ·
      replace c76 := Bool.eq_false_iff.mpr c76
      subst c76
      have H1 : ((congr_of.f kj2 t524 t538).bind fun bt545 => (some (bt545.1, bt545.2.1, bt545.2.2))) = some (r1, r2, r3) := by rw [if_neg (show ¬ (false = true) by decide)] at H; exact H
      clear H
      have H := H1
      clear H1
      replace H := Option.bind_eq_some_iff.mp H
      obtain ⟨⟨t545, t546, t547⟩, A1100, H⟩ := H
      replace H : (some (t545, t546, t547)) = some (r1, r2, r3) := H
      have A110 := Aside0.mk A1100
      clear A1100
      simp only [Option.some.injEq, Prod.mk.injEq] at H
      obtain ⟨rfl, rfl, rfl⟩ := H
      have hnb111 := NB515_516.out
      have hnc111 := NB516_515.out
      have hnb112 := NB515_517.out
      have hnc112 := NB517_515.out
      have hcz113_0 : wc.cell? ⟨gb515, 0, none⟩ = some (.bool a0_0) := cz0 BK515
      have hcz113_1 : wc.cell? ⟨gb515, 1, none⟩ = some (.int .i64 a0_1) := cz1 BK515
      have hcz113_2 : wc.cell? ⟨gb515, 2, none⟩ = some (.int .i64 a0_2) := cz2 BK515
      have hfz113_0 := fz BK515 0
      have hfz113_1 := fz BK515 1
      have hfz113_2 := fz BK515 2
      have hnb114 := NB516_517.out
      have hnc114 := NB517_516.out
      have hcz115_0 : wc.cell? ⟨gb516, 0, none⟩ = some (.bool a1_0) := cz0 BK516
      have hcz115_1 : wc.cell? ⟨gb516, 1, none⟩ = some (.int .i64 a1_1) := cz1 BK516
      have hcz115_2 : wc.cell? ⟨gb516, 2, none⟩ = some (.int .i64 a1_2) := cz2 BK516
      have hfz115_0 := fz BK516 0
      have hfz115_1 := fz BK516 1
      have hfz115_2 := fz BK516 2
      go_wp2_with (first | (go_at_call 52; (with_reducible refine (congr_size.calls a1_2 t521 _ A22.out).mono ?_); rintro e w' ⟨rfl, ⟨nd, rfl⟩⟩; (try first | exact ⟨rfl, _, World.drewN_drewN _ _ _⟩ | exact ⟨rfl, _, Eq.trans (World.drewN_drewN _ _ _) (congrArg (World.drewN _) (Nat.add_assoc _ _ _))⟩)) | (go_at_call 62; (with_reducible refine (congr_gcd_uint64.calls kj2 (IntKind.u64.wrap ((IntKind.u64.wrap (a0_1)) * (IntKind.u64.wrap (a1_1)))) (IntKind.u64.wrap ((IntKind.u64.wrap (a0_1)) * t521)) t522 _ A23.out).mono ?_); rintro e w' ⟨rfl, ⟨nd, rfl⟩⟩; (try first | exact ⟨rfl, _, World.drewN_drewN _ _ _⟩ | exact ⟨rfl, _, Eq.trans (World.drewN_drewN _ _ _) (congrArg (World.drewN _) (Nat.add_assoc _ _ _))⟩)) | (go_at_call 52; (with_reducible refine (congr_size.calls a0_2 t523 _ A24.out).mono ?_); rintro e w' ⟨rfl, ⟨nd, rfl⟩⟩; (try first | exact ⟨rfl, _, World.drewN_drewN _ _ _⟩ | exact ⟨rfl, _, Eq.trans (World.drewN_drewN _ _ _) (congrArg (World.drewN _) (Nat.add_assoc _ _ _))⟩)) | (go_at_call 62; (with_reducible refine (congr_gcd_uint64.calls kj2 t522 (IntKind.u64.wrap ((IntKind.u64.wrap (a1_1)) * t523)) t524 _ A25.out).mono ?_); rintro e w' ⟨rfl, ⟨nd, rfl⟩⟩; (try first | exact ⟨rfl, _, World.drewN_drewN _ _ _⟩ | exact ⟨rfl, _, Eq.trans (World.drewN_drewN _ _ _) (congrArg (World.drewN _) (Nat.add_assoc _ _ _))⟩)) | (go_at_call 83; (with_reducible refine (congr_times.calls a0_2 a1_2 t525 t526 false _ A26.out).mono ?_); rintro e w116 ⟨rfl, hb⟩; replace BK515 := kB BK515 hb; replace BK516 := kB BK516 hb; replace BK517 := kB BK517 hb; replace HB := kW HB hb; (try clear hb); (try clear hb2); (try clear hk); (try clear hi)) | ((with_reducible refine gate_dst (N := 6) rfl ?_); refine box_event ?hg (N := 6) ?hd (cs := #[.int .u64 0, .int .u64 0, .bool false]) (t := 74) ?hr ?_; (case hd => rfl); (case hg => rfl); (case hr => first | (go_simp; done) | (go_simp; rfl)); intro gb528 hg w117 hbox hb; have n0_ := kB BK515 hb; have n1_ := kB BK516 hb; have n2_ := kB BK517 hb; have n3_ := kW HB hb; have n4_ := Aside0.mk (hbox); have n5_ := Aside0.mk ((by rw [hg]; exact (below_size (bS HB)) : w.heap.size ≤ gb528)); have n6_ := Aside0.mk ((by rw [hg]; exact (below_size (bS HB)) : w.heap.size ≤ gb528)); have n7_ := Aside0.mk ((by rw [hg]; exact Nat.ne_of_lt (blk_lt (bkS BK515)) : gb515 ≠ gb528)); have n8_ := Aside0.mk ((by rw [hg]; exact Nat.ne_of_gt (blk_lt (bkS BK515)) : gb528 ≠ gb515)); have n9_ := Aside0.mk ((by rw [hg]; exact Nat.ne_of_lt (blk_lt (bkS BK516)) : gb516 ≠ gb528)); have n10_ := Aside0.mk ((by rw [hg]; exact Nat.ne_of_gt (blk_lt (bkS BK516)) : gb528 ≠ gb516)); have n11_ := Aside0.mk ((by rw [hg]; exact Nat.ne_of_lt (blk_lt (bkS BK517)) : gb517 ≠ gb528)); have n12_ := Aside0.mk ((by rw [hg]; exact Nat.ne_of_gt (blk_lt (bkS BK517)) : gb528 ≠ gb517)); clear BK515; clear BK516; clear BK517; clear HB; have BK515 := n0_; have BK516 := n1_; have BK517 := n2_; have HB := n3_; have BK528 := n4_; have GW528 := n5_; have GE528 := n6_; have NB515_528 := n7_; have NB528_515 := n8_; have NB516_528 := n9_; have NB528_516 := n10_; have NB517_528 := n11_; have NB528_517 := n12_; clear n0_ n1_ n2_ n3_ n4_ n5_ n6_ n7_ n8_ n9_ n10_ n11_ n12_; clear hb hbox hg; have hnb118 := NB528_515.out; have hnc118 := NB515_528.out; have hnb119 := NB528_516.out; have hnc119 := NB516_528.out; have hnb120 := NB528_517.out; have hnc120 := NB517_528.out; have hcz121_0 := cz0 BK528; have hcz121_1 := cz1 BK528; have hcz121_2 := cz2 BK528; have hfz121_0 := fz BK528 0; have hfz121_1 := fz BK528 1; have hfz121_2 := fz BK528 2) | (go_at_call 65; (with_reducible refine (congr_words_rest.calls t525 t526 t524 t538 _ A75.out).mono ?_); rintro e w122 ⟨rfl, hb⟩; have n0_ := kB BK515 hb; have n1_ := kB BK516 hb; have n2_ := kB BK517 hb; have n3_ := Aside0.mk (blk_below (g := gb528) (o := .cells #[.int .u64 t525, .int .u64 t526, .bool false] 74 (0, 0)) (by (with_reducible repeat (first | refine b1 ?_ _ | refine b2 ?_ | refine b3 ?_ _)); refine blk_put (cs := #[.int .u64 t525, .int .u64 t526, .bool false]) ?_ 2 _ rfl; (with_reducible repeat (first | refine b1 ?_ _ | refine b2 ?_ | refine b3 ?_ _)); refine blk_put (cs := #[.int .u64 t525, .int .u64 0, .bool false]) ?_ 1 _ rfl; (with_reducible repeat (first | refine b1 ?_ _ | refine b2 ?_ | refine b3 ?_ _)); refine blk_put (cs := #[.int .u64 0, .int .u64 0, .bool false]) ?_ 0 _ rfl; (with_reducible repeat (first | refine b1 ?_ _ | refine b2 ?_ | refine b3 ?_ _)); exact BK528.out) hb); have n4_ := kW HB hb; clear BK515; clear BK516; clear BK517; clear BK528; clear HB; have BK515 := n0_; have BK516 := n1_; have BK517 := n2_; have BK528 := n3_; have HB := n4_; clear n0_ n1_ n2_ n3_ n4_; (try clear hb); (try clear hb2); (try clear hk); (try clear hi); have hcz123_0 := cz0 BK528; have hcz123_1 := cz1 BK528; have hcz123_2 := cz2 BK528; have hfz123_0 := fz BK528 0; have hfz123_1 := fz BK528 1; have hfz123_2 := fz BK528 2) | (go_at_call 51; (with_reducible refine (congr_of.calls kj2 t524 t538 t545 t546 t547 _ A110.out).mono ?_); rintro e w124 ⟨rfl, hb⟩; replace BK515 := kB BK515 hb; replace BK516 := kB BK516 hb; replace BK517 := kB BK517 hb; replace BK528 := kB BK528 hb; replace HB := kW HB hb; (try clear hb); (try clear hb2); (try clear hk); (try clear hi); have hcz125_0 := cz0 BK517; have hcz125_1 := cz1 BK517; have hcz125_2 := cz2 BK517; have hfz125_0 := fz BK517 0; have hfz125_1 := fz BK517 1; have hfz125_2 := fz BK517 2))
      repeat (go_quiet (first | (go_at_call 52; (with_reducible refine (congr_size.calls a1_2 t521 _ A22.out).mono ?_); rintro e w' ⟨rfl, ⟨nd, rfl⟩⟩; (try first | exact ⟨rfl, _, World.drewN_drewN _ _ _⟩ | exact ⟨rfl, _, Eq.trans (World.drewN_drewN _ _ _) (congrArg (World.drewN _) (Nat.add_assoc _ _ _))⟩)) | (go_at_call 62; (with_reducible refine (congr_gcd_uint64.calls kj2 (IntKind.u64.wrap ((IntKind.u64.wrap (a0_1)) * (IntKind.u64.wrap (a1_1)))) (IntKind.u64.wrap ((IntKind.u64.wrap (a0_1)) * t521)) t522 _ A23.out).mono ?_); rintro e w' ⟨rfl, ⟨nd, rfl⟩⟩; (try first | exact ⟨rfl, _, World.drewN_drewN _ _ _⟩ | exact ⟨rfl, _, Eq.trans (World.drewN_drewN _ _ _) (congrArg (World.drewN _) (Nat.add_assoc _ _ _))⟩)) | (go_at_call 52; (with_reducible refine (congr_size.calls a0_2 t523 _ A24.out).mono ?_); rintro e w' ⟨rfl, ⟨nd, rfl⟩⟩; (try first | exact ⟨rfl, _, World.drewN_drewN _ _ _⟩ | exact ⟨rfl, _, Eq.trans (World.drewN_drewN _ _ _) (congrArg (World.drewN _) (Nat.add_assoc _ _ _))⟩)) | (go_at_call 62; (with_reducible refine (congr_gcd_uint64.calls kj2 t522 (IntKind.u64.wrap ((IntKind.u64.wrap (a1_1)) * t523)) t524 _ A25.out).mono ?_); rintro e w' ⟨rfl, ⟨nd, rfl⟩⟩; (try first | exact ⟨rfl, _, World.drewN_drewN _ _ _⟩ | exact ⟨rfl, _, Eq.trans (World.drewN_drewN _ _ _) (congrArg (World.drewN _) (Nat.add_assoc _ _ _))⟩)) | (go_at_call 83; (with_reducible refine (congr_times.calls a0_2 a1_2 t525 t526 false _ A26.out).mono ?_); rintro e w116 ⟨rfl, hb⟩; replace BK515 := kB BK515 hb; replace BK516 := kB BK516 hb; replace BK517 := kB BK517 hb; replace HB := kW HB hb; (try clear hb); (try clear hb2); (try clear hk); (try clear hi)) | ((with_reducible refine gate_dst (N := 6) rfl ?_); refine box_event ?hg (N := 6) ?hd (cs := #[.int .u64 0, .int .u64 0, .bool false]) (t := 74) ?hr ?_; (case hd => rfl); (case hg => rfl); (case hr => first | (go_simp; done) | (go_simp; rfl)); intro gb528 hg w117 hbox hb; have n0_ := kB BK515 hb; have n1_ := kB BK516 hb; have n2_ := kB BK517 hb; have n3_ := kW HB hb; have n4_ := Aside0.mk (hbox); have n5_ := Aside0.mk ((by rw [hg]; exact (below_size (bS HB)) : w.heap.size ≤ gb528)); have n6_ := Aside0.mk ((by rw [hg]; exact (below_size (bS HB)) : w.heap.size ≤ gb528)); have n7_ := Aside0.mk ((by rw [hg]; exact Nat.ne_of_lt (blk_lt (bkS BK515)) : gb515 ≠ gb528)); have n8_ := Aside0.mk ((by rw [hg]; exact Nat.ne_of_gt (blk_lt (bkS BK515)) : gb528 ≠ gb515)); have n9_ := Aside0.mk ((by rw [hg]; exact Nat.ne_of_lt (blk_lt (bkS BK516)) : gb516 ≠ gb528)); have n10_ := Aside0.mk ((by rw [hg]; exact Nat.ne_of_gt (blk_lt (bkS BK516)) : gb528 ≠ gb516)); have n11_ := Aside0.mk ((by rw [hg]; exact Nat.ne_of_lt (blk_lt (bkS BK517)) : gb517 ≠ gb528)); have n12_ := Aside0.mk ((by rw [hg]; exact Nat.ne_of_gt (blk_lt (bkS BK517)) : gb528 ≠ gb517)); clear BK515; clear BK516; clear BK517; clear HB; have BK515 := n0_; have BK516 := n1_; have BK517 := n2_; have HB := n3_; have BK528 := n4_; have GW528 := n5_; have GE528 := n6_; have NB515_528 := n7_; have NB528_515 := n8_; have NB516_528 := n9_; have NB528_516 := n10_; have NB517_528 := n11_; have NB528_517 := n12_; clear n0_ n1_ n2_ n3_ n4_ n5_ n6_ n7_ n8_ n9_ n10_ n11_ n12_; clear hb hbox hg; have hnb118 := NB528_515.out; have hnc118 := NB515_528.out; have hnb119 := NB528_516.out; have hnc119 := NB516_528.out; have hnb120 := NB528_517.out; have hnc120 := NB517_528.out; have hcz121_0 := cz0 BK528; have hcz121_1 := cz1 BK528; have hcz121_2 := cz2 BK528; have hfz121_0 := fz BK528 0; have hfz121_1 := fz BK528 1; have hfz121_2 := fz BK528 2) | (go_at_call 65; (with_reducible refine (congr_words_rest.calls t525 t526 t524 t538 _ A75.out).mono ?_); rintro e w122 ⟨rfl, hb⟩; have n0_ := kB BK515 hb; have n1_ := kB BK516 hb; have n2_ := kB BK517 hb; have n3_ := Aside0.mk (blk_below (g := gb528) (o := .cells #[.int .u64 t525, .int .u64 t526, .bool false] 74 (0, 0)) (by (with_reducible repeat (first | refine b1 ?_ _ | refine b2 ?_ | refine b3 ?_ _)); refine blk_put (cs := #[.int .u64 t525, .int .u64 t526, .bool false]) ?_ 2 _ rfl; (with_reducible repeat (first | refine b1 ?_ _ | refine b2 ?_ | refine b3 ?_ _)); refine blk_put (cs := #[.int .u64 t525, .int .u64 0, .bool false]) ?_ 1 _ rfl; (with_reducible repeat (first | refine b1 ?_ _ | refine b2 ?_ | refine b3 ?_ _)); refine blk_put (cs := #[.int .u64 0, .int .u64 0, .bool false]) ?_ 0 _ rfl; (with_reducible repeat (first | refine b1 ?_ _ | refine b2 ?_ | refine b3 ?_ _)); exact BK528.out) hb); have n4_ := kW HB hb; clear BK515; clear BK516; clear BK517; clear BK528; clear HB; have BK515 := n0_; have BK516 := n1_; have BK517 := n2_; have BK528 := n3_; have HB := n4_; clear n0_ n1_ n2_ n3_ n4_; (try clear hb); (try clear hb2); (try clear hk); (try clear hi); have hcz123_0 := cz0 BK528; have hcz123_1 := cz1 BK528; have hcz123_2 := cz2 BK528; have hfz123_0 := fz BK528 0; have hfz123_1 := fz BK528 1; have hfz123_2 := fz BK528 2) | (go_at_call 51; (with_reducible refine (congr_of.calls kj2 t524 t538 t545 t546 t547 _ A110.out).mono ?_); rintro e w124 ⟨rfl, hb⟩; replace BK515 := kB BK515 hb; replace BK516 := kB BK516 hb; replace BK517 := kB BK517 hb; replace BK528 := kB BK528 hb; replace HB := kW HB hb; (try clear hb); (try clear hb2); (try clear hk); (try clear hi); have hcz125_0 := cz0 BK517; have hcz125_1 := cz1 BK517; have hcz125_2 := cz2 BK517; have hfz125_0 := fz BK517 0; have hfz125_1 := fz BK517 1; have hfz125_2 := fz BK517 2)); try go_wp2_with (first | (go_at_call 52; (with_reducible refine (congr_size.calls a1_2 t521 _ A22.out).mono ?_); rintro e w' ⟨rfl, ⟨nd, rfl⟩⟩; (try first | exact ⟨rfl, _, World.drewN_drewN _ _ _⟩ | exact ⟨rfl, _, Eq.trans (World.drewN_drewN _ _ _) (congrArg (World.drewN _) (Nat.add_assoc _ _ _))⟩)) | (go_at_call 62; (with_reducible refine (congr_gcd_uint64.calls kj2 (IntKind.u64.wrap ((IntKind.u64.wrap (a0_1)) * (IntKind.u64.wrap (a1_1)))) (IntKind.u64.wrap ((IntKind.u64.wrap (a0_1)) * t521)) t522 _ A23.out).mono ?_); rintro e w' ⟨rfl, ⟨nd, rfl⟩⟩; (try first | exact ⟨rfl, _, World.drewN_drewN _ _ _⟩ | exact ⟨rfl, _, Eq.trans (World.drewN_drewN _ _ _) (congrArg (World.drewN _) (Nat.add_assoc _ _ _))⟩)) | (go_at_call 52; (with_reducible refine (congr_size.calls a0_2 t523 _ A24.out).mono ?_); rintro e w' ⟨rfl, ⟨nd, rfl⟩⟩; (try first | exact ⟨rfl, _, World.drewN_drewN _ _ _⟩ | exact ⟨rfl, _, Eq.trans (World.drewN_drewN _ _ _) (congrArg (World.drewN _) (Nat.add_assoc _ _ _))⟩)) | (go_at_call 62; (with_reducible refine (congr_gcd_uint64.calls kj2 t522 (IntKind.u64.wrap ((IntKind.u64.wrap (a1_1)) * t523)) t524 _ A25.out).mono ?_); rintro e w' ⟨rfl, ⟨nd, rfl⟩⟩; (try first | exact ⟨rfl, _, World.drewN_drewN _ _ _⟩ | exact ⟨rfl, _, Eq.trans (World.drewN_drewN _ _ _) (congrArg (World.drewN _) (Nat.add_assoc _ _ _))⟩)) | (go_at_call 83; (with_reducible refine (congr_times.calls a0_2 a1_2 t525 t526 false _ A26.out).mono ?_); rintro e w116 ⟨rfl, hb⟩; replace BK515 := kB BK515 hb; replace BK516 := kB BK516 hb; replace BK517 := kB BK517 hb; replace HB := kW HB hb; (try clear hb); (try clear hb2); (try clear hk); (try clear hi)) | ((with_reducible refine gate_dst (N := 6) rfl ?_); refine box_event ?hg (N := 6) ?hd (cs := #[.int .u64 0, .int .u64 0, .bool false]) (t := 74) ?hr ?_; (case hd => rfl); (case hg => rfl); (case hr => first | (go_simp; done) | (go_simp; rfl)); intro gb528 hg w117 hbox hb; have n0_ := kB BK515 hb; have n1_ := kB BK516 hb; have n2_ := kB BK517 hb; have n3_ := kW HB hb; have n4_ := Aside0.mk (hbox); have n5_ := Aside0.mk ((by rw [hg]; exact (below_size (bS HB)) : w.heap.size ≤ gb528)); have n6_ := Aside0.mk ((by rw [hg]; exact (below_size (bS HB)) : w.heap.size ≤ gb528)); have n7_ := Aside0.mk ((by rw [hg]; exact Nat.ne_of_lt (blk_lt (bkS BK515)) : gb515 ≠ gb528)); have n8_ := Aside0.mk ((by rw [hg]; exact Nat.ne_of_gt (blk_lt (bkS BK515)) : gb528 ≠ gb515)); have n9_ := Aside0.mk ((by rw [hg]; exact Nat.ne_of_lt (blk_lt (bkS BK516)) : gb516 ≠ gb528)); have n10_ := Aside0.mk ((by rw [hg]; exact Nat.ne_of_gt (blk_lt (bkS BK516)) : gb528 ≠ gb516)); have n11_ := Aside0.mk ((by rw [hg]; exact Nat.ne_of_lt (blk_lt (bkS BK517)) : gb517 ≠ gb528)); have n12_ := Aside0.mk ((by rw [hg]; exact Nat.ne_of_gt (blk_lt (bkS BK517)) : gb528 ≠ gb517)); clear BK515; clear BK516; clear BK517; clear HB; have BK515 := n0_; have BK516 := n1_; have BK517 := n2_; have HB := n3_; have BK528 := n4_; have GW528 := n5_; have GE528 := n6_; have NB515_528 := n7_; have NB528_515 := n8_; have NB516_528 := n9_; have NB528_516 := n10_; have NB517_528 := n11_; have NB528_517 := n12_; clear n0_ n1_ n2_ n3_ n4_ n5_ n6_ n7_ n8_ n9_ n10_ n11_ n12_; clear hb hbox hg; have hnb118 := NB528_515.out; have hnc118 := NB515_528.out; have hnb119 := NB528_516.out; have hnc119 := NB516_528.out; have hnb120 := NB528_517.out; have hnc120 := NB517_528.out; have hcz121_0 := cz0 BK528; have hcz121_1 := cz1 BK528; have hcz121_2 := cz2 BK528; have hfz121_0 := fz BK528 0; have hfz121_1 := fz BK528 1; have hfz121_2 := fz BK528 2) | (go_at_call 65; (with_reducible refine (congr_words_rest.calls t525 t526 t524 t538 _ A75.out).mono ?_); rintro e w122 ⟨rfl, hb⟩; have n0_ := kB BK515 hb; have n1_ := kB BK516 hb; have n2_ := kB BK517 hb; have n3_ := Aside0.mk (blk_below (g := gb528) (o := .cells #[.int .u64 t525, .int .u64 t526, .bool false] 74 (0, 0)) (by (with_reducible repeat (first | refine b1 ?_ _ | refine b2 ?_ | refine b3 ?_ _)); refine blk_put (cs := #[.int .u64 t525, .int .u64 t526, .bool false]) ?_ 2 _ rfl; (with_reducible repeat (first | refine b1 ?_ _ | refine b2 ?_ | refine b3 ?_ _)); refine blk_put (cs := #[.int .u64 t525, .int .u64 0, .bool false]) ?_ 1 _ rfl; (with_reducible repeat (first | refine b1 ?_ _ | refine b2 ?_ | refine b3 ?_ _)); refine blk_put (cs := #[.int .u64 0, .int .u64 0, .bool false]) ?_ 0 _ rfl; (with_reducible repeat (first | refine b1 ?_ _ | refine b2 ?_ | refine b3 ?_ _)); exact BK528.out) hb); have n4_ := kW HB hb; clear BK515; clear BK516; clear BK517; clear BK528; clear HB; have BK515 := n0_; have BK516 := n1_; have BK517 := n2_; have BK528 := n3_; have HB := n4_; clear n0_ n1_ n2_ n3_ n4_; (try clear hb); (try clear hb2); (try clear hk); (try clear hi); have hcz123_0 := cz0 BK528; have hcz123_1 := cz1 BK528; have hcz123_2 := cz2 BK528; have hfz123_0 := fz BK528 0; have hfz123_1 := fz BK528 1; have hfz123_2 := fz BK528 2) | (go_at_call 51; (with_reducible refine (congr_of.calls kj2 t524 t538 t545 t546 t547 _ A110.out).mono ?_); rintro e w124 ⟨rfl, hb⟩; replace BK515 := kB BK515 hb; replace BK516 := kB BK516 hb; replace BK517 := kB BK517 hb; replace BK528 := kB BK528 hb; replace HB := kW HB hb; (try clear hb); (try clear hb2); (try clear hk); (try clear hi); have hcz125_0 := cz0 BK517; have hcz125_1 := cz1 BK517; have hcz125_2 := cz2 BK517; have hfz125_0 := fz BK517 0; have hfz125_1 := fz BK517 1; have hfz125_2 := fz BK517 2)))
      refine bodyPost_ret (results_cell_row rfl _ _ gb517 23 #[.bool t545, .int .i64 t546, .int .i64 t547] (0, 0) _ rfl (by (with_reducible repeat (first | refine b1 ?_ _ | refine b2 ?_ | refine b3 ?_ _)); refine blk_put (cs := #[.bool t545, .int .i64 t546, .int .i64 0]) ?_ 2 _ rfl; (with_reducible repeat (first | refine b1 ?_ _ | refine b2 ?_ | refine b3 ?_ _)); refine blk_put (cs := #[.bool t545, .int .i64 0, .int .i64 0]) ?_ 1 _ rfl; (with_reducible repeat (first | refine b1 ?_ _ | refine b2 ?_ | refine b3 ?_ _)); refine blk_put (cs := #[.bool false, .int .i64 0, .int .i64 0]) ?_ 0 _ rfl; (with_reducible repeat (first | refine b1 ?_ _ | refine b2 ?_ | refine b3 ?_ _)); exact BK517.out) Tryd.underlying23 rfl (by kernel_rfl)) rfl ?_
      exact ⟨eS, bS HB⟩

end Go.Proofs.YtfmmjekhknaniaaDoor.Pr

namespace Go.Proofs.YtfmmjekhknaniaaDoor.Core
open Go.RowKit Go.Proofs.YtfmmjekhknaniaaDoor.Pr Go.Proofs.YtfmmjekhknaniaaDoor.Given Go.Proofs.YtfmmjekhknaniaaDoorW.PrintWords

theorem wraps_u64 (n : Int) (h₀ : 0 ≤ n) (h₁ : n < 2 ^ 64) : IntKind.u64.wrap n = n := by rw [IntKind.wrap_u64]; omega
theorem mask32 {x : Int} (h₀ : 0 ≤ x) (h₁ : x ≤ 18446744073709551615) : Go.bits .and .u64 x 4294967295 = x % 4294967296 :=
  bits_mask .u64 64 (by decide) wraps_u64 32 (by decide) x h₀ (by omega)

theorem mul64_f {a b : Int} (ha : 0 ≤ a) (ha' : a ≤ 18446744073709551615) (hb : 0 ≤ b) (hb' : b ≤ 18446744073709551615) (h : a * b ≤ 18446744073709551615) :
    bits_Mul64.f a b = some (0, a * b) := by
  have hab := Int.mul_nonneg ha hb
  unfold bits_Mul64.f
  rw [mask32 ha ha', mask32 hb hb', u64_id (n := a * b) hab h]
  have ex : a = a / 4294967296 * 4294967296 + a % 4294967296 := by omega
  have ey : b = b / 4294967296 * 4294967296 + b % 4294967296 := by omega
  have p1 : 0 ≤ a / 4294967296 := by omega
  have p2 : 0 ≤ b / 4294967296 := by omega
  have p3 : 0 ≤ a % 4294967296 ∧ a % 4294967296 ≤ 4294967295 := by omega
  have p4 : 0 ≤ b % 4294967296 ∧ b % 4294967296 ≤ 4294967295 := by omega
  have p5 : a / 4294967296 ≤ 4294967295 := by omega
  have p6 : b / 4294967296 ≤ 4294967295 := by omega
  generalize a / 4294967296 = x1 at *
  generalize b / 4294967296 = y1 at *
  generalize a % 4294967296 = x0 at *
  generalize b % 4294967296 = y0 at *
  have hz : a * b = x1 * y1 * 18446744073709551616 + (x1 * y0 + x0 * y1) * 4294967296 + x0 * y0 := by rw [ex, ey]; grind
  have q11 := Int.mul_nonneg p1 p2
  have q10 := Int.mul_nonneg p1 p4.1
  have q01 := Int.mul_nonneg p3.1 p2
  have q00 := Int.mul_nonneg p3.1 p4.1
  have r00 : x0 * y0 ≤ 4294967295 * 4294967295 := Int.mul_le_mul p3.2 p4.2 p4.1 (by omega)
  generalize x1 * y1 = m11 at *
  generalize x1 * y0 = m10 at *
  generalize x0 * y1 = m01 at *
  generalize x0 * y0 = m00 at *
  rw [u64_id (n := m11) (by omega) (by omega), u64_id (n := m00) (by omega) (by omega), u64_id (n := m10) (by omega) (by omega), u64_id (n := m01) (by omega) (by omega)]
  rw [u64_id (n := m10 + m00 / 4294967296) (by omega) (by omega)]
  rw [mask32 (by omega) (by omega), u64_id (n := (m10 + m00 / 4294967296) % 4294967296 + m01) (by omega) (by omega)]
  rw [u64_id (n := m11 + (m10 + m00 / 4294967296) / 4294967296) (by omega) (by omega), u64_id (by omega) (by omega)]
  congr 2
  omega

theorem ab_mul (x y : Int) : ab x * ab y = ab (x * y) := by
  unfold ab
  by_cases h1 : x < 0
  · by_cases h2 : y < 0
    · have := Int.mul_pos_of_neg_of_neg h1 h2
      rw [if_pos h1, if_pos h2, if_neg (by omega), Int.neg_mul_neg]
    · rw [if_pos h1, if_neg h2]
      by_cases h3 : y = 0
      · subst h3; simp
      · have := Int.mul_neg_of_neg_of_pos h1 (show 0 < y by omega)
        rw [if_pos this, Int.neg_mul]
  · by_cases h2 : y < 0
    · rw [if_neg h1, if_pos h2]
      by_cases h3 : x = 0
      · subst h3; simp
      · have := Int.mul_neg_of_pos_of_neg (show 0 < x by omega) h2
        rw [if_pos this, Int.mul_neg]
    · have := Int.mul_nonneg (show 0 ≤ x by omega) (show 0 ≤ y by omega)
      rw [if_neg h1, if_neg h2, if_neg (by omega)]

theorem prod_le {x y : Int} (h0 : 0 ≤ x) (h1 : x ≤ 4294967295) (h2 : 0 ≤ y) (h3 : y ≤ 4294967295) : 0 ≤ x * y ∧ x * y ≤ 18446744065119617025 := by
  refine ⟨Int.mul_nonneg h0 h2, ?_⟩
  have := Int.mul_le_mul h1 h3 h2 (show (0 : Int) ≤ 4294967295 by omega)
  omega

theorem signs_mul (x y : Int) (hp : x * y ≠ 0) : (decide (x < 0) != decide (y < 0)) = decide (x * y < 0) := by
  have hx : x ≠ 0 := fun e => hp (by rw [e, Int.zero_mul])
  have hy : y ≠ 0 := fun e => hp (by rw [e, Int.mul_zero])
  by_cases h1 : x < 0
  · by_cases h2 : y < 0
    · have := Int.mul_pos_of_neg_of_neg h1 h2
      simp [h1, h2]; omega
    · have := Int.mul_neg_of_neg_of_pos h1 (show 0 < y by omega)
      simp [h1, h2, this]
  · by_cases h2 : y < 0
    · have := Int.mul_neg_of_pos_of_neg (show 0 < x by omega) h2
      simp [h1, h2, this]
    · have := Int.mul_nonneg (show 0 ≤ x by omega) (show 0 ≤ y by omega)
      simp [h1, h2]; omega

theorem times_f {x y : Int} (hx : -4294967295 ≤ x ∧ x ≤ 4294967295) (hy : -4294967295 ≤ y ∧ y ≤ 4294967295) :
    congr_times.f x y = some (0, ab x * ab y, decide (x < 0) != decide (y < 0)) := by
  have h1 : 0 ≤ ab x ∧ ab x ≤ 4294967295 := ⟨ab_nonneg x, ab_le hx.1 hx.2⟩
  have h2 : 0 ≤ ab y ∧ ab y ≤ 4294967295 := ⟨ab_nonneg y, ab_le hy.1 hy.2⟩
  have h3 := prod_le h1.1 h1.2 h2.1 h2.2
  unfold congr_times.f
  rw [size_f (by omega) (by omega)]
  simp only [Option.bind_some]
  rw [size_f (by omega) (by omega)]
  simp only [Option.bind_some]
  rw [mul64_f h1.1 (by omega) h2.1 (by omega) (by omega)]; rfl

theorem Mul_f {a b : Cg} (ha : Fit a) (hb : Fit b) : Ev (fun k => congr_Mul.f k a.1 a.2.1 a.2.2 b.1 b.2.1 b.2.2) (mulS a b) := by
  have ma := fit_mod ha
  have mb := fit_mod hb
  have p1 := prod_le (x := a.2.1) (y := b.2.1) (by omega) (by omega) (by omega) (by omega)
  have p2 := prod_le (x := a.2.1) (y := ab b.2.2) (by omega) (by omega) (ab_nonneg _) (ab_le (by omega) (by omega))
  have p3 := prod_le (x := b.2.1) (y := ab a.2.2) (by omega) (by omega) (ab_nonneg _) (ab_le (by omega) (by omega))
  have p4 := prod_le (x := ab a.2.2) (y := ab b.2.2) (ab_nonneg _) (ab_le (by omega) (by omega)) (ab_nonneg _) (ab_le (by omega) (by omega))
  obtain ⟨K, hK⟩ := gcd_f p1.1 p2.1
  obtain ⟨L, hL⟩ := gcd_f (G_nonneg (a.2.1 * b.2.1) (a.2.1 * ab b.2.2)) p3.1
  refine ⟨K + L + 5, fun k hk => ?_⟩
  obtain ⟨j, rfl⟩ : ∃ j, k = j + 4 := ⟨k - 4, by omega⟩
  dsimp only at hK hL ⊢
  unfold congr_Mul.f mulS
  by_cases h1 : a.1 = true
  · rw [if_pos h1, if_pos h1]; simp [congr_Mul.j0, congr_none.f]
  rw [if_neg h1, if_neg h1]
  simp only [congr_Mul.j0]
  by_cases h2 : b.1 = true
  · rw [if_pos h2, if_pos h2]; rfl
  rw [if_neg h2, if_neg h2, size_f (x := b.2.2) (by omega) (by omega), size_f (x := a.2.2) (by omega) (by omega), times_f (by omega) (by omega),
    u64_id (n := a.2.1) (by omega) (by omega), u64_id (n := b.2.1) (by omega) (by omega)]
  simp only [Option.bind_some]
  rw [u64_id (n := a.2.1 * b.2.1) (by omega) (by omega), u64_id (n := a.2.1 * ab b.2.2) (by omega) (by omega), u64_id (n := b.2.1 * ab a.2.2) (by omega) (by omega), hK _ (by omega)]
  simp only [Option.bind_some]
  rw [hL _ (by omega)]
  simp only [Option.bind_some]
  have hg0 : 0 ≤ mulG a b := mulG_nonneg a b
  have hg1 : mulG a b ≤ 18446744073709551615 := G_le (G_nonneg _ _) p3.1 (G_le p1.1 p2.1 (by omega) (by omega)) (by omega)
  rw [show G (G (a.2.1 * b.2.1) (a.2.1 * ab b.2.2)) (b.2.1 * ab a.2.2) = mulG a b from rfl]
  have em : ab a.2.2 * ab b.2.2 = ab (a.2.2 * b.2.2) := ab_mul _ _
  by_cases h3 : mulG a b = 0
  · rw [if_pos h3, if_pos trivial, h3]
    simp only [congr_Mul.j1]
    by_cases h4 : ab a.2.2 * ab b.2.2 > 4611686018427387904
    · rw [show decide (ab a.2.2 * ab b.2.2 > 4611686018427387904) = true by simp [h4], if_pos rfl]
      simp only [congr_none.f, Option.bind_some]
      unfold norm
      rw [if_pos rfl, if_neg]
      intro hi
      unfold In32 at hi
      have := ab_le (x := a.2.2 * b.2.2) (m := 4294967296) (by omega) (by omega)
      omega
    · rw [show decide (ab a.2.2 * ab b.2.2 > 4611686018427387904) = false by simp [h4], if_neg (by simp), w64_id (n := ab a.2.2 * ab b.2.2) (by omega) (by omega)]
      by_cases h5 : a.2.2 * b.2.2 = 0
      · have h6 : ab a.2.2 * ab b.2.2 = 0 := by rw [em, h5]; rfl
        rw [h6, h5]
        split
        · rw [constant_f, show wrap64 (-0) = 0 from by unfold wrap64; omega]; rfl
        · rw [constant_f]; rfl
      · rw [signs_mul _ _ h5]
        by_cases h6 : a.2.2 * b.2.2 < 0
        · have e : ab (a.2.2 * b.2.2) = -(a.2.2 * b.2.2) := by unfold ab; rw [if_pos h6]
          rw [show decide (a.2.2 * b.2.2 < 0) = true by simp [h6], if_pos rfl, em, e]
          rw [em, e] at h4
          rw [w64_id (by omega) (by omega), constant_f, Int.neg_neg]; rfl
        · have e : ab (a.2.2 * b.2.2) = a.2.2 * b.2.2 := by unfold ab; rw [if_neg h6]
          rw [show decide (a.2.2 * b.2.2 < 0) = false by simp [h6], if_neg (by simp), em, e, constant_f]; rfl
  · rw [if_neg h3]
    have hf : congr_words_rest.f 0 (ab a.2.2 * ab b.2.2) (mulG a b) = some (ab a.2.2 * ab b.2.2 % mulG a b) := by
      unfold congr_words_rest.f; rw [if_pos (by omega)]
    rw [hf]
    simp only [Option.bind_some]
    have e0 := Int.emod_nonneg (ab a.2.2 * ab b.2.2) h3
    have e1 := Int.emod_lt_of_pos (ab a.2.2 * ab b.2.2) (show 0 < mulG a b by omega)
    have e2 := emod_dvd_sub (mulG a b) (ab a.2.2 * ab b.2.2)
    have done : ∀ (r : Int), 0 ≤ r → r < mulG a b → mulG a b ∣ r - a.2.2 * b.2.2 → congr_of.f (j + 3) (mulG a b) r = some (norm (mulG a b) (a.2.2 * b.2.2)) := fun r h0 h1 hd => by
      rw [of_f (by omega) hg1 h0 h1, norm_congr hg0 hd]
    by_cases h5 : a.2.2 * b.2.2 = 0
    · have h6 : ab a.2.2 * ab b.2.2 = 0 := by rw [em, h5]; rfl
      rw [h6, Int.zero_emod]
      have dd := done 0 (by omega) (by omega) (by rw [h5]; simp)
      split
      · rw [if_neg (by omega), dd]; rfl
      · rw [dd]; rfl
    · rw [signs_mul _ _ h5]
      by_cases h6 : a.2.2 * b.2.2 < 0
      · have e : ab (a.2.2 * b.2.2) = -(a.2.2 * b.2.2) := by unfold ab; rw [if_pos h6]
        rw [show decide (a.2.2 * b.2.2 < 0) = true by simp [h6], if_pos rfl]
        rw [em, e] at e0 e1 e2 ⊢
        by_cases h7 : -(a.2.2 * b.2.2) % mulG a b > 0
        · rw [if_pos h7, u64_id (by omega) (by omega), done _ (by omega) (by omega) ?_]; rfl
          have := Int.dvd_add (Int.dvd_refl (mulG a b)) e2
          rwa [show mulG a b + (-(a.2.2 * b.2.2) - -(a.2.2 * b.2.2) % mulG a b) = mulG a b - -(a.2.2 * b.2.2) % mulG a b - a.2.2 * b.2.2 by omega] at this
        · rw [if_neg h7, done _ (by omega) (by omega) ?_]; rfl
          rw [show -(a.2.2 * b.2.2) % mulG a b = 0 by omega] at e2 ⊢
          rwa [show -(a.2.2 * b.2.2) - 0 = 0 - a.2.2 * b.2.2 by omega] at e2
      · have e : ab (a.2.2 * b.2.2) = a.2.2 * b.2.2 := by unfold ab; rw [if_neg h6]
        rw [show decide (a.2.2 * b.2.2 < 0) = false by simp [h6], if_neg (by simp)]
        rw [em, e] at e0 e1 e2 ⊢
        rw [done _ (by omega) (by omega) (dvd_sub_comm' e2)]; rfl

/-- what holds at each step: X and Y are x and y without their signs, which are not the same. -/
structure Steps (n a x y r s X Y : Int) : Prop where
  n1 : 0 < n
  n2 : n ≤ 4294967295
  r0 : 0 ≤ r
  r1 : r ≤ 4294967295
  s0 : 0 ≤ s
  s1 : s ≤ 4294967295
  sg : (X = x ∧ Y = -y) ∨ (X = -x ∧ Y = y)
  X0 : 0 ≤ X
  X1 : X ≤ n
  Y0 : 0 ≤ Y
  Y1 : Y ≤ n
  sum : X * s + Y * r = n
  d1 : n ∣ x * a - r
  d2 : n ∣ y * a - s
  g : G r s = 1

theorem Steps.next {n a x y r s X Y : Int} (h : Steps n a x y r s X Y) (hs : s ≠ 0) :
    Steps n a y (x - r / s * y) s (r % s) Y (X + r / s * Y) ∧ 0 ≤ r / s ∧ r / s ≤ r ∧ r / s * Y ≤ n ∧ r - r / s * s = r % s := by
  have hs0 : 0 < s := by have := h.s0; omega
  have q0 : 0 ≤ r / s := Int.ediv_nonneg h.r0 h.s0
  have q1 : r / s ≤ r := Int.ediv_le_self _ h.r0
  have e := Int.mul_ediv_add_emod r s
  have m0 := Int.emod_nonneg r hs
  have m1 := Int.emod_lt_of_pos r hs0
  have qY := Int.mul_nonneg q0 h.Y0
  have er : r - r / s * s = r % s := by rw [Int.mul_comm]; omega
  have sum' : Y * (r % s) + (X + r / s * Y) * s = n := by
    rw [← er, ← h.sum]; grind
  have hY' : X + r / s * Y ≤ n := by
    have h1 : (X + r / s * Y) * 1 ≤ (X + r / s * Y) * s := Int.mul_le_mul_of_nonneg_left (by omega) (by have := h.X0; omega)
    have h2 := Int.mul_nonneg h.Y0 m0
    omega
  refine ⟨⟨h.n1, h.n2, h.s0, h.s1, m0, by have := h.s1; omega, ?_, h.Y0, h.Y1, by have := h.X0; omega, hY', sum', h.d2, ?_, ?_⟩, q0, q1, by have := h.X0; omega, er⟩
  · rcases h.sg with ⟨a1, a2⟩ | ⟨a1, a2⟩
    · right
      refine ⟨a2, ?_⟩
      rw [a1, a2, Int.mul_neg]; omega
    · left
      refine ⟨a2, ?_⟩
      rw [a1, a2]; omega
  · have := Int.dvd_sub h.d1 (Int.dvd_trans h.d2 (Int.dvd_mul_left (r / s) _))
    rwa [show x * a - r - r / s * (y * a - s) = (x - r / s * y) * a - r % s by rw [← er]; grind] at this
  · rw [G_step]; exact h.g

theorem inv_l0 : ∀ (m : Nat) (n a x y r s X Y : Int), Steps n a x y r s X Y → s ≤ m → ∃ z, n ∣ z * a - 1 ∧ ∀ k, congr_inverse.l0 (k + m + 1) n x y r s = some (z % n)
  | m, n, a, x, y, r, s, X, Y, h, hm => by
    have hn1 := h.n1
    have hn2 := h.n2
    have hX0 := h.X0
    have hX1 := h.X1
    have hsg := h.sg
    by_cases hs : s = 0
    · subst hs
      refine ⟨x, ?_, fun k => ?_⟩
      · have hg := h.g
        rw [G_zero _ h.r0] at hg
        have := h.d1
        rwa [hg] at this
      · simp only [congr_inverse.l0, if_true]
        rw [rest_f (by omega) (by omega) hn1 (by omega)]; rfl
    · obtain ⟨h', q0, q1, q2, er⟩ := h.next hs
      have hr0 := h.r0
      have hr1 := h.r1
      have hs0 := h.s0
      have hs1 := h.s1
      have hY1 := h.Y1
      have hY0 := h.Y0
      obtain ⟨m, rfl⟩ : ∃ j, m = j + 1 := ⟨m - 1, by omega⟩
      have es := Int.emod_lt_of_pos r (show 0 < s by omega)
      have es' := Int.emod_nonneg r hs
      obtain ⟨z, hz, hk⟩ := inv_l0 m n a y (x - r / s * y) s (r % s) Y (X + r / s * Y) h' (by omega)
      refine ⟨z, hz, fun k => ?_⟩
      have e0 : congr_inverse.l0 (k + (m + 1) + 1) n x y r s = if s = 0 then ((congr_rest.f x n).bind fun t => some t) else (congr_inverse.l0 (k + m + 1) n y (wrap64 (x - (wrap64 ((wrap64 (Int.tdiv r s)) * y)))) s (wrap64 (r - (wrap64 ((wrap64 (Int.tdiv r s)) * s))))) := rfl
      have eq : -n ≤ r / s * y ∧ r / s * y ≤ n := by
        have q3 := Int.mul_nonneg q0 hY0
        rcases hsg with ⟨_, a2⟩ | ⟨_, a2⟩
        · rw [a2, Int.mul_neg] at q2 q3
          omega
        · rw [a2] at q2 q3
          omega
      rw [e0, if_neg hs, Int.tdiv_eq_ediv_of_nonneg hr0, w64_id (n := r / s) (by omega) (by omega), w64_id (n := r / s * y) (by omega) (by omega), w64_id (n := x - r / s * y) (by omega) (by omega), w64_id (n := r / s * s) (by omega) (by omega), er, w64_id (n := r % s) (by omega) (by omega)]
      exact hk k
  termination_by m => m

theorem inverse_f {a n : Int} (h0 : 0 ≤ a) (h1 : a < n) (h2 : n ≤ 4294967295) (hg : G a n = 1) : ∃ z, n ∣ z * a - 1 ∧ Ev (fun k => congr_inverse.f k a n) (z % n) := by
  have st : Steps n a 1 0 a n 1 0 := ⟨by omega, h2, h0, by omega, by omega, h2, Or.inl ⟨rfl, rfl⟩, by omega, by omega, by omega, by omega, by omega, by simp, by simp, hg⟩
  obtain ⟨z, hz, hk⟩ := inv_l0 n.toNat n a 1 0 a n 1 0 st (by omega)
  refine ⟨z, hz, ev_of (n.toNat + 1) fun k => ?_⟩
  show congr_inverse.l0 (k + n.toNat + 1) n 1 0 (wrap64 a) (wrap64 n) = _
  rw [w64_id (by omega) (by omega), w64_id (by omega) (by omega)]
  exact hk k

theorem G_comm (a b : Int) : G a b = G b a := by unfold G; rw [Int.gcd_comm]

theorem cop {m n d m' n' : Int} (hd : d = G m n) (hd0 : 0 < d) (hm : m = d * m') (hn : n = d * n') : G m' n' = 1 := by
  have h1 : d * G m' n' ∣ d := by
    rw (occs := [2]) [hd]
    rw [dvd_G]
    exact ⟨by rw [hm]; exact Int.mul_dvd_mul_left d (G_dvd_l _ _), by rw [hn]; exact Int.mul_dvd_mul_left d (G_dvd_r _ _)⟩
  have h2 : G m' n' ∣ 1 := by
    obtain ⟨q, hq⟩ := h1
    refine ⟨q, ?_⟩
    have : d * 1 = d * (G m' n' * q) := by rw [← Int.mul_assoc]; omega
    exact Int.eq_of_mul_eq_mul_left (by omega) this
  have h3 := Int.le_of_dvd (by omega) h2
  have h4 := G_nonneg m' n'
  have h5 : G m' n' ≠ 0 := fun e => by rw [e, Int.zero_dvd] at h2; omega
  omega

theorem dvd_of_cop {n m u : Int} (h : n ∣ m * u) (hg : G m n = 1) : n ∣ u := by
  rw [← Int.natAbs_dvd_natAbs] at h ⊢
  rw [Int.natAbs_mul] at h
  have hc : Nat.Coprime n.natAbs m.natAbs := by
    unfold G Int.gcd at hg
    rw [Nat.Coprime, Nat.gcd_comm]; omega
  exact hc.dvd_of_dvd_mul_left h

/-- a number of both: of both just the numbers that are its least common multiple apart. -/
theorem meet_norm {a b : Cg} (na : a.1 = false) (nb : b.1 = false) {d m' n' v : Int} (ha : 0 < a.2.1) (hb : 0 < b.2.1) (hd : d = G a.2.1 b.2.1) (hm : a.2.1 = d * m') (hn : b.2.1 = d * n')
    (h1 : a.2.1 ∣ v - a.2.2) (h2 : b.2.1 ∣ v - b.2.2) : IsMeet a b (norm (a.2.1 * n') v) := by
  have hd0 : 0 < d := by
    have := G_nonneg a.2.1 b.2.1
    have : d ≠ 0 := fun e => by rw [e] at hm; omega
    omega
  have hn0 : 0 ≤ n' := by
    by_cases h : 0 ≤ n'
    · exact h
    · have := Int.mul_neg_of_pos_of_neg hd0 (show n' < 0 by omega); omega
  have hg := cop hd hd0 hm hn
  have hL : 0 ≤ a.2.1 * n' := Int.mul_nonneg (by omega) hn0
  refine ⟨fit_norm hL, fun x => ?_⟩
  rw [mem_norm hL]
  unfold Mem
  constructor
  · rintro ⟨i, h⟩
    have e : b.2.1 * m' = a.2.1 * n' := by rw [hn, hm]; grind
    refine ⟨⟨na, i, dvd_sub_trans (Int.dvd_trans (Int.dvd_mul_right _ _) h) h1⟩, ⟨nb, i, dvd_sub_trans (Int.dvd_trans ?_ h) h2⟩⟩
    rw [← e]; exact Int.dvd_mul_right _ _
  · rintro ⟨⟨_, i, k1⟩, ⟨_, _, k2⟩⟩
    refine ⟨i, ?_⟩
    have w1 := dvd_sub_trans k1 (dvd_sub_comm' h1)
    have w2 := dvd_sub_trans k2 (dvd_sub_comm' h2)
    obtain ⟨u, hu⟩ := w1
    rw [hu] at w2 ⊢
    refine Int.mul_dvd_mul_left _ ?_
    rw [hn, hm, Int.mul_assoc] at w2
    have w3 : n' ∣ m' * u := Int.dvd_of_mul_dvd_mul_left (by omega) w2
    exact dvd_of_cop w3 hg

theorem meet_none {a b : Cg} (h : ∀ x, ¬ (a.2.1 ∣ x - a.2.2 ∧ b.2.1 ∣ x - b.2.2)) : IsMeet a b (true, 0, 0) :=
  ⟨fit_none, fun x => ⟨(fun hx => by cases hx.1), fun ⟨h1, h2⟩ => absurd ⟨h1.2.2, h2.2.2⟩ (h x)⟩⟩
theorem meet_none_l {a b : Cg} (h : a.1 = true ∨ b.1 = true) : IsMeet a b (true, 0, 0) :=
  ⟨fit_none, fun x => ⟨(fun hx => by cases hx.1), fun ⟨h1, h2⟩ => by
    rcases h with h | h
    · rw [h1.1] at h; cases h
    · rw [h2.1] at h; cases h⟩⟩
theorem meet_const {a b : Cg} (ha : Fit a) (h0 : a.2.1 = 0) : IsMeet a b (if memB b a.2.2 = true then a else (true, 0, 0)) := by
  have hr := fit_rem ha
  have only : ∀ x, Mem a x → x = a.2.2 := fun x hx => by
    have := hx.2.2
    rw [h0, Int.zero_dvd] at this
    omega
  by_cases h : memB b a.2.2 = true
  · rw [if_pos h]
    refine ⟨ha, fun x => ⟨fun hx => ⟨hx, ?_⟩, fun hx => hx.1⟩⟩
    rw [only x hx]; exact memB_iff.mp h
  · rw [if_neg h]
    refine ⟨fit_none, fun x => ⟨(fun hx => by cases hx.1), fun ⟨h1, h2⟩ => ?_⟩⟩
    rw [only x h1] at h2
    exact absurd (memB_iff.mpr h2) h

/-- the number that the steps find. -/
theorem found {m n d m' n' ra rb e k z : Int} (hm : m = d * m') (hn : n = d * n') (he : rb - ra = d * e) (hz : n' ∣ z * (m' % n') - 1) (hk : n' ∣ k - e * z) : n ∣ m * k + ra - rb := by
  have h1 : n' ∣ m' * k - e := by
    obtain ⟨p, hp⟩ := hk
    obtain ⟨q, hq⟩ := hz
    obtain ⟨t, ht⟩ := emod_dvd_sub n' m'
    have ek : k = n' * p + e * z := by omega
    have em : m' % n' = m' - n' * t := by omega
    rw [em] at hq
    refine ⟨m' * p + e * q + e * z * t, ?_⟩
    have : e * (z * (m' - n' * t) - 1) = e * (n' * q) := by rw [hq]
    rw [ek]; grind
  obtain ⟨u, hu⟩ := h1
  refine ⟨u, ?_⟩
  rw [hm, hn]
  have : d * (m' * k - e) = d * (n' * u) := by rw [hu]
  grind

theorem apart_none {a b : Cg} (h : ¬ G a.2.1 b.2.1 ∣ a.2.2 - b.2.2) : ∀ x, ¬ (a.2.1 ∣ x - a.2.2 ∧ b.2.1 ∣ x - b.2.2) := fun _ ⟨h1, h2⟩ =>
  h (dvd_sub_trans (dvd_sub_comm' (Int.dvd_trans (G_dvd_l _ _) h1)) (Int.dvd_trans (G_dvd_r _ _) h2))

theorem Meet_f {a b : Cg} (ha : Fit a) (hb : Fit b) : ∃ r, IsMeet a b r ∧ Ev (fun k => congr_Meet.f k a.1 a.2.1 a.2.2 b.1 b.2.1 b.2.2) r := by
  have ma := fit_mod ha
  have mb := fit_mod hb
  have fa := fit_rem ha
  have fb := fit_rem hb
  by_cases h1 : a.1 = true
  · refine ⟨_, meet_none_l (Or.inl h1), ev_of 9 fun k => ?_⟩
    simp [congr_Meet.f, congr_Meet.j0, congr_none.f, h1]
  by_cases h2 : b.1 = true
  · refine ⟨_, meet_none_l (Or.inr h2), ev_of 9 fun k => ?_⟩
    simp [congr_Meet.f, congr_Meet.j0, congr_none.f, h1, h2]
  have na := bfalse h1
  have nb := bfalse h2
  by_cases h3 : a.2.1 = 0
  · refine ⟨_, meet_const ha h3, ev_of 12 fun k => ?_⟩
    simp only [congr_Meet.f, congr_Meet.j0, congr_Meet.j1, congr_Meet.j2]
    rw [if_neg h1, if_neg h2, if_pos h3, if_pos trivial, if_pos h3, Has_f hb (by unfold I64; omega)]
    simp only [Option.bind_some]
    split <;> rfl
  by_cases h4 : b.2.1 = 0
  · refine ⟨_, (meet_const hb h4).comm, ev_of 12 fun k => ?_⟩
    simp only [congr_Meet.f, congr_Meet.j0, congr_Meet.j1, congr_Meet.j2]
    rw [if_neg h1, if_neg h2, if_neg h3, show (b.2.1 == 0) = true by simp [h4], if_pos rfl, if_neg h3, Has_f ha (by unfold I64; omega)]
    simp only [Option.bind_some]
    split <;> rfl
  have a0 : 0 < a.2.1 := by omega
  have b0 : 0 < b.2.1 := by omega
  obtain ⟨K, hK⟩ := gcd_f (a := a.2.1) (b := b.2.1) (by omega) (by omega)
  have hd0 : 0 < G a.2.1 b.2.1 := by
    have := G_nonneg a.2.1 b.2.1
    have : G a.2.1 b.2.1 ≠ 0 := fun e => by have h := G_dvd_l a.2.1 b.2.1; rw [e, Int.zero_dvd] at h; omega
    omega
  obtain ⟨m', hm⟩ := G_dvd_l a.2.1 b.2.1
  obtain ⟨n', hn⟩ := G_dvd_r a.2.1 b.2.1
  have hdle : G a.2.1 b.2.1 ≤ 4294967295 := G_le (by omega) (by omega) (by omega) (by omega)
  have hdd := @rfl _ (G a.2.1 b.2.1)
  have hcop := cop (m' := m') (n' := n') hdd hd0 hm hn
  have hap := apart_none (a := a) (b := b)
  have hmn := fun (v : Int) (k1 : a.2.1 ∣ v - a.2.2) (k2 : b.2.1 ∣ v - b.2.2) => meet_norm na nb a0 b0 hdd hm hn k1 k2
  clear hdd
  dsimp only at hK
  -- the part that both ways share
  have pre : ∀ j, K + 12 ≤ j → congr_Meet.f j a.1 a.2.1 a.2.2 b.1 b.2.1 b.2.2 = congr_Meet.j1 (j - 1) false a.1 a.2.1 a.2.2 b.1 b.2.1 b.2.2 := fun j hj => by
    obtain ⟨i, rfl⟩ : ∃ i, j = i + 1 := ⟨j - 1, by omega⟩
    simp only [congr_Meet.f, congr_Meet.j0]
    rw [if_neg h1, if_neg h2, if_neg h3, show (b.2.1 == 0) = false by simp [h4]]; rfl
  generalize hdG : G a.2.1 b.2.1 = d at *
  have m0 : 0 < m' := by
    rcases Int.lt_trichotomy m' 0 with h | h | h
    · have := Int.mul_neg_of_pos_of_neg hd0 h; omega
    · rw [h] at hm; omega
    · exact h
  have n0 : 0 < n' := by
    rcases Int.lt_trichotomy n' 0 with h | h | h
    · have := Int.mul_neg_of_pos_of_neg hd0 h; omega
    · rw [h] at hn; omega
    · exact h
  have m1 : m' ≤ a.2.1 := by
    have : 1 * m' ≤ d * m' := Int.mul_le_mul_of_nonneg_right (by omega) (by omega)
    omega
  have n1 : n' ≤ b.2.1 := by
    have : 1 * n' ≤ d * n' := Int.mul_le_mul_of_nonneg_right (by omega) (by omega)
    omega
  have qm : a.2.1.tdiv d = m' := by rw [hm, Int.mul_tdiv_cancel_left _ (by omega)]
  have qn : b.2.1.tdiv d = n' := by rw [hn, Int.mul_tdiv_cancel_left _ (by omega)]
  have pL := prod_le (x := a.2.1) (y := n') (by omega) (by omega) (by omega) (by omega)
  have tm : Int.tmod (ab (a.2.2 - b.2.2)) d = ab (a.2.2 - b.2.2) % d := Int.tmod_eq_emod_of_nonneg (ab_nonneg _)
  by_cases h5 : d ∣ a.2.2 - b.2.2
  · obtain ⟨e, he⟩ := dvd_sub_comm' h5
    have qe : (b.2.2 - a.2.2).tdiv d = e := by rw [he, Int.mul_tdiv_cancel_left _ (by omega)]
    have er := tdiv_range (x := b.2.2 - a.2.2) (d := d) (m := 9223372036854775807) (by omega) (by omega)
    rw [qe] at er
    have t0 : ab (a.2.2 - b.2.2) % d = 0 := emod_zero_iff.mpr (dvd_ab.mpr h5)
    by_cases h6 : n' > 1
    · have mm0 := Int.emod_nonneg m' (show n' ≠ 0 by omega)
      have mm1 := Int.emod_lt_of_pos m' n0
      obtain ⟨z, hz, L, hL⟩ := inverse_f mm0 mm1 (by omega) (by rw [G_comm, G_step, hcop])
      dsimp only at hL
      have z0 := Int.emod_nonneg z (show n' ≠ 0 by omega)
      have z1 := Int.emod_lt_of_pos z n0
      have e0 := Int.emod_nonneg e (show n' ≠ 0 by omega)
      have e1 := Int.emod_lt_of_pos e n0
      have pz := prod_le (x := e % n') (y := z % n') e0 (by omega) z0 (by omega)
      have k0 := Int.emod_nonneg (e % n' * (z % n')) (show n' ≠ 0 by omega)
      have k1 := Int.emod_lt_of_pos (e % n' * (z % n')) n0
      have kd := emod_dvd_sub n' (e % n' * (z % n'))
      generalize hk : e % n' * (z % n') % n' = k at *
      have pk : a.2.1 * k + a.2.1 ≤ a.2.1 * n' := by
        have : a.2.1 * (k + 1) ≤ a.2.1 * n' := Int.mul_le_mul_of_nonneg_left (by omega) (by omega)
        rw [Int.mul_add] at this; omega
      have pk0 := Int.mul_nonneg (show 0 ≤ a.2.1 by omega) k0
      have kez : n' ∣ k - e * z := by
        obtain ⟨p, hp⟩ := emod_dvd_sub n' e
        obtain ⟨q, hq⟩ := emod_dvd_sub n' z
        obtain ⟨t, ht⟩ := kd
        refine ⟨-t - e * q - z * p + n' * p * q, ?_⟩
        have ee : e % n' = e - n' * p := by omega
        have ez : z % n' = z - n' * q := by omega
        rw [ee, ez] at ht
        grind
      refine ⟨norm (a.2.1 * n') (a.2.1 * k + a.2.2), hmn _ ?_ (found hm hn he hz kez), K + L + 20, fun j hj => ?_⟩
      · rw [show a.2.1 * k + a.2.2 - a.2.2 = a.2.1 * k by omega]; exact Int.dvd_mul_right _ _
      dsimp only
      rw [pre j (by omega)]
      obtain ⟨i, rfl⟩ : ∃ i, j = i + 3 := ⟨j - 3, by omega⟩
      show congr_Meet.j1 (i + 1 + 1) _ _ _ _ _ _ _ = _
      simp only [congr_Meet.j1, Bool.false_eq_true, if_false]
      rw [u64_id (n := a.2.1) (by omega) (by omega), u64_id (n := b.2.1) (by omega) (by omega), hK _ (by omega)]
      simp only [Option.bind_some]
      rw [w64_id (n := a.2.2 - b.2.2) (by omega) (by omega), w64_id (n := b.2.2 - a.2.2) (by omega) (by omega), w64_id (n := d) (by omega) (by omega), size_f (by omega) (by omega)]
      simp only [Option.bind_some]
      rw [if_neg (show ¬ d = 0 by omega), tm, if_pos t0, qn, qm, u64_id (n := n') (by omega) (by omega), u64_id (n := m') (by omega) (by omega), if_pos h6, if_neg (show ¬ d = 0 by omega), qe, w64_id (n := e) (by omega) (by omega), rest_f (by omega) (by omega) n0 (by omega)]
      simp only [Option.bind_some]
      rw [if_neg (show ¬ n' = 0 by omega), Int.tmod_eq_emod_of_nonneg (show 0 ≤ m' by omega), hL _ (by omega)]
      simp only [Option.bind_some]
      rw [mul64_f e0 (by omega) z0 (by omega) (by omega)]
      simp only [Option.bind_some]
      rw [show congr_words_rest.f 0 (e % n' * (z % n')) n' = some k by unfold congr_words_rest.f; rw [if_pos (by omega), hk]]
      simp only [Option.bind_some]
      rw [u64_id (n := a.2.1 * n') (by omega) (by omega), u64_id (n := a.2.1 * k) (by omega) (by omega), u64_id (n := a.2.2) (by omega) (by omega), u64_id (n := a.2.1 * k + a.2.2) (by omega) (by omega),
        of_f (by omega) (by omega) (by omega) (by omega)]; rfl
    · have hn1 : n' = 1 := by omega
      subst hn1
      refine ⟨norm (a.2.1 * 1) (a.2.1 * 0 + a.2.2), hmn _ ?_ (found hm hn he (z := 0) (by exact Int.one_dvd _) (Int.one_dvd _)), K + 20, fun j hj => ?_⟩
      · rw [show a.2.1 * 0 + a.2.2 - a.2.2 = 0 by omega]; exact Int.dvd_zero _
      dsimp only
      rw [pre j (by omega)]
      obtain ⟨i, rfl⟩ : ∃ i, j = i + 3 := ⟨j - 3, by omega⟩
      show congr_Meet.j1 (i + 1 + 1) _ _ _ _ _ _ _ = _
      simp only [congr_Meet.j1, Bool.false_eq_true, if_false]
      rw [u64_id (n := a.2.1) (by omega) (by omega), u64_id (n := b.2.1) (by omega) (by omega), hK _ (by omega)]
      simp only [Option.bind_some]
      rw [w64_id (n := a.2.2 - b.2.2) (by omega) (by omega), size_f (by omega) (by omega)]
      simp only [Option.bind_some]
      rw [if_neg (show ¬ d = 0 by omega), tm, if_pos t0, qn, u64_id (n := 1) (by omega) (by omega), if_neg h6]
      rw [u64_id (n := a.2.1 * 1) (by omega) (by omega), u64_id (n := a.2.1 * 0) (by omega) (by omega), u64_id (n := a.2.2) (by omega) (by omega), u64_id (n := a.2.1 * 0 + a.2.2) (by omega) (by omega),
        of_f (by omega) (by omega) (by omega) (by omega)]; rfl
  · refine ⟨_, meet_none (hap h5), K + 20, fun j hj => ?_⟩
    dsimp only
    rw [pre j (by omega)]
    obtain ⟨i, rfl⟩ : ∃ i, j = i + 3 := ⟨j - 3, by omega⟩
    show congr_Meet.j1 (i + 1 + 1) _ _ _ _ _ _ _ = _
    simp only [congr_Meet.j1, Bool.false_eq_true, if_false]
    rw [u64_id (n := a.2.1) (by omega) (by omega), u64_id (n := b.2.1) (by omega) (by omega), hK _ (by omega)]
    simp only [Option.bind_some]
    rw [w64_id (n := a.2.2 - b.2.2) (by omega) (by omega), size_f (by omega) (by omega)]
    simp only [Option.bind_some]
    rw [if_neg (show ¬ d = 0 by omega), tm, if_neg (fun e => h5 (dvd_ab.mp (emod_zero_iff.mp e)))]; rfl

end Go.Proofs.YtfmmjekhknaniaaDoor.Core

namespace Go.Proofs.YtfmmjekhknaniaaDoor.Pr
open Go.RowKit Go.Proofs.YtfmmjekhknaniaaDoor.Given Go.Proofs.YtfmmjekhknaniaaDoorW.PrintWords Go.Proofs.YtfmmjekhknaniaaDoorW.PrintLast Go.Proofs.YtfmmjekhknaniaaDoorW.PrintMore
attribute [local go_sem] max2_int min2_int max_two min_two max_three min_three max_four min_four   -- for this text's walks alone
set_option linter.unusedVariables false
set_option linter.unusedSimpArgs false

def congr_holds.f (a0 : Int) (a1 : Int) (a2 : Int) : Option (Bool) := if a0 = 14 then (some (a1 == a2)) else (if a0 = 15 then (some (a1 != a2)) else (if a0 = 16 then (some (decide (a1 < a2))) else (if a0 = 17 then (some (decide (a1 ≤ a2))) else (if a0 = 18 then (some (decide (a1 > a2))) else (some (decide (a1 ≥ a2)))))))
set_option maxHeartbeats 8000000 in
set_option maxRecDepth 100000 in
theorem congr_holds.calls (a0 : Int) (a1 : Int) (a2 : Int) (r : Bool) (w : World) (h : congr_holds.f a0 a1 a2 = some r) :
  Calls Tryd.prog 67 #[.int .i64 a0, .int .i64 a1, .int .i64 a2] w fun e w' => e = .returned (.bool r) ∧ Drawn0 w w' := by
 have H : (if a0 = 14 then (some (a1 == a2)) else (if a0 = 15 then (some (a1 != a2)) else (if a0 = 16 then (some (decide (a1 < a2))) else (if a0 = 17 then (some (decide (a1 ≤ a2))) else (if a0 = 18 then (some (decide (a1 > a2))) else (some (decide (a1 ≥ a2)))))))) = some r := h
 clear h
 by_cases c4 : a0 = 14
 ·
  rw [if_pos c4] at H
  have c4b0 : (a0 == 14) = true := beq_iff_eq.mpr c4
  have c4b1 : (a0 != 14) = false := bne_eq_false_iff_eq.mpr c4
  clear c4
  obtain rfl := Option.some.inj H
  go_enter Tryd.func67, Tryd.ntmps67
  go_wp2
  go_ret
  exact ⟨by first | rfl | (simp; done) | (simp [*]; done), by repeat (first | exact Drawn0.refl _ | apply Drawn0.step)⟩
 ·
  rw [if_neg c4] at H
  have c4b0 : (a0 == 14) = false := beq_eq_false_iff_ne.mpr c4
  have c4b1 : (a0 != 14) = true := bne_iff_ne.mpr c4
  by_cases c5 : a0 = 15
  ·
   rw [if_pos c5] at H
   have c5b0 : (a0 == 15) = true := beq_iff_eq.mpr c5
   have c5b1 : (a0 != 15) = false := bne_eq_false_iff_eq.mpr c5
   clear c5
   obtain rfl := Option.some.inj H
   go_enter Tryd.func67, Tryd.ntmps67
   go_wp2
   go_ret
   exact ⟨by first | rfl | (simp; done) | (simp [*]; done), by repeat (first | exact Drawn0.refl _ | apply Drawn0.step)⟩
  ·
   rw [if_neg c5] at H
   have c5b0 : (a0 == 15) = false := beq_eq_false_iff_ne.mpr c5
   have c5b1 : (a0 != 15) = true := bne_iff_ne.mpr c5
   by_cases c6 : a0 = 16
   ·
    rw [if_pos c6] at H
    have c6b0 : (a0 == 16) = true := beq_iff_eq.mpr c6
    have c6b1 : (a0 != 16) = false := bne_eq_false_iff_eq.mpr c6
    clear c6
    obtain rfl := Option.some.inj H
    go_enter Tryd.func67, Tryd.ntmps67
    go_wp2
    go_ret
    exact ⟨by first | rfl | (simp; done) | (simp [*]; done), by repeat (first | exact Drawn0.refl _ | apply Drawn0.step)⟩
   ·
    rw [if_neg c6] at H
    have c6b0 : (a0 == 16) = false := beq_eq_false_iff_ne.mpr c6
    have c6b1 : (a0 != 16) = true := bne_iff_ne.mpr c6
    by_cases c7 : a0 = 17
    ·
     rw [if_pos c7] at H
     have c7b0 : (a0 == 17) = true := beq_iff_eq.mpr c7
     have c7b1 : (a0 != 17) = false := bne_eq_false_iff_eq.mpr c7
     clear c7
     obtain rfl := Option.some.inj H
     go_enter Tryd.func67, Tryd.ntmps67
     go_wp2
     go_ret
     exact ⟨by first | rfl | (simp; done) | (simp [*]; done), by repeat (first | exact Drawn0.refl _ | apply Drawn0.step)⟩
    ·
     rw [if_neg c7] at H
     have c7b0 : (a0 == 17) = false := beq_eq_false_iff_ne.mpr c7
     have c7b1 : (a0 != 17) = true := bne_iff_ne.mpr c7
     by_cases c8 : a0 = 18
     ·
      rw [if_pos c8] at H
      have c8b0 : (a0 == 18) = true := beq_iff_eq.mpr c8
      have c8b1 : (a0 != 18) = false := bne_eq_false_iff_eq.mpr c8
      clear c8
      obtain rfl := Option.some.inj H
      go_enter Tryd.func67, Tryd.ntmps67
      go_wp2
      go_ret
      exact ⟨by first | rfl | (simp; done) | (simp [*]; done), by repeat (first | exact Drawn0.refl _ | apply Drawn0.step)⟩
     ·
      rw [if_neg c8] at H
      have c8b0 : (a0 == 18) = false := beq_eq_false_iff_ne.mpr c8
      have c8b1 : (a0 != 18) = true := bne_iff_ne.mpr c8
      obtain rfl := Option.some.inj H
      go_enter Tryd.func67, Tryd.ntmps67
      go_wp2
      go_ret
      exact ⟨by first | rfl | (simp; done) | (simp [*]; done), by repeat (first | exact Drawn0.refl _ | apply Drawn0.step)⟩

end Go.Proofs.YtfmmjekhknaniaaDoor.Pr

