/-
  gimballaw31.CongrLattice returns true, whatever the three congruences and the number, in every world in which the listed tables read as listed: the row, and its card (the tables tied to the program's text). No further condition.
-/
import Derived.Test.YtfmmjekhknaniaaDoorLatP5
import Derived.Test.YtfmmjekhknaniaaDoorLatP6
namespace Go.Proofs.YtfmmjekhknaniaaDoor.Pr
open Go.RowKit Go.Proofs.YtfmmjekhknaniaaDoor.Given Go.Proofs.YtfmmjekhknaniaaDoorW.PrintWords Go.Proofs.YtfmmjekhknaniaaDoorW.PrintLast Go.Proofs.YtfmmjekhknaniaaDoorW.PrintMore
attribute [local go_sem] max2_int min2_int max_two min_two max_three min_three max_four min_four   -- for this text's walks alone
set_option linter.unusedVariables false
set_option linter.unusedSimpArgs false

mutual
def congr_Meet.j0 : Nat → Bool → Bool → Int → Int → Bool → Int → Int → Option (Bool × Int × Int)
  | 0, _, _, _, _, _, _, _ => none
  | k + 1, x11, x198000, x198001, x198002, x199000, x199001, x199002 => if x11 = true then ((congr_none.f).bind fun bt200 => (some (bt200.1, bt200.2.1, bt200.2.2))) else (if x198001 = 0 then (congr_Meet.j1 k true x198000 x198001 x198002 x199000 x199001 x199002) else (congr_Meet.j1 k (x199001 == 0) x198000 x198001 x198002 x199000 x199001 x199002))
def congr_Meet.j1 : Nat → Bool → Bool → Int → Int → Bool → Int → Int → Option (Bool × Int × Int)
  | 0, _, _, _, _, _, _, _ => none
  | k + 1, x19, x198000, x198001, x198002, x199000, x199001, x199002 => if x19 = true then (if x198001 = 0 then (congr_Meet.j2 k x198000 x198001 x198002 x199000 x199001 x199002) else (congr_Meet.j2 k x199000 x199001 x199002 x198000 x198001 x198002)) else ((congr_gcd_uint64.f k (IntKind.u64.wrap (x198001)) (IntKind.u64.wrap (x199001))).bind fun t207 => ((congr_size.f (wrap64 (x198002 - x199002))).bind fun t208 => (if t207 = 0 then (none) else (if (Int.tmod t208 t207) = 0 then (if (IntKind.u64.wrap (Int.tdiv (IntKind.u64.wrap (x199001)) t207)) > 1 then (if (wrap64 (t207)) = 0 then (none) else ((congr_rest.f (wrap64 (Int.tdiv (wrap64 (x199002 - x198002)) (wrap64 (t207)))) (IntKind.u64.wrap (Int.tdiv (IntKind.u64.wrap (x199001)) t207))).bind fun t212 => (if (IntKind.u64.wrap (Int.tdiv (IntKind.u64.wrap (x199001)) t207)) = 0 then (none) else ((congr_inverse.f k (Int.tmod (IntKind.u64.wrap (Int.tdiv (IntKind.u64.wrap (x198001)) t207)) (IntKind.u64.wrap (Int.tdiv (IntKind.u64.wrap (x199001)) t207))) (IntKind.u64.wrap (Int.tdiv (IntKind.u64.wrap (x199001)) t207))).bind fun t213 => ((bits_Mul64.f t212 t213).bind fun bt214 => ((congr_words_rest.f bt214.1 bt214.2 (IntKind.u64.wrap (Int.tdiv (IntKind.u64.wrap (x199001)) t207))).bind fun t216 => ((congr_of.f k (IntKind.u64.wrap ((IntKind.u64.wrap (x198001)) * (IntKind.u64.wrap (Int.tdiv (IntKind.u64.wrap (x199001)) t207)))) (IntKind.u64.wrap ((IntKind.u64.wrap ((IntKind.u64.wrap (x198001)) * t216)) + (IntKind.u64.wrap (x198002))))).bind fun bt217 => (some (bt217.1, bt217.2.1, bt217.2.2))))))))) else ((congr_of.f k (IntKind.u64.wrap ((IntKind.u64.wrap (x198001)) * (IntKind.u64.wrap (Int.tdiv (IntKind.u64.wrap (x199001)) t207)))) (IntKind.u64.wrap ((IntKind.u64.wrap ((IntKind.u64.wrap (x198001)) * 0)) + (IntKind.u64.wrap (x198002))))).bind fun bt220 => (some (bt220.1, bt220.2.1, bt220.2.2)))) else ((congr_none.f).bind fun bt209 => (some (bt209.1, bt209.2.1, bt209.2.2)))))))
def congr_Meet.j2 : Nat → Bool → Int → Int → Bool → Int → Int → Option (Bool × Int × Int)
  | 0, _, _, _, _, _, _ => none
  | k + 1, x198000, x198001, x198002, x199000, x199001, x199002 => (congr_Has.f k x199000 x199001 x199002 x198002).bind fun t203 => (if t203 = true then (some (x198000, x198001, x198002)) else ((congr_none.f).bind fun bt204 => (some (bt204.1, bt204.2.1, bt204.2.2))))
end
def congr_Meet.f (k : Nat) (a0_0 : Bool) (a0_1 : Int) (a0_2 : Int) (a1_0 : Bool) (a1_1 : Int) (a1_2 : Int) : Option (Bool × Int × Int) := if a0_0 = true then (congr_Meet.j0 k true a0_0 a0_1 a0_2 a1_0 a1_1 a1_2) else (congr_Meet.j0 k a1_0 a0_0 a0_1 a0_2 a1_0 a1_1 a1_2)
theorem congr_Meet.mono_l : ∀ k, (∀ y0 y1 y2 y3 y4 y5 y6, LeO (congr_Meet.j0 k y0 y1 y2 y3 y4 y5 y6) (congr_Meet.j0 (k + 1) y0 y1 y2 y3 y4 y5 y6)) ∧ (∀ y0 y1 y2 y3 y4 y5 y6, LeO (congr_Meet.j1 k y0 y1 y2 y3 y4 y5 y6) (congr_Meet.j1 (k + 1) y0 y1 y2 y3 y4 y5 y6)) ∧ (∀ y0 y1 y2 y3 y4 y5, LeO (congr_Meet.j2 k y0 y1 y2 y3 y4 y5) (congr_Meet.j2 (k + 1) y0 y1 y2 y3 y4 y5))
  | 0 => ⟨fun _ _ _ _ _ _ _ r h => by simp [congr_Meet.j0] at h, fun _ _ _ _ _ _ _ r h => by simp [congr_Meet.j1] at h, fun _ _ _ _ _ _ r h => by simp [congr_Meet.j2] at h⟩
  | k + 1 => by
    obtain ⟨ih0, ih1, ih2⟩ := congr_Meet.mono_l k
    refine ⟨?_, ?_, ?_⟩
    · intro y0 y1 y2 y3 y4 y5 y6
      unfold congr_Meet.j0
      repeat' first
      | (with_reducible exact ih0 _ _ _ _ _ _ _)
      | (with_reducible exact ih1 _ _ _ _ _ _ _)
      | (with_reducible exact ih2 _ _ _ _ _ _)
      | (with_reducible exact congr_Has.mono _ _ _ _ _)
      | (with_reducible exact congr_gcd_uint64.mono _ _ _)
      | (with_reducible exact congr_inverse.mono _ _ _)
      | (with_reducible exact congr_of.mono _ _ _)
      | (with_reducible exact LeO.refl _)
      | (with_reducible exact LeO.none _)
      | (with_reducible refine LeO.ite ?_ ?_)
      | (with_reducible refine LeO.bind ?_ (fun _ => ?_))
      | exact ih0 _ _ _ _ _ _ _
      | exact ih1 _ _ _ _ _ _ _
      | exact ih2 _ _ _ _ _ _
      | exact congr_Has.mono _ _ _ _ _
      | exact congr_gcd_uint64.mono _ _ _
      | exact congr_inverse.mono _ _ _
      | exact congr_of.mono _ _ _
      | exact LeO.none _
      | refine LeO.ite ?_ ?_
      | refine LeO.bind ?_ (fun _ => ?_)
    · intro y0 y1 y2 y3 y4 y5 y6
      unfold congr_Meet.j1
      repeat' first
      | (with_reducible exact ih0 _ _ _ _ _ _ _)
      | (with_reducible exact ih1 _ _ _ _ _ _ _)
      | (with_reducible exact ih2 _ _ _ _ _ _)
      | (with_reducible exact congr_Has.mono _ _ _ _ _)
      | (with_reducible exact congr_gcd_uint64.mono _ _ _)
      | (with_reducible exact congr_inverse.mono _ _ _)
      | (with_reducible exact congr_of.mono _ _ _)
      | (with_reducible exact LeO.refl _)
      | (with_reducible exact LeO.none _)
      | (with_reducible refine LeO.ite ?_ ?_)
      | (with_reducible refine LeO.bind ?_ (fun _ => ?_))
      | exact ih0 _ _ _ _ _ _ _
      | exact ih1 _ _ _ _ _ _ _
      | exact ih2 _ _ _ _ _ _
      | exact congr_Has.mono _ _ _ _ _
      | exact congr_gcd_uint64.mono _ _ _
      | exact congr_inverse.mono _ _ _
      | exact congr_of.mono _ _ _
      | exact LeO.none _
      | refine LeO.ite ?_ ?_
      | refine LeO.bind ?_ (fun _ => ?_)
    · intro y0 y1 y2 y3 y4 y5
      unfold congr_Meet.j2
      repeat' first
      | (with_reducible exact ih0 _ _ _ _ _ _ _)
      | (with_reducible exact ih1 _ _ _ _ _ _ _)
      | (with_reducible exact ih2 _ _ _ _ _ _)
      | (with_reducible exact congr_Has.mono _ _ _ _ _)
      | (with_reducible exact congr_gcd_uint64.mono _ _ _)
      | (with_reducible exact congr_inverse.mono _ _ _)
      | (with_reducible exact congr_of.mono _ _ _)
      | (with_reducible exact LeO.refl _)
      | (with_reducible exact LeO.none _)
      | (with_reducible refine LeO.ite ?_ ?_)
      | (with_reducible refine LeO.bind ?_ (fun _ => ?_))
      | exact ih0 _ _ _ _ _ _ _
      | exact ih1 _ _ _ _ _ _ _
      | exact ih2 _ _ _ _ _ _
      | exact congr_Has.mono _ _ _ _ _
      | exact congr_gcd_uint64.mono _ _ _
      | exact congr_inverse.mono _ _ _
      | exact congr_of.mono _ _ _
      | exact LeO.none _
      | refine LeO.ite ?_ ?_
      | refine LeO.bind ?_ (fun _ => ?_)
theorem congr_Meet.mono : ∀ a0 a1 a2 a3 a4 a5 k, LeO (congr_Meet.f k a0 a1 a2 a3 a4 a5) (congr_Meet.f (k + 1) a0 a1 a2 a3 a4 a5) := by
  intro a0 a1 a2 a3 a4 a5 k
  obtain ⟨ih0, ih1, ih2⟩ := congr_Meet.mono_l k
  unfold congr_Meet.f
  repeat' first
      | (with_reducible exact ih0 _ _ _ _ _ _ _)
      | (with_reducible exact ih1 _ _ _ _ _ _ _)
      | (with_reducible exact ih2 _ _ _ _ _ _)
      | (with_reducible exact congr_Has.mono _ _ _ _ _)
      | (with_reducible exact congr_gcd_uint64.mono _ _ _)
      | (with_reducible exact congr_inverse.mono _ _ _)
      | (with_reducible exact congr_of.mono _ _ _)
      | (with_reducible exact LeO.refl _)
      | (with_reducible exact LeO.none _)
      | (with_reducible refine LeO.ite ?_ ?_)
      | (with_reducible refine LeO.bind ?_ (fun _ => ?_))
      | exact ih0 _ _ _ _ _ _ _
      | exact ih1 _ _ _ _ _ _ _
      | exact ih2 _ _ _ _ _ _
      | exact congr_Has.mono _ _ _ _ _
      | exact congr_gcd_uint64.mono _ _ _
      | exact congr_inverse.mono _ _ _
      | exact congr_of.mono _ _ _
      | exact LeO.none _
      | refine LeO.ite ?_ ?_
      | refine LeO.bind ?_ (fun _ => ?_)
def congr_Meet.T9 : Bool × List (List Nat × List Nat) := (true, [([], []), ([0], [0]), ([1], [1]), ([], []), ([3], [3]), ([4], [4]), ([2, 0, 1, 2], [2]), ([5, 6, 0, 1, 2, 3, 4, 5, 6], [5])])
def congr_Meet.B9 : List Nat := [0, 1, 3, 0, 8, 24, 7, 127]
theorem congr_Meet.tab9 : rtab .any (opsOf Tryd.f20 9) = congr_Meet.T9 := by kernel_rfl
theorem congr_Meet.bits9 : waitsOk congr_Meet.T9.2 congr_Meet.B9 = true := by kernel_rfl
def congr_Meet.T15 : Bool × List (List Nat × List Nat) := (true, [([], []), ([0], [0]), ([], []), ([2], [2]), ([1, 3], [1, 3]), ([], []), ([5], [5]), ([4, 6], [4, 6]), ([], []), ([], []), ([8, 9], [8, 9]), ([7, 10], [7, 10]), ([], []), ([], []), ([12, 13], [12, 13]), ([], []), ([], []), ([15, 16], [15, 16]), ([14, 17], [14, 17]), ([], []), ([], []), ([19, 20], [19, 20]), ([18, 21, 11], [18, 21]), ([11, 22, 22], [11, 22]), ([23], [23]), ([24], [24]), ([24], [24]), ([25, 23, 0, 1, 2, 3, 4, 5, 6, 7, 8, 9, 10, 11, 12, 13, 14, 15, 16, 17, 18, 19, 20, 21, 22, 23, 24, 25], [25]), ([26, 27, 0, 1, 2, 3, 4, 5, 6, 7, 8, 9, 10, 11, 12, 13, 14, 15, 16, 17, 18, 19, 20, 21, 22, 23, 24, 25, 26, 27], [26])])
def congr_Meet.B15 : List Nat := [0, 1, 0, 4, 15, 0, 32, 127, 0, 0, 768, 2047, 0, 0, 12288, 0, 0, 98304, 258048, 0, 0, 1572864, 4194303, 8388607, 16777215, 33554431, 33554431, 67108863, 268435455]
theorem congr_Meet.tab15 : rtab .any (opsOf Tryd.f20 15) = congr_Meet.T15 := by kernel_rfl
theorem congr_Meet.bits15 : waitsOk congr_Meet.T15.2 congr_Meet.B15 = true := by kernel_rfl
def congr_Meet.T17 : Bool × List (List Nat × List Nat) := (true, [([], []), ([], []), ([], []), ([1, 2], [1, 2]), ([0, 3], [0, 3]), ([], []), ([], []), ([5, 6], [5, 6]), ([], []), ([8], [8]), ([9], [9]), ([7, 10], [7, 10]), ([4, 11], [4, 11]), ([12, 12, 0, 1, 2, 3, 4, 5, 6, 7, 8, 9, 10, 11, 12], [12])])
def congr_Meet.B17 : List Nat := [0, 0, 0, 6, 15, 0, 0, 96, 0, 256, 768, 2016, 4095, 8191]
theorem congr_Meet.tab17 : rtab .any (opsOf Tryd.f20 17) = congr_Meet.T17 := by kernel_rfl
theorem congr_Meet.bits17 : waitsOk congr_Meet.T17.2 congr_Meet.B17 = true := by kernel_rfl
set_option maxHeartbeats 8000000 in
set_option maxRecDepth 100000 in
theorem congr_Meet.calls (k : Nat) (a0_0 : Bool) (a0_1 : Int) (a0_2 : Int) (a1_0 : Bool) (a1_1 : Int) (a1_2 : Int) (r1 : Bool) (r2 : Int) (r3 : Int) (w : World) (h : congr_Meet.f k a0_0 a0_1 a0_2 a1_0 a1_1 a1_2 = some (r1, r2, r3)) :
    Calls Tryd.prog 20 #[.agg #[.bool a0_0, .int .i64 a0_1, .int .i64 a0_2], .agg #[.bool a1_0, .int .i64 a1_1, .int .i64 a1_2]] w fun e w' => e = .returned (.agg #[.bool r1, .int .i64 r2, .int .i64 r3]) ∧ Below w.heap.size w w' := by
  have hu23 := Tryd.underlying23
  have hu67 := Tryd.underlying67
  have HB := Aside0.mk (Below.refl w.heap.size w)
  have H : (if a0_0 = true then (congr_Meet.j0 k true a0_0 a0_1 a0_2 a1_0 a1_1 a1_2) else (congr_Meet.j0 k a1_0 a0_0 a0_1 a0_2 a1_0 a1_1 a1_2)) = some (r1, r2, r3) := h
  clear h
  have HC3 := Aside0.mk H
  clear H
  go_enter Tryd.func20, Tryd.ntmps20
  go_upto_region 1 with (first | ((with_reducible refine gate_dst (N := 2) rfl ?_); refine box_event ?hg (N := 2) ?hd (cs := #[.bool a0_0, .int .i64 a0_1, .int .i64 a0_2]) (t := 23) ?hr ?_; (case hd => rfl); (case hg => rfl); (case hr => first | (go_simp; done) | (go_simp; rfl)); intro gb197 hg w4 hbox hb; have n0_ := Aside0.mk (below_step (by repeat (first | (with_reducible first | exact HB.out | apply below_alloc | apply pw_below_drewN | apply below_drew1) | exact HB.out)) hb); have n1_ := Aside0.mk (hbox); have n2_ := Aside0.mk ((by rw [hg]; exact (below_size (by repeat (first | (with_reducible first | exact HB.out | apply below_alloc | apply pw_below_drewN | apply below_drew1) | exact HB.out))) : w.heap.size ≤ gb197)); have n3_ := Aside0.mk ((by rw [hg]; exact (below_size (by repeat (first | (with_reducible first | exact HB.out | apply below_alloc | apply pw_below_drewN | apply below_drew1) | exact HB.out))) : w.heap.size ≤ gb197)); clear HB; have HB := n0_; have BK197 := n1_; have GW197 := n2_; have GE197 := n3_; clear n0_ n1_ n2_ n3_; clear hb hbox hg) | ((with_reducible refine gate_dst (N := 3) rfl ?_); refine box_event ?hg (N := 3) ?hd (cs := #[.bool a1_0, .int .i64 a1_1, .int .i64 a1_2]) (t := 23) ?hr ?_; (case hd => rfl); (case hg => rfl); (case hr => first | (go_simp; done) | (go_simp; rfl)); intro gb198 hg w5 hbox hb; have n0_ := Aside0.mk (blk_below (g := gb197) (o := .cells #[.bool a0_0, .int .i64 a0_1, .int .i64 a0_2] 23 (0, 0)) (by (with_reducible repeat (first | refine blk_drewN ?_ _ | refine blk_drew ?_ | refine blk_alloc ?_ _)); exact BK197.out) hb); have n1_ := Aside0.mk (below_step (by repeat (first | (with_reducible first | exact HB.out | apply below_alloc | apply pw_below_drewN | apply below_drew1 | refine below_set ?_ GE197.out) | exact HB.out)) hb); have n2_ := Aside0.mk (hbox); have n3_ := Aside0.mk ((by rw [hg]; exact (below_size (by repeat (first | (with_reducible first | exact HB.out | apply below_alloc | apply pw_below_drewN | apply below_drew1 | refine below_set ?_ GE197.out) | exact HB.out))) : w.heap.size ≤ gb198)); have n4_ := Aside0.mk ((by rw [hg]; exact (below_size (by repeat (first | (with_reducible first | exact HB.out | apply below_alloc | apply pw_below_drewN | apply below_drew1 | refine below_set ?_ GE197.out) | exact HB.out))) : w.heap.size ≤ gb198)); have n5_ := Aside0.mk ((by rw [hg]; exact Nat.ne_of_lt (blk_lt (g := gb197) (o := .cells #[.bool a0_0, .int .i64 a0_1, .int .i64 a0_2] 23 (0, 0)) (by (with_reducible repeat (first | refine blk_drewN ?_ _ | refine blk_drew ?_ | refine blk_alloc ?_ _)); exact BK197.out)) : gb197 ≠ gb198)); have n6_ := Aside0.mk ((by rw [hg]; exact Nat.ne_of_gt (blk_lt (g := gb197) (o := .cells #[.bool a0_0, .int .i64 a0_1, .int .i64 a0_2] 23 (0, 0)) (by (with_reducible repeat (first | refine blk_drewN ?_ _ | refine blk_drew ?_ | refine blk_alloc ?_ _)); exact BK197.out)) : gb198 ≠ gb197)); clear BK197; clear HB; have BK197 := n0_; have HB := n1_; have BK198 := n2_; have GW198 := n3_; have GE198 := n4_; have NB197_198 := n5_; have NB198_197 := n6_; clear n0_ n1_ n2_ n3_ n4_ n5_ n6_; clear hb hbox hg) | ((with_reducible refine gate_dst (N := 4) rfl ?_); refine box_event ?hg (N := 4) ?hd (cs := #[.bool false, .int .i64 0, .int .i64 0]) (t := 23) ?hr ?_; (case hd => rfl); (case hg => rfl); (case hr => first | (go_simp; done) | (go_simp; rfl)); intro gb199 hg w6 hbox hb; have n0_ := Aside0.mk (blk_below (g := gb197) (o := .cells #[.bool a0_0, .int .i64 a0_1, .int .i64 a0_2] 23 (0, 0)) (by (with_reducible repeat (first | refine blk_drewN ?_ _ | refine blk_drew ?_ | refine blk_alloc ?_ _)); exact BK197.out) hb); have n1_ := Aside0.mk (blk_below (g := gb198) (o := .cells #[.bool a1_0, .int .i64 a1_1, .int .i64 a1_2] 23 (0, 0)) (by (with_reducible repeat (first | refine blk_drewN ?_ _ | refine blk_drew ?_ | refine blk_alloc ?_ _)); exact BK198.out) hb); have n2_ := Aside0.mk (below_step (by repeat (first | (with_reducible first | exact HB.out | apply below_alloc | apply pw_below_drewN | apply below_drew1 | refine below_set ?_ GE197.out | refine below_set ?_ GE198.out) | exact HB.out)) hb); have n3_ := Aside0.mk (hbox); have n4_ := Aside0.mk ((by rw [hg]; exact (below_size (by repeat (first | (with_reducible first | exact HB.out | apply below_alloc | apply pw_below_drewN | apply below_drew1 | refine below_set ?_ GE197.out | refine below_set ?_ GE198.out) | exact HB.out))) : w.heap.size ≤ gb199)); have n5_ := Aside0.mk ((by rw [hg]; exact (below_size (by repeat (first | (with_reducible first | exact HB.out | apply below_alloc | apply pw_below_drewN | apply below_drew1 | refine below_set ?_ GE197.out | refine below_set ?_ GE198.out) | exact HB.out))) : w.heap.size ≤ gb199)); have n6_ := Aside0.mk ((by rw [hg]; exact Nat.ne_of_lt (blk_lt (g := gb197) (o := .cells #[.bool a0_0, .int .i64 a0_1, .int .i64 a0_2] 23 (0, 0)) (by (with_reducible repeat (first | refine blk_drewN ?_ _ | refine blk_drew ?_ | refine blk_alloc ?_ _)); exact BK197.out)) : gb197 ≠ gb199)); have n7_ := Aside0.mk ((by rw [hg]; exact Nat.ne_of_gt (blk_lt (g := gb197) (o := .cells #[.bool a0_0, .int .i64 a0_1, .int .i64 a0_2] 23 (0, 0)) (by (with_reducible repeat (first | refine blk_drewN ?_ _ | refine blk_drew ?_ | refine blk_alloc ?_ _)); exact BK197.out)) : gb199 ≠ gb197)); have n8_ := Aside0.mk ((by rw [hg]; exact Nat.ne_of_lt (blk_lt (g := gb198) (o := .cells #[.bool a1_0, .int .i64 a1_1, .int .i64 a1_2] 23 (0, 0)) (by (with_reducible repeat (first | refine blk_drewN ?_ _ | refine blk_drew ?_ | refine blk_alloc ?_ _)); exact BK198.out)) : gb198 ≠ gb199)); have n9_ := Aside0.mk ((by rw [hg]; exact Nat.ne_of_gt (blk_lt (g := gb198) (o := .cells #[.bool a1_0, .int .i64 a1_1, .int .i64 a1_2] 23 (0, 0)) (by (with_reducible repeat (first | refine blk_drewN ?_ _ | refine blk_drew ?_ | refine blk_alloc ?_ _)); exact BK198.out)) : gb199 ≠ gb198)); clear BK197; clear BK198; clear HB; have BK197 := n0_; have BK198 := n1_; have HB := n2_; have BK199 := n3_; have GW199 := n4_; have GE199 := n5_; have NB197_199 := n6_; have NB199_197 := n7_; have NB198_199 := n8_; have NB199_198 := n9_; clear n0_ n1_ n2_ n3_ n4_ n5_ n6_ n7_ n8_ n9_; clear hb hbox hg))
  (try simp only [Act.put, List.setIfInBounds_toArray, List.set_cons_zero, List.set_cons_succ])
  go_cut [11] (fun v11 wc => ∃ (kq : Nat) (x11_2 : Bool), v11 = .bool x11_2 ∧ Aside0 (congr_Meet.j0 kq x11_2 a0_0 a0_1 a0_2 a1_0 a1_1 a1_2 = some (r1, r2, r3)) ∧ Aside0 (kq ≤ k) ∧ Aside0 (wc.heap[gb197]? = some (.cells #[.bool a0_0, .int .i64 a0_1, .int .i64 a0_2] 23 (0, 0))) ∧ Aside0 (wc.heap[gb198]? = some (.cells #[.bool a1_0, .int .i64 a1_1, .int .i64 a1_2] 23 (0, 0))) ∧ Aside0 (wc.heap[gb199]? = some (.cells #[.bool false, .int .i64 0, .int .i64 0] 23 (0, 0))) ∧ Aside0 (Below w.heap.size w wc))
  case first =>
    have H := HC3.out
    clear HC3
    by_cases c7 : a0_0 = true
    · subst c7
      have H1 : (congr_Meet.j0 k true true a0_1 a0_2 a1_0 a1_1 a1_2) = some (r1, r2, r3) := by rw [if_pos rfl] at H; exact H
      clear H
      have H := H1
      clear H1
      have H' := Aside0.mk H
      clear H
      have hnb8 := NB197_198.out
      have hnc8 := NB198_197.out
      have hnb9 := NB197_199.out
      have hnc9 := NB199_197.out
      have hcz10_0 : w6.cell? ⟨gb197, 0, none⟩ = some (.bool true) := (blk_cell BK197.out 0).trans rfl
      have hcz10_1 : w6.cell? ⟨gb197, 1, none⟩ = some (.int .i64 a0_1) := (blk_cell BK197.out 1).trans rfl
      have hcz10_2 : w6.cell? ⟨gb197, 2, none⟩ = some (.int .i64 a0_2) := (blk_cell BK197.out 2).trans rfl
      have hfz10_0 := blk_frozen BK197.out 0
      have hfz10_1 := blk_frozen BK197.out 1
      have hfz10_2 := blk_frozen BK197.out 2
      go_wp2
      go_meet
      case rel => exact ⟨_, (true), (by first | rfl | (simp; done) | (simp [*]; done)), H', ⟨by first | omega | exact Nat.le_refl _⟩, ⟨by (with_reducible repeat (first | refine blk_drewN ?_ _ | refine blk_drew ?_ | refine blk_alloc ?_ _)); exact BK197.out⟩, ⟨by (with_reducible repeat (first | refine blk_drewN ?_ _ | refine blk_drew ?_ | refine blk_alloc ?_ _)); exact BK198.out⟩, ⟨by (with_reducible repeat (first | refine blk_drewN ?_ _ | refine blk_drew ?_ | refine blk_alloc ?_ _)); exact BK199.out⟩, ⟨by repeat (first | (with_reducible first | exact HB.out | apply below_alloc | apply pw_below_drewN | apply below_drew1 | refine below_set ?_ GE197.out | refine below_set ?_ GE198.out | refine below_set ?_ GE199.out) | exact HB.out)⟩⟩
    · replace c7 := Bool.eq_false_iff.mpr c7
      subst c7
      have H1 : (congr_Meet.j0 k a1_0 false a0_1 a0_2 a1_0 a1_1 a1_2) = some (r1, r2, r3) := by rw [if_neg (show ¬ (false = true) by decide)] at H; exact H
      clear H
      have H := H1
      clear H1
      have H' := Aside0.mk H
      clear H
      have hnb11 := NB197_198.out
      have hnc11 := NB198_197.out
      have hnb12 := NB197_199.out
      have hnc12 := NB199_197.out
      have hcz13_0 : w6.cell? ⟨gb197, 0, none⟩ = some (.bool false) := (blk_cell BK197.out 0).trans rfl
      have hcz13_1 : w6.cell? ⟨gb197, 1, none⟩ = some (.int .i64 a0_1) := (blk_cell BK197.out 1).trans rfl
      have hcz13_2 : w6.cell? ⟨gb197, 2, none⟩ = some (.int .i64 a0_2) := (blk_cell BK197.out 2).trans rfl
      have hfz13_0 := blk_frozen BK197.out 0
      have hfz13_1 := blk_frozen BK197.out 1
      have hfz13_2 := blk_frozen BK197.out 2
      have hnb14 := NB198_199.out
      have hnc14 := NB199_198.out
      have hcz15_0 : w6.cell? ⟨gb198, 0, none⟩ = some (.bool a1_0) := (blk_cell BK198.out 0).trans rfl
      have hcz15_1 : w6.cell? ⟨gb198, 1, none⟩ = some (.int .i64 a1_1) := (blk_cell BK198.out 1).trans rfl
      have hcz15_2 : w6.cell? ⟨gb198, 2, none⟩ = some (.int .i64 a1_2) := (blk_cell BK198.out 2).trans rfl
      have hfz15_0 := blk_frozen BK198.out 0
      have hfz15_1 := blk_frozen BK198.out 1
      have hfz15_2 := blk_frozen BK198.out 2
      go_wp2
      go_meet
      case rel => exact ⟨_, (a1_0), (by first | rfl | (simp; done) | (simp [*]; done)), H', ⟨by first | omega | exact Nat.le_refl _⟩, ⟨by (with_reducible repeat (first | refine blk_drewN ?_ _ | refine blk_drew ?_ | refine blk_alloc ?_ _)); exact BK197.out⟩, ⟨by (with_reducible repeat (first | refine blk_drewN ?_ _ | refine blk_drew ?_ | refine blk_alloc ?_ _)); exact BK198.out⟩, ⟨by (with_reducible repeat (first | refine blk_drewN ?_ _ | refine blk_drew ?_ | refine blk_alloc ?_ _)); exact BK199.out⟩, ⟨by repeat (first | (with_reducible first | exact HB.out | apply below_alloc | apply pw_below_drewN | apply below_drew1 | refine below_set ?_ GE197.out | refine below_set ?_ GE198.out | refine below_set ?_ GE199.out) | exact HB.out)⟩⟩
  case rest =>
    clear HC3
    try clear c1
    try clear c2
    try clear p2
    try clear c7
    try clear c8
    try clear c9
    try clear c11
    try clear c12
    try clear c14
    try clear hcz10_0
    try clear hcz10_1
    try clear hcz10_2
    try clear hcz13_0
    try clear hcz13_1
    try clear hcz13_2
    try clear hcz15_0
    try clear hcz15_1
    try clear hcz15_2
    try clear hfz10_0
    try clear hfz10_1
    try clear hfz10_2
    try clear hfz13_0
    try clear hfz13_1
    try clear hfz13_2
    try clear hfz15_0
    try clear hfz15_1
    try clear hfz15_2
    obtain ⟨kq, x11_2, rfl, HA, HJ2, BK197, BK198, BK199, HB⟩ := hcut
    cases kq with
    | zero => exact absurd HA.out (by simp [congr_Meet.j0])
    | succ kj2 =>
      have H := HA.out
      clear HA
      simp only [congr_Meet.j0] at H
      by_cases c16 : x11_2 = true
      · subst c16
        have H1 : ((congr_none.f).bind fun bt200 => (some (bt200.1, bt200.2.1, bt200.2.2))) = some (r1, r2, r3) := by rw [if_pos rfl] at H; exact H
        clear H
        have H := H1
        clear H1
        replace H := Option.bind_eq_some_iff.mp H
        obtain ⟨⟨t200, t201, t202⟩, A170, H⟩ := H
        replace H : (some (t200, t201, t202)) = some (r1, r2, r3) := H
        have A17 := Aside0.mk A170
        clear A170
        simp only [Option.some.injEq, Prod.mk.injEq] at H
        obtain ⟨rfl, rfl, rfl⟩ := H
        go_wp2_with (first | ((with_reducible refine gate_callee (f := 56) rfl ?_); refine goesL_ (some 18) rfl rfl Tryd.func56 (by kernel_rfl) rfl #[] rfl (by (try simp only [List.map_toArray, List.map_cons, List.map_nil]); first | done | rfl | (simp only [List.length_drop, List.length_take]; rfl)) ?_; (with_reducible refine (congr_none.calls  t200 t201 t202 _ A17.out).mono ?_); rintro e w18 ⟨rfl, hb⟩; refine ⟨_, rfl, ?_⟩; have n0_ := Aside0.mk (blk_below (g := gb197) (o := .cells #[.bool a0_0, .int .i64 a0_1, .int .i64 a0_2] 23 (0, 0)) (by (with_reducible repeat (first | refine blk_drewN ?_ _ | refine blk_drew ?_ | refine blk_alloc ?_ _)); exact BK197.out) hb); have n1_ := Aside0.mk (blk_below (g := gb198) (o := .cells #[.bool a1_0, .int .i64 a1_1, .int .i64 a1_2] 23 (0, 0)) (by (with_reducible repeat (first | refine blk_drewN ?_ _ | refine blk_drew ?_ | refine blk_alloc ?_ _)); exact BK198.out) hb); have n2_ := Aside0.mk (blk_below (g := gb199) (o := .cells #[.bool false, .int .i64 0, .int .i64 0] 23 (0, 0)) (by (with_reducible repeat (first | refine blk_drewN ?_ _ | refine blk_drew ?_ | refine blk_alloc ?_ _)); exact BK199.out) hb); have n3_ := Aside0.mk (below_step (by repeat (first | (with_reducible first | exact HB.out | apply below_alloc | apply pw_below_drewN | apply below_drew1 | refine below_set ?_ GE197.out | refine below_set ?_ GE198.out | refine below_set ?_ GE199.out) | exact HB.out)) hb); clear BK197; clear BK198; clear BK199; clear HB; have BK197 := n0_; have BK198 := n1_; have BK199 := n2_; have HB := n3_; clear n0_ n1_ n2_ n3_; (try clear hb); (try clear hb2); (try clear hk); (try clear hi); have hnb19 := NB199_197.out; have hnc19 := NB197_199.out; have hnb20 := NB199_198.out; have hnc20 := NB198_199.out; have hcz21_0 : w18.cell? ⟨gb199, 0, none⟩ = some (.bool false) := (blk_cell BK199.out 0).trans rfl; have hcz21_1 : w18.cell? ⟨gb199, 1, none⟩ = some (.int .i64 0) := (blk_cell BK199.out 1).trans rfl; have hcz21_2 : w18.cell? ⟨gb199, 2, none⟩ = some (.int .i64 0) := (blk_cell BK199.out 2).trans rfl; have hfz21_0 := blk_frozen BK199.out 0; have hfz21_1 := blk_frozen BK199.out 1; have hfz21_2 := blk_frozen BK199.out 2))
        refine bodyPost_ret (results_cell_row rfl _ _ gb199 23 #[.bool t200, .int .i64 t201, .int .i64 t202] (0, 0) _ rfl (by (with_reducible repeat (first | refine blk_drewN ?_ _ | refine blk_drew ?_ | refine blk_alloc ?_ _)); refine blk_put (cs := #[.bool t200, .int .i64 t201, .int .i64 0]) ?_ 2 _ rfl; (with_reducible repeat (first | refine blk_drewN ?_ _ | refine blk_drew ?_ | refine blk_alloc ?_ _)); refine blk_put (cs := #[.bool t200, .int .i64 0, .int .i64 0]) ?_ 1 _ rfl; (with_reducible repeat (first | refine blk_drewN ?_ _ | refine blk_drew ?_ | refine blk_alloc ?_ _)); refine blk_put (cs := #[.bool false, .int .i64 0, .int .i64 0]) ?_ 0 _ rfl; (with_reducible repeat (first | refine blk_drewN ?_ _ | refine blk_drew ?_ | refine blk_alloc ?_ _)); exact BK199.out) Tryd.underlying23 rfl (by kernel_rfl)) rfl ?_
        exact ⟨by first | rfl | (simp [errW_none, errW_some] <;> rfl) | (simp [*, errW_none, errW_some] <;> rfl), by repeat (first | (with_reducible first | exact HB.out | apply below_alloc | apply pw_below_drewN | apply below_drew1 | refine below_set ?_ GE197.out | refine below_set ?_ GE198.out | refine below_set ?_ GE199.out) | exact HB.out)⟩
      · replace c16 := Bool.eq_false_iff.mpr c16
        subst c16
        have H1 : (if a0_1 = 0 then (congr_Meet.j1 kj2 true a0_0 a0_1 a0_2 a1_0 a1_1 a1_2) else (congr_Meet.j1 kj2 (a1_1 == 0) a0_0 a0_1 a0_2 a1_0 a1_1 a1_2)) = some (r1, r2, r3) := by rw [if_neg (show ¬ (false = true) by decide)] at H; exact H
        clear H
        have H := H1
        clear H1
        have HC22 := Aside0.mk H
        clear H
        go_upto_region 3 with (fail)
        go_cut [19] (fun v19 wc => ∃ (kq : Nat) (x19_21 : Bool), v19 = .bool x19_21 ∧ Aside0 (congr_Meet.j1 kq x19_21 a0_0 a0_1 a0_2 a1_0 a1_1 a1_2 = some (r1, r2, r3)) ∧ Aside0 (kq ≤ kj2) ∧ Aside0 (wc.heap[gb197]? = some (.cells #[.bool a0_0, .int .i64 a0_1, .int .i64 a0_2] 23 (0, 0))) ∧ Aside0 (wc.heap[gb198]? = some (.cells #[.bool a1_0, .int .i64 a1_1, .int .i64 a1_2] 23 (0, 0))) ∧ Aside0 (wc.heap[gb199]? = some (.cells #[.bool false, .int .i64 0, .int .i64 0] 23 (0, 0))) ∧ Aside0 (Below w.heap.size w wc))
        case first =>
          have H := HC22.out
          clear HC22
          by_cases c23 : a0_1 = 0
          · rw [if_pos c23] at H
            have c23b0 : (a0_1 == 0) = true := beq_iff_eq.mpr c23
            have c23b1 : (a0_1 != 0) = false := bne_eq_false_iff_eq.mpr c23
            clear c23
            (first | rw [c23b0] | (simp only [i64_w, i32_w]; rw [c23b0]) | skip)
            have H' := Aside0.mk H
            clear H
            have hnb24 := NB197_198.out
            have hnc24 := NB198_197.out
            have hnb25 := NB197_199.out
            have hnc25 := NB199_197.out
            have hcz26_0 : wc.cell? ⟨gb197, 0, none⟩ = some (.bool a0_0) := (blk_cell BK197.out 0).trans rfl
            have hcz26_1 : wc.cell? ⟨gb197, 1, none⟩ = some (.int .i64 a0_1) := (blk_cell BK197.out 1).trans rfl
            have hcz26_2 : wc.cell? ⟨gb197, 2, none⟩ = some (.int .i64 a0_2) := (blk_cell BK197.out 2).trans rfl
            have hfz26_0 := blk_frozen BK197.out 0
            have hfz26_1 := blk_frozen BK197.out 1
            have hfz26_2 := blk_frozen BK197.out 2
            go_wp2
            go_meet
            case rel => exact ⟨_, (true), (by first | rfl | (simp; done) | (simp [*]; done)), H', ⟨by have := HJ2.out; first | omega | exact Nat.le_refl _⟩, ⟨by (with_reducible repeat (first | refine blk_drewN ?_ _ | refine blk_drew ?_ | refine blk_alloc ?_ _)); exact BK197.out⟩, ⟨by (with_reducible repeat (first | refine blk_drewN ?_ _ | refine blk_drew ?_ | refine blk_alloc ?_ _)); exact BK198.out⟩, ⟨by (with_reducible repeat (first | refine blk_drewN ?_ _ | refine blk_drew ?_ | refine blk_alloc ?_ _)); exact BK199.out⟩, ⟨by repeat (first | (with_reducible first | exact HB.out | apply below_alloc | apply pw_below_drewN | apply below_drew1 | refine below_set ?_ GE197.out | refine below_set ?_ GE198.out | refine below_set ?_ GE199.out) | exact HB.out)⟩⟩
          · rw [if_neg c23] at H
            have c23b0 : (a0_1 == 0) = false := beq_eq_false_iff_ne.mpr c23
            have c23b1 : (a0_1 != 0) = true := bne_iff_ne.mpr c23
            (first | rw [c23b0] | (simp only [i64_w, i32_w]; rw [c23b0]) | skip)
            have H' := Aside0.mk H
            clear H
            have hnb27 := NB197_198.out
            have hnc27 := NB198_197.out
            have hnb28 := NB197_199.out
            have hnc28 := NB199_197.out
            have hcz29_0 : wc.cell? ⟨gb197, 0, none⟩ = some (.bool a0_0) := (blk_cell BK197.out 0).trans rfl
            have hcz29_1 : wc.cell? ⟨gb197, 1, none⟩ = some (.int .i64 a0_1) := (blk_cell BK197.out 1).trans rfl
            have hcz29_2 : wc.cell? ⟨gb197, 2, none⟩ = some (.int .i64 a0_2) := (blk_cell BK197.out 2).trans rfl
            have hfz29_0 := blk_frozen BK197.out 0
            have hfz29_1 := blk_frozen BK197.out 1
            have hfz29_2 := blk_frozen BK197.out 2
            have hnb30 := NB198_199.out
            have hnc30 := NB199_198.out
            have hcz31_0 : wc.cell? ⟨gb198, 0, none⟩ = some (.bool a1_0) := (blk_cell BK198.out 0).trans rfl
            have hcz31_1 : wc.cell? ⟨gb198, 1, none⟩ = some (.int .i64 a1_1) := (blk_cell BK198.out 1).trans rfl
            have hcz31_2 : wc.cell? ⟨gb198, 2, none⟩ = some (.int .i64 a1_2) := (blk_cell BK198.out 2).trans rfl
            have hfz31_0 := blk_frozen BK198.out 0
            have hfz31_1 := blk_frozen BK198.out 1
            have hfz31_2 := blk_frozen BK198.out 2
            go_wp2
            go_meet
            case rel => exact ⟨_, ((a1_1 == 0)), (by first | rfl | (simp; done) | (simp [*]; done)), H', ⟨by have := HJ2.out; first | omega | exact Nat.le_refl _⟩, ⟨by (with_reducible repeat (first | refine blk_drewN ?_ _ | refine blk_drew ?_ | refine blk_alloc ?_ _)); exact BK197.out⟩, ⟨by (with_reducible repeat (first | refine blk_drewN ?_ _ | refine blk_drew ?_ | refine blk_alloc ?_ _)); exact BK198.out⟩, ⟨by (with_reducible repeat (first | refine blk_drewN ?_ _ | refine blk_drew ?_ | refine blk_alloc ?_ _)); exact BK199.out⟩, ⟨by repeat (first | (with_reducible first | exact HB.out | apply below_alloc | apply pw_below_drewN | apply below_drew1 | refine below_set ?_ GE197.out | refine below_set ?_ GE198.out | refine below_set ?_ GE199.out) | exact HB.out)⟩⟩
        case rest =>
          clear HC22
          try clear c1
          try clear c2
          try clear p2
          try clear c3
          try clear c5
          try clear c7
          try clear c8
          try clear c9
          try clear c11
          try clear c12
          try clear c14
          try clear c16
          try clear c19
          try clear c20
          try clear c23
          try clear c23b0
          try clear c23b1
          try clear c24
          try clear c25
          try clear c27
          try clear c28
          try clear c30
          try clear hcz10_0
          try clear hcz10_1
          try clear hcz10_2
          try clear hcz13_0
          try clear hcz13_1
          try clear hcz13_2
          try clear hcz15_0
          try clear hcz15_1
          try clear hcz15_2
          try clear hcz21_0
          try clear hcz21_1
          try clear hcz21_2
          try clear hcz26_0
          try clear hcz26_1
          try clear hcz26_2
          try clear hcz29_0
          try clear hcz29_1
          try clear hcz29_2
          try clear hcz31_0
          try clear hcz31_1
          try clear hcz31_2
          try clear hfz10_0
          try clear hfz10_1
          try clear hfz10_2
          try clear hfz13_0
          try clear hfz13_1
          try clear hfz13_2
          try clear hfz15_0
          try clear hfz15_1
          try clear hfz15_2
          try clear hfz21_0
          try clear hfz21_1
          try clear hfz21_2
          try clear hfz26_0
          try clear hfz26_1
          try clear hfz26_2
          try clear hfz29_0
          try clear hfz29_1
          try clear hfz29_2
          try clear hfz31_0
          try clear hfz31_1
          try clear hfz31_2
          try clear p2
          obtain ⟨kq, x19_21, rfl, HA, HJ21, BK197, BK198, BK199, HB⟩ := hcut
          cases kq with
          | zero => exact absurd HA.out (by simp [congr_Meet.j1])
          | succ kj21 =>
            have H := HA.out
            clear HA
            simp only [congr_Meet.j1] at H
            by_cases c32 : x19_21 = true
            · subst c32
              have H1 : (if a0_1 = 0 then (congr_Meet.j2 kj21 a0_0 a0_1 a0_2 a1_0 a1_1 a1_2) else (congr_Meet.j2 kj21 a1_0 a1_1 a1_2 a0_0 a0_1 a0_2)) = some (r1, r2, r3) := by rw [if_pos rfl] at H; exact H
              clear H
              have H := H1
              clear H1
              have HC33 := Aside0.mk H
              clear H
              have hnb34 := NB197_198.out
              have hnc34 := NB198_197.out
              have hnb35 := NB197_199.out
              have hnc35 := NB199_197.out
              have hcz36_0 : wc.cell? ⟨gb197, 0, none⟩ = some (.bool a0_0) := (blk_cell BK197.out 0).trans rfl
              have hcz36_1 : wc.cell? ⟨gb197, 1, none⟩ = some (.int .i64 a0_1) := (blk_cell BK197.out 1).trans rfl
              have hcz36_2 : wc.cell? ⟨gb197, 2, none⟩ = some (.int .i64 a0_2) := (blk_cell BK197.out 2).trans rfl
              have hfz36_0 := blk_frozen BK197.out 0
              have hfz36_1 := blk_frozen BK197.out 1
              have hfz36_2 := blk_frozen BK197.out 2
              go_upto_if 30 with (fail)
              go_cut [] (fun wc => ∃ (kq : Nat) (x198000_32 : Bool) (x198001_32 : Int) (x198002_32 : Int) (x199000_32 : Bool) (x199001_32 : Int) (x199002_32 : Int), Aside0 (congr_Meet.j2 kq x198000_32 x198001_32 x198002_32 x199000_32 x199001_32 x199002_32 = some (r1, r2, r3)) ∧ Aside0 (kq ≤ kj21) ∧ Aside0 (wc.heap[gb197]? = some (.cells #[.bool x198000_32, .int .i64 x198001_32, .int .i64 x198002_32] 23 (0, 0))) ∧ Aside0 (wc.heap[gb198]? = some (.cells #[.bool x199000_32, .int .i64 x199001_32, .int .i64 x199002_32] 23 (0, 0))) ∧ Aside0 (wc.heap[gb199]? = some (.cells #[.bool false, .int .i64 0, .int .i64 0] 23 (0, 0))) ∧ Aside0 (Below w.heap.size w wc))
              case first =>
                have H := HC33.out
                clear HC33
                by_cases c37 : a0_1 = 0
                · rw [if_pos c37] at H
                  have c37b0 : (a0_1 == 0) = true := beq_iff_eq.mpr c37
                  have c37b1 : (a0_1 != 0) = false := bne_eq_false_iff_eq.mpr c37
                  clear c37
                  (first | rw [c37b0] | (simp only [i64_w, i32_w]; rw [c37b0]) | skip)
                  have H' := Aside0.mk H
                  clear H
                  go_wp2
                  go_meet
                  case rel => exact ⟨_, (a0_0), (a0_1), (a0_2), (a1_0), (a1_1), (a1_2), H', ⟨by have := HJ2.out; have := HJ21.out; first | omega | exact Nat.le_refl _⟩, ⟨by (with_reducible repeat (first | refine blk_drewN ?_ _ | refine blk_drew ?_ | refine blk_alloc ?_ _)); exact BK197.out⟩, ⟨by (with_reducible repeat (first | refine blk_drewN ?_ _ | refine blk_drew ?_ | refine blk_alloc ?_ _)); exact BK198.out⟩, ⟨by (with_reducible repeat (first | refine blk_drewN ?_ _ | refine blk_drew ?_ | refine blk_alloc ?_ _)); exact BK199.out⟩, ⟨by repeat (first | (with_reducible first | exact HB.out | apply below_alloc | apply pw_below_drewN | apply below_drew1 | refine below_set ?_ GE197.out | refine below_set ?_ GE198.out | refine below_set ?_ GE199.out) | exact HB.out)⟩⟩
                · rw [if_neg c37] at H
                  have c37b0 : (a0_1 == 0) = false := beq_eq_false_iff_ne.mpr c37
                  have c37b1 : (a0_1 != 0) = true := bne_iff_ne.mpr c37
                  (first | rw [c37b0] | (simp only [i64_w, i32_w]; rw [c37b0]) | skip)
                  have H' := Aside0.mk H
                  clear H
                  have hnb38 := NB198_197.out
                  have hnc38 := NB197_198.out
                  have hnb39 := NB198_199.out
                  have hnc39 := NB199_198.out
                  have hcz40_0 : wc.cell? ⟨gb198, 0, none⟩ = some (.bool a1_0) := (blk_cell BK198.out 0).trans rfl
                  have hcz40_1 : wc.cell? ⟨gb198, 1, none⟩ = some (.int .i64 a1_1) := (blk_cell BK198.out 1).trans rfl
                  have hcz40_2 : wc.cell? ⟨gb198, 2, none⟩ = some (.int .i64 a1_2) := (blk_cell BK198.out 2).trans rfl
                  have hfz40_0 := blk_frozen BK198.out 0
                  have hfz40_1 := blk_frozen BK198.out 1
                  have hfz40_2 := blk_frozen BK198.out 2
                  have hnb41 := NB197_199.out
                  have hnc41 := NB199_197.out
                  have hcz42_0 : wc.cell? ⟨gb197, 0, none⟩ = some (.bool a0_0) := (blk_cell BK197.out 0).trans rfl
                  have hcz42_1 : wc.cell? ⟨gb197, 1, none⟩ = some (.int .i64 a0_1) := (blk_cell BK197.out 1).trans rfl
                  have hcz42_2 : wc.cell? ⟨gb197, 2, none⟩ = some (.int .i64 a0_2) := (blk_cell BK197.out 2).trans rfl
                  have hfz42_0 := blk_frozen BK197.out 0
                  have hfz42_1 := blk_frozen BK197.out 1
                  have hfz42_2 := blk_frozen BK197.out 2
                  go_wp2
                  go_meet
                  case rel => exact ⟨_, (a1_0), (a1_1), (a1_2), (a0_0), (a0_1), (a0_2), H', ⟨by have := HJ2.out; have := HJ21.out; first | omega | exact Nat.le_refl _⟩, ⟨by (with_reducible repeat (first | refine blk_drewN ?_ _ | refine blk_drew ?_ | refine blk_alloc ?_ _)); refine blk_far ?_ NB197_198.out _; (with_reducible repeat (first | refine blk_drewN ?_ _ | refine blk_drew ?_ | refine blk_alloc ?_ _)); refine blk_far ?_ NB197_198.out _; (with_reducible repeat (first | refine blk_drewN ?_ _ | refine blk_drew ?_ | refine blk_alloc ?_ _)); refine blk_far ?_ NB197_198.out _; (with_reducible repeat (first | refine blk_drewN ?_ _ | refine blk_drew ?_ | refine blk_alloc ?_ _)); refine blk_put (cs := #[.bool a1_0, .int .i64 a1_1, .int .i64 a0_2]) ?_ 2 _ rfl; (with_reducible repeat (first | refine blk_drewN ?_ _ | refine blk_drew ?_ | refine blk_alloc ?_ _)); refine blk_put (cs := #[.bool a1_0, .int .i64 a0_1, .int .i64 a0_2]) ?_ 1 _ rfl; (with_reducible repeat (first | refine blk_drewN ?_ _ | refine blk_drew ?_ | refine blk_alloc ?_ _)); refine blk_put (cs := #[.bool a0_0, .int .i64 a0_1, .int .i64 a0_2]) ?_ 0 _ rfl; (with_reducible repeat (first | refine blk_drewN ?_ _ | refine blk_drew ?_ | refine blk_alloc ?_ _)); exact BK197.out⟩, ⟨by (with_reducible repeat (first | refine blk_drewN ?_ _ | refine blk_drew ?_ | refine blk_alloc ?_ _)); refine blk_put (cs := #[.bool a0_0, .int .i64 a0_1, .int .i64 a1_2]) ?_ 2 _ rfl; (with_reducible repeat (first | refine blk_drewN ?_ _ | refine blk_drew ?_ | refine blk_alloc ?_ _)); refine blk_put (cs := #[.bool a0_0, .int .i64 a1_1, .int .i64 a1_2]) ?_ 1 _ rfl; (with_reducible repeat (first | refine blk_drewN ?_ _ | refine blk_drew ?_ | refine blk_alloc ?_ _)); refine blk_put (cs := #[.bool a1_0, .int .i64 a1_1, .int .i64 a1_2]) ?_ 0 _ rfl; (with_reducible repeat (first | refine blk_drewN ?_ _ | refine blk_drew ?_ | refine blk_alloc ?_ _)); refine blk_far ?_ NB198_197.out _; (with_reducible repeat (first | refine blk_drewN ?_ _ | refine blk_drew ?_ | refine blk_alloc ?_ _)); refine blk_far ?_ NB198_197.out _; (with_reducible repeat (first | refine blk_drewN ?_ _ | refine blk_drew ?_ | refine blk_alloc ?_ _)); refine blk_far ?_ NB198_197.out _; (with_reducible repeat (first | refine blk_drewN ?_ _ | refine blk_drew ?_ | refine blk_alloc ?_ _)); exact BK198.out⟩, ⟨by (with_reducible repeat (first | refine blk_drewN ?_ _ | refine blk_drew ?_ | refine blk_alloc ?_ _)); refine blk_far ?_ NB199_198.out _; (with_reducible repeat (first | refine blk_drewN ?_ _ | refine blk_drew ?_ | refine blk_alloc ?_ _)); refine blk_far ?_ NB199_198.out _; (with_reducible repeat (first | refine blk_drewN ?_ _ | refine blk_drew ?_ | refine blk_alloc ?_ _)); refine blk_far ?_ NB199_198.out _; (with_reducible repeat (first | refine blk_drewN ?_ _ | refine blk_drew ?_ | refine blk_alloc ?_ _)); refine blk_far ?_ NB199_197.out _; (with_reducible repeat (first | refine blk_drewN ?_ _ | refine blk_drew ?_ | refine blk_alloc ?_ _)); refine blk_far ?_ NB199_197.out _; (with_reducible repeat (first | refine blk_drewN ?_ _ | refine blk_drew ?_ | refine blk_alloc ?_ _)); refine blk_far ?_ NB199_197.out _; (with_reducible repeat (first | refine blk_drewN ?_ _ | refine blk_drew ?_ | refine blk_alloc ?_ _)); exact BK199.out⟩, ⟨by repeat (first | (with_reducible first | exact HB.out | apply below_alloc | apply pw_below_drewN | apply below_drew1 | refine below_set ?_ GE197.out | refine below_set ?_ GE198.out | refine below_set ?_ GE199.out) | exact HB.out)⟩⟩
              case rest =>
                clear HC33
                try clear c1
                try clear c2
                try clear p2
                try clear c3
                try clear c4
                try clear c5
                try clear c7
                try clear c8
                try clear c9
                try clear c11
                try clear c12
                try clear c14
                try clear c16
                try clear c19
                try clear c20
                try clear c23
                try clear c23b0
                try clear c23b1
                try clear c24
                try clear c25
                try clear c27
                try clear c28
                try clear c30
                try clear c32
                try clear c34
                try clear c35
                try clear c37
                try clear c37b0
                try clear c37b1
                try clear c38
                try clear c39
                try clear c41
                try clear hcz10_0
                try clear hcz10_1
                try clear hcz10_2
                try clear hcz13_0
                try clear hcz13_1
                try clear hcz13_2
                try clear hcz15_0
                try clear hcz15_1
                try clear hcz15_2
                try clear hcz21_0
                try clear hcz21_1
                try clear hcz21_2
                try clear hcz26_0
                try clear hcz26_1
                try clear hcz26_2
                try clear hcz29_0
                try clear hcz29_1
                try clear hcz29_2
                try clear hcz31_0
                try clear hcz31_1
                try clear hcz31_2
                try clear hcz36_0
                try clear hcz36_1
                try clear hcz36_2
                try clear hcz40_0
                try clear hcz40_1
                try clear hcz40_2
                try clear hcz42_0
                try clear hcz42_1
                try clear hcz42_2
                try clear hfz10_0
                try clear hfz10_1
                try clear hfz10_2
                try clear hfz13_0
                try clear hfz13_1
                try clear hfz13_2
                try clear hfz15_0
                try clear hfz15_1
                try clear hfz15_2
                try clear hfz21_0
                try clear hfz21_1
                try clear hfz21_2
                try clear hfz26_0
                try clear hfz26_1
                try clear hfz26_2
                try clear hfz29_0
                try clear hfz29_1
                try clear hfz29_2
                try clear hfz31_0
                try clear hfz31_1
                try clear hfz31_2
                try clear hfz36_0
                try clear hfz36_1
                try clear hfz36_2
                try clear hfz40_0
                try clear hfz40_1
                try clear hfz40_2
                try clear hfz42_0
                try clear hfz42_1
                try clear hfz42_2
                try clear p2
                obtain ⟨kq, x198000_32, x198001_32, x198002_32, x199000_32, x199001_32, x199002_32, HA, HJ32, BK197, BK198, BK199, HB⟩ := hcut
                cases kq with
                | zero => exact absurd HA.out (by simp [congr_Meet.j2])
                | succ kj32 =>
                  have H := HA.out
                  clear HA
                  simp only [congr_Meet.j2] at H
                  replace H := Option.bind_eq_some_iff.mp H
                  obtain ⟨t203, A430, H⟩ := H
                  replace H : (if t203 = true then (some (x198000_32, x198001_32, x198002_32)) else ((congr_none.f).bind fun bt204 => (some (bt204.1, bt204.2.1, bt204.2.2)))) = some (r1, r2, r3) := H
                  have A43 := Aside0.mk A430
                  clear A430
                  by_cases c44 : t203 = true
                  · subst c44
                    have H1 : (some (x198000_32, x198001_32, x198002_32)) = some (r1, r2, r3) := by rw [if_pos rfl] at H; exact H
                    clear H
                    have H := H1
                    clear H1
                    simp only [Option.some.injEq, Prod.mk.injEq] at H
                    obtain ⟨rfl, rfl, rfl⟩ := H
                    have hnb45 := NB198_197.out
                    have hnc45 := NB197_198.out
                    have hnb46 := NB198_199.out
                    have hnc46 := NB199_198.out
                    have hcz47_0 : wc.cell? ⟨gb198, 0, none⟩ = some (.bool x199000_32) := (blk_cell BK198.out 0).trans rfl
                    have hcz47_1 : wc.cell? ⟨gb198, 1, none⟩ = some (.int .i64 x199001_32) := (blk_cell BK198.out 1).trans rfl
                    have hcz47_2 : wc.cell? ⟨gb198, 2, none⟩ = some (.int .i64 x199002_32) := (blk_cell BK198.out 2).trans rfl
                    have hfz47_0 := blk_frozen BK198.out 0
                    have hfz47_1 := blk_frozen BK198.out 1
                    have hfz47_2 := blk_frozen BK198.out 2
                    have hnb48 := NB197_199.out
                    have hnc48 := NB199_197.out
                    have hcz49_0 : wc.cell? ⟨gb197, 0, none⟩ = some (.bool x198000_32) := (blk_cell BK197.out 0).trans rfl
                    have hcz49_1 : wc.cell? ⟨gb197, 1, none⟩ = some (.int .i64 x198001_32) := (blk_cell BK197.out 1).trans rfl
                    have hcz49_2 : wc.cell? ⟨gb197, 2, none⟩ = some (.int .i64 x198002_32) := (blk_cell BK197.out 2).trans rfl
                    have hfz49_0 := blk_frozen BK197.out 0
                    have hfz49_1 := blk_frozen BK197.out 1
                    have hfz49_2 := blk_frozen BK197.out 2
                    go_wp2_with (first | ((with_reducible refine gate_callee (f := 14) rfl ?_); refine goesL_ (some 36) rfl rfl Tryd.func14 (by kernel_rfl) rfl #[.agg #[.bool x199000_32, .int .i64 x199001_32, .int .i64 x199002_32], .int .i64 x198002_32] rfl (by (try simp only [List.map_toArray, List.map_cons, List.map_nil]); first | done | rfl | (simp only [List.length_drop, List.length_take]; rfl)) ?_; (with_reducible refine (congr_Has.calls kj32 x199000_32 x199001_32 x199002_32 x198002_32 true _ A43.out).mono ?_); rintro e w50 ⟨rfl, hb⟩; refine ⟨_, rfl, ?_⟩; have n0_ := Aside0.mk (blk_below (g := gb197) (o := .cells #[.bool x198000_32, .int .i64 x198001_32, .int .i64 x198002_32] 23 (0, 0)) (by (with_reducible repeat (first | refine blk_drewN ?_ _ | refine blk_drew ?_ | refine blk_alloc ?_ _)); exact BK197.out) hb); have n1_ := Aside0.mk (blk_below (g := gb198) (o := .cells #[.bool x199000_32, .int .i64 x199001_32, .int .i64 x199002_32] 23 (0, 0)) (by (with_reducible repeat (first | refine blk_drewN ?_ _ | refine blk_drew ?_ | refine blk_alloc ?_ _)); exact BK198.out) hb); have n2_ := Aside0.mk (blk_below (g := gb199) (o := .cells #[.bool false, .int .i64 0, .int .i64 0] 23 (0, 0)) (by (with_reducible repeat (first | refine blk_drewN ?_ _ | refine blk_drew ?_ | refine blk_alloc ?_ _)); exact BK199.out) hb); have n3_ := Aside0.mk (below_step (by repeat (first | (with_reducible first | exact HB.out | apply below_alloc | apply pw_below_drewN | apply below_drew1 | refine below_set ?_ GE197.out | refine below_set ?_ GE198.out | refine below_set ?_ GE199.out) | exact HB.out)) hb); clear BK197; clear BK198; clear BK199; clear HB; have BK197 := n0_; have BK198 := n1_; have BK199 := n2_; have HB := n3_; clear n0_ n1_ n2_ n3_; (try clear hb); (try clear hb2); (try clear hk); (try clear hi); have hcz51_0 : w50.cell? ⟨gb197, 0, none⟩ = some (.bool x198000_32) := (blk_cell BK197.out 0).trans rfl; have hcz51_1 : w50.cell? ⟨gb197, 1, none⟩ = some (.int .i64 x198001_32) := (blk_cell BK197.out 1).trans rfl; have hcz51_2 : w50.cell? ⟨gb197, 2, none⟩ = some (.int .i64 x198002_32) := (blk_cell BK197.out 2).trans rfl; have hfz51_0 := blk_frozen BK197.out 0; have hfz51_1 := blk_frozen BK197.out 1; have hfz51_2 := blk_frozen BK197.out 2; have hcz52_0 : w50.cell? ⟨gb199, 0, none⟩ = some (.bool false) := (blk_cell BK199.out 0).trans rfl; have hcz52_1 : w50.cell? ⟨gb199, 1, none⟩ = some (.int .i64 0) := (blk_cell BK199.out 1).trans rfl; have hcz52_2 : w50.cell? ⟨gb199, 2, none⟩ = some (.int .i64 0) := (blk_cell BK199.out 2).trans rfl; have hfz52_0 := blk_frozen BK199.out 0; have hfz52_1 := blk_frozen BK199.out 1; have hfz52_2 := blk_frozen BK199.out 2))
                    refine bodyPost_ret (results_cell_row rfl _ _ gb199 23 #[.bool x198000_32, .int .i64 x198001_32, .int .i64 x198002_32] (0, 0) _ rfl (by (with_reducible repeat (first | refine blk_drewN ?_ _ | refine blk_drew ?_ | refine blk_alloc ?_ _)); refine blk_put (cs := #[.bool x198000_32, .int .i64 x198001_32, .int .i64 0]) ?_ 2 _ rfl; (with_reducible repeat (first | refine blk_drewN ?_ _ | refine blk_drew ?_ | refine blk_alloc ?_ _)); refine blk_put (cs := #[.bool x198000_32, .int .i64 0, .int .i64 0]) ?_ 1 _ rfl; (with_reducible repeat (first | refine blk_drewN ?_ _ | refine blk_drew ?_ | refine blk_alloc ?_ _)); refine blk_put (cs := #[.bool false, .int .i64 0, .int .i64 0]) ?_ 0 _ rfl; (with_reducible repeat (first | refine blk_drewN ?_ _ | refine blk_drew ?_ | refine blk_alloc ?_ _)); exact BK199.out) Tryd.underlying23 rfl (by kernel_rfl)) rfl ?_
                    exact ⟨by first | rfl | (simp [errW_none, errW_some] <;> rfl) | (simp [*, errW_none, errW_some] <;> rfl), by repeat (first | (with_reducible first | exact HB.out | apply below_alloc | apply pw_below_drewN | apply below_drew1 | refine below_set ?_ GE197.out | refine below_set ?_ GE198.out | refine below_set ?_ GE199.out) | exact HB.out)⟩
                  · replace c44 := Bool.eq_false_iff.mpr c44
                    subst c44
                    have H1 : ((congr_none.f).bind fun bt204 => (some (bt204.1, bt204.2.1, bt204.2.2))) = some (r1, r2, r3) := by rw [if_neg (show ¬ (false = true) by decide)] at H; exact H
                    clear H
                    have H := H1
                    clear H1
                    replace H := Option.bind_eq_some_iff.mp H
                    obtain ⟨⟨t204, t205, t206⟩, A530, H⟩ := H
                    replace H : (some (t204, t205, t206)) = some (r1, r2, r3) := H
                    have A53 := Aside0.mk A530
                    clear A530
                    simp only [Option.some.injEq, Prod.mk.injEq] at H
                    obtain ⟨rfl, rfl, rfl⟩ := H
                    have hnb54 := NB198_197.out
                    have hnc54 := NB197_198.out
                    have hnb55 := NB198_199.out
                    have hnc55 := NB199_198.out
                    have hcz56_0 : wc.cell? ⟨gb198, 0, none⟩ = some (.bool x199000_32) := (blk_cell BK198.out 0).trans rfl
                    have hcz56_1 : wc.cell? ⟨gb198, 1, none⟩ = some (.int .i64 x199001_32) := (blk_cell BK198.out 1).trans rfl
                    have hcz56_2 : wc.cell? ⟨gb198, 2, none⟩ = some (.int .i64 x199002_32) := (blk_cell BK198.out 2).trans rfl
                    have hfz56_0 := blk_frozen BK198.out 0
                    have hfz56_1 := blk_frozen BK198.out 1
                    have hfz56_2 := blk_frozen BK198.out 2
                    have hnb57 := NB197_199.out
                    have hnc57 := NB199_197.out
                    have hcz58_0 : wc.cell? ⟨gb197, 0, none⟩ = some (.bool x198000_32) := (blk_cell BK197.out 0).trans rfl
                    have hcz58_1 : wc.cell? ⟨gb197, 1, none⟩ = some (.int .i64 x198001_32) := (blk_cell BK197.out 1).trans rfl
                    have hcz58_2 : wc.cell? ⟨gb197, 2, none⟩ = some (.int .i64 x198002_32) := (blk_cell BK197.out 2).trans rfl
                    have hfz58_0 := blk_frozen BK197.out 0
                    have hfz58_1 := blk_frozen BK197.out 1
                    have hfz58_2 := blk_frozen BK197.out 2
                    go_wp2_with (first | ((with_reducible refine gate_callee (f := 14) rfl ?_); refine goesL_ (some 36) rfl rfl Tryd.func14 (by kernel_rfl) rfl #[.agg #[.bool x199000_32, .int .i64 x199001_32, .int .i64 x199002_32], .int .i64 x198002_32] rfl (by (try simp only [List.map_toArray, List.map_cons, List.map_nil]); first | done | rfl | (simp only [List.length_drop, List.length_take]; rfl)) ?_; (with_reducible refine (congr_Has.calls kj32 x199000_32 x199001_32 x199002_32 x198002_32 false _ A43.out).mono ?_); rintro e w59 ⟨rfl, hb⟩; refine ⟨_, rfl, ?_⟩; have n0_ := Aside0.mk (blk_below (g := gb197) (o := .cells #[.bool x198000_32, .int .i64 x198001_32, .int .i64 x198002_32] 23 (0, 0)) (by (with_reducible repeat (first | refine blk_drewN ?_ _ | refine blk_drew ?_ | refine blk_alloc ?_ _)); exact BK197.out) hb); have n1_ := Aside0.mk (blk_below (g := gb198) (o := .cells #[.bool x199000_32, .int .i64 x199001_32, .int .i64 x199002_32] 23 (0, 0)) (by (with_reducible repeat (first | refine blk_drewN ?_ _ | refine blk_drew ?_ | refine blk_alloc ?_ _)); exact BK198.out) hb); have n2_ := Aside0.mk (blk_below (g := gb199) (o := .cells #[.bool false, .int .i64 0, .int .i64 0] 23 (0, 0)) (by (with_reducible repeat (first | refine blk_drewN ?_ _ | refine blk_drew ?_ | refine blk_alloc ?_ _)); exact BK199.out) hb); have n3_ := Aside0.mk (below_step (by repeat (first | (with_reducible first | exact HB.out | apply below_alloc | apply pw_below_drewN | apply below_drew1 | refine below_set ?_ GE197.out | refine below_set ?_ GE198.out | refine below_set ?_ GE199.out) | exact HB.out)) hb); clear BK197; clear BK198; clear BK199; clear HB; have BK197 := n0_; have BK198 := n1_; have BK199 := n2_; have HB := n3_; clear n0_ n1_ n2_ n3_; (try clear hb); (try clear hb2); (try clear hk); (try clear hi)) | ((with_reducible refine gate_callee (f := 56) rfl ?_); refine goesL_ (some 38) rfl rfl Tryd.func56 (by kernel_rfl) rfl #[] rfl (by (try simp only [List.map_toArray, List.map_cons, List.map_nil]); first | done | rfl | (simp only [List.length_drop, List.length_take]; rfl)) ?_; (with_reducible refine (congr_none.calls  t204 t205 t206 _ A53.out).mono ?_); rintro e w60 ⟨rfl, hb⟩; refine ⟨_, rfl, ?_⟩; have n0_ := Aside0.mk (blk_below (g := gb197) (o := .cells #[.bool x198000_32, .int .i64 x198001_32, .int .i64 x198002_32] 23 (0, 0)) (by (with_reducible repeat (first | refine blk_drewN ?_ _ | refine blk_drew ?_ | refine blk_alloc ?_ _)); exact BK197.out) hb); have n1_ := Aside0.mk (blk_below (g := gb198) (o := .cells #[.bool x199000_32, .int .i64 x199001_32, .int .i64 x199002_32] 23 (0, 0)) (by (with_reducible repeat (first | refine blk_drewN ?_ _ | refine blk_drew ?_ | refine blk_alloc ?_ _)); exact BK198.out) hb); have n2_ := Aside0.mk (blk_below (g := gb199) (o := .cells #[.bool false, .int .i64 0, .int .i64 0] 23 (0, 0)) (by (with_reducible repeat (first | refine blk_drewN ?_ _ | refine blk_drew ?_ | refine blk_alloc ?_ _)); exact BK199.out) hb); have n3_ := Aside0.mk (below_step (by repeat (first | (with_reducible first | exact HB.out | apply below_alloc | apply pw_below_drewN | apply below_drew1 | refine below_set ?_ GE197.out | refine below_set ?_ GE198.out | refine below_set ?_ GE199.out) | exact HB.out)) hb); clear BK197; clear BK198; clear BK199; clear HB; have BK197 := n0_; have BK198 := n1_; have BK199 := n2_; have HB := n3_; clear n0_ n1_ n2_ n3_; (try clear hb); (try clear hb2); (try clear hk); (try clear hi); have hcz61_0 : w60.cell? ⟨gb199, 0, none⟩ = some (.bool false) := (blk_cell BK199.out 0).trans rfl; have hcz61_1 : w60.cell? ⟨gb199, 1, none⟩ = some (.int .i64 0) := (blk_cell BK199.out 1).trans rfl; have hcz61_2 : w60.cell? ⟨gb199, 2, none⟩ = some (.int .i64 0) := (blk_cell BK199.out 2).trans rfl; have hfz61_0 := blk_frozen BK199.out 0; have hfz61_1 := blk_frozen BK199.out 1; have hfz61_2 := blk_frozen BK199.out 2))
                    refine bodyPost_ret (results_cell_row rfl _ _ gb199 23 #[.bool t204, .int .i64 t205, .int .i64 t206] (0, 0) _ rfl (by (with_reducible repeat (first | refine blk_drewN ?_ _ | refine blk_drew ?_ | refine blk_alloc ?_ _)); refine blk_put (cs := #[.bool t204, .int .i64 t205, .int .i64 0]) ?_ 2 _ rfl; (with_reducible repeat (first | refine blk_drewN ?_ _ | refine blk_drew ?_ | refine blk_alloc ?_ _)); refine blk_put (cs := #[.bool t204, .int .i64 0, .int .i64 0]) ?_ 1 _ rfl; (with_reducible repeat (first | refine blk_drewN ?_ _ | refine blk_drew ?_ | refine blk_alloc ?_ _)); refine blk_put (cs := #[.bool false, .int .i64 0, .int .i64 0]) ?_ 0 _ rfl; (with_reducible repeat (first | refine blk_drewN ?_ _ | refine blk_drew ?_ | refine blk_alloc ?_ _)); exact BK199.out) Tryd.underlying23 rfl (by kernel_rfl)) rfl ?_
                    exact ⟨by first | rfl | (simp [errW_none, errW_some] <;> rfl) | (simp [*, errW_none, errW_some] <;> rfl), by repeat (first | (with_reducible first | exact HB.out | apply below_alloc | apply pw_below_drewN | apply below_drew1 | refine below_set ?_ GE197.out | refine below_set ?_ GE198.out | refine below_set ?_ GE199.out) | exact HB.out)⟩
            · replace c32 := Bool.eq_false_iff.mpr c32
              subst c32
              have H1 : ((congr_gcd_uint64.f kj21 (IntKind.u64.wrap (a0_1)) (IntKind.u64.wrap (a1_1))).bind fun t207 => ((congr_size.f (wrap64 (a0_2 - a1_2))).bind fun t208 => (if t207 = 0 then (none) else (if (Int.tmod t208 t207) = 0 then (if (IntKind.u64.wrap (Int.tdiv (IntKind.u64.wrap (a1_1)) t207)) > 1 then (if (wrap64 (t207)) = 0 then (none) else ((congr_rest.f (wrap64 (Int.tdiv (wrap64 (a1_2 - a0_2)) (wrap64 (t207)))) (IntKind.u64.wrap (Int.tdiv (IntKind.u64.wrap (a1_1)) t207))).bind fun t212 => (if (IntKind.u64.wrap (Int.tdiv (IntKind.u64.wrap (a1_1)) t207)) = 0 then (none) else ((congr_inverse.f kj21 (Int.tmod (IntKind.u64.wrap (Int.tdiv (IntKind.u64.wrap (a0_1)) t207)) (IntKind.u64.wrap (Int.tdiv (IntKind.u64.wrap (a1_1)) t207))) (IntKind.u64.wrap (Int.tdiv (IntKind.u64.wrap (a1_1)) t207))).bind fun t213 => ((bits_Mul64.f t212 t213).bind fun bt214 => ((congr_words_rest.f bt214.1 bt214.2 (IntKind.u64.wrap (Int.tdiv (IntKind.u64.wrap (a1_1)) t207))).bind fun t216 => ((congr_of.f kj21 (IntKind.u64.wrap ((IntKind.u64.wrap (a0_1)) * (IntKind.u64.wrap (Int.tdiv (IntKind.u64.wrap (a1_1)) t207)))) (IntKind.u64.wrap ((IntKind.u64.wrap ((IntKind.u64.wrap (a0_1)) * t216)) + (IntKind.u64.wrap (a0_2))))).bind fun bt217 => (some (bt217.1, bt217.2.1, bt217.2.2))))))))) else ((congr_of.f kj21 (IntKind.u64.wrap ((IntKind.u64.wrap (a0_1)) * (IntKind.u64.wrap (Int.tdiv (IntKind.u64.wrap (a1_1)) t207)))) (IntKind.u64.wrap ((IntKind.u64.wrap ((IntKind.u64.wrap (a0_1)) * 0)) + (IntKind.u64.wrap (a0_2))))).bind fun bt220 => (some (bt220.1, bt220.2.1, bt220.2.2)))) else ((congr_none.f).bind fun bt209 => (some (bt209.1, bt209.2.1, bt209.2.2))))))) = some (r1, r2, r3) := by rw [if_neg (show ¬ (false = true) by decide)] at H; exact H
              clear H
              have H := H1
              clear H1
              replace H := Option.bind_eq_some_iff.mp H
              obtain ⟨t207, A620, H⟩ := H
              replace H : ((congr_size.f (wrap64 (a0_2 - a1_2))).bind fun t208 => (if t207 = 0 then (none) else (if (Int.tmod t208 t207) = 0 then (if (IntKind.u64.wrap (Int.tdiv (IntKind.u64.wrap (a1_1)) t207)) > 1 then (if (wrap64 (t207)) = 0 then (none) else ((congr_rest.f (wrap64 (Int.tdiv (wrap64 (a1_2 - a0_2)) (wrap64 (t207)))) (IntKind.u64.wrap (Int.tdiv (IntKind.u64.wrap (a1_1)) t207))).bind fun t212 => (if (IntKind.u64.wrap (Int.tdiv (IntKind.u64.wrap (a1_1)) t207)) = 0 then (none) else ((congr_inverse.f kj21 (Int.tmod (IntKind.u64.wrap (Int.tdiv (IntKind.u64.wrap (a0_1)) t207)) (IntKind.u64.wrap (Int.tdiv (IntKind.u64.wrap (a1_1)) t207))) (IntKind.u64.wrap (Int.tdiv (IntKind.u64.wrap (a1_1)) t207))).bind fun t213 => ((bits_Mul64.f t212 t213).bind fun bt214 => ((congr_words_rest.f bt214.1 bt214.2 (IntKind.u64.wrap (Int.tdiv (IntKind.u64.wrap (a1_1)) t207))).bind fun t216 => ((congr_of.f kj21 (IntKind.u64.wrap ((IntKind.u64.wrap (a0_1)) * (IntKind.u64.wrap (Int.tdiv (IntKind.u64.wrap (a1_1)) t207)))) (IntKind.u64.wrap ((IntKind.u64.wrap ((IntKind.u64.wrap (a0_1)) * t216)) + (IntKind.u64.wrap (a0_2))))).bind fun bt217 => (some (bt217.1, bt217.2.1, bt217.2.2))))))))) else ((congr_of.f kj21 (IntKind.u64.wrap ((IntKind.u64.wrap (a0_1)) * (IntKind.u64.wrap (Int.tdiv (IntKind.u64.wrap (a1_1)) t207)))) (IntKind.u64.wrap ((IntKind.u64.wrap ((IntKind.u64.wrap (a0_1)) * 0)) + (IntKind.u64.wrap (a0_2))))).bind fun bt220 => (some (bt220.1, bt220.2.1, bt220.2.2)))) else ((congr_none.f).bind fun bt209 => (some (bt209.1, bt209.2.1, bt209.2.2)))))) = some (r1, r2, r3) := H
              have A62 := Aside0.mk A620
              clear A620
              replace H := Option.bind_eq_some_iff.mp H
              obtain ⟨t208, A630, H⟩ := H
              replace H : (if t207 = 0 then (none) else (if (Int.tmod t208 t207) = 0 then (if (IntKind.u64.wrap (Int.tdiv (IntKind.u64.wrap (a1_1)) t207)) > 1 then (if (wrap64 (t207)) = 0 then (none) else ((congr_rest.f (wrap64 (Int.tdiv (wrap64 (a1_2 - a0_2)) (wrap64 (t207)))) (IntKind.u64.wrap (Int.tdiv (IntKind.u64.wrap (a1_1)) t207))).bind fun t212 => (if (IntKind.u64.wrap (Int.tdiv (IntKind.u64.wrap (a1_1)) t207)) = 0 then (none) else ((congr_inverse.f kj21 (Int.tmod (IntKind.u64.wrap (Int.tdiv (IntKind.u64.wrap (a0_1)) t207)) (IntKind.u64.wrap (Int.tdiv (IntKind.u64.wrap (a1_1)) t207))) (IntKind.u64.wrap (Int.tdiv (IntKind.u64.wrap (a1_1)) t207))).bind fun t213 => ((bits_Mul64.f t212 t213).bind fun bt214 => ((congr_words_rest.f bt214.1 bt214.2 (IntKind.u64.wrap (Int.tdiv (IntKind.u64.wrap (a1_1)) t207))).bind fun t216 => ((congr_of.f kj21 (IntKind.u64.wrap ((IntKind.u64.wrap (a0_1)) * (IntKind.u64.wrap (Int.tdiv (IntKind.u64.wrap (a1_1)) t207)))) (IntKind.u64.wrap ((IntKind.u64.wrap ((IntKind.u64.wrap (a0_1)) * t216)) + (IntKind.u64.wrap (a0_2))))).bind fun bt217 => (some (bt217.1, bt217.2.1, bt217.2.2))))))))) else ((congr_of.f kj21 (IntKind.u64.wrap ((IntKind.u64.wrap (a0_1)) * (IntKind.u64.wrap (Int.tdiv (IntKind.u64.wrap (a1_1)) t207)))) (IntKind.u64.wrap ((IntKind.u64.wrap ((IntKind.u64.wrap (a0_1)) * 0)) + (IntKind.u64.wrap (a0_2))))).bind fun bt220 => (some (bt220.1, bt220.2.1, bt220.2.2)))) else ((congr_none.f).bind fun bt209 => (some (bt209.1, bt209.2.1, bt209.2.2))))) = some (r1, r2, r3) := H
              have A63 := Aside0.mk A630
              clear A630
              by_cases c64 : t207 = 0
              · rw [if_pos c64] at H
                exact absurd H (by simp)
              · rw [if_neg c64] at H
                have c64b0 : (t207 == 0) = false := beq_eq_false_iff_ne.mpr c64
                have c64b1 : (t207 != 0) = true := bne_iff_ne.mpr c64
                by_cases c65 : (Int.tmod t208 t207) = 0
                · rw [if_pos c65] at H
                  have c65b0 : ((Int.tmod t208 t207) == 0) = true := beq_iff_eq.mpr c65
                  have c65b1 : ((Int.tmod t208 t207) != 0) = false := bne_eq_false_iff_eq.mpr c65
                  clear c65
                  by_cases c66 : (IntKind.u64.wrap (Int.tdiv (IntKind.u64.wrap (a1_1)) t207)) > 1
                  · rw [if_pos c66] at H
                    have c66b0 : decide (1 < (IntKind.u64.wrap (Int.tdiv (IntKind.u64.wrap (a1_1)) t207))) = true := decide_eq_true c66
                    clear c66
                    by_cases c67 : (wrap64 (t207)) = 0
                    · rw [if_pos c67] at H
                      exact absurd H (by simp)
                    · rw [if_neg c67] at H
                      have c67b0 : ((wrap64 (t207)) == 0) = false := beq_eq_false_iff_ne.mpr c67
                      have c67b1 : ((wrap64 (t207)) != 0) = true := bne_iff_ne.mpr c67
                      replace H := Option.bind_eq_some_iff.mp H
                      obtain ⟨t212, A680, H⟩ := H
                      replace H : (if (IntKind.u64.wrap (Int.tdiv (IntKind.u64.wrap (a1_1)) t207)) = 0 then (none) else ((congr_inverse.f kj21 (Int.tmod (IntKind.u64.wrap (Int.tdiv (IntKind.u64.wrap (a0_1)) t207)) (IntKind.u64.wrap (Int.tdiv (IntKind.u64.wrap (a1_1)) t207))) (IntKind.u64.wrap (Int.tdiv (IntKind.u64.wrap (a1_1)) t207))).bind fun t213 => ((bits_Mul64.f t212 t213).bind fun bt214 => ((congr_words_rest.f bt214.1 bt214.2 (IntKind.u64.wrap (Int.tdiv (IntKind.u64.wrap (a1_1)) t207))).bind fun t216 => ((congr_of.f kj21 (IntKind.u64.wrap ((IntKind.u64.wrap (a0_1)) * (IntKind.u64.wrap (Int.tdiv (IntKind.u64.wrap (a1_1)) t207)))) (IntKind.u64.wrap ((IntKind.u64.wrap ((IntKind.u64.wrap (a0_1)) * t216)) + (IntKind.u64.wrap (a0_2))))).bind fun bt217 => (some (bt217.1, bt217.2.1, bt217.2.2))))))) = some (r1, r2, r3) := H
                      have A68 := Aside0.mk A680
                      clear A680
                      by_cases c69 : (IntKind.u64.wrap (Int.tdiv (IntKind.u64.wrap (a1_1)) t207)) = 0
                      · rw [if_pos c69] at H
                        exact absurd H (by simp)
                      · rw [if_neg c69] at H
                        have c69b0 : ((IntKind.u64.wrap (Int.tdiv (IntKind.u64.wrap (a1_1)) t207)) == 0) = false := beq_eq_false_iff_ne.mpr c69
                        have c69b1 : ((IntKind.u64.wrap (Int.tdiv (IntKind.u64.wrap (a1_1)) t207)) != 0) = true := bne_iff_ne.mpr c69
                        replace H := Option.bind_eq_some_iff.mp H
                        obtain ⟨t213, A700, H⟩ := H
                        replace H : ((bits_Mul64.f t212 t213).bind fun bt214 => ((congr_words_rest.f bt214.1 bt214.2 (IntKind.u64.wrap (Int.tdiv (IntKind.u64.wrap (a1_1)) t207))).bind fun t216 => ((congr_of.f kj21 (IntKind.u64.wrap ((IntKind.u64.wrap (a0_1)) * (IntKind.u64.wrap (Int.tdiv (IntKind.u64.wrap (a1_1)) t207)))) (IntKind.u64.wrap ((IntKind.u64.wrap ((IntKind.u64.wrap (a0_1)) * t216)) + (IntKind.u64.wrap (a0_2))))).bind fun bt217 => (some (bt217.1, bt217.2.1, bt217.2.2))))) = some (r1, r2, r3) := H
                        have A70 := Aside0.mk A700
                        clear A700
                        replace H := Option.bind_eq_some_iff.mp H
                        obtain ⟨⟨t214, t215⟩, A710, H⟩ := H
                        replace H : ((congr_words_rest.f t214 t215 (IntKind.u64.wrap (Int.tdiv (IntKind.u64.wrap (a1_1)) t207))).bind fun t216 => ((congr_of.f kj21 (IntKind.u64.wrap ((IntKind.u64.wrap (a0_1)) * (IntKind.u64.wrap (Int.tdiv (IntKind.u64.wrap (a1_1)) t207)))) (IntKind.u64.wrap ((IntKind.u64.wrap ((IntKind.u64.wrap (a0_1)) * t216)) + (IntKind.u64.wrap (a0_2))))).bind fun bt217 => (some (bt217.1, bt217.2.1, bt217.2.2)))) = some (r1, r2, r3) := H
                        have A71 := Aside0.mk A710
                        clear A710
                        replace H := Option.bind_eq_some_iff.mp H
                        obtain ⟨t216, A720, H⟩ := H
                        replace H : ((congr_of.f kj21 (IntKind.u64.wrap ((IntKind.u64.wrap (a0_1)) * (IntKind.u64.wrap (Int.tdiv (IntKind.u64.wrap (a1_1)) t207)))) (IntKind.u64.wrap ((IntKind.u64.wrap ((IntKind.u64.wrap (a0_1)) * t216)) + (IntKind.u64.wrap (a0_2))))).bind fun bt217 => (some (bt217.1, bt217.2.1, bt217.2.2))) = some (r1, r2, r3) := H
                        have A72 := Aside0.mk A720
                        clear A720
                        replace H := Option.bind_eq_some_iff.mp H
                        obtain ⟨⟨t217, t218, t219⟩, A730, H⟩ := H
                        replace H : (some (t217, t218, t219)) = some (r1, r2, r3) := H
                        have A73 := Aside0.mk A730
                        clear A730
                        simp only [Option.some.injEq, Prod.mk.injEq] at H
                        obtain ⟨rfl, rfl, rfl⟩ := H
                        try go_wp2
                        have n0_ := Aside0.mk (blk_drew BK197.out)
                        have n1_ := Aside0.mk (blk_drew BK198.out)
                        have n2_ := Aside0.mk (blk_drew BK199.out)
                        have n3_ := Aside0.mk (below_drew1 HB.out)
                        clear BK197
                        clear BK198
                        clear BK199
                        clear HB
                        have BK197 := n0_
                        have BK198 := n1_
                        have BK199 := n2_
                        have HB := n3_
                        clear n0_ n1_ n2_ n3_
                        refine start_ (n := 8) (S := fun w' => w'.cell? ⟨gb197, 0, none⟩ = some (.bool a0_0) ∧ w'.cell? ⟨gb197, 1, none⟩ = some (.int .i64 a0_1) ∧ w'.cell? ⟨gb197, 2, none⟩ = some (.int .i64 a0_2) ∧ w'.cell? ⟨gb198, 0, none⟩ = some (.bool a1_0) ∧ w'.cell? ⟨gb198, 1, none⟩ = some (.int .i64 a1_1) ∧ w'.cell? ⟨gb198, 2, none⟩ = some (.int .i64 a1_2)) (ds := []) #[false, false, false, false, false, false, false, false] (by kernel_rfl) rfl rfl ⟨(blk_cell BK197.out 0).trans rfl, (blk_cell BK197.out 1).trans rfl, (blk_cell BK197.out 2).trans rfl, (blk_cell BK198.out 0).trans rfl, (blk_cell BK198.out 1).trans rfl, (blk_cell BK198.out 2).trans rfl⟩ (fun hHeld => ?_); refine with_tabW congr_Meet.tab9 congr_Meet.bits9 (fun HT_ HW_ => ?_)
                        generalize wc.drew = w74 at BK197 BK198 BK199 HB hHeld ⊢
                        refine pure_ (i := 0) (N := some 39) (v := ?_) (a' := ?_) #[true, false, false, false, false, false, false, false] rfl rfl (any_of HT_.out (by kernel_rfl)) (fun _ _ _ h => h) (Or.inl ⟨by rfl, ?_⟩) ?_ ?_
                        rotate_left
                        · intro w'
                          go_simp
                          with_reducible rfl
                        rotate_left
                        · simp only [Act.put, List.setIfInBounds_toArray, List.set_cons_zero, List.set_cons_succ, i64_w, i32_w]
                          rfl
                        refine pure_ (i := 3) (N := some 42) (v := ?_) (a' := ?_) #[true, false, false, true, false, false, false, false] rfl rfl (any_of HT_.out (by kernel_rfl)) (fun _ _ _ h => h) (Or.inl ⟨by rfl, ?_⟩) ?_ ?_
                        rotate_left
                        · intro w'
                          go_simp
                          with_reducible rfl
                        rotate_left
                        · simp only [Act.put, List.setIfInBounds_toArray, List.set_cons_zero, List.set_cons_succ, i64_w, i32_w]
                          rfl
                        refine take_ (i := 1) (N := some 40) (v := ?_) (a' := ?_) #[true, true, false, true, false, false, false, false] rfl rfl (take_ofW HT_.out HW_.out (by kernel_rfl)) (fun _ _ _ h => h) (Or.inl ⟨by rfl, ?_⟩) hHeld ?_ ?_
                        rotate_left
                        · rintro w' ⟨s0, s1, s2, s3, s4, s5⟩
                          go_simp
                          with_reducible rfl
                        rotate_left
                        · simp only [Act.put, List.setIfInBounds_toArray, List.set_cons_zero, List.set_cons_succ, i64_w, i32_w]
                          rfl
                        refine pure_ (i := 2) (N := some 41) (v := ?_) (a' := ?_) #[true, true, true, true, false, false, false, false] rfl rfl (any_of HT_.out (by kernel_rfl)) (fun _ _ _ h => h) (Or.inl ⟨by rfl, ?_⟩) ?_ ?_
                        rotate_left
                        · intro w'
                          go_simp
                          with_reducible rfl
                        rotate_left
                        · simp only [Act.put, List.setIfInBounds_toArray, List.set_cons_zero, List.set_cons_succ, i64_w, i32_w]
                          rfl
                        refine pure_ (i := 6) (N := some 5) (v := ?_) (a' := ?_) #[true, true, true, true, false, false, true, false] rfl rfl (any_of HT_.out (by kernel_rfl)) (fun _ _ _ h => h) (Or.inl ⟨by rfl, ?_⟩) ?_ ?_
                        rotate_left
                        · intro w'
                          go_simp
                          with_reducible rfl
                        rotate_left
                        · simp only [Act.put, List.setIfInBounds_toArray, List.set_cons_zero, List.set_cons_succ, i64_w, i32_w]
                          rfl
                        refine take_ (i := 4) (N := some 43) (v := ?_) (a' := ?_) #[true, true, true, true, true, false, true, false] rfl rfl (take_ofW HT_.out HW_.out (by kernel_rfl)) (fun _ _ _ h => h) (Or.inl ⟨by rfl, ?_⟩) hHeld ?_ ?_
                        rotate_left
                        · rintro w' ⟨s0, s1, s2, s3, s4, s5⟩
                          go_simp
                          with_reducible rfl
                        rotate_left
                        · simp only [Act.put, List.setIfInBounds_toArray, List.set_cons_zero, List.set_cons_succ, i64_w, i32_w]
                          rfl
                        refine pure_ (i := 5) (N := some 44) (v := ?_) (a' := ?_) #[true, true, true, true, true, true, true, false] rfl rfl (any_of HT_.out (by kernel_rfl)) (fun _ _ _ h => h) (Or.inl ⟨by rfl, ?_⟩) ?_ ?_
                        rotate_left
                        · intro w'
                          go_simp
                          with_reducible rfl
                        rotate_left
                        · simp only [Act.put, List.setIfInBounds_toArray, List.set_cons_zero, List.set_cons_succ, i64_w, i32_w]
                          rfl
                        refine pure_ (i := 7) (N := some 6) (v := ?_) (a' := ?_) #[true, true, true, true, true, true, true, true] rfl rfl (any_of HT_.out (by kernel_rfl)) (fun _ _ _ h => h) (Or.inl ⟨by rfl, ?_⟩) ?_ ?_
                        rotate_left
                        · intro w'
                          go_simp
                          with_reducible rfl
                        rotate_left
                        · simp only [Act.put, List.setIfInBounds_toArray, List.set_cons_zero, List.set_cons_succ, i64_w, i32_w]
                          rfl
                        refine done_ (done_of HT_.out (by kernel_rfl)) ?_
                        try go_wp2_with (first | ((with_reducible refine gate_callee (f := 62) rfl ?_); refine goesL_ (some 47) rfl rfl Tryd.func62 (by kernel_rfl) rfl #[.int .u64 (IntKind.u64.wrap (a0_1)), .int .u64 (IntKind.u64.wrap (a1_1))] rfl (by (try simp only [List.map_toArray, List.map_cons, List.map_nil]); first | done | rfl | (simp only [List.length_drop, List.length_take]; rfl)) ?_; (with_reducible refine (congr_gcd_uint64.calls kj21 (IntKind.u64.wrap (a0_1)) (IntKind.u64.wrap (a1_1)) t207 _ A62.out).mono ?_); rintro e w' ⟨rfl, ⟨nd, rfl⟩⟩; refine ⟨_, rfl, ?_⟩; (try (rw [drewN_self w74]; generalize hq_ : World.drewN w74 _ = w74; have n0_ : Aside0 (w74.heap[gb197]? = some (.cells #[.bool a0_0, .int .i64 a0_1, .int .i64 a0_2] 23 (0, 0))) := ⟨by rw [← hq_]; exact (by (with_reducible repeat (first | refine blk_drewN ?_ _ | refine blk_drew ?_ | refine blk_alloc ?_ _)); exact BK197.out)⟩; have n1_ : Aside0 (w74.heap[gb198]? = some (.cells #[.bool a1_0, .int .i64 a1_1, .int .i64 a1_2] 23 (0, 0))) := ⟨by rw [← hq_]; exact (by (with_reducible repeat (first | refine blk_drewN ?_ _ | refine blk_drew ?_ | refine blk_alloc ?_ _)); exact BK198.out)⟩; have n2_ : Aside0 (w74.heap[gb199]? = some (.cells #[.bool false, .int .i64 0, .int .i64 0] 23 (0, 0))) := ⟨by rw [← hq_]; exact (by (with_reducible repeat (first | refine blk_drewN ?_ _ | refine blk_drew ?_ | refine blk_alloc ?_ _)); exact BK199.out)⟩; have n3_ : Aside0 (Below w.heap.size w w74) := ⟨by rw [← hq_]; exact (by repeat (first | (with_reducible first | exact HB.out | apply below_alloc | apply pw_below_drewN | apply below_drew1 | refine below_set ?_ GE197.out | refine below_set ?_ GE198.out | refine below_set ?_ GE199.out) | exact HB.out))⟩; clear BK197 BK198 BK199 HB hq_; have BK197 := n0_; have BK198 := n1_; have BK199 := n2_; have HB := n3_; clear n0_ n1_ n2_ n3_)); have hnb75 := NB197_198.out; have hnc75 := NB198_197.out; have hnb76 := NB197_199.out; have hnc76 := NB199_197.out; have hcz77_0 : w74.cell? ⟨gb197, 0, none⟩ = some (.bool a0_0) := (blk_cell BK197.out 0).trans rfl; have hcz77_1 : w74.cell? ⟨gb197, 1, none⟩ = some (.int .i64 a0_1) := (blk_cell BK197.out 1).trans rfl; have hcz77_2 : w74.cell? ⟨gb197, 2, none⟩ = some (.int .i64 a0_2) := (blk_cell BK197.out 2).trans rfl; have hfz77_0 := blk_frozen BK197.out 0; have hfz77_1 := blk_frozen BK197.out 1; have hfz77_2 := blk_frozen BK197.out 2; have hnb78 := NB198_199.out; have hnc78 := NB199_198.out; have hcz79_0 : w74.cell? ⟨gb198, 0, none⟩ = some (.bool a1_0) := (blk_cell BK198.out 0).trans rfl; have hcz79_1 : w74.cell? ⟨gb198, 1, none⟩ = some (.int .i64 a1_1) := (blk_cell BK198.out 1).trans rfl; have hcz79_2 : w74.cell? ⟨gb198, 2, none⟩ = some (.int .i64 a1_2) := (blk_cell BK198.out 2).trans rfl; have hfz79_0 := blk_frozen BK198.out 0; have hfz79_1 := blk_frozen BK198.out 1; have hfz79_2 := blk_frozen BK198.out 2) | ((with_reducible refine gate_callee (f := 52) rfl ?_); refine goesL_ (some 53) rfl rfl Tryd.func52 (by kernel_rfl) rfl #[.int .i64 (wrap64 (a0_2 - a1_2))] rfl (by (try simp only [List.map_toArray, List.map_cons, List.map_nil]); first | done | rfl | (simp only [List.length_drop, List.length_take]; rfl)) ?_; (with_reducible refine (congr_size.calls (wrap64 (a0_2 - a1_2)) t208 _ A63.out).mono ?_); rintro e w' ⟨rfl, ⟨nd, rfl⟩⟩; refine ⟨_, rfl, ?_⟩; (try (rw [drewN_self w74]; generalize hq_ : World.drewN w74 _ = w74; have n0_ : Aside0 (w74.heap[gb197]? = some (.cells #[.bool a0_0, .int .i64 a0_1, .int .i64 a0_2] 23 (0, 0))) := ⟨by rw [← hq_]; exact (by (with_reducible repeat (first | refine blk_drewN ?_ _ | refine blk_drew ?_ | refine blk_alloc ?_ _)); exact BK197.out)⟩; have n1_ : Aside0 (w74.heap[gb198]? = some (.cells #[.bool a1_0, .int .i64 a1_1, .int .i64 a1_2] 23 (0, 0))) := ⟨by rw [← hq_]; exact (by (with_reducible repeat (first | refine blk_drewN ?_ _ | refine blk_drew ?_ | refine blk_alloc ?_ _)); exact BK198.out)⟩; have n2_ : Aside0 (w74.heap[gb199]? = some (.cells #[.bool false, .int .i64 0, .int .i64 0] 23 (0, 0))) := ⟨by rw [← hq_]; exact (by (with_reducible repeat (first | refine blk_drewN ?_ _ | refine blk_drew ?_ | refine blk_alloc ?_ _)); exact BK199.out)⟩; have n3_ : Aside0 (Below w.heap.size w w74) := ⟨by rw [← hq_]; exact (by repeat (first | (with_reducible first | exact HB.out | apply below_alloc | apply pw_below_drewN | apply below_drew1 | refine below_set ?_ GE197.out | refine below_set ?_ GE198.out | refine below_set ?_ GE199.out) | exact HB.out))⟩; clear BK197 BK198 BK199 HB hq_; have BK197 := n0_; have BK198 := n1_; have BK199 := n2_; have HB := n3_; clear n0_ n1_ n2_ n3_))))
                        have n0_ := Aside0.mk (blk_drew BK197.out)
                        have n1_ := Aside0.mk (blk_drew BK198.out)
                        have n2_ := Aside0.mk (blk_drew BK199.out)
                        have n3_ := Aside0.mk (below_drew1 HB.out)
                        clear BK197
                        clear BK198
                        clear BK199
                        clear HB
                        have BK197 := n0_
                        have BK198 := n1_
                        have BK199 := n2_
                        have HB := n3_
                        clear n0_ n1_ n2_ n3_
                        refine start_ (n := 29) (S := fun w' => w'.cell? ⟨gb198, 0, none⟩ = some (.bool a1_0) ∧ w'.cell? ⟨gb198, 1, none⟩ = some (.int .i64 a1_1) ∧ w'.cell? ⟨gb198, 2, none⟩ = some (.int .i64 a1_2) ∧ w'.cell? ⟨gb197, 0, none⟩ = some (.bool a0_0) ∧ w'.cell? ⟨gb197, 1, none⟩ = some (.int .i64 a0_1) ∧ w'.cell? ⟨gb197, 2, none⟩ = some (.int .i64 a0_2)) (ds := []) #[false, false, false, false, false, false, false, false, false, false, false, false, false, false, false, false, false, false, false, false, false, false, false, false, false, false, false, false, false] (by kernel_rfl) rfl rfl ⟨(blk_cell BK198.out 0).trans rfl, (blk_cell BK198.out 1).trans rfl, (blk_cell BK198.out 2).trans rfl, (blk_cell BK197.out 0).trans rfl, (blk_cell BK197.out 1).trans rfl, (blk_cell BK197.out 2).trans rfl⟩ (fun hHeld => ?_); refine with_tabW congr_Meet.tab15 congr_Meet.bits15 (fun HT_ HW_ => ?_)
                        generalize w74.drew = w80 at BK197 BK198 BK199 HB hHeld ⊢
                        refine pure_ (i := 0) (N := some 63) (v := ?_) (a' := ?_) #[true, false, false, false, false, false, false, false, false, false, false, false, false, false, false, false, false, false, false, false, false, false, false, false, false, false, false, false, false] rfl rfl (any_of HT_.out (by kernel_rfl)) (fun _ _ _ h => h) (Or.inl ⟨by rfl, ?_⟩) ?_ ?_
                        rotate_left
                        · intro w'
                          go_simp
                          with_reducible rfl
                        rotate_left
                        · simp only [Act.put, List.setIfInBounds_toArray, List.set_cons_zero, List.set_cons_succ, i64_w, i32_w]
                          rfl
                        refine pure_ (i := 2) (N := some 65) (v := ?_) (a' := ?_) #[true, false, true, false, false, false, false, false, false, false, false, false, false, false, false, false, false, false, false, false, false, false, false, false, false, false, false, false, false] rfl rfl (any_of HT_.out (by kernel_rfl)) (fun _ _ _ h => h) (Or.inl ⟨by rfl, ?_⟩) ?_ ?_
                        rotate_left
                        · intro w'
                          go_simp
                          with_reducible rfl
                        rotate_left
                        · simp only [Act.put, List.setIfInBounds_toArray, List.set_cons_zero, List.set_cons_succ, i64_w, i32_w]
                          rfl
                        refine pure_ (i := 5) (N := some 68) (v := ?_) (a' := ?_) #[true, false, true, false, false, true, false, false, false, false, false, false, false, false, false, false, false, false, false, false, false, false, false, false, false, false, false, false, false] rfl rfl (any_of HT_.out (by kernel_rfl)) (fun _ _ _ h => h) (Or.inl ⟨by rfl, ?_⟩) ?_ ?_
                        rotate_left
                        · intro w'
                          go_simp
                          with_reducible rfl
                        rotate_left
                        · simp only [Act.put, List.setIfInBounds_toArray, List.set_cons_zero, List.set_cons_succ, i64_w, i32_w]
                          rfl
                        refine pure_ (i := 6) (N := some 69) (v := ?_) (a' := ?_) #[true, false, true, false, false, true, true, false, false, false, false, false, false, false, false, false, false, false, false, false, false, false, false, false, false, false, false, false, false] rfl rfl (any_of HT_.out (by kernel_rfl)) (fun _ _ _ h => h) (Or.inl ⟨by rfl, ?_⟩) ?_ ?_
                        rotate_left
                        · intro w'
                          go_simp
                          with_reducible rfl
                        rotate_left
                        · simp only [Act.put, List.setIfInBounds_toArray, List.set_cons_zero, List.set_cons_succ, i64_w, i32_w]
                          rfl
                        refine pure_ (i := 8) (N := some 71) (v := ?_) (a' := ?_) #[true, false, true, false, false, true, true, false, true, false, false, false, false, false, false, false, false, false, false, false, false, false, false, false, false, false, false, false, false] rfl rfl (any_of HT_.out (by kernel_rfl)) (fun _ _ _ h => h) (Or.inl ⟨by rfl, ?_⟩) ?_ ?_
                        rotate_left
                        · intro w'
                          go_simp
                          with_reducible rfl
                        rotate_left
                        · simp only [Act.put, List.setIfInBounds_toArray, List.set_cons_zero, List.set_cons_succ, i64_w, i32_w]
                          rfl
                        refine pure_ (i := 9) (N := some 72) (v := ?_) (a' := ?_) #[true, false, true, false, false, true, true, false, true, true, false, false, false, false, false, false, false, false, false, false, false, false, false, false, false, false, false, false, false] rfl rfl (any_of HT_.out (by kernel_rfl)) (fun _ _ _ h => h) (Or.inl ⟨by rfl, ?_⟩) ?_ ?_
                        rotate_left
                        · intro w'
                          go_simp
                          with_reducible rfl
                        rotate_left
                        · simp only [Act.put, List.setIfInBounds_toArray, List.set_cons_zero, List.set_cons_succ, i64_w, i32_w]
                          rfl
                        refine pure_ (i := 10) (N := some 73) (v := ?_) (a' := ?_) #[true, false, true, false, false, true, true, false, true, true, true, false, false, false, false, false, false, false, false, false, false, false, false, false, false, false, false, false, false] rfl rfl (any_of HT_.out (by kernel_rfl)) (fun _ _ _ h => h) (Or.inl ⟨by rfl, ?_⟩) ?_ ?_
                        rotate_left
                        · intro w'
                          go_simp
                          with_reducible rfl
                        rotate_left
                        · simp only [Act.put, List.setIfInBounds_toArray, List.set_cons_zero, List.set_cons_succ, i64_w, i32_w]
                          rfl
                        refine pure_ (i := 12) (N := some 75) (v := ?_) (a' := ?_) #[true, false, true, false, false, true, true, false, true, true, true, false, true, false, false, false, false, false, false, false, false, false, false, false, false, false, false, false, false] rfl rfl (any_of HT_.out (by kernel_rfl)) (fun _ _ _ h => h) (Or.inl ⟨by rfl, ?_⟩) ?_ ?_
                        rotate_left
                        · intro w'
                          go_simp
                          with_reducible rfl
                        rotate_left
                        · simp only [Act.put, List.setIfInBounds_toArray, List.set_cons_zero, List.set_cons_succ, i64_w, i32_w]
                          rfl
                        refine pure_ (i := 13) (N := some 76) (v := ?_) (a' := ?_) #[true, false, true, false, false, true, true, false, true, true, true, false, true, true, false, false, false, false, false, false, false, false, false, false, false, false, false, false, false] rfl rfl (any_of HT_.out (by kernel_rfl)) (fun _ _ _ h => h) (Or.inl ⟨by rfl, ?_⟩) ?_ ?_
                        rotate_left
                        · intro w'
                          go_simp
                          with_reducible rfl
                        rotate_left
                        · simp only [Act.put, List.setIfInBounds_toArray, List.set_cons_zero, List.set_cons_succ, i64_w, i32_w]
                          rfl
                        refine pure_ (i := 14) (N := some 77) (v := ?_) (a' := ?_) #[true, false, true, false, false, true, true, false, true, true, true, false, true, true, true, false, false, false, false, false, false, false, false, false, false, false, false, false, false] rfl rfl (any_of HT_.out (by kernel_rfl)) (fun _ _ _ h => h) (Or.inl ⟨by rfl, ?_⟩) ?_ ?_
                        rotate_left
                        · intro w'
                          go_simp
                          with_reducible rfl
                        rotate_left
                        · simp only [Act.put, List.setIfInBounds_toArray, List.set_cons_zero, List.set_cons_succ, i64_w, i32_w]
                          rfl
                        refine pure_ (i := 15) (N := some 78) (v := ?_) (a' := ?_) #[true, false, true, false, false, true, true, false, true, true, true, false, true, true, true, true, false, false, false, false, false, false, false, false, false, false, false, false, false] rfl rfl (any_of HT_.out (by kernel_rfl)) (fun _ _ _ h => h) (Or.inl ⟨by rfl, ?_⟩) ?_ ?_
                        rotate_left
                        · intro w'
                          go_simp
                          with_reducible rfl
                        rotate_left
                        · simp only [Act.put, List.setIfInBounds_toArray, List.set_cons_zero, List.set_cons_succ, i64_w, i32_w]
                          rfl
                        refine pure_ (i := 16) (N := some 79) (v := ?_) (a' := ?_) #[true, false, true, false, false, true, true, false, true, true, true, false, true, true, true, true, true, false, false, false, false, false, false, false, false, false, false, false, false] rfl rfl (any_of HT_.out (by kernel_rfl)) (fun _ _ _ h => h) (Or.inl ⟨by rfl, ?_⟩) ?_ ?_
                        rotate_left
                        · intro w'
                          go_simp
                          with_reducible rfl
                        rotate_left
                        · simp only [Act.put, List.setIfInBounds_toArray, List.set_cons_zero, List.set_cons_succ, i64_w, i32_w]
                          rfl
                        refine pure_ (i := 17) (N := some 80) (v := ?_) (a' := ?_) #[true, false, true, false, false, true, true, false, true, true, true, false, true, true, true, true, true, true, false, false, false, false, false, false, false, false, false, false, false] rfl rfl (any_of HT_.out (by kernel_rfl)) (fun _ _ _ h => h) (Or.inl ⟨by rfl, ?_⟩) ?_ ?_
                        rotate_left
                        · intro w'
                          go_simp
                          with_reducible rfl
                        rotate_left
                        · simp only [Act.put, List.setIfInBounds_toArray, List.set_cons_zero, List.set_cons_succ, i64_w, i32_w]
                          rfl
                        refine pure_ (i := 18) (N := some 81) (v := ?_) (a' := ?_) #[true, false, true, false, false, true, true, false, true, true, true, false, true, true, true, true, true, true, true, false, false, false, false, false, false, false, false, false, false] rfl rfl (any_of HT_.out (by kernel_rfl)) (fun _ _ _ h => h) (Or.inl ⟨by rfl, ?_⟩) ?_ ?_
                        rotate_left
                        · intro w'
                          go_simp
                          with_reducible rfl
                        rotate_left
                        · simp only [Act.put, List.setIfInBounds_toArray, List.set_cons_zero, List.set_cons_succ, i64_w, i32_w]
                          rfl
                        refine pure_ (i := 19) (N := some 82) (v := ?_) (a' := ?_) #[true, false, true, false, false, true, true, false, true, true, true, false, true, true, true, true, true, true, true, true, false, false, false, false, false, false, false, false, false] rfl rfl (any_of HT_.out (by kernel_rfl)) (fun _ _ _ h => h) (Or.inl ⟨by rfl, ?_⟩) ?_ ?_
                        rotate_left
                        · intro w'
                          go_simp
                          with_reducible rfl
                        rotate_left
                        · simp only [Act.put, List.setIfInBounds_toArray, List.set_cons_zero, List.set_cons_succ, i64_w, i32_w]
                          rfl
                        refine pure_ (i := 20) (N := some 83) (v := ?_) (a' := ?_) #[true, false, true, false, false, true, true, false, true, true, true, false, true, true, true, true, true, true, true, true, true, false, false, false, false, false, false, false, false] rfl rfl (any_of HT_.out (by kernel_rfl)) (fun _ _ _ h => h) (Or.inl ⟨by rfl, ?_⟩) ?_ ?_
                        rotate_left
                        · intro w'
                          go_simp
                          with_reducible rfl
                        rotate_left
                        · simp only [Act.put, List.setIfInBounds_toArray, List.set_cons_zero, List.set_cons_succ, i64_w, i32_w]
                          rfl
                        refine pure_ (i := 21) (N := some 84) (v := ?_) (a' := ?_) #[true, false, true, false, false, true, true, false, true, true, true, false, true, true, true, true, true, true, true, true, true, true, false, false, false, false, false, false, false] rfl rfl (any_of HT_.out (by kernel_rfl)) (fun _ _ _ h => h) (Or.inl ⟨by rfl, ?_⟩) ?_ ?_
                        rotate_left
                        · intro w'
                          go_simp
                          with_reducible rfl
                        rotate_left
                        · simp only [Act.put, List.setIfInBounds_toArray, List.set_cons_zero, List.set_cons_succ, i64_w, i32_w]
                          rfl
                        refine take_ (i := 1) (N := some 64) (v := ?_) (a' := ?_) #[true, true, true, false, false, true, true, false, true, true, true, false, true, true, true, true, true, true, true, true, true, true, false, false, false, false, false, false, false] rfl rfl (take_ofW HT_.out HW_.out (by kernel_rfl)) (fun _ _ _ h => h) (Or.inl ⟨by rfl, ?_⟩) hHeld ?_ ?_
                        rotate_left
                        · rintro w' ⟨s0, s1, s2, s3, s4, s5⟩
                          go_simp
                          with_reducible rfl
                        rotate_left
                        · simp only [Act.put, List.setIfInBounds_toArray, List.set_cons_zero, List.set_cons_succ, i64_w, i32_w]
                          rfl
                        refine take_ (i := 3) (N := some 66) (v := ?_) (a' := ?_) #[true, true, true, true, false, true, true, false, true, true, true, false, true, true, true, true, true, true, true, true, true, true, false, false, false, false, false, false, false] rfl rfl (take_ofW HT_.out HW_.out (by kernel_rfl)) (fun _ _ _ h => h) (Or.inl ⟨by rfl, ?_⟩) hHeld ?_ ?_
                        rotate_left
                        · rintro w' ⟨s0, s1, s2, s3, s4, s5⟩
                          go_simp
                          with_reducible rfl
                        rotate_left
                        · simp only [Act.put, List.setIfInBounds_toArray, List.set_cons_zero, List.set_cons_succ, i64_w, i32_w]
                          rfl
                        refine pure_ (i := 4) (N := some 67) (v := ?_) (a' := ?_) #[true, true, true, true, true, true, true, false, true, true, true, false, true, true, true, true, true, true, true, true, true, true, false, false, false, false, false, false, false] rfl rfl (any_of HT_.out (by kernel_rfl)) (fun _ _ _ h => h) (Or.inl ⟨by rfl, ?_⟩) ?_ ?_
                        rotate_left
                        · intro w'
                          go_simp
                          with_reducible rfl
                        rotate_left
                        · simp only [Act.put, List.setIfInBounds_toArray, List.set_cons_zero, List.set_cons_succ, i64_w, i32_w]
                          rfl
                        refine pure_ (i := 7) (N := some 70) (v := ?_) (a' := ?_) #[true, true, true, true, true, true, true, true, true, true, true, false, true, true, true, true, true, true, true, true, true, true, false, false, false, false, false, false, false] rfl rfl (any_of HT_.out (by kernel_rfl)) (fun _ _ _ h => h) (Or.inl ⟨by rfl, ?_⟩) ?_ ?_
                        rotate_left
                        · intro w'
                          go_simp
                          with_reducible rfl
                        rotate_left
                        · simp only [Act.put, List.setIfInBounds_toArray, List.set_cons_zero, List.set_cons_succ, i64_w, i32_w]
                          rfl
                        refine one_ (i := 11) (N := some 74) #[true, true, true, true, true, true, true, true, true, true, true, true, true, true, true, true, true, true, true, true, true, true, false, false, false, false, false, false, false] rfl rfl (one_of HT_.out (by kernel_rfl)) (by decide) (fun K hK => ?_)
                        refine goes_ Tryd.func53 (by kernel_rfl) rfl #[.int .i64 (wrap64 (Int.tdiv (wrap64 (a1_2 - a0_2)) (wrap64 (t207)))), .int .u64 (IntKind.u64.wrap (Int.tdiv (IntKind.u64.wrap (a1_1)) t207))] (by rfl) rfl rfl (by (try simp only [List.map_toArray, List.map_cons, List.map_nil]); first | done | rfl | (simp only [List.length_drop, List.length_take]; rfl)) ?_
                        with_reducible refine (congr_rest.calls (wrap64 (Int.tdiv (wrap64 (a1_2 - a0_2)) (wrap64 (t207)))) (IntKind.u64.wrap (Int.tdiv (IntKind.u64.wrap (a1_1)) t207)) t212 _ A68.out).mono ?_
                        rintro e w' ⟨rfl, ⟨nd, rfl⟩⟩
                        refine ⟨_, rfl, ?_⟩
                        refine hK.out _ _ ⟨(blk_cell BK198.out 0).trans rfl, (blk_cell BK198.out 1).trans rfl, (blk_cell BK198.out 2).trans rfl, (blk_cell BK197.out 0).trans rfl, (blk_cell BK197.out 1).trans rfl, (blk_cell BK197.out 2).trans rfl⟩ (fun hHeld => ?_)
                        clear hK K
                        refine norm_ (a' := ?_) ?_ ?_
                        rotate_left
                        · show Act.put _ (some 74) _ = _
                          simp only [Act.put, List.setIfInBounds_toArray, List.set_cons_zero, List.set_cons_succ, i64_w, i32_w]
                          rfl
                        refine one_ (i := 22) (N := some 85) #[true, true, true, true, true, true, true, true, true, true, true, true, true, true, true, true, true, true, true, true, true, true, true, false, false, false, false, false, false] rfl rfl (one_of HT_.out (by kernel_rfl)) (by decide) (fun K hK => ?_)
                        refine goes_ Tryd.func64 (by kernel_rfl) rfl #[.int .u64 (Int.tmod (IntKind.u64.wrap (Int.tdiv (IntKind.u64.wrap (a0_1)) t207)) (IntKind.u64.wrap (Int.tdiv (IntKind.u64.wrap (a1_1)) t207))), .int .u64 (IntKind.u64.wrap (Int.tdiv (IntKind.u64.wrap (a1_1)) t207))] (by rfl) rfl rfl (by (try simp only [List.map_toArray, List.map_cons, List.map_nil]); first | done | rfl | (simp only [List.length_drop, List.length_take]; rfl)) ?_
                        with_reducible refine (congr_inverse.calls kj21 (Int.tmod (IntKind.u64.wrap (Int.tdiv (IntKind.u64.wrap (a0_1)) t207)) (IntKind.u64.wrap (Int.tdiv (IntKind.u64.wrap (a1_1)) t207))) (IntKind.u64.wrap (Int.tdiv (IntKind.u64.wrap (a1_1)) t207)) t213 _ A70.out).mono ?_
                        rintro e w' ⟨rfl, ⟨nd, rfl⟩⟩
                        refine ⟨_, rfl, ?_⟩
                        refine hK.out _ _ ⟨(blk_cell BK198.out 0).trans rfl, (blk_cell BK198.out 1).trans rfl, (blk_cell BK198.out 2).trans rfl, (blk_cell BK197.out 0).trans rfl, (blk_cell BK197.out 1).trans rfl, (blk_cell BK197.out 2).trans rfl⟩ (fun hHeld => ?_)
                        clear hK K
                        refine norm_ (a' := ?_) ?_ ?_
                        rotate_left
                        · show Act.put _ (some 85) _ = _
                          simp only [Act.put, List.setIfInBounds_toArray, List.set_cons_zero, List.set_cons_succ, i64_w, i32_w]
                          rfl
                        refine one_ (i := 23) (N := some 86) #[true, true, true, true, true, true, true, true, true, true, true, true, true, true, true, true, true, true, true, true, true, true, true, true, false, false, false, false, false] rfl rfl (one_of HT_.out (by kernel_rfl)) (by decide) (fun K hK => ?_)
                        refine goes_ Tryd.func63 (by kernel_rfl) rfl #[.int .u64 t212, .int .u64 t213] (by rfl) rfl rfl (by (try simp only [List.map_toArray, List.map_cons, List.map_nil]); first | done | rfl | (simp only [List.length_drop, List.length_take]; rfl)) ?_
                        with_reducible refine (bits_Mul64.calls t212 t213 t214 t215 _ A71.out).mono ?_
                        rintro e w' ⟨rfl, ⟨nd, rfl⟩⟩
                        refine ⟨_, rfl, ?_⟩
                        refine hK.out _ _ ⟨(blk_cell BK198.out 0).trans rfl, (blk_cell BK198.out 1).trans rfl, (blk_cell BK198.out 2).trans rfl, (blk_cell BK197.out 0).trans rfl, (blk_cell BK197.out 1).trans rfl, (blk_cell BK197.out 2).trans rfl⟩ (fun hHeld => ?_)
                        clear hK K
                        refine norm_ (a' := ?_) ?_ ?_
                        rotate_left
                        · show Act.put _ (some 86) _ = _
                          simp only [Act.put, List.setIfInBounds_toArray, List.set_cons_zero, List.set_cons_succ, i64_w, i32_w]
                          rfl
                        refine pure_ (i := 24) (N := some 62) (v := ?_) (a' := ?_) #[true, true, true, true, true, true, true, true, true, true, true, true, true, true, true, true, true, true, true, true, true, true, true, true, true, false, false, false, false] rfl rfl (any_of HT_.out (by kernel_rfl)) (fun _ _ _ h => h) (Or.inl ⟨by rfl, ?_⟩) ?_ ?_
                        rotate_left
                        · intro w'
                          go_simp
                          with_reducible rfl
                        rotate_left
                        · simp only [Act.put, List.setIfInBounds_toArray, List.set_cons_zero, List.set_cons_succ, i64_w, i32_w]
                          rfl
                        refine pure_ (i := 25) (N := some 87) (v := ?_) (a' := ?_) #[true, true, true, true, true, true, true, true, true, true, true, true, true, true, true, true, true, true, true, true, true, true, true, true, true, true, false, false, false] rfl rfl (any_of HT_.out (by kernel_rfl)) (fun _ _ _ h => h) (Or.inl ⟨by rfl, ?_⟩) ?_ ?_
                        rotate_left
                        · intro w'
                          go_simp
                          with_reducible rfl
                        rotate_left
                        · simp only [Act.put, List.setIfInBounds_toArray, List.set_cons_zero, List.set_cons_succ, i64_w, i32_w]
                          rfl
                        refine pure_ (i := 26) (N := some 88) (v := ?_) (a' := ?_) #[true, true, true, true, true, true, true, true, true, true, true, true, true, true, true, true, true, true, true, true, true, true, true, true, true, true, true, false, false] rfl rfl (any_of HT_.out (by kernel_rfl)) (fun _ _ _ h => h) (Or.inl ⟨by rfl, ?_⟩) ?_ ?_
                        rotate_left
                        · intro w'
                          go_simp
                          with_reducible rfl
                        rotate_left
                        · simp only [Act.put, List.setIfInBounds_toArray, List.set_cons_zero, List.set_cons_succ, i64_w, i32_w]
                          rfl
                        refine pure_ (i := 27) (N := some 9) (v := ?_) (a' := ?_) #[true, true, true, true, true, true, true, true, true, true, true, true, true, true, true, true, true, true, true, true, true, true, true, true, true, true, true, true, false] rfl rfl (any_of HT_.out (by kernel_rfl)) (fun _ _ _ h => h) (Or.inl ⟨by rfl, ?_⟩) ?_ ?_
                        rotate_left
                        · intro w'
                          go_simp
                          with_reducible rfl
                        rotate_left
                        · simp only [Act.put, List.setIfInBounds_toArray, List.set_cons_zero, List.set_cons_succ, i64_w, i32_w]
                          rfl
                        refine pure_ (i := 28) (N := some 10) (v := ?_) (a' := ?_) #[true, true, true, true, true, true, true, true, true, true, true, true, true, true, true, true, true, true, true, true, true, true, true, true, true, true, true, true, true] rfl rfl (any_of HT_.out (by kernel_rfl)) (fun _ _ _ h => h) (Or.inl ⟨by rfl, ?_⟩) ?_ ?_
                        rotate_left
                        · intro w'
                          go_simp
                          with_reducible rfl
                        rotate_left
                        · simp only [Act.put, List.setIfInBounds_toArray, List.set_cons_zero, List.set_cons_succ, i64_w, i32_w]
                          rfl
                        refine done_ (done_of HT_.out (by kernel_rfl)) ?_
                        try go_wp2_with (first | ((with_reducible refine gate_callee (f := 65) rfl ?_); refine goesL_ (some 95) rfl rfl Tryd.func65 (by kernel_rfl) rfl #[.agg #[.int .u64 t214, .int .u64 t215], .int .u64 (IntKind.u64.wrap (Int.tdiv (IntKind.u64.wrap (a1_1)) t207))] rfl (by (try simp only [List.map_toArray, List.map_cons, List.map_nil]); first | done | rfl | (simp only [List.length_drop, List.length_take]; rfl)) ?_; (with_reducible refine (congr_words_rest.calls t214 t215 (IntKind.u64.wrap (Int.tdiv (IntKind.u64.wrap (a1_1)) t207)) t216 _ A72.out).mono ?_); rintro e w81 ⟨rfl, hb⟩; refine ⟨_, rfl, ?_⟩; have n0_ := Aside0.mk (blk_below (g := gb197) (o := .cells #[.bool a0_0, .int .i64 a0_1, .int .i64 a0_2] 23 (0, 0)) (by (with_reducible repeat (first | refine blk_drewN ?_ _ | refine blk_drew ?_ | refine blk_alloc ?_ _)); exact BK197.out) hb); have n1_ := Aside0.mk (blk_below (g := gb198) (o := .cells #[.bool a1_0, .int .i64 a1_1, .int .i64 a1_2] 23 (0, 0)) (by (with_reducible repeat (first | refine blk_drewN ?_ _ | refine blk_drew ?_ | refine blk_alloc ?_ _)); exact BK198.out) hb); have n2_ := Aside0.mk (blk_below (g := gb199) (o := .cells #[.bool false, .int .i64 0, .int .i64 0] 23 (0, 0)) (by (with_reducible repeat (first | refine blk_drewN ?_ _ | refine blk_drew ?_ | refine blk_alloc ?_ _)); exact BK199.out) hb); have n3_ := Aside0.mk (below_step (by repeat (first | (with_reducible first | exact HB.out | apply below_alloc | apply pw_below_drewN | apply below_drew1 | refine below_set ?_ GE197.out | refine below_set ?_ GE198.out | refine below_set ?_ GE199.out) | exact HB.out)) hb); clear BK197; clear BK198; clear BK199; clear HB; have BK197 := n0_; have BK198 := n1_; have BK199 := n2_; have HB := n3_; clear n0_ n1_ n2_ n3_; (try clear hb); (try clear hb2); (try clear hk); (try clear hi)))
                        have n0_ := Aside0.mk (blk_drew BK197.out)
                        have n1_ := Aside0.mk (blk_drew BK198.out)
                        have n2_ := Aside0.mk (blk_drew BK199.out)
                        have n3_ := Aside0.mk (below_drew1 HB.out)
                        clear BK197
                        clear BK198
                        clear BK199
                        clear HB
                        have BK197 := n0_
                        have BK198 := n1_
                        have BK199 := n2_
                        have HB := n3_
                        clear n0_ n1_ n2_ n3_
                        refine start_ (n := 14) (S := fun w' => w'.cell? ⟨gb197, 0, none⟩ = some (.bool a0_0) ∧ w'.cell? ⟨gb197, 1, none⟩ = some (.int .i64 a0_1) ∧ w'.cell? ⟨gb197, 2, none⟩ = some (.int .i64 a0_2)) (ds := []) #[false, false, false, false, false, false, false, false, false, false, false, false, false, false] (by kernel_rfl) rfl rfl ⟨(blk_cell BK197.out 0).trans rfl, (blk_cell BK197.out 1).trans rfl, (blk_cell BK197.out 2).trans rfl⟩ (fun hHeld => ?_); refine with_tabW congr_Meet.tab17 congr_Meet.bits17 (fun HT_ HW_ => ?_)
                        generalize w81.drew = w82 at BK197 BK198 BK199 HB hHeld ⊢
                        refine pure_ (i := 0) (N := some 96) (v := ?_) (a' := ?_) #[true, false, false, false, false, false, false, false, false, false, false, false, false, false] rfl rfl (any_of HT_.out (by kernel_rfl)) (fun _ _ _ h => h) (Or.inl ⟨by rfl, ?_⟩) ?_ ?_
                        rotate_left
                        · intro w'
                          go_simp
                          with_reducible rfl
                        rotate_left
                        · simp only [Act.put, List.setIfInBounds_toArray, List.set_cons_zero, List.set_cons_succ, i64_w, i32_w]
                          rfl
                        refine pure_ (i := 1) (N := some 97) (v := ?_) (a' := ?_) #[true, true, false, false, false, false, false, false, false, false, false, false, false, false] rfl rfl (any_of HT_.out (by kernel_rfl)) (fun _ _ _ h => h) (Or.inl ⟨by rfl, ?_⟩) ?_ ?_
                        rotate_left
                        · intro w'
                          go_simp
                          with_reducible rfl
                        rotate_left
                        · simp only [Act.put, List.setIfInBounds_toArray, List.set_cons_zero, List.set_cons_succ, i64_w, i32_w]
                          rfl
                        refine pure_ (i := 2) (N := some 98) (v := ?_) (a' := ?_) #[true, true, true, false, false, false, false, false, false, false, false, false, false, false] rfl rfl (any_of HT_.out (by kernel_rfl)) (fun _ _ _ h => h) (Or.inl ⟨by rfl, ?_⟩) ?_ ?_
                        rotate_left
                        · intro w'
                          go_simp
                          with_reducible rfl
                        rotate_left
                        · simp only [Act.put, List.setIfInBounds_toArray, List.set_cons_zero, List.set_cons_succ, i64_w, i32_w]
                          rfl
                        refine pure_ (i := 3) (N := some 99) (v := ?_) (a' := ?_) #[true, true, true, true, false, false, false, false, false, false, false, false, false, false] rfl rfl (any_of HT_.out (by kernel_rfl)) (fun _ _ _ h => h) (Or.inl ⟨by rfl, ?_⟩) ?_ ?_
                        rotate_left
                        · intro w'
                          go_simp
                          with_reducible rfl
                        rotate_left
                        · simp only [Act.put, List.setIfInBounds_toArray, List.set_cons_zero, List.set_cons_succ, i64_w, i32_w]
                          rfl
                        refine pure_ (i := 4) (N := some 100) (v := ?_) (a' := ?_) #[true, true, true, true, true, false, false, false, false, false, false, false, false, false] rfl rfl (any_of HT_.out (by kernel_rfl)) (fun _ _ _ h => h) (Or.inl ⟨by rfl, ?_⟩) ?_ ?_
                        rotate_left
                        · intro w'
                          go_simp
                          with_reducible rfl
                        rotate_left
                        · simp only [Act.put, List.setIfInBounds_toArray, List.set_cons_zero, List.set_cons_succ, i64_w, i32_w]
                          rfl
                        refine pure_ (i := 5) (N := some 101) (v := ?_) (a' := ?_) #[true, true, true, true, true, true, false, false, false, false, false, false, false, false] rfl rfl (any_of HT_.out (by kernel_rfl)) (fun _ _ _ h => h) (Or.inl ⟨by rfl, ?_⟩) ?_ ?_
                        rotate_left
                        · intro w'
                          go_simp
                          with_reducible rfl
                        rotate_left
                        · simp only [Act.put, List.setIfInBounds_toArray, List.set_cons_zero, List.set_cons_succ, i64_w, i32_w]
                          rfl
                        refine pure_ (i := 6) (N := some 102) (v := ?_) (a' := ?_) #[true, true, true, true, true, true, true, false, false, false, false, false, false, false] rfl rfl (any_of HT_.out (by kernel_rfl)) (fun _ _ _ h => h) (Or.inl ⟨by rfl, ?_⟩) ?_ ?_
                        rotate_left
                        · intro w'
                          go_simp
                          with_reducible rfl
                        rotate_left
                        · simp only [Act.put, List.setIfInBounds_toArray, List.set_cons_zero, List.set_cons_succ, i64_w, i32_w]
                          rfl
                        refine pure_ (i := 7) (N := some 103) (v := ?_) (a' := ?_) #[true, true, true, true, true, true, true, true, false, false, false, false, false, false] rfl rfl (any_of HT_.out (by kernel_rfl)) (fun _ _ _ h => h) (Or.inl ⟨by rfl, ?_⟩) ?_ ?_
                        rotate_left
                        · intro w'
                          go_simp
                          with_reducible rfl
                        rotate_left
                        · simp only [Act.put, List.setIfInBounds_toArray, List.set_cons_zero, List.set_cons_succ, i64_w, i32_w]
                          rfl
                        refine pure_ (i := 8) (N := some 104) (v := ?_) (a' := ?_) #[true, true, true, true, true, true, true, true, true, false, false, false, false, false] rfl rfl (any_of HT_.out (by kernel_rfl)) (fun _ _ _ h => h) (Or.inl ⟨by rfl, ?_⟩) ?_ ?_
                        rotate_left
                        · intro w'
                          go_simp
                          with_reducible rfl
                        rotate_left
                        · simp only [Act.put, List.setIfInBounds_toArray, List.set_cons_zero, List.set_cons_succ, i64_w, i32_w]
                          rfl
                        refine take_ (i := 9) (N := some 105) (v := ?_) (a' := ?_) #[true, true, true, true, true, true, true, true, true, true, false, false, false, false] rfl rfl (take_ofW HT_.out HW_.out (by kernel_rfl)) (fun _ _ _ h => h) (Or.inl ⟨by rfl, ?_⟩) hHeld ?_ ?_
                        rotate_left
                        · rintro w' ⟨s0, s1, s2⟩
                          go_simp
                          with_reducible rfl
                        rotate_left
                        · simp only [Act.put, List.setIfInBounds_toArray, List.set_cons_zero, List.set_cons_succ, i64_w, i32_w]
                          rfl
                        refine pure_ (i := 10) (N := some 106) (v := ?_) (a' := ?_) #[true, true, true, true, true, true, true, true, true, true, true, false, false, false] rfl rfl (any_of HT_.out (by kernel_rfl)) (fun _ _ _ h => h) (Or.inl ⟨by rfl, ?_⟩) ?_ ?_
                        rotate_left
                        · intro w'
                          go_simp
                          with_reducible rfl
                        rotate_left
                        · simp only [Act.put, List.setIfInBounds_toArray, List.set_cons_zero, List.set_cons_succ, i64_w, i32_w]
                          rfl
                        refine pure_ (i := 11) (N := some 107) (v := ?_) (a' := ?_) #[true, true, true, true, true, true, true, true, true, true, true, true, false, false] rfl rfl (any_of HT_.out (by kernel_rfl)) (fun _ _ _ h => h) (Or.inl ⟨by rfl, ?_⟩) ?_ ?_
                        rotate_left
                        · intro w'
                          go_simp
                          with_reducible rfl
                        rotate_left
                        · simp only [Act.put, List.setIfInBounds_toArray, List.set_cons_zero, List.set_cons_succ, i64_w, i32_w]
                          rfl
                        refine one_ (i := 12) (N := some 108) #[true, true, true, true, true, true, true, true, true, true, true, true, true, false] rfl rfl (one_of HT_.out (by kernel_rfl)) (by decide) (fun K hK => ?_)
                        refine goes_ Tryd.func51 (by kernel_rfl) rfl #[.int .u64 (IntKind.u64.wrap ((IntKind.u64.wrap (a0_1)) * (IntKind.u64.wrap (Int.tdiv (IntKind.u64.wrap (a1_1)) t207)))), .int .u64 (IntKind.u64.wrap ((IntKind.u64.wrap ((IntKind.u64.wrap (a0_1)) * t216)) + (IntKind.u64.wrap (a0_2))))] (by rfl) rfl rfl (by (try simp only [List.map_toArray, List.map_cons, List.map_nil]); first | done | rfl | (simp only [List.length_drop, List.length_take]; rfl)) ?_
                        with_reducible refine (congr_of.calls kj21 (IntKind.u64.wrap ((IntKind.u64.wrap (a0_1)) * (IntKind.u64.wrap (Int.tdiv (IntKind.u64.wrap (a1_1)) t207)))) (IntKind.u64.wrap ((IntKind.u64.wrap ((IntKind.u64.wrap (a0_1)) * t216)) + (IntKind.u64.wrap (a0_2)))) t217 t218 t219 _ A73.out).mono ?_
                        rintro e w83 ⟨rfl, hb⟩
                        refine ⟨_, rfl, ?_⟩
                        have n0_ := Aside0.mk (blk_below (g := gb197) (o := .cells #[.bool a0_0, .int .i64 a0_1, .int .i64 a0_2] 23 (0, 0)) (by (with_reducible repeat (first | refine blk_drewN ?_ _ | refine blk_drew ?_ | refine blk_alloc ?_ _)); exact BK197.out) hb)
                        have n1_ := Aside0.mk (blk_below (g := gb198) (o := .cells #[.bool a1_0, .int .i64 a1_1, .int .i64 a1_2] 23 (0, 0)) (by (with_reducible repeat (first | refine blk_drewN ?_ _ | refine blk_drew ?_ | refine blk_alloc ?_ _)); exact BK198.out) hb)
                        have n2_ := Aside0.mk (blk_below (g := gb199) (o := .cells #[.bool false, .int .i64 0, .int .i64 0] 23 (0, 0)) (by (with_reducible repeat (first | refine blk_drewN ?_ _ | refine blk_drew ?_ | refine blk_alloc ?_ _)); exact BK199.out) hb)
                        have n3_ := Aside0.mk (below_step (by repeat (first | (with_reducible first | exact HB.out | apply below_alloc | apply pw_below_drewN | apply below_drew1 | refine below_set ?_ GE197.out | refine below_set ?_ GE198.out | refine below_set ?_ GE199.out) | exact HB.out)) hb)
                        clear BK197
                        clear BK198
                        clear BK199
                        clear HB
                        have BK197 := n0_
                        have BK198 := n1_
                        have BK199 := n2_
                        have HB := n3_
                        clear n0_ n1_ n2_ n3_
                        (try clear hb)
                        (try clear hb2)
                        (try clear hk)
                        (try clear hi)
                        refine hK.out _ _ ⟨(blk_cell BK197.out 0).trans rfl, (blk_cell BK197.out 1).trans rfl, (blk_cell BK197.out 2).trans rfl⟩ (fun hHeld => ?_)
                        clear hK K
                        refine norm_ (a' := ?_) ?_ ?_
                        rotate_left
                        · show Act.put _ (some 108) _ = _
                          simp only [Act.put, List.setIfInBounds_toArray, List.set_cons_zero, List.set_cons_succ, i64_w, i32_w]
                          rfl
                        refine one_ (i := 13) (N := none) #[true, true, true, true, true, true, true, true, true, true, true, true, true, true] rfl rfl (one_of HT_.out (by kernel_rfl)) (by decide) (fun K hK => ?_)
                        have hs84 : w83.cell? ⟨gb199, 0, none⟩ = some (.bool false) := (blk_cell BK199.out 0).trans rfl
                        have hfs84 := blk_frozen BK199.out 0
                        have hns84_0 := NB197_199.out
                        have hns84_1 := NB198_199.out
                        have hms84_0 := NB199_197.out
                        have hms84_1 := NB199_198.out
                        have hs85 : w83.cell? ⟨gb199, 1, none⟩ = some (.int .i64 0) := (blk_cell BK199.out 1).trans rfl
                        have hfs85 := blk_frozen BK199.out 1
                        have hns85_0 := NB197_199.out
                        have hns85_1 := NB198_199.out
                        have hms85_0 := NB199_197.out
                        have hms85_1 := NB199_198.out
                        have hs86 : w83.cell? ⟨gb199, 2, none⟩ = some (.int .i64 0) := (blk_cell BK199.out 2).trans rfl
                        have hfs86 := blk_frozen BK199.out 2
                        have hns86_0 := NB197_199.out
                        have hns86_1 := NB198_199.out
                        have hms86_0 := NB199_197.out
                        have hms86_1 := NB199_198.out
                        refine skip_ (w1 := ?_) (by rfl) rfl ?_ ?_
                        rotate_left
                        · go_simp
                          rfl
                        refine hK.out _ _ ⟨((cell_far (p := ⟨gb199, _, none⟩) NB197_199.out _).trans (((cell_far (p := ⟨gb199, _, none⟩) NB197_199.out _).trans (((cell_far (p := ⟨gb199, _, none⟩) NB197_199.out _).trans (hHeld.1)))))), ((cell_far (p := ⟨gb199, _, none⟩) NB197_199.out _).trans (((cell_far (p := ⟨gb199, _, none⟩) NB197_199.out _).trans (((cell_far (p := ⟨gb199, _, none⟩) NB197_199.out _).trans (hHeld.2.1)))))), ((cell_far (p := ⟨gb199, _, none⟩) NB197_199.out _).trans (((cell_far (p := ⟨gb199, _, none⟩) NB197_199.out _).trans (((cell_far (p := ⟨gb199, _, none⟩) NB197_199.out _).trans (hHeld.2.2))))))⟩ (fun hHeld => ?_)
                        clear hK K
                        refine done_ (done_of HT_.out (by kernel_rfl)) ?_
                        try go_wp2
                        refine bodyPost_ret (results_cell_row rfl _ _ gb199 23 #[.bool t217, .int .i64 t218, .int .i64 t219] (0, 0) _ rfl (by (with_reducible repeat (first | refine blk_drewN ?_ _ | refine blk_drew ?_ | refine blk_alloc ?_ _)); refine blk_put (cs := #[.bool t217, .int .i64 t218, .int .i64 0]) ?_ 2 _ rfl; (with_reducible repeat (first | refine blk_drewN ?_ _ | refine blk_drew ?_ | refine blk_alloc ?_ _)); refine blk_put (cs := #[.bool t217, .int .i64 0, .int .i64 0]) ?_ 1 _ rfl; (with_reducible repeat (first | refine blk_drewN ?_ _ | refine blk_drew ?_ | refine blk_alloc ?_ _)); refine blk_put (cs := #[.bool false, .int .i64 0, .int .i64 0]) ?_ 0 _ rfl; (with_reducible repeat (first | refine blk_drewN ?_ _ | refine blk_drew ?_ | refine blk_alloc ?_ _)); exact BK199.out) Tryd.underlying23 rfl (by kernel_rfl)) rfl ?_
                        exact ⟨by first | rfl | (simp [errW_none, errW_some] <;> rfl) | (simp [*, errW_none, errW_some] <;> rfl), by repeat (first | (with_reducible first | exact HB.out | apply below_alloc | apply pw_below_drewN | apply below_drew1 | refine below_set ?_ GE197.out | refine below_set ?_ GE198.out | refine below_set ?_ GE199.out) | exact HB.out)⟩
                  · rw [if_neg c66] at H
                    have c66b0 : decide (1 < (IntKind.u64.wrap (Int.tdiv (IntKind.u64.wrap (a1_1)) t207))) = false := decide_eq_false c66
                    clear c66
                    replace H := Option.bind_eq_some_iff.mp H
                    obtain ⟨⟨t220, t221, t222⟩, A870, H⟩ := H
                    replace H : (some (t220, t221, t222)) = some (r1, r2, r3) := H
                    have A87 := Aside0.mk A870
                    clear A870
                    simp only [Option.some.injEq, Prod.mk.injEq] at H
                    obtain ⟨rfl, rfl, rfl⟩ := H
                    try go_wp2
                    have n0_ := Aside0.mk (blk_drew BK197.out)
                    have n1_ := Aside0.mk (blk_drew BK198.out)
                    have n2_ := Aside0.mk (blk_drew BK199.out)
                    have n3_ := Aside0.mk (below_drew1 HB.out)
                    clear BK197
                    clear BK198
                    clear BK199
                    clear HB
                    have BK197 := n0_
                    have BK198 := n1_
                    have BK199 := n2_
                    have HB := n3_
                    clear n0_ n1_ n2_ n3_
                    refine start_ (n := 8) (S := fun w' => w'.cell? ⟨gb197, 0, none⟩ = some (.bool a0_0) ∧ w'.cell? ⟨gb197, 1, none⟩ = some (.int .i64 a0_1) ∧ w'.cell? ⟨gb197, 2, none⟩ = some (.int .i64 a0_2) ∧ w'.cell? ⟨gb198, 0, none⟩ = some (.bool a1_0) ∧ w'.cell? ⟨gb198, 1, none⟩ = some (.int .i64 a1_1) ∧ w'.cell? ⟨gb198, 2, none⟩ = some (.int .i64 a1_2)) (ds := []) #[false, false, false, false, false, false, false, false] (by kernel_rfl) rfl rfl ⟨(blk_cell BK197.out 0).trans rfl, (blk_cell BK197.out 1).trans rfl, (blk_cell BK197.out 2).trans rfl, (blk_cell BK198.out 0).trans rfl, (blk_cell BK198.out 1).trans rfl, (blk_cell BK198.out 2).trans rfl⟩ (fun hHeld => ?_); refine with_tabW congr_Meet.tab9 congr_Meet.bits9 (fun HT_ HW_ => ?_)
                    generalize wc.drew = w88 at BK197 BK198 BK199 HB hHeld ⊢
                    refine pure_ (i := 0) (N := some 39) (v := ?_) (a' := ?_) #[true, false, false, false, false, false, false, false] rfl rfl (any_of HT_.out (by kernel_rfl)) (fun _ _ _ h => h) (Or.inl ⟨by rfl, ?_⟩) ?_ ?_
                    rotate_left
                    · intro w'
                      go_simp
                      with_reducible rfl
                    rotate_left
                    · simp only [Act.put, List.setIfInBounds_toArray, List.set_cons_zero, List.set_cons_succ, i64_w, i32_w]
                      rfl
                    refine pure_ (i := 3) (N := some 42) (v := ?_) (a' := ?_) #[true, false, false, true, false, false, false, false] rfl rfl (any_of HT_.out (by kernel_rfl)) (fun _ _ _ h => h) (Or.inl ⟨by rfl, ?_⟩) ?_ ?_
                    rotate_left
                    · intro w'
                      go_simp
                      with_reducible rfl
                    rotate_left
                    · simp only [Act.put, List.setIfInBounds_toArray, List.set_cons_zero, List.set_cons_succ, i64_w, i32_w]
                      rfl
                    refine take_ (i := 1) (N := some 40) (v := ?_) (a' := ?_) #[true, true, false, true, false, false, false, false] rfl rfl (take_ofW HT_.out HW_.out (by kernel_rfl)) (fun _ _ _ h => h) (Or.inl ⟨by rfl, ?_⟩) hHeld ?_ ?_
                    rotate_left
                    · rintro w' ⟨s0, s1, s2, s3, s4, s5⟩
                      go_simp
                      with_reducible rfl
                    rotate_left
                    · simp only [Act.put, List.setIfInBounds_toArray, List.set_cons_zero, List.set_cons_succ, i64_w, i32_w]
                      rfl
                    refine pure_ (i := 2) (N := some 41) (v := ?_) (a' := ?_) #[true, true, true, true, false, false, false, false] rfl rfl (any_of HT_.out (by kernel_rfl)) (fun _ _ _ h => h) (Or.inl ⟨by rfl, ?_⟩) ?_ ?_
                    rotate_left
                    · intro w'
                      go_simp
                      with_reducible rfl
                    rotate_left
                    · simp only [Act.put, List.setIfInBounds_toArray, List.set_cons_zero, List.set_cons_succ, i64_w, i32_w]
                      rfl
                    refine pure_ (i := 6) (N := some 5) (v := ?_) (a' := ?_) #[true, true, true, true, false, false, true, false] rfl rfl (any_of HT_.out (by kernel_rfl)) (fun _ _ _ h => h) (Or.inl ⟨by rfl, ?_⟩) ?_ ?_
                    rotate_left
                    · intro w'
                      go_simp
                      with_reducible rfl
                    rotate_left
                    · simp only [Act.put, List.setIfInBounds_toArray, List.set_cons_zero, List.set_cons_succ, i64_w, i32_w]
                      rfl
                    refine take_ (i := 4) (N := some 43) (v := ?_) (a' := ?_) #[true, true, true, true, true, false, true, false] rfl rfl (take_ofW HT_.out HW_.out (by kernel_rfl)) (fun _ _ _ h => h) (Or.inl ⟨by rfl, ?_⟩) hHeld ?_ ?_
                    rotate_left
                    · rintro w' ⟨s0, s1, s2, s3, s4, s5⟩
                      go_simp
                      with_reducible rfl
                    rotate_left
                    · simp only [Act.put, List.setIfInBounds_toArray, List.set_cons_zero, List.set_cons_succ, i64_w, i32_w]
                      rfl
                    refine pure_ (i := 5) (N := some 44) (v := ?_) (a' := ?_) #[true, true, true, true, true, true, true, false] rfl rfl (any_of HT_.out (by kernel_rfl)) (fun _ _ _ h => h) (Or.inl ⟨by rfl, ?_⟩) ?_ ?_
                    rotate_left
                    · intro w'
                      go_simp
                      with_reducible rfl
                    rotate_left
                    · simp only [Act.put, List.setIfInBounds_toArray, List.set_cons_zero, List.set_cons_succ, i64_w, i32_w]
                      rfl
                    refine pure_ (i := 7) (N := some 6) (v := ?_) (a' := ?_) #[true, true, true, true, true, true, true, true] rfl rfl (any_of HT_.out (by kernel_rfl)) (fun _ _ _ h => h) (Or.inl ⟨by rfl, ?_⟩) ?_ ?_
                    rotate_left
                    · intro w'
                      go_simp
                      with_reducible rfl
                    rotate_left
                    · simp only [Act.put, List.setIfInBounds_toArray, List.set_cons_zero, List.set_cons_succ, i64_w, i32_w]
                      rfl
                    refine done_ (done_of HT_.out (by kernel_rfl)) ?_
                    try go_wp2_with (first | ((with_reducible refine gate_callee (f := 62) rfl ?_); refine goesL_ (some 47) rfl rfl Tryd.func62 (by kernel_rfl) rfl #[.int .u64 (IntKind.u64.wrap (a0_1)), .int .u64 (IntKind.u64.wrap (a1_1))] rfl (by (try simp only [List.map_toArray, List.map_cons, List.map_nil]); first | done | rfl | (simp only [List.length_drop, List.length_take]; rfl)) ?_; (with_reducible refine (congr_gcd_uint64.calls kj21 (IntKind.u64.wrap (a0_1)) (IntKind.u64.wrap (a1_1)) t207 _ A62.out).mono ?_); rintro e w' ⟨rfl, ⟨nd, rfl⟩⟩; refine ⟨_, rfl, ?_⟩; (try (rw [drewN_self w88]; generalize hq_ : World.drewN w88 _ = w88; have n0_ : Aside0 (w88.heap[gb197]? = some (.cells #[.bool a0_0, .int .i64 a0_1, .int .i64 a0_2] 23 (0, 0))) := ⟨by rw [← hq_]; exact (by (with_reducible repeat (first | refine blk_drewN ?_ _ | refine blk_drew ?_ | refine blk_alloc ?_ _)); exact BK197.out)⟩; have n1_ : Aside0 (w88.heap[gb198]? = some (.cells #[.bool a1_0, .int .i64 a1_1, .int .i64 a1_2] 23 (0, 0))) := ⟨by rw [← hq_]; exact (by (with_reducible repeat (first | refine blk_drewN ?_ _ | refine blk_drew ?_ | refine blk_alloc ?_ _)); exact BK198.out)⟩; have n2_ : Aside0 (w88.heap[gb199]? = some (.cells #[.bool false, .int .i64 0, .int .i64 0] 23 (0, 0))) := ⟨by rw [← hq_]; exact (by (with_reducible repeat (first | refine blk_drewN ?_ _ | refine blk_drew ?_ | refine blk_alloc ?_ _)); exact BK199.out)⟩; have n3_ : Aside0 (Below w.heap.size w w88) := ⟨by rw [← hq_]; exact (by repeat (first | (with_reducible first | exact HB.out | apply below_alloc | apply pw_below_drewN | apply below_drew1 | refine below_set ?_ GE197.out | refine below_set ?_ GE198.out | refine below_set ?_ GE199.out) | exact HB.out))⟩; clear BK197 BK198 BK199 HB hq_; have BK197 := n0_; have BK198 := n1_; have BK199 := n2_; have HB := n3_; clear n0_ n1_ n2_ n3_)); have hnb89 := NB197_198.out; have hnc89 := NB198_197.out; have hnb90 := NB197_199.out; have hnc90 := NB199_197.out; have hcz91_0 : w88.cell? ⟨gb197, 0, none⟩ = some (.bool a0_0) := (blk_cell BK197.out 0).trans rfl; have hcz91_1 : w88.cell? ⟨gb197, 1, none⟩ = some (.int .i64 a0_1) := (blk_cell BK197.out 1).trans rfl; have hcz91_2 : w88.cell? ⟨gb197, 2, none⟩ = some (.int .i64 a0_2) := (blk_cell BK197.out 2).trans rfl; have hfz91_0 := blk_frozen BK197.out 0; have hfz91_1 := blk_frozen BK197.out 1; have hfz91_2 := blk_frozen BK197.out 2; have hnb92 := NB198_199.out; have hnc92 := NB199_198.out; have hcz93_0 : w88.cell? ⟨gb198, 0, none⟩ = some (.bool a1_0) := (blk_cell BK198.out 0).trans rfl; have hcz93_1 : w88.cell? ⟨gb198, 1, none⟩ = some (.int .i64 a1_1) := (blk_cell BK198.out 1).trans rfl; have hcz93_2 : w88.cell? ⟨gb198, 2, none⟩ = some (.int .i64 a1_2) := (blk_cell BK198.out 2).trans rfl; have hfz93_0 := blk_frozen BK198.out 0; have hfz93_1 := blk_frozen BK198.out 1; have hfz93_2 := blk_frozen BK198.out 2) | ((with_reducible refine gate_callee (f := 52) rfl ?_); refine goesL_ (some 53) rfl rfl Tryd.func52 (by kernel_rfl) rfl #[.int .i64 (wrap64 (a0_2 - a1_2))] rfl (by (try simp only [List.map_toArray, List.map_cons, List.map_nil]); first | done | rfl | (simp only [List.length_drop, List.length_take]; rfl)) ?_; (with_reducible refine (congr_size.calls (wrap64 (a0_2 - a1_2)) t208 _ A63.out).mono ?_); rintro e w' ⟨rfl, ⟨nd, rfl⟩⟩; refine ⟨_, rfl, ?_⟩; (try (rw [drewN_self w88]; generalize hq_ : World.drewN w88 _ = w88; have n0_ : Aside0 (w88.heap[gb197]? = some (.cells #[.bool a0_0, .int .i64 a0_1, .int .i64 a0_2] 23 (0, 0))) := ⟨by rw [← hq_]; exact (by (with_reducible repeat (first | refine blk_drewN ?_ _ | refine blk_drew ?_ | refine blk_alloc ?_ _)); exact BK197.out)⟩; have n1_ : Aside0 (w88.heap[gb198]? = some (.cells #[.bool a1_0, .int .i64 a1_1, .int .i64 a1_2] 23 (0, 0))) := ⟨by rw [← hq_]; exact (by (with_reducible repeat (first | refine blk_drewN ?_ _ | refine blk_drew ?_ | refine blk_alloc ?_ _)); exact BK198.out)⟩; have n2_ : Aside0 (w88.heap[gb199]? = some (.cells #[.bool false, .int .i64 0, .int .i64 0] 23 (0, 0))) := ⟨by rw [← hq_]; exact (by (with_reducible repeat (first | refine blk_drewN ?_ _ | refine blk_drew ?_ | refine blk_alloc ?_ _)); exact BK199.out)⟩; have n3_ : Aside0 (Below w.heap.size w w88) := ⟨by rw [← hq_]; exact (by repeat (first | (with_reducible first | exact HB.out | apply below_alloc | apply pw_below_drewN | apply below_drew1 | refine below_set ?_ GE197.out | refine below_set ?_ GE198.out | refine below_set ?_ GE199.out) | exact HB.out))⟩; clear BK197 BK198 BK199 HB hq_; have BK197 := n0_; have BK198 := n1_; have BK199 := n2_; have HB := n3_; clear n0_ n1_ n2_ n3_))))
                    have n0_ := Aside0.mk (blk_drew BK197.out)
                    have n1_ := Aside0.mk (blk_drew BK198.out)
                    have n2_ := Aside0.mk (blk_drew BK199.out)
                    have n3_ := Aside0.mk (below_drew1 HB.out)
                    clear BK197
                    clear BK198
                    clear BK199
                    clear HB
                    have BK197 := n0_
                    have BK198 := n1_
                    have BK199 := n2_
                    have HB := n3_
                    clear n0_ n1_ n2_ n3_
                    refine start_ (n := 14) (S := fun w' => w'.cell? ⟨gb197, 0, none⟩ = some (.bool a0_0) ∧ w'.cell? ⟨gb197, 1, none⟩ = some (.int .i64 a0_1) ∧ w'.cell? ⟨gb197, 2, none⟩ = some (.int .i64 a0_2)) (ds := []) #[false, false, false, false, false, false, false, false, false, false, false, false, false, false] (by kernel_rfl) rfl rfl ⟨(blk_cell BK197.out 0).trans rfl, (blk_cell BK197.out 1).trans rfl, (blk_cell BK197.out 2).trans rfl⟩ (fun hHeld => ?_); refine with_tabW congr_Meet.tab17 congr_Meet.bits17 (fun HT_ HW_ => ?_)
                    generalize w88.drew = w94 at BK197 BK198 BK199 HB hHeld ⊢
                    refine pure_ (i := 0) (N := some 96) (v := ?_) (a' := ?_) #[true, false, false, false, false, false, false, false, false, false, false, false, false, false] rfl rfl (any_of HT_.out (by kernel_rfl)) (fun _ _ _ h => h) (Or.inl ⟨by rfl, ?_⟩) ?_ ?_
                    rotate_left
                    · intro w'
                      go_simp
                      with_reducible rfl
                    rotate_left
                    · simp only [Act.put, List.setIfInBounds_toArray, List.set_cons_zero, List.set_cons_succ, i64_w, i32_w]
                      rfl
                    refine pure_ (i := 1) (N := some 97) (v := ?_) (a' := ?_) #[true, true, false, false, false, false, false, false, false, false, false, false, false, false] rfl rfl (any_of HT_.out (by kernel_rfl)) (fun _ _ _ h => h) (Or.inl ⟨by rfl, ?_⟩) ?_ ?_
                    rotate_left
                    · intro w'
                      go_simp
                      with_reducible rfl
                    rotate_left
                    · simp only [Act.put, List.setIfInBounds_toArray, List.set_cons_zero, List.set_cons_succ, i64_w, i32_w]
                      rfl
                    refine pure_ (i := 2) (N := some 98) (v := ?_) (a' := ?_) #[true, true, true, false, false, false, false, false, false, false, false, false, false, false] rfl rfl (any_of HT_.out (by kernel_rfl)) (fun _ _ _ h => h) (Or.inl ⟨by rfl, ?_⟩) ?_ ?_
                    rotate_left
                    · intro w'
                      go_simp
                      with_reducible rfl
                    rotate_left
                    · simp only [Act.put, List.setIfInBounds_toArray, List.set_cons_zero, List.set_cons_succ, i64_w, i32_w]
                      rfl
                    refine pure_ (i := 3) (N := some 99) (v := ?_) (a' := ?_) #[true, true, true, true, false, false, false, false, false, false, false, false, false, false] rfl rfl (any_of HT_.out (by kernel_rfl)) (fun _ _ _ h => h) (Or.inl ⟨by rfl, ?_⟩) ?_ ?_
                    rotate_left
                    · intro w'
                      go_simp
                      with_reducible rfl
                    rotate_left
                    · simp only [Act.put, List.setIfInBounds_toArray, List.set_cons_zero, List.set_cons_succ, i64_w, i32_w]
                      rfl
                    refine pure_ (i := 4) (N := some 100) (v := ?_) (a' := ?_) #[true, true, true, true, true, false, false, false, false, false, false, false, false, false] rfl rfl (any_of HT_.out (by kernel_rfl)) (fun _ _ _ h => h) (Or.inl ⟨by rfl, ?_⟩) ?_ ?_
                    rotate_left
                    · intro w'
                      go_simp
                      with_reducible rfl
                    rotate_left
                    · simp only [Act.put, List.setIfInBounds_toArray, List.set_cons_zero, List.set_cons_succ, i64_w, i32_w]
                      rfl
                    refine pure_ (i := 5) (N := some 101) (v := ?_) (a' := ?_) #[true, true, true, true, true, true, false, false, false, false, false, false, false, false] rfl rfl (any_of HT_.out (by kernel_rfl)) (fun _ _ _ h => h) (Or.inl ⟨by rfl, ?_⟩) ?_ ?_
                    rotate_left
                    · intro w'
                      go_simp
                      with_reducible rfl
                    rotate_left
                    · simp only [Act.put, List.setIfInBounds_toArray, List.set_cons_zero, List.set_cons_succ, i64_w, i32_w]
                      rfl
                    refine pure_ (i := 6) (N := some 102) (v := ?_) (a' := ?_) #[true, true, true, true, true, true, true, false, false, false, false, false, false, false] rfl rfl (any_of HT_.out (by kernel_rfl)) (fun _ _ _ h => h) (Or.inl ⟨by rfl, ?_⟩) ?_ ?_
                    rotate_left
                    · intro w'
                      go_simp
                      with_reducible rfl
                    rotate_left
                    · simp only [Act.put, List.setIfInBounds_toArray, List.set_cons_zero, List.set_cons_succ, i64_w, i32_w]
                      rfl
                    refine pure_ (i := 7) (N := some 103) (v := ?_) (a' := ?_) #[true, true, true, true, true, true, true, true, false, false, false, false, false, false] rfl rfl (any_of HT_.out (by kernel_rfl)) (fun _ _ _ h => h) (Or.inl ⟨by rfl, ?_⟩) ?_ ?_
                    rotate_left
                    · intro w'
                      go_simp
                      with_reducible rfl
                    rotate_left
                    · simp only [Act.put, List.setIfInBounds_toArray, List.set_cons_zero, List.set_cons_succ, i64_w, i32_w]
                      rfl
                    refine pure_ (i := 8) (N := some 104) (v := ?_) (a' := ?_) #[true, true, true, true, true, true, true, true, true, false, false, false, false, false] rfl rfl (any_of HT_.out (by kernel_rfl)) (fun _ _ _ h => h) (Or.inl ⟨by rfl, ?_⟩) ?_ ?_
                    rotate_left
                    · intro w'
                      go_simp
                      with_reducible rfl
                    rotate_left
                    · simp only [Act.put, List.setIfInBounds_toArray, List.set_cons_zero, List.set_cons_succ, i64_w, i32_w]
                      rfl
                    refine take_ (i := 9) (N := some 105) (v := ?_) (a' := ?_) #[true, true, true, true, true, true, true, true, true, true, false, false, false, false] rfl rfl (take_ofW HT_.out HW_.out (by kernel_rfl)) (fun _ _ _ h => h) (Or.inl ⟨by rfl, ?_⟩) hHeld ?_ ?_
                    rotate_left
                    · rintro w' ⟨s0, s1, s2⟩
                      go_simp
                      with_reducible rfl
                    rotate_left
                    · simp only [Act.put, List.setIfInBounds_toArray, List.set_cons_zero, List.set_cons_succ, i64_w, i32_w]
                      rfl
                    refine pure_ (i := 10) (N := some 106) (v := ?_) (a' := ?_) #[true, true, true, true, true, true, true, true, true, true, true, false, false, false] rfl rfl (any_of HT_.out (by kernel_rfl)) (fun _ _ _ h => h) (Or.inl ⟨by rfl, ?_⟩) ?_ ?_
                    rotate_left
                    · intro w'
                      go_simp
                      with_reducible rfl
                    rotate_left
                    · simp only [Act.put, List.setIfInBounds_toArray, List.set_cons_zero, List.set_cons_succ, i64_w, i32_w]
                      rfl
                    refine pure_ (i := 11) (N := some 107) (v := ?_) (a' := ?_) #[true, true, true, true, true, true, true, true, true, true, true, true, false, false] rfl rfl (any_of HT_.out (by kernel_rfl)) (fun _ _ _ h => h) (Or.inl ⟨by rfl, ?_⟩) ?_ ?_
                    rotate_left
                    · intro w'
                      go_simp
                      with_reducible rfl
                    rotate_left
                    · simp only [Act.put, List.setIfInBounds_toArray, List.set_cons_zero, List.set_cons_succ, i64_w, i32_w]
                      rfl
                    refine one_ (i := 12) (N := some 108) #[true, true, true, true, true, true, true, true, true, true, true, true, true, false] rfl rfl (one_of HT_.out (by kernel_rfl)) (by decide) (fun K hK => ?_)
                    refine goes_ Tryd.func51 (by kernel_rfl) rfl #[.int .u64 (IntKind.u64.wrap ((IntKind.u64.wrap (a0_1)) * (IntKind.u64.wrap (Int.tdiv (IntKind.u64.wrap (a1_1)) t207)))), .int .u64 (IntKind.u64.wrap ((IntKind.u64.wrap ((IntKind.u64.wrap (a0_1)) * 0)) + (IntKind.u64.wrap (a0_2))))] (by rfl) rfl rfl (by (try simp only [List.map_toArray, List.map_cons, List.map_nil]); first | done | rfl | (go_simp; done) | (simp [go_sem]; done) | (simp [go_sem, IntKind.wrap_u64]; done) | (simp only [List.length_drop, List.length_take]; rfl)) ?_
                    with_reducible refine (congr_of.calls kj21 (IntKind.u64.wrap ((IntKind.u64.wrap (a0_1)) * (IntKind.u64.wrap (Int.tdiv (IntKind.u64.wrap (a1_1)) t207)))) (IntKind.u64.wrap ((IntKind.u64.wrap ((IntKind.u64.wrap (a0_1)) * 0)) + (IntKind.u64.wrap (a0_2)))) t220 t221 t222 _ A87.out).mono ?_
                    rintro e w95 ⟨rfl, hb⟩
                    refine ⟨_, rfl, ?_⟩
                    have n0_ := Aside0.mk (blk_below (g := gb197) (o := .cells #[.bool a0_0, .int .i64 a0_1, .int .i64 a0_2] 23 (0, 0)) (by (with_reducible repeat (first | refine blk_drewN ?_ _ | refine blk_drew ?_ | refine blk_alloc ?_ _)); exact BK197.out) hb)
                    have n1_ := Aside0.mk (blk_below (g := gb198) (o := .cells #[.bool a1_0, .int .i64 a1_1, .int .i64 a1_2] 23 (0, 0)) (by (with_reducible repeat (first | refine blk_drewN ?_ _ | refine blk_drew ?_ | refine blk_alloc ?_ _)); exact BK198.out) hb)
                    have n2_ := Aside0.mk (blk_below (g := gb199) (o := .cells #[.bool false, .int .i64 0, .int .i64 0] 23 (0, 0)) (by (with_reducible repeat (first | refine blk_drewN ?_ _ | refine blk_drew ?_ | refine blk_alloc ?_ _)); exact BK199.out) hb)
                    have n3_ := Aside0.mk (below_step (by repeat (first | (with_reducible first | exact HB.out | apply below_alloc | apply pw_below_drewN | apply below_drew1 | refine below_set ?_ GE197.out | refine below_set ?_ GE198.out | refine below_set ?_ GE199.out) | exact HB.out)) hb)
                    clear BK197
                    clear BK198
                    clear BK199
                    clear HB
                    have BK197 := n0_
                    have BK198 := n1_
                    have BK199 := n2_
                    have HB := n3_
                    clear n0_ n1_ n2_ n3_
                    (try clear hb)
                    (try clear hb2)
                    (try clear hk)
                    (try clear hi)
                    refine hK.out _ _ ⟨(blk_cell BK197.out 0).trans rfl, (blk_cell BK197.out 1).trans rfl, (blk_cell BK197.out 2).trans rfl⟩ (fun hHeld => ?_)
                    clear hK K
                    refine norm_ (a' := ?_) ?_ ?_
                    rotate_left
                    · show Act.put _ (some 108) _ = _
                      simp only [Act.put, List.setIfInBounds_toArray, List.set_cons_zero, List.set_cons_succ, i64_w, i32_w]
                      rfl
                    refine one_ (i := 13) (N := none) #[true, true, true, true, true, true, true, true, true, true, true, true, true, true] rfl rfl (one_of HT_.out (by kernel_rfl)) (by decide) (fun K hK => ?_)
                    have hs96 : w95.cell? ⟨gb199, 0, none⟩ = some (.bool false) := (blk_cell BK199.out 0).trans rfl
                    have hfs96 := blk_frozen BK199.out 0
                    have hns96_0 := NB197_199.out
                    have hns96_1 := NB198_199.out
                    have hms96_0 := NB199_197.out
                    have hms96_1 := NB199_198.out
                    have hs97 : w95.cell? ⟨gb199, 1, none⟩ = some (.int .i64 0) := (blk_cell BK199.out 1).trans rfl
                    have hfs97 := blk_frozen BK199.out 1
                    have hns97_0 := NB197_199.out
                    have hns97_1 := NB198_199.out
                    have hms97_0 := NB199_197.out
                    have hms97_1 := NB199_198.out
                    have hs98 : w95.cell? ⟨gb199, 2, none⟩ = some (.int .i64 0) := (blk_cell BK199.out 2).trans rfl
                    have hfs98 := blk_frozen BK199.out 2
                    have hns98_0 := NB197_199.out
                    have hns98_1 := NB198_199.out
                    have hms98_0 := NB199_197.out
                    have hms98_1 := NB199_198.out
                    refine skip_ (w1 := ?_) (by rfl) rfl ?_ ?_
                    rotate_left
                    · go_simp
                      rfl
                    refine hK.out _ _ ⟨((cell_far (p := ⟨gb199, _, none⟩) NB197_199.out _).trans (((cell_far (p := ⟨gb199, _, none⟩) NB197_199.out _).trans (((cell_far (p := ⟨gb199, _, none⟩) NB197_199.out _).trans (hHeld.1)))))), ((cell_far (p := ⟨gb199, _, none⟩) NB197_199.out _).trans (((cell_far (p := ⟨gb199, _, none⟩) NB197_199.out _).trans (((cell_far (p := ⟨gb199, _, none⟩) NB197_199.out _).trans (hHeld.2.1)))))), ((cell_far (p := ⟨gb199, _, none⟩) NB197_199.out _).trans (((cell_far (p := ⟨gb199, _, none⟩) NB197_199.out _).trans (((cell_far (p := ⟨gb199, _, none⟩) NB197_199.out _).trans (hHeld.2.2))))))⟩ (fun hHeld => ?_)
                    clear hK K
                    refine done_ (done_of HT_.out (by kernel_rfl)) ?_
                    try go_wp2
                    refine bodyPost_ret (results_cell_row rfl _ _ gb199 23 #[.bool t220, .int .i64 t221, .int .i64 t222] (0, 0) _ rfl (by (with_reducible repeat (first | refine blk_drewN ?_ _ | refine blk_drew ?_ | refine blk_alloc ?_ _)); refine blk_put (cs := #[.bool t220, .int .i64 t221, .int .i64 0]) ?_ 2 _ rfl; (with_reducible repeat (first | refine blk_drewN ?_ _ | refine blk_drew ?_ | refine blk_alloc ?_ _)); refine blk_put (cs := #[.bool t220, .int .i64 0, .int .i64 0]) ?_ 1 _ rfl; (with_reducible repeat (first | refine blk_drewN ?_ _ | refine blk_drew ?_ | refine blk_alloc ?_ _)); refine blk_put (cs := #[.bool false, .int .i64 0, .int .i64 0]) ?_ 0 _ rfl; (with_reducible repeat (first | refine blk_drewN ?_ _ | refine blk_drew ?_ | refine blk_alloc ?_ _)); exact BK199.out) Tryd.underlying23 rfl (by kernel_rfl)) rfl ?_
                    exact ⟨by first | rfl | (simp [errW_none, errW_some] <;> rfl) | (simp [*, errW_none, errW_some] <;> rfl), by repeat (first | (with_reducible first | exact HB.out | apply below_alloc | apply pw_below_drewN | apply below_drew1 | refine below_set ?_ GE197.out | refine below_set ?_ GE198.out | refine below_set ?_ GE199.out) | exact HB.out)⟩
                · rw [if_neg c65] at H
                  have c65b0 : ((Int.tmod t208 t207) == 0) = false := beq_eq_false_iff_ne.mpr c65
                  have c65b1 : ((Int.tmod t208 t207) != 0) = true := bne_iff_ne.mpr c65
                  replace H := Option.bind_eq_some_iff.mp H
                  obtain ⟨⟨t209, t210, t211⟩, A990, H⟩ := H
                  replace H : (some (t209, t210, t211)) = some (r1, r2, r3) := H
                  have A99 := Aside0.mk A990
                  clear A990
                  simp only [Option.some.injEq, Prod.mk.injEq] at H
                  obtain ⟨rfl, rfl, rfl⟩ := H
                  try go_wp2
                  have n0_ := Aside0.mk (blk_drew BK197.out)
                  have n1_ := Aside0.mk (blk_drew BK198.out)
                  have n2_ := Aside0.mk (blk_drew BK199.out)
                  have n3_ := Aside0.mk (below_drew1 HB.out)
                  clear BK197
                  clear BK198
                  clear BK199
                  clear HB
                  have BK197 := n0_
                  have BK198 := n1_
                  have BK199 := n2_
                  have HB := n3_
                  clear n0_ n1_ n2_ n3_
                  refine start_ (n := 8) (S := fun w' => w'.cell? ⟨gb197, 0, none⟩ = some (.bool a0_0) ∧ w'.cell? ⟨gb197, 1, none⟩ = some (.int .i64 a0_1) ∧ w'.cell? ⟨gb197, 2, none⟩ = some (.int .i64 a0_2) ∧ w'.cell? ⟨gb198, 0, none⟩ = some (.bool a1_0) ∧ w'.cell? ⟨gb198, 1, none⟩ = some (.int .i64 a1_1) ∧ w'.cell? ⟨gb198, 2, none⟩ = some (.int .i64 a1_2)) (ds := []) #[false, false, false, false, false, false, false, false] (by kernel_rfl) rfl rfl ⟨(blk_cell BK197.out 0).trans rfl, (blk_cell BK197.out 1).trans rfl, (blk_cell BK197.out 2).trans rfl, (blk_cell BK198.out 0).trans rfl, (blk_cell BK198.out 1).trans rfl, (blk_cell BK198.out 2).trans rfl⟩ (fun hHeld => ?_); refine with_tabW congr_Meet.tab9 congr_Meet.bits9 (fun HT_ HW_ => ?_)
                  generalize wc.drew = w100 at BK197 BK198 BK199 HB hHeld ⊢
                  refine pure_ (i := 0) (N := some 39) (v := ?_) (a' := ?_) #[true, false, false, false, false, false, false, false] rfl rfl (any_of HT_.out (by kernel_rfl)) (fun _ _ _ h => h) (Or.inl ⟨by rfl, ?_⟩) ?_ ?_
                  rotate_left
                  · intro w'
                    go_simp
                    with_reducible rfl
                  rotate_left
                  · simp only [Act.put, List.setIfInBounds_toArray, List.set_cons_zero, List.set_cons_succ, i64_w, i32_w]
                    rfl
                  refine pure_ (i := 3) (N := some 42) (v := ?_) (a' := ?_) #[true, false, false, true, false, false, false, false] rfl rfl (any_of HT_.out (by kernel_rfl)) (fun _ _ _ h => h) (Or.inl ⟨by rfl, ?_⟩) ?_ ?_
                  rotate_left
                  · intro w'
                    go_simp
                    with_reducible rfl
                  rotate_left
                  · simp only [Act.put, List.setIfInBounds_toArray, List.set_cons_zero, List.set_cons_succ, i64_w, i32_w]
                    rfl
                  refine take_ (i := 1) (N := some 40) (v := ?_) (a' := ?_) #[true, true, false, true, false, false, false, false] rfl rfl (take_ofW HT_.out HW_.out (by kernel_rfl)) (fun _ _ _ h => h) (Or.inl ⟨by rfl, ?_⟩) hHeld ?_ ?_
                  rotate_left
                  · rintro w' ⟨s0, s1, s2, s3, s4, s5⟩
                    go_simp
                    with_reducible rfl
                  rotate_left
                  · simp only [Act.put, List.setIfInBounds_toArray, List.set_cons_zero, List.set_cons_succ, i64_w, i32_w]
                    rfl
                  refine pure_ (i := 2) (N := some 41) (v := ?_) (a' := ?_) #[true, true, true, true, false, false, false, false] rfl rfl (any_of HT_.out (by kernel_rfl)) (fun _ _ _ h => h) (Or.inl ⟨by rfl, ?_⟩) ?_ ?_
                  rotate_left
                  · intro w'
                    go_simp
                    with_reducible rfl
                  rotate_left
                  · simp only [Act.put, List.setIfInBounds_toArray, List.set_cons_zero, List.set_cons_succ, i64_w, i32_w]
                    rfl
                  refine pure_ (i := 6) (N := some 5) (v := ?_) (a' := ?_) #[true, true, true, true, false, false, true, false] rfl rfl (any_of HT_.out (by kernel_rfl)) (fun _ _ _ h => h) (Or.inl ⟨by rfl, ?_⟩) ?_ ?_
                  rotate_left
                  · intro w'
                    go_simp
                    with_reducible rfl
                  rotate_left
                  · simp only [Act.put, List.setIfInBounds_toArray, List.set_cons_zero, List.set_cons_succ, i64_w, i32_w]
                    rfl
                  refine take_ (i := 4) (N := some 43) (v := ?_) (a' := ?_) #[true, true, true, true, true, false, true, false] rfl rfl (take_ofW HT_.out HW_.out (by kernel_rfl)) (fun _ _ _ h => h) (Or.inl ⟨by rfl, ?_⟩) hHeld ?_ ?_
                  rotate_left
                  · rintro w' ⟨s0, s1, s2, s3, s4, s5⟩
                    go_simp
                    with_reducible rfl
                  rotate_left
                  · simp only [Act.put, List.setIfInBounds_toArray, List.set_cons_zero, List.set_cons_succ, i64_w, i32_w]
                    rfl
                  refine pure_ (i := 5) (N := some 44) (v := ?_) (a' := ?_) #[true, true, true, true, true, true, true, false] rfl rfl (any_of HT_.out (by kernel_rfl)) (fun _ _ _ h => h) (Or.inl ⟨by rfl, ?_⟩) ?_ ?_
                  rotate_left
                  · intro w'
                    go_simp
                    with_reducible rfl
                  rotate_left
                  · simp only [Act.put, List.setIfInBounds_toArray, List.set_cons_zero, List.set_cons_succ, i64_w, i32_w]
                    rfl
                  refine pure_ (i := 7) (N := some 6) (v := ?_) (a' := ?_) #[true, true, true, true, true, true, true, true] rfl rfl (any_of HT_.out (by kernel_rfl)) (fun _ _ _ h => h) (Or.inl ⟨by rfl, ?_⟩) ?_ ?_
                  rotate_left
                  · intro w'
                    go_simp
                    with_reducible rfl
                  rotate_left
                  · simp only [Act.put, List.setIfInBounds_toArray, List.set_cons_zero, List.set_cons_succ, i64_w, i32_w]
                    rfl
                  refine done_ (done_of HT_.out (by kernel_rfl)) ?_
                  try go_wp2_with (first | ((with_reducible refine gate_callee (f := 62) rfl ?_); refine goesL_ (some 47) rfl rfl Tryd.func62 (by kernel_rfl) rfl #[.int .u64 (IntKind.u64.wrap (a0_1)), .int .u64 (IntKind.u64.wrap (a1_1))] rfl (by (try simp only [List.map_toArray, List.map_cons, List.map_nil]); first | done | rfl | (simp only [List.length_drop, List.length_take]; rfl)) ?_; (with_reducible refine (congr_gcd_uint64.calls kj21 (IntKind.u64.wrap (a0_1)) (IntKind.u64.wrap (a1_1)) t207 _ A62.out).mono ?_); rintro e w' ⟨rfl, ⟨nd, rfl⟩⟩; refine ⟨_, rfl, ?_⟩; (try (rw [drewN_self w100]; generalize hq_ : World.drewN w100 _ = w100; have n0_ : Aside0 (w100.heap[gb197]? = some (.cells #[.bool a0_0, .int .i64 a0_1, .int .i64 a0_2] 23 (0, 0))) := ⟨by rw [← hq_]; exact (by (with_reducible repeat (first | refine blk_drewN ?_ _ | refine blk_drew ?_ | refine blk_alloc ?_ _)); exact BK197.out)⟩; have n1_ : Aside0 (w100.heap[gb198]? = some (.cells #[.bool a1_0, .int .i64 a1_1, .int .i64 a1_2] 23 (0, 0))) := ⟨by rw [← hq_]; exact (by (with_reducible repeat (first | refine blk_drewN ?_ _ | refine blk_drew ?_ | refine blk_alloc ?_ _)); exact BK198.out)⟩; have n2_ : Aside0 (w100.heap[gb199]? = some (.cells #[.bool false, .int .i64 0, .int .i64 0] 23 (0, 0))) := ⟨by rw [← hq_]; exact (by (with_reducible repeat (first | refine blk_drewN ?_ _ | refine blk_drew ?_ | refine blk_alloc ?_ _)); exact BK199.out)⟩; have n3_ : Aside0 (Below w.heap.size w w100) := ⟨by rw [← hq_]; exact (by repeat (first | (with_reducible first | exact HB.out | apply below_alloc | apply pw_below_drewN | apply below_drew1 | refine below_set ?_ GE197.out | refine below_set ?_ GE198.out | refine below_set ?_ GE199.out) | exact HB.out))⟩; clear BK197 BK198 BK199 HB hq_; have BK197 := n0_; have BK198 := n1_; have BK199 := n2_; have HB := n3_; clear n0_ n1_ n2_ n3_)); have hnb101 := NB197_198.out; have hnc101 := NB198_197.out; have hnb102 := NB197_199.out; have hnc102 := NB199_197.out; have hcz103_0 : w100.cell? ⟨gb197, 0, none⟩ = some (.bool a0_0) := (blk_cell BK197.out 0).trans rfl; have hcz103_1 : w100.cell? ⟨gb197, 1, none⟩ = some (.int .i64 a0_1) := (blk_cell BK197.out 1).trans rfl; have hcz103_2 : w100.cell? ⟨gb197, 2, none⟩ = some (.int .i64 a0_2) := (blk_cell BK197.out 2).trans rfl; have hfz103_0 := blk_frozen BK197.out 0; have hfz103_1 := blk_frozen BK197.out 1; have hfz103_2 := blk_frozen BK197.out 2; have hnb104 := NB198_199.out; have hnc104 := NB199_198.out; have hcz105_0 : w100.cell? ⟨gb198, 0, none⟩ = some (.bool a1_0) := (blk_cell BK198.out 0).trans rfl; have hcz105_1 : w100.cell? ⟨gb198, 1, none⟩ = some (.int .i64 a1_1) := (blk_cell BK198.out 1).trans rfl; have hcz105_2 : w100.cell? ⟨gb198, 2, none⟩ = some (.int .i64 a1_2) := (blk_cell BK198.out 2).trans rfl; have hfz105_0 := blk_frozen BK198.out 0; have hfz105_1 := blk_frozen BK198.out 1; have hfz105_2 := blk_frozen BK198.out 2) | ((with_reducible refine gate_callee (f := 52) rfl ?_); refine goesL_ (some 53) rfl rfl Tryd.func52 (by kernel_rfl) rfl #[.int .i64 (wrap64 (a0_2 - a1_2))] rfl (by (try simp only [List.map_toArray, List.map_cons, List.map_nil]); first | done | rfl | (simp only [List.length_drop, List.length_take]; rfl)) ?_; (with_reducible refine (congr_size.calls (wrap64 (a0_2 - a1_2)) t208 _ A63.out).mono ?_); rintro e w' ⟨rfl, ⟨nd, rfl⟩⟩; refine ⟨_, rfl, ?_⟩; (try (rw [drewN_self w100]; generalize hq_ : World.drewN w100 _ = w100; have n0_ : Aside0 (w100.heap[gb197]? = some (.cells #[.bool a0_0, .int .i64 a0_1, .int .i64 a0_2] 23 (0, 0))) := ⟨by rw [← hq_]; exact (by (with_reducible repeat (first | refine blk_drewN ?_ _ | refine blk_drew ?_ | refine blk_alloc ?_ _)); exact BK197.out)⟩; have n1_ : Aside0 (w100.heap[gb198]? = some (.cells #[.bool a1_0, .int .i64 a1_1, .int .i64 a1_2] 23 (0, 0))) := ⟨by rw [← hq_]; exact (by (with_reducible repeat (first | refine blk_drewN ?_ _ | refine blk_drew ?_ | refine blk_alloc ?_ _)); exact BK198.out)⟩; have n2_ : Aside0 (w100.heap[gb199]? = some (.cells #[.bool false, .int .i64 0, .int .i64 0] 23 (0, 0))) := ⟨by rw [← hq_]; exact (by (with_reducible repeat (first | refine blk_drewN ?_ _ | refine blk_drew ?_ | refine blk_alloc ?_ _)); exact BK199.out)⟩; have n3_ : Aside0 (Below w.heap.size w w100) := ⟨by rw [← hq_]; exact (by repeat (first | (with_reducible first | exact HB.out | apply below_alloc | apply pw_below_drewN | apply below_drew1 | refine below_set ?_ GE197.out | refine below_set ?_ GE198.out | refine below_set ?_ GE199.out) | exact HB.out))⟩; clear BK197 BK198 BK199 HB hq_; have BK197 := n0_; have BK198 := n1_; have BK199 := n2_; have HB := n3_; clear n0_ n1_ n2_ n3_))) | ((with_reducible refine gate_callee (f := 56) rfl ?_); refine goesL_ (some 57) rfl rfl Tryd.func56 (by kernel_rfl) rfl #[] rfl (by (try simp only [List.map_toArray, List.map_cons, List.map_nil]); first | done | rfl | (simp only [List.length_drop, List.length_take]; rfl)) ?_; (with_reducible refine (congr_none.calls  t209 t210 t211 _ A99.out).mono ?_); rintro e w106 ⟨rfl, hb⟩; refine ⟨_, rfl, ?_⟩; have n0_ := Aside0.mk (blk_below (g := gb197) (o := .cells #[.bool a0_0, .int .i64 a0_1, .int .i64 a0_2] 23 (0, 0)) (by (with_reducible repeat (first | refine blk_drewN ?_ _ | refine blk_drew ?_ | refine blk_alloc ?_ _)); exact BK197.out) hb); have n1_ := Aside0.mk (blk_below (g := gb198) (o := .cells #[.bool a1_0, .int .i64 a1_1, .int .i64 a1_2] 23 (0, 0)) (by (with_reducible repeat (first | refine blk_drewN ?_ _ | refine blk_drew ?_ | refine blk_alloc ?_ _)); exact BK198.out) hb); have n2_ := Aside0.mk (blk_below (g := gb199) (o := .cells #[.bool false, .int .i64 0, .int .i64 0] 23 (0, 0)) (by (with_reducible repeat (first | refine blk_drewN ?_ _ | refine blk_drew ?_ | refine blk_alloc ?_ _)); exact BK199.out) hb); have n3_ := Aside0.mk (below_step (by repeat (first | (with_reducible first | exact HB.out | apply below_alloc | apply pw_below_drewN | apply below_drew1 | refine below_set ?_ GE197.out | refine below_set ?_ GE198.out | refine below_set ?_ GE199.out) | exact HB.out)) hb); clear BK197; clear BK198; clear BK199; clear HB; have BK197 := n0_; have BK198 := n1_; have BK199 := n2_; have HB := n3_; clear n0_ n1_ n2_ n3_; (try clear hb); (try clear hb2); (try clear hk); (try clear hi); have hcz107_0 : w106.cell? ⟨gb199, 0, none⟩ = some (.bool false) := (blk_cell BK199.out 0).trans rfl; have hcz107_1 : w106.cell? ⟨gb199, 1, none⟩ = some (.int .i64 0) := (blk_cell BK199.out 1).trans rfl; have hcz107_2 : w106.cell? ⟨gb199, 2, none⟩ = some (.int .i64 0) := (blk_cell BK199.out 2).trans rfl; have hfz107_0 := blk_frozen BK199.out 0; have hfz107_1 := blk_frozen BK199.out 1; have hfz107_2 := blk_frozen BK199.out 2))
                  refine bodyPost_ret (results_cell_row rfl _ _ gb199 23 #[.bool t209, .int .i64 t210, .int .i64 t211] (0, 0) _ rfl (by (with_reducible repeat (first | refine blk_drewN ?_ _ | refine blk_drew ?_ | refine blk_alloc ?_ _)); refine blk_put (cs := #[.bool t209, .int .i64 t210, .int .i64 0]) ?_ 2 _ rfl; (with_reducible repeat (first | refine blk_drewN ?_ _ | refine blk_drew ?_ | refine blk_alloc ?_ _)); refine blk_put (cs := #[.bool t209, .int .i64 0, .int .i64 0]) ?_ 1 _ rfl; (with_reducible repeat (first | refine blk_drewN ?_ _ | refine blk_drew ?_ | refine blk_alloc ?_ _)); refine blk_put (cs := #[.bool false, .int .i64 0, .int .i64 0]) ?_ 0 _ rfl; (with_reducible repeat (first | refine blk_drewN ?_ _ | refine blk_drew ?_ | refine blk_alloc ?_ _)); exact BK199.out) Tryd.underlying23 rfl (by kernel_rfl)) rfl ?_
                  exact ⟨by first | rfl | (simp [errW_none, errW_some] <;> rfl) | (simp [*, errW_none, errW_some] <;> rfl), by repeat (first | (with_reducible first | exact HB.out | apply below_alloc | apply pw_below_drewN | apply below_drew1 | refine below_set ?_ GE197.out | refine below_set ?_ GE198.out | refine below_set ?_ GE199.out) | exact HB.out)⟩

end Go.Proofs.YtfmmjekhknaniaaDoor.Pr

namespace Go.Proofs.YtfmmjekhknaniaaDoor.Pr
open Go.RowKit Go.Proofs.YtfmmjekhknaniaaDoor.Given Go.Proofs.YtfmmjekhknaniaaDoorW.PrintWords Go.Proofs.YtfmmjekhknaniaaDoorW.PrintLast Go.Proofs.YtfmmjekhknaniaaDoorW.PrintMore
attribute [local go_sem] max2_int min2_int max_two min_two max_three min_three max_four min_four   -- for this text's walks alone
set_option linter.unusedVariables false
set_option linter.unusedSimpArgs false

def gimbalref31_times.f (a0 : Int) (a1 : Int) (a2 : Int) : Option (Int) := if a2 = 0 then (none) else (some (Int.tmod (IntKind.u64.wrap (a0 * a1)) a2))
end Go.Proofs.YtfmmjekhknaniaaDoor.Pr

namespace Go.Proofs.YtfmmjekhknaniaaDoor.Pr
open Go.RowKit Go.Proofs.YtfmmjekhknaniaaDoor.Given Go.Proofs.YtfmmjekhknaniaaDoorW.PrintWords Go.Proofs.YtfmmjekhknaniaaDoorW.PrintLast Go.Proofs.YtfmmjekhknaniaaDoorW.PrintMore
attribute [local go_sem] max2_int min2_int max_two min_two max_three min_three max_four min_four   -- for this text's walks alone
set_option linter.unusedVariables false
set_option linter.unusedSimpArgs false

def gimbalref31_inverse.l0 : Nat → Int → Int → Int → Int → Int → Option (Int)
  | 0, _, _, _, _, _ => none
  | k + 1, x1, x5, x6, x7, x8 => if x6 = 0 then (if x7 < 0 then (some (IntKind.u64.wrap (wrap64 (x7 + (wrap64 (x1)))))) else (some (IntKind.u64.wrap (x7)))) else (gimbalref31_inverse.l0 k x1 x6 (wrap64 (x5 - (wrap64 ((wrap64 (Int.tdiv x5 x6)) * x6)))) x8 (wrap64 (x7 - (wrap64 ((wrap64 (Int.tdiv x5 x6)) * x8)))))
def gimbalref31_inverse.f (k : Nat) (a0 : Int) (a1 : Int) : Option (Int) := gimbalref31_inverse.l0 k a1 (wrap64 (a1)) (wrap64 (a0)) 0 1
theorem gimbalref31_inverse.mono_l : ∀ k, (∀ y0 y1 y2 y3 y4, LeO (gimbalref31_inverse.l0 k y0 y1 y2 y3 y4) (gimbalref31_inverse.l0 (k + 1) y0 y1 y2 y3 y4))
  | 0 => fun _ _ _ _ _ r h => by simp [gimbalref31_inverse.l0] at h
  | k + 1 => by
    have ih0 := gimbalref31_inverse.mono_l k
    · intro y0 y1 y2 y3 y4
      unfold gimbalref31_inverse.l0
      repeat' first
      | (with_reducible exact ih0 _ _ _ _ _)
      | (with_reducible exact LeO.refl _)
      | (with_reducible exact LeO.none _)
      | (with_reducible refine LeO.ite ?_ ?_)
      | (with_reducible refine LeO.bind ?_ (fun _ => ?_))
      | exact ih0 _ _ _ _ _
      | exact LeO.none _
      | refine LeO.ite ?_ ?_
      | refine LeO.bind ?_ (fun _ => ?_)
theorem gimbalref31_inverse.mono : ∀ a0 a1 k, LeO (gimbalref31_inverse.f k a0 a1) (gimbalref31_inverse.f (k + 1) a0 a1) := by
  intro a0 a1 k
  have ih0 := gimbalref31_inverse.mono_l k
  unfold gimbalref31_inverse.f
  repeat' first
      | (with_reducible exact ih0 _ _ _ _ _)
      | (with_reducible exact LeO.refl _)
      | (with_reducible exact LeO.none _)
      | (with_reducible refine LeO.ite ?_ ?_)
      | (with_reducible refine LeO.bind ?_ (fun _ => ?_))
      | exact ih0 _ _ _ _ _
      | exact LeO.none _
      | refine LeO.ite ?_ ?_
      | refine LeO.bind ?_ (fun _ => ?_)
end Go.Proofs.YtfmmjekhknaniaaDoor.Pr

namespace Go.Proofs.YtfmmjekhknaniaaDoor.Pr
open Go.RowKit Go.Proofs.YtfmmjekhknaniaaDoor.Given Go.Proofs.YtfmmjekhknaniaaDoorW.PrintWords Go.Proofs.YtfmmjekhknaniaaDoorW.PrintLast Go.Proofs.YtfmmjekhknaniaaDoorW.PrintMore
attribute [local go_sem] max2_int min2_int max_two min_two max_three min_three max_four min_four   -- for this text's walks alone
set_option linter.unusedVariables false
set_option linter.unusedSimpArgs false

mutual
def gimbalref31_Meet.j0 : Nat → Bool → Bool → Int → Int → Bool → Int → Int → Option (Bool × Int × Int)
  | 0, _, _, _, _, _, _, _ => none
  | k + 1, x15, x247000, x247001, x247002, x248000, x248001, x248002 => if x15 = true then ((gimbalref31_None.f).bind fun bt249 => (some (bt249.1, bt249.2.1, bt249.2.2))) else (if x247001 < x248001 then (gimbalref31_Meet.j1 k x248000 x248001 x248002 x247000 x247001 x247002) else (gimbalref31_Meet.j1 k x247000 x247001 x247002 x248000 x248001 x248002))
def gimbalref31_Meet.j1 : Nat → Bool → Int → Int → Bool → Int → Int → Option (Bool × Int × Int)
  | 0, _, _, _, _, _, _ => none
  | k + 1, x247000, x247001, x247002, x248000, x248001, x248002 => if x248001 = 0 then ((gimbalref31_Has.f k x247000 x247001 x247002 x248002).bind fun t252 => (if t252 = true then (some (x248000, x248001, x248002)) else ((gimbalref31_None.f).bind fun bt253 => (some (bt253.1, bt253.2.1, bt253.2.2))))) else ((gimbalref31_size.f x247001).bind fun t256 => ((gimbalref31_size.f x248001).bind fun t257 => ((gimbalref31_gcd.f k t256 t257).bind fun t258 => ((gimbalref31_size.f (wrap64 (x247002 - x248002))).bind fun t259 => (if t258 = 0 then (none) else (if (Int.tmod t259 t258) = 0 then ((gimbalref31_size.f x248001).bind fun t263 => ((gimbalref31_size.f x247001).bind fun t264 => (if (IntKind.u64.wrap (Int.tdiv t263 t258)) = 0 then (none) else (if (wrap64 (t258)) = 0 then (none) else (if (wrap64 (IntKind.u64.wrap (Int.tdiv t263 t258))) = 0 then (none) else (if (Int.tmod (wrap64 (Int.tdiv (wrap64 (x248002 - x247002)) (wrap64 (t258)))) (wrap64 (IntKind.u64.wrap (Int.tdiv t263 t258)))) < 0 then (gimbalref31_Meet.j2 k t258 (IntKind.u64.wrap (Int.tdiv t263 t258)) (Int.tmod (IntKind.u64.wrap (Int.tdiv t264 t258)) (IntKind.u64.wrap (Int.tdiv t263 t258))) (wrap64 ((Int.tmod (wrap64 (Int.tdiv (wrap64 (x248002 - x247002)) (wrap64 (t258)))) (wrap64 (IntKind.u64.wrap (Int.tdiv t263 t258)))) + (wrap64 (IntKind.u64.wrap (Int.tdiv t263 t258))))) x247000 x247001 x247002 x248000 x248001 x248002) else (gimbalref31_Meet.j2 k t258 (IntKind.u64.wrap (Int.tdiv t263 t258)) (Int.tmod (IntKind.u64.wrap (Int.tdiv t264 t258)) (IntKind.u64.wrap (Int.tdiv t263 t258))) (Int.tmod (wrap64 (Int.tdiv (wrap64 (x248002 - x247002)) (wrap64 (t258)))) (wrap64 (IntKind.u64.wrap (Int.tdiv t263 t258)))) x247000 x247001 x247002 x248000 x248001 x248002))))))) else ((gimbalref31_None.f).bind fun bt260 => (some (bt260.1, bt260.2.1, bt260.2.2)))))))))
def gimbalref31_Meet.j2 : Nat → Int → Int → Int → Int → Bool → Int → Int → Bool → Int → Int → Option (Bool × Int × Int)
  | 0, _, _, _, _, _, _, _, _, _, _ => none
  | k + 1, x5, x6, x7, x8, x247000, x247001, x247002, x248000, x248001, x248002 => if x6 > 1 then ((gimbalref31_inverse.f k x7 x6).bind fun t265 => ((gimbalref31_times.f (IntKind.u64.wrap (x8)) t265 x6).bind fun t266 => (gimbalref31_Meet.j3 k x5 t266 x247000 x247001 x247002 x248000 x248001 x248002))) else (gimbalref31_Meet.j3 k x5 0 x247000 x247001 x247002 x248000 x248001 x248002)
def gimbalref31_Meet.j3 : Nat → Int → Int → Bool → Int → Int → Bool → Int → Int → Option (Bool × Int × Int)
  | 0, _, _, _, _, _, _, _, _ => none
  | k + 1, x5, x9, x247000, x247001, x247002, x248000, x248001, x248002 => (gimbalref31_size.f x247001).bind fun t267 => (if x5 = 0 then (none) else ((gimbalref31_size.f x248001).bind fun t268 => ((gimbalref31_size.f x247002).bind fun t269 => ((gimbalref31_size.f x247001).bind fun t270 => ((gimbalref31_class.f k (IntKind.u64.wrap ((IntKind.u64.wrap (Int.tdiv t267 x5)) * t268)) (IntKind.u64.wrap (t269 + (IntKind.u64.wrap (t270 * x9)))) false).bind fun bt271 => (some (bt271.1, bt271.2.1, bt271.2.2)))))))
end
def gimbalref31_Meet.f (k : Nat) (a0_0 : Bool) (a0_1 : Int) (a0_2 : Int) (a1_0 : Bool) (a1_1 : Int) (a1_2 : Int) : Option (Bool × Int × Int) := if a0_0 = true then (gimbalref31_Meet.j0 k true a0_0 a0_1 a0_2 a1_0 a1_1 a1_2) else (gimbalref31_Meet.j0 k a1_0 a0_0 a0_1 a0_2 a1_0 a1_1 a1_2)
theorem gimbalref31_Meet.mono_l : ∀ k, (∀ y0 y1 y2 y3 y4 y5 y6, LeO (gimbalref31_Meet.j0 k y0 y1 y2 y3 y4 y5 y6) (gimbalref31_Meet.j0 (k + 1) y0 y1 y2 y3 y4 y5 y6)) ∧ (∀ y0 y1 y2 y3 y4 y5, LeO (gimbalref31_Meet.j1 k y0 y1 y2 y3 y4 y5) (gimbalref31_Meet.j1 (k + 1) y0 y1 y2 y3 y4 y5)) ∧ (∀ y0 y1 y2 y3 y4 y5 y6 y7 y8 y9, LeO (gimbalref31_Meet.j2 k y0 y1 y2 y3 y4 y5 y6 y7 y8 y9) (gimbalref31_Meet.j2 (k + 1) y0 y1 y2 y3 y4 y5 y6 y7 y8 y9)) ∧ (∀ y0 y1 y2 y3 y4 y5 y6 y7, LeO (gimbalref31_Meet.j3 k y0 y1 y2 y3 y4 y5 y6 y7) (gimbalref31_Meet.j3 (k + 1) y0 y1 y2 y3 y4 y5 y6 y7))
  | 0 => ⟨fun _ _ _ _ _ _ _ r h => by simp [gimbalref31_Meet.j0] at h, fun _ _ _ _ _ _ r h => by simp [gimbalref31_Meet.j1] at h, fun _ _ _ _ _ _ _ _ _ _ r h => by simp [gimbalref31_Meet.j2] at h, fun _ _ _ _ _ _ _ _ r h => by simp [gimbalref31_Meet.j3] at h⟩
  | k + 1 => by
    obtain ⟨ih0, ih1, ih2, ih3⟩ := gimbalref31_Meet.mono_l k
    refine ⟨?_, ?_, ?_, ?_⟩
    · intro y0 y1 y2 y3 y4 y5 y6
      unfold gimbalref31_Meet.j0
      repeat' first
      | (with_reducible exact ih0 _ _ _ _ _ _ _)
      | (with_reducible exact ih1 _ _ _ _ _ _)
      | (with_reducible exact ih2 _ _ _ _ _ _ _ _ _ _)
      | (with_reducible exact ih3 _ _ _ _ _ _ _ _)
      | (with_reducible exact gimbalref31_Has.mono _ _ _ _ _)
      | (with_reducible exact gimbalref31_class.mono _ _ _ _)
      | (with_reducible exact gimbalref31_gcd.mono _ _ _)
      | (with_reducible exact gimbalref31_inverse.mono _ _ _)
      | (with_reducible exact LeO.refl _)
      | (with_reducible exact LeO.none _)
      | (with_reducible refine LeO.ite ?_ ?_)
      | (with_reducible refine LeO.bind ?_ (fun _ => ?_))
      | exact ih0 _ _ _ _ _ _ _
      | exact ih1 _ _ _ _ _ _
      | exact ih2 _ _ _ _ _ _ _ _ _ _
      | exact ih3 _ _ _ _ _ _ _ _
      | exact gimbalref31_Has.mono _ _ _ _ _
      | exact gimbalref31_class.mono _ _ _ _
      | exact gimbalref31_gcd.mono _ _ _
      | exact gimbalref31_inverse.mono _ _ _
      | exact LeO.none _
      | refine LeO.ite ?_ ?_
      | refine LeO.bind ?_ (fun _ => ?_)
    · intro y0 y1 y2 y3 y4 y5
      unfold gimbalref31_Meet.j1
      repeat' first
      | (with_reducible exact ih0 _ _ _ _ _ _ _)
      | (with_reducible exact ih1 _ _ _ _ _ _)
      | (with_reducible exact ih2 _ _ _ _ _ _ _ _ _ _)
      | (with_reducible exact ih3 _ _ _ _ _ _ _ _)
      | (with_reducible exact gimbalref31_Has.mono _ _ _ _ _)
      | (with_reducible exact gimbalref31_class.mono _ _ _ _)
      | (with_reducible exact gimbalref31_gcd.mono _ _ _)
      | (with_reducible exact gimbalref31_inverse.mono _ _ _)
      | (with_reducible exact LeO.refl _)
      | (with_reducible exact LeO.none _)
      | (with_reducible refine LeO.ite ?_ ?_)
      | (with_reducible refine LeO.bind ?_ (fun _ => ?_))
      | exact ih0 _ _ _ _ _ _ _
      | exact ih1 _ _ _ _ _ _
      | exact ih2 _ _ _ _ _ _ _ _ _ _
      | exact ih3 _ _ _ _ _ _ _ _
      | exact gimbalref31_Has.mono _ _ _ _ _
      | exact gimbalref31_class.mono _ _ _ _
      | exact gimbalref31_gcd.mono _ _ _
      | exact gimbalref31_inverse.mono _ _ _
      | exact LeO.none _
      | refine LeO.ite ?_ ?_
      | refine LeO.bind ?_ (fun _ => ?_)
    · intro y0 y1 y2 y3 y4 y5 y6 y7 y8 y9
      unfold gimbalref31_Meet.j2
      repeat' first
      | (with_reducible exact ih0 _ _ _ _ _ _ _)
      | (with_reducible exact ih1 _ _ _ _ _ _)
      | (with_reducible exact ih2 _ _ _ _ _ _ _ _ _ _)
      | (with_reducible exact ih3 _ _ _ _ _ _ _ _)
      | (with_reducible exact gimbalref31_Has.mono _ _ _ _ _)
      | (with_reducible exact gimbalref31_class.mono _ _ _ _)
      | (with_reducible exact gimbalref31_gcd.mono _ _ _)
      | (with_reducible exact gimbalref31_inverse.mono _ _ _)
      | (with_reducible exact LeO.refl _)
      | (with_reducible exact LeO.none _)
      | (with_reducible refine LeO.ite ?_ ?_)
      | (with_reducible refine LeO.bind ?_ (fun _ => ?_))
      | exact ih0 _ _ _ _ _ _ _
      | exact ih1 _ _ _ _ _ _
      | exact ih2 _ _ _ _ _ _ _ _ _ _
      | exact ih3 _ _ _ _ _ _ _ _
      | exact gimbalref31_Has.mono _ _ _ _ _
      | exact gimbalref31_class.mono _ _ _ _
      | exact gimbalref31_gcd.mono _ _ _
      | exact gimbalref31_inverse.mono _ _ _
      | exact LeO.none _
      | refine LeO.ite ?_ ?_
      | refine LeO.bind ?_ (fun _ => ?_)
    · intro y0 y1 y2 y3 y4 y5 y6 y7
      unfold gimbalref31_Meet.j3
      repeat' first
      | (with_reducible exact ih0 _ _ _ _ _ _ _)
      | (with_reducible exact ih1 _ _ _ _ _ _)
      | (with_reducible exact ih2 _ _ _ _ _ _ _ _ _ _)
      | (with_reducible exact ih3 _ _ _ _ _ _ _ _)
      | (with_reducible exact gimbalref31_Has.mono _ _ _ _ _)
      | (with_reducible exact gimbalref31_class.mono _ _ _ _)
      | (with_reducible exact gimbalref31_gcd.mono _ _ _)
      | (with_reducible exact gimbalref31_inverse.mono _ _ _)
      | (with_reducible exact LeO.refl _)
      | (with_reducible exact LeO.none _)
      | (with_reducible refine LeO.ite ?_ ?_)
      | (with_reducible refine LeO.bind ?_ (fun _ => ?_))
      | exact ih0 _ _ _ _ _ _ _
      | exact ih1 _ _ _ _ _ _
      | exact ih2 _ _ _ _ _ _ _ _ _ _
      | exact ih3 _ _ _ _ _ _ _ _
      | exact gimbalref31_Has.mono _ _ _ _ _
      | exact gimbalref31_class.mono _ _ _ _
      | exact gimbalref31_gcd.mono _ _ _
      | exact gimbalref31_inverse.mono _ _ _
      | exact LeO.none _
      | refine LeO.ite ?_ ?_
      | refine LeO.bind ?_ (fun _ => ?_)
theorem gimbalref31_Meet.mono : ∀ a0 a1 a2 a3 a4 a5 k, LeO (gimbalref31_Meet.f k a0 a1 a2 a3 a4 a5) (gimbalref31_Meet.f (k + 1) a0 a1 a2 a3 a4 a5) := by
  intro a0 a1 a2 a3 a4 a5 k
  obtain ⟨ih0, ih1, ih2, ih3⟩ := gimbalref31_Meet.mono_l k
  unfold gimbalref31_Meet.f
  repeat' first
      | (with_reducible exact ih0 _ _ _ _ _ _ _)
      | (with_reducible exact ih1 _ _ _ _ _ _)
      | (with_reducible exact ih2 _ _ _ _ _ _ _ _ _ _)
      | (with_reducible exact ih3 _ _ _ _ _ _ _ _)
      | (with_reducible exact gimbalref31_Has.mono _ _ _ _ _)
      | (with_reducible exact gimbalref31_class.mono _ _ _ _)
      | (with_reducible exact gimbalref31_gcd.mono _ _ _)
      | (with_reducible exact gimbalref31_inverse.mono _ _ _)
      | (with_reducible exact LeO.refl _)
      | (with_reducible exact LeO.none _)
      | (with_reducible refine LeO.ite ?_ ?_)
      | (with_reducible refine LeO.bind ?_ (fun _ => ?_))
      | exact ih0 _ _ _ _ _ _ _
      | exact ih1 _ _ _ _ _ _
      | exact ih2 _ _ _ _ _ _ _ _ _ _
      | exact ih3 _ _ _ _ _ _ _ _
      | exact gimbalref31_Has.mono _ _ _ _ _
      | exact gimbalref31_class.mono _ _ _ _
      | exact gimbalref31_gcd.mono _ _ _
      | exact gimbalref31_inverse.mono _ _ _
      | exact LeO.none _
      | refine LeO.ite ?_ ?_
      | refine LeO.bind ?_ (fun _ => ?_)
end Go.Proofs.YtfmmjekhknaniaaDoor.Pr

namespace Go.Proofs.YtfmmjekhknaniaaDoor.Pr
open Go.RowKit Go.Proofs.YtfmmjekhknaniaaDoor.Given Go.Proofs.YtfmmjekhknaniaaDoorW.PrintWords Go.Proofs.YtfmmjekhknaniaaDoorW.PrintLast Go.Proofs.YtfmmjekhknaniaaDoorW.PrintMore
attribute [local go_sem] max2_int min2_int max_two min_two max_three min_three max_four min_four   -- for this text's walks alone
set_option linter.unusedVariables false
set_option linter.unusedSimpArgs false

def congr_times.f (a0 : Int) (a1 : Int) : Option (Int × Int × Bool) := (congr_size.f a0).bind fun t511 => ((congr_size.f a1).bind fun t512 => ((bits_Mul64.f t511 t512).bind fun bt513 => (some (bt513.1, bt513.2, ((decide (a0 < 0)) != (decide (a1 < 0)))))))
end Go.Proofs.YtfmmjekhknaniaaDoor.Pr

namespace Go.Proofs.YtfmmjekhknaniaaDoor.Pr
open Go.RowKit Go.Proofs.YtfmmjekhknaniaaDoor.Given Go.Proofs.YtfmmjekhknaniaaDoorW.PrintWords Go.Proofs.YtfmmjekhknaniaaDoorW.PrintLast Go.Proofs.YtfmmjekhknaniaaDoorW.PrintMore
attribute [local go_sem] max2_int min2_int max_two min_two max_three min_three max_four min_four   -- for this text's walks alone
set_option linter.unusedVariables false
set_option linter.unusedSimpArgs false

mutual
def congr_Mul.j0 : Nat → Bool → Bool → Int → Int → Bool → Int → Int → Option (Bool × Int × Int)
  | 0, _, _, _, _, _, _, _ => none
  | k + 1, x13, x516000, x516001, x516002, x517000, x517001, x517002 => if x13 = true then ((congr_none.f).bind fun bt518 => (some (bt518.1, bt518.2.1, bt518.2.2))) else ((congr_size.f x517002).bind fun t521 => ((congr_gcd_uint64.f k (IntKind.u64.wrap ((IntKind.u64.wrap (x516001)) * (IntKind.u64.wrap (x517001)))) (IntKind.u64.wrap ((IntKind.u64.wrap (x516001)) * t521))).bind fun t522 => ((congr_size.f x516002).bind fun t523 => ((congr_gcd_uint64.f k t522 (IntKind.u64.wrap ((IntKind.u64.wrap (x517001)) * t523))).bind fun t524 => ((congr_times.f x516002 x517002).bind fun bt525 => (if t524 = 0 then (if bt525.1 = 0 then (congr_Mul.j1 k (decide (bt525.2.1 > 4611686018427387904)) bt525.1 bt525.2.1 bt525.2.2) else (congr_Mul.j1 k true bt525.1 bt525.2.1 bt525.2.2)) else ((congr_words_rest.f bt525.1 bt525.2.1 t524).bind fun t538 => (if bt525.2.2 = true then (if t538 > 0 then ((congr_of.f k t524 (IntKind.u64.wrap (t524 - t538))).bind fun bt539 => (some (bt539.1, bt539.2.1, bt539.2.2))) else ((congr_of.f k t524 t538).bind fun bt542 => (some (bt542.1, bt542.2.1, bt542.2.2)))) else ((congr_of.f k t524 t538).bind fun bt545 => (some (bt545.1, bt545.2.1, bt545.2.2)))))))))))
def congr_Mul.j1 : Nat → Bool → Int → Int → Bool → Option (Bool × Int × Int)
  | 0, _, _, _, _ => none
  | k + 1, x54, x529000, x529001, x529002 => if x54 = true then ((congr_none.f).bind fun bt529 => (some (bt529.1, bt529.2.1, bt529.2.2))) else (if x529002 = true then ((congr_constant.f (wrap64 (-(wrap64 (x529001))))).bind fun bt532 => (some (bt532.1, bt532.2.1, bt532.2.2))) else ((congr_constant.f (wrap64 (x529001))).bind fun bt535 => (some (bt535.1, bt535.2.1, bt535.2.2))))
end
def congr_Mul.f (k : Nat) (a0_0 : Bool) (a0_1 : Int) (a0_2 : Int) (a1_0 : Bool) (a1_1 : Int) (a1_2 : Int) : Option (Bool × Int × Int) := if a0_0 = true then (congr_Mul.j0 k true a0_0 a0_1 a0_2 a1_0 a1_1 a1_2) else (congr_Mul.j0 k a1_0 a0_0 a0_1 a0_2 a1_0 a1_1 a1_2)
theorem congr_Mul.mono_l : ∀ k, (∀ y0 y1 y2 y3 y4 y5 y6, LeO (congr_Mul.j0 k y0 y1 y2 y3 y4 y5 y6) (congr_Mul.j0 (k + 1) y0 y1 y2 y3 y4 y5 y6)) ∧ (∀ y0 y1 y2 y3, LeO (congr_Mul.j1 k y0 y1 y2 y3) (congr_Mul.j1 (k + 1) y0 y1 y2 y3))
  | 0 => ⟨fun _ _ _ _ _ _ _ r h => by simp [congr_Mul.j0] at h, fun _ _ _ _ r h => by simp [congr_Mul.j1] at h⟩
  | k + 1 => by
    obtain ⟨ih0, ih1⟩ := congr_Mul.mono_l k
    refine ⟨?_, ?_⟩
    · intro y0 y1 y2 y3 y4 y5 y6
      unfold congr_Mul.j0
      repeat' first
      | (with_reducible exact ih0 _ _ _ _ _ _ _)
      | (with_reducible exact ih1 _ _ _ _)
      | (with_reducible exact congr_gcd_uint64.mono _ _ _)
      | (with_reducible exact congr_of.mono _ _ _)
      | (with_reducible exact LeO.refl _)
      | (with_reducible exact LeO.none _)
      | (with_reducible refine LeO.ite ?_ ?_)
      | (with_reducible refine LeO.bind ?_ (fun _ => ?_))
      | exact ih0 _ _ _ _ _ _ _
      | exact ih1 _ _ _ _
      | exact congr_gcd_uint64.mono _ _ _
      | exact congr_of.mono _ _ _
      | exact LeO.none _
      | refine LeO.ite ?_ ?_
      | refine LeO.bind ?_ (fun _ => ?_)
    · intro y0 y1 y2 y3
      unfold congr_Mul.j1
      repeat' first
      | (with_reducible exact ih0 _ _ _ _ _ _ _)
      | (with_reducible exact ih1 _ _ _ _)
      | (with_reducible exact congr_gcd_uint64.mono _ _ _)
      | (with_reducible exact congr_of.mono _ _ _)
      | (with_reducible exact LeO.refl _)
      | (with_reducible exact LeO.none _)
      | (with_reducible refine LeO.ite ?_ ?_)
      | (with_reducible refine LeO.bind ?_ (fun _ => ?_))
      | exact ih0 _ _ _ _ _ _ _
      | exact ih1 _ _ _ _
      | exact congr_gcd_uint64.mono _ _ _
      | exact congr_of.mono _ _ _
      | exact LeO.none _
      | refine LeO.ite ?_ ?_
      | refine LeO.bind ?_ (fun _ => ?_)
theorem congr_Mul.mono : ∀ a0 a1 a2 a3 a4 a5 k, LeO (congr_Mul.f k a0 a1 a2 a3 a4 a5) (congr_Mul.f (k + 1) a0 a1 a2 a3 a4 a5) := by
  intro a0 a1 a2 a3 a4 a5 k
  obtain ⟨ih0, ih1⟩ := congr_Mul.mono_l k
  unfold congr_Mul.f
  repeat' first
      | (with_reducible exact ih0 _ _ _ _ _ _ _)
      | (with_reducible exact ih1 _ _ _ _)
      | (with_reducible exact congr_gcd_uint64.mono _ _ _)
      | (with_reducible exact congr_of.mono _ _ _)
      | (with_reducible exact LeO.refl _)
      | (with_reducible exact LeO.none _)
      | (with_reducible refine LeO.ite ?_ ?_)
      | (with_reducible refine LeO.bind ?_ (fun _ => ?_))
      | exact ih0 _ _ _ _ _ _ _
      | exact ih1 _ _ _ _
      | exact congr_gcd_uint64.mono _ _ _
      | exact congr_of.mono _ _ _
      | exact LeO.none _
      | refine LeO.ite ?_ ?_
      | refine LeO.bind ?_ (fun _ => ?_)
end Go.Proofs.YtfmmjekhknaniaaDoor.Pr

namespace Go.Proofs.YtfmmjekhknaniaaDoor.Core
open Go.RowKit Go.Proofs.YtfmmjekhknaniaaDoor.Pr Go.Proofs.YtfmmjekhknaniaaDoor.Given Go.Proofs.YtfmmjekhknaniaaDoorW.PrintWords

theorem wraps_u64 (n : Int) (h₀ : 0 ≤ n) (h₁ : n < 2 ^ 64) : IntKind.u64.wrap n = n := by rw [IntKind.wrap_u64]; omega
theorem mask32 {x : Int} (h₀ : 0 ≤ x) (h₁ : x ≤ 18446744073709551615) : Go.bits .and .u64 x 4294967295 = x % 4294967296 :=
  bits_mask .u64 64 (by decide) wraps_u64 32 (by decide) x h₀ (by omega)

theorem mul64_f {a b : Int} (ha : 0 ≤ a) (ha' : a ≤ 18446744073709551615) (hb : 0 ≤ b) (hb' : b ≤ 18446744073709551615) (h : a * b ≤ 18446744073709551615) :
    bits_Mul64.f a b = some (0, a * b) := by
  have hab := Int.mul_nonneg ha hb
  unfold bits_Mul64.f
  rw [mask32 ha ha', mask32 hb hb', u64_id (n := a * b) hab h]
  have ex : a = a / 4294967296 * 4294967296 + a % 4294967296 := by omega
  have ey : b = b / 4294967296 * 4294967296 + b % 4294967296 := by omega
  have p1 : 0 ≤ a / 4294967296 := by omega
  have p2 : 0 ≤ b / 4294967296 := by omega
  have p3 : 0 ≤ a % 4294967296 ∧ a % 4294967296 ≤ 4294967295 := by omega
  have p4 : 0 ≤ b % 4294967296 ∧ b % 4294967296 ≤ 4294967295 := by omega
  have p5 : a / 4294967296 ≤ 4294967295 := by omega
  have p6 : b / 4294967296 ≤ 4294967295 := by omega
  generalize a / 4294967296 = x1 at *
  generalize b / 4294967296 = y1 at *
  generalize a % 4294967296 = x0 at *
  generalize b % 4294967296 = y0 at *
  have hz : a * b = x1 * y1 * 18446744073709551616 + (x1 * y0 + x0 * y1) * 4294967296 + x0 * y0 := by rw [ex, ey]; grind
  have q11 := Int.mul_nonneg p1 p2
  have q10 := Int.mul_nonneg p1 p4.1
  have q01 := Int.mul_nonneg p3.1 p2
  have q00 := Int.mul_nonneg p3.1 p4.1
  have r00 : x0 * y0 ≤ 4294967295 * 4294967295 := Int.mul_le_mul p3.2 p4.2 p4.1 (by omega)
  generalize x1 * y1 = m11 at *
  generalize x1 * y0 = m10 at *
  generalize x0 * y1 = m01 at *
  generalize x0 * y0 = m00 at *
  rw [u64_id (n := m11) (by omega) (by omega), u64_id (n := m00) (by omega) (by omega), u64_id (n := m10) (by omega) (by omega), u64_id (n := m01) (by omega) (by omega)]
  rw [u64_id (n := m10 + m00 / 4294967296) (by omega) (by omega)]
  rw [mask32 (by omega) (by omega), u64_id (n := (m10 + m00 / 4294967296) % 4294967296 + m01) (by omega) (by omega)]
  rw [u64_id (n := m11 + (m10 + m00 / 4294967296) / 4294967296) (by omega) (by omega), u64_id (by omega) (by omega)]
  congr 2
  omega

theorem prod_le {x y : Int} (h0 : 0 ≤ x) (h1 : x ≤ 4294967295) (h2 : 0 ≤ y) (h3 : y ≤ 4294967295) : 0 ≤ x * y ∧ x * y ≤ 18446744065119617025 := by
  refine ⟨Int.mul_nonneg h0 h2, ?_⟩
  have := Int.mul_le_mul h1 h3 h2 (show (0 : Int) ≤ 4294967295 by omega)
  omega

end Go.Proofs.YtfmmjekhknaniaaDoor.Core

namespace Go.Proofs.YtfmmjekhknaniaaDoor.Core
open Go.RowKit Go.Proofs.YtfmmjekhknaniaaDoor.Pr Go.Proofs.YtfmmjekhknaniaaDoor.Given Go.Proofs.YtfmmjekhknaniaaDoorW.PrintWords

/-- what holds at each step: X and Y are x and y without their signs, which are not the same. -/
structure Steps (n a x y r s X Y : Int) : Prop where
  n1 : 0 < n
  n2 : n ≤ 4294967295
  r0 : 0 ≤ r
  r1 : r ≤ 4294967295
  s0 : 0 ≤ s
  s1 : s ≤ 4294967295
  sg : (X = x ∧ Y = -y) ∨ (X = -x ∧ Y = y)
  X0 : 0 ≤ X
  X1 : X ≤ n
  Y0 : 0 ≤ Y
  Y1 : Y ≤ n
  sum : X * s + Y * r = n
  d1 : n ∣ x * a - r
  d2 : n ∣ y * a - s
  g : G r s = 1

theorem Steps.next {n a x y r s X Y : Int} (h : Steps n a x y r s X Y) (hs : s ≠ 0) :
    Steps n a y (x - r / s * y) s (r % s) Y (X + r / s * Y) ∧ 0 ≤ r / s ∧ r / s ≤ r ∧ r / s * Y ≤ n ∧ r - r / s * s = r % s := by
  have hs0 : 0 < s := by have := h.s0; omega
  have q0 : 0 ≤ r / s := Int.ediv_nonneg h.r0 h.s0
  have q1 : r / s ≤ r := Int.ediv_le_self _ h.r0
  have e := Int.mul_ediv_add_emod r s
  have m0 := Int.emod_nonneg r hs
  have m1 := Int.emod_lt_of_pos r hs0
  have qY := Int.mul_nonneg q0 h.Y0
  have er : r - r / s * s = r % s := by rw [Int.mul_comm]; omega
  have sum' : Y * (r % s) + (X + r / s * Y) * s = n := by
    rw [← er, ← h.sum]; grind
  have hY' : X + r / s * Y ≤ n := by
    have h1 : (X + r / s * Y) * 1 ≤ (X + r / s * Y) * s := Int.mul_le_mul_of_nonneg_left (by omega) (by have := h.X0; omega)
    have h2 := Int.mul_nonneg h.Y0 m0
    omega
  refine ⟨⟨h.n1, h.n2, h.s0, h.s1, m0, by have := h.s1; omega, ?_, h.Y0, h.Y1, by have := h.X0; omega, hY', sum', h.d2, ?_, ?_⟩, q0, q1, by have := h.X0; omega, er⟩
  · rcases h.sg with ⟨a1, a2⟩ | ⟨a1, a2⟩
    · right
      refine ⟨a2, ?_⟩
      rw [a1, a2, Int.mul_neg]; omega
    · left
      refine ⟨a2, ?_⟩
      rw [a1, a2]; omega
  · have := Int.dvd_sub h.d1 (Int.dvd_trans h.d2 (Int.dvd_mul_left (r / s) _))
    rwa [show x * a - r - r / s * (y * a - s) = (x - r / s * y) * a - r % s by rw [← er]; grind] at this
  · rw [G_step]; exact h.g

theorem inv_l0 : ∀ (m : Nat) (n a x y r s X Y : Int), Steps n a x y r s X Y → s ≤ m → ∃ z, n ∣ z * a - 1 ∧ ∀ k, congr_inverse.l0 (k + m + 1) n x y r s = some (z % n)
  | m, n, a, x, y, r, s, X, Y, h, hm => by
    have hn1 := h.n1
    have hn2 := h.n2
    have hX0 := h.X0
    have hX1 := h.X1
    have hsg := h.sg
    by_cases hs : s = 0
    · subst hs
      refine ⟨x, ?_, fun k => ?_⟩
      · have hg := h.g
        rw [G_zero _ h.r0] at hg
        have := h.d1
        rwa [hg] at this
      · simp only [congr_inverse.l0, if_true]
        rw [rest_f (by omega) (by omega) hn1 (by omega)]; rfl
    · obtain ⟨h', q0, q1, q2, er⟩ := h.next hs
      have hr0 := h.r0
      have hr1 := h.r1
      have hs0 := h.s0
      have hs1 := h.s1
      have hY1 := h.Y1
      have hY0 := h.Y0
      obtain ⟨m, rfl⟩ : ∃ j, m = j + 1 := ⟨m - 1, by omega⟩
      have es := Int.emod_lt_of_pos r (show 0 < s by omega)
      have es' := Int.emod_nonneg r hs
      obtain ⟨z, hz, hk⟩ := inv_l0 m n a y (x - r / s * y) s (r % s) Y (X + r / s * Y) h' (by omega)
      refine ⟨z, hz, fun k => ?_⟩
      have e0 : congr_inverse.l0 (k + (m + 1) + 1) n x y r s = if s = 0 then ((congr_rest.f x n).bind fun t => some t) else (congr_inverse.l0 (k + m + 1) n y (wrap64 (x - (wrap64 ((wrap64 (Int.tdiv r s)) * y)))) s (wrap64 (r - (wrap64 ((wrap64 (Int.tdiv r s)) * s))))) := rfl
      have eq : -n ≤ r / s * y ∧ r / s * y ≤ n := by
        have q3 := Int.mul_nonneg q0 hY0
        rcases hsg with ⟨_, a2⟩ | ⟨_, a2⟩
        · rw [a2, Int.mul_neg] at q2 q3
          omega
        · rw [a2] at q2 q3
          omega
      rw [e0, if_neg hs, Int.tdiv_eq_ediv_of_nonneg hr0, w64_id (n := r / s) (by omega) (by omega), w64_id (n := r / s * y) (by omega) (by omega), w64_id (n := x - r / s * y) (by omega) (by omega), w64_id (n := r / s * s) (by omega) (by omega), er, w64_id (n := r % s) (by omega) (by omega)]
      exact hk k
  termination_by m => m

theorem inverse_f {a n : Int} (h0 : 0 ≤ a) (h1 : a < n) (h2 : n ≤ 4294967295) (hg : G a n = 1) : ∃ z, n ∣ z * a - 1 ∧ Ev (fun k => congr_inverse.f k a n) (z % n) := by
  have st : Steps n a 1 0 a n 1 0 := ⟨by omega, h2, h0, by omega, by omega, h2, Or.inl ⟨rfl, rfl⟩, by omega, by omega, by omega, by omega, by omega, by simp, by simp, hg⟩
  obtain ⟨z, hz, hk⟩ := inv_l0 n.toNat n a 1 0 a n 1 0 st (by omega)
  refine ⟨z, hz, ev_of (n.toNat + 1) fun k => ?_⟩
  show congr_inverse.l0 (k + n.toNat + 1) n 1 0 (wrap64 a) (wrap64 n) = _
  rw [w64_id (by omega) (by omega), w64_id (by omega) (by omega)]
  exact hk k

theorem G_comm (a b : Int) : G a b = G b a := by unfold G; rw [Int.gcd_comm]

theorem cop {m n d m' n' : Int} (hd : d = G m n) (hd0 : 0 < d) (hm : m = d * m') (hn : n = d * n') : G m' n' = 1 := by
  have h1 : d * G m' n' ∣ d := by
    rw (occs := [2]) [hd]
    rw [dvd_G]
    exact ⟨by rw [hm]; exact Int.mul_dvd_mul_left d (G_dvd_l _ _), by rw [hn]; exact Int.mul_dvd_mul_left d (G_dvd_r _ _)⟩
  have h2 : G m' n' ∣ 1 := by
    obtain ⟨q, hq⟩ := h1
    refine ⟨q, ?_⟩
    have : d * 1 = d * (G m' n' * q) := by rw [← Int.mul_assoc]; omega
    exact Int.eq_of_mul_eq_mul_left (by omega) this
  have h3 := Int.le_of_dvd (by omega) h2
  have h4 := G_nonneg m' n'
  have h5 : G m' n' ≠ 0 := fun e => by rw [e, Int.zero_dvd] at h2; omega
  omega

theorem dvd_of_cop {n m u : Int} (h : n ∣ m * u) (hg : G m n = 1) : n ∣ u := by
  rw [← Int.natAbs_dvd_natAbs] at h ⊢
  rw [Int.natAbs_mul] at h
  have hc : Nat.Coprime n.natAbs m.natAbs := by
    unfold G Int.gcd at hg
    rw [Nat.Coprime, Nat.gcd_comm]; omega
  exact hc.dvd_of_dvd_mul_left h

/-- a number of both: of both just the numbers that are its least common multiple apart. -/
theorem meet_norm {a b : Cg} (na : a.1 = false) (nb : b.1 = false) {d m' n' v : Int} (ha : 0 < a.2.1) (hb : 0 < b.2.1) (hd : d = G a.2.1 b.2.1) (hm : a.2.1 = d * m') (hn : b.2.1 = d * n')
    (h1 : a.2.1 ∣ v - a.2.2) (h2 : b.2.1 ∣ v - b.2.2) : IsMeet a b (norm (a.2.1 * n') v) := by
  have hd0 : 0 < d := by
    have := G_nonneg a.2.1 b.2.1
    have : d ≠ 0 := fun e => by rw [e] at hm; omega
    omega
  have hn0 : 0 ≤ n' := by
    by_cases h : 0 ≤ n'
    · exact h
    · have := Int.mul_neg_of_pos_of_neg hd0 (show n' < 0 by omega); omega
  have hg := cop hd hd0 hm hn
  have hL : 0 ≤ a.2.1 * n' := Int.mul_nonneg (by omega) hn0
  refine ⟨fit_norm hL, fun x => ?_⟩
  rw [mem_norm hL]
  unfold Mem
  constructor
  · rintro ⟨i, h⟩
    have e : b.2.1 * m' = a.2.1 * n' := by rw [hn, hm]; grind
    refine ⟨⟨na, i, dvd_sub_trans (Int.dvd_trans (Int.dvd_mul_right _ _) h) h1⟩, ⟨nb, i, dvd_sub_trans (Int.dvd_trans ?_ h) h2⟩⟩
    rw [← e]; exact Int.dvd_mul_right _ _
  · rintro ⟨⟨_, i, k1⟩, ⟨_, _, k2⟩⟩
    refine ⟨i, ?_⟩
    have w1 := dvd_sub_trans k1 (dvd_sub_comm' h1)
    have w2 := dvd_sub_trans k2 (dvd_sub_comm' h2)
    obtain ⟨u, hu⟩ := w1
    rw [hu] at w2 ⊢
    refine Int.mul_dvd_mul_left _ ?_
    rw [hn, hm, Int.mul_assoc] at w2
    have w3 : n' ∣ m' * u := Int.dvd_of_mul_dvd_mul_left (by omega) w2
    exact dvd_of_cop w3 hg

theorem meet_none {a b : Cg} (h : ∀ x, ¬ (a.2.1 ∣ x - a.2.2 ∧ b.2.1 ∣ x - b.2.2)) : IsMeet a b (true, 0, 0) :=
  ⟨fit_none, fun x => ⟨(fun hx => by cases hx.1), fun ⟨h1, h2⟩ => absurd ⟨h1.2.2, h2.2.2⟩ (h x)⟩⟩
theorem meet_none_l {a b : Cg} (h : a.1 = true ∨ b.1 = true) : IsMeet a b (true, 0, 0) :=
  ⟨fit_none, fun x => ⟨(fun hx => by cases hx.1), fun ⟨h1, h2⟩ => by
    rcases h with h | h
    · rw [h1.1] at h; cases h
    · rw [h2.1] at h; cases h⟩⟩
theorem meet_const {a b : Cg} (ha : Fit a) (h0 : a.2.1 = 0) : IsMeet a b (if memB b a.2.2 = true then a else (true, 0, 0)) := by
  have hr := fit_rem ha
  have only : ∀ x, Mem a x → x = a.2.2 := fun x hx => by
    have := hx.2.2
    rw [h0, Int.zero_dvd] at this
    omega
  by_cases h : memB b a.2.2 = true
  · rw [if_pos h]
    refine ⟨ha, fun x => ⟨fun hx => ⟨hx, ?_⟩, fun hx => hx.1⟩⟩
    rw [only x hx]; exact memB_iff.mp h
  · rw [if_neg h]
    refine ⟨fit_none, fun x => ⟨(fun hx => by cases hx.1), fun ⟨h1, h2⟩ => ?_⟩⟩
    rw [only x h1] at h2
    exact absurd (memB_iff.mpr h2) h

/-- the number that the steps find. -/
theorem found {m n d m' n' ra rb e k z : Int} (hm : m = d * m') (hn : n = d * n') (he : rb - ra = d * e) (hz : n' ∣ z * (m' % n') - 1) (hk : n' ∣ k - e * z) : n ∣ m * k + ra - rb := by
  have h1 : n' ∣ m' * k - e := by
    obtain ⟨p, hp⟩ := hk
    obtain ⟨q, hq⟩ := hz
    obtain ⟨t, ht⟩ := emod_dvd_sub n' m'
    have ek : k = n' * p + e * z := by omega
    have em : m' % n' = m' - n' * t := by omega
    rw [em] at hq
    refine ⟨m' * p + e * q + e * z * t, ?_⟩
    have : e * (z * (m' - n' * t) - 1) = e * (n' * q) := by rw [hq]
    rw [ek]; grind
  obtain ⟨u, hu⟩ := h1
  refine ⟨u, ?_⟩
  rw [hm, hn]
  have : d * (m' * k - e) = d * (n' * u) := by rw [hu]
  grind

theorem apart_none {a b : Cg} (h : ¬ G a.2.1 b.2.1 ∣ a.2.2 - b.2.2) : ∀ x, ¬ (a.2.1 ∣ x - a.2.2 ∧ b.2.1 ∣ x - b.2.2) := fun _ ⟨h1, h2⟩ =>
  h (dvd_sub_trans (dvd_sub_comm' (Int.dvd_trans (G_dvd_l _ _) h1)) (Int.dvd_trans (G_dvd_r _ _) h2))

theorem Meet_f {a b : Cg} (ha : Fit a) (hb : Fit b) : ∃ r, IsMeet a b r ∧ Ev (fun k => congr_Meet.f k a.1 a.2.1 a.2.2 b.1 b.2.1 b.2.2) r := by
  have ma := fit_mod ha
  have mb := fit_mod hb
  have fa := fit_rem ha
  have fb := fit_rem hb
  by_cases h1 : a.1 = true
  · refine ⟨_, meet_none_l (Or.inl h1), ev_of 9 fun k => ?_⟩
    simp [congr_Meet.f, congr_Meet.j0, congr_none.f, h1]
  by_cases h2 : b.1 = true
  · refine ⟨_, meet_none_l (Or.inr h2), ev_of 9 fun k => ?_⟩
    simp [congr_Meet.f, congr_Meet.j0, congr_none.f, h1, h2]
  have na := bfalse h1
  have nb := bfalse h2
  by_cases h3 : a.2.1 = 0
  · refine ⟨_, meet_const ha h3, ev_of 12 fun k => ?_⟩
    simp only [congr_Meet.f, congr_Meet.j0, congr_Meet.j1, congr_Meet.j2]
    rw [if_neg h1, if_neg h2, if_pos h3, if_pos trivial, if_pos h3, Has_f hb (by unfold I64; omega)]
    simp only [Option.bind_some]
    split <;> rfl
  by_cases h4 : b.2.1 = 0
  · refine ⟨_, (meet_const hb h4).comm, ev_of 12 fun k => ?_⟩
    simp only [congr_Meet.f, congr_Meet.j0, congr_Meet.j1, congr_Meet.j2]
    rw [if_neg h1, if_neg h2, if_neg h3, show (b.2.1 == 0) = true by simp [h4], if_pos rfl, if_neg h3, Has_f ha (by unfold I64; omega)]
    simp only [Option.bind_some]
    split <;> rfl
  have a0 : 0 < a.2.1 := by omega
  have b0 : 0 < b.2.1 := by omega
  obtain ⟨K, hK⟩ := gcd_f (a := a.2.1) (b := b.2.1) (by omega) (by omega)
  have hd0 : 0 < G a.2.1 b.2.1 := by
    have := G_nonneg a.2.1 b.2.1
    have : G a.2.1 b.2.1 ≠ 0 := fun e => by have h := G_dvd_l a.2.1 b.2.1; rw [e, Int.zero_dvd] at h; omega
    omega
  obtain ⟨m', hm⟩ := G_dvd_l a.2.1 b.2.1
  obtain ⟨n', hn⟩ := G_dvd_r a.2.1 b.2.1
  have hdle : G a.2.1 b.2.1 ≤ 4294967295 := G_le (by omega) (by omega) (by omega) (by omega)
  have hdd := @rfl _ (G a.2.1 b.2.1)
  have hcop := cop (m' := m') (n' := n') hdd hd0 hm hn
  have hap := apart_none (a := a) (b := b)
  have hmn := fun (v : Int) (k1 : a.2.1 ∣ v - a.2.2) (k2 : b.2.1 ∣ v - b.2.2) => meet_norm na nb a0 b0 hdd hm hn k1 k2
  clear hdd
  dsimp only at hK
  -- the part that both ways share
  have pre : ∀ j, K + 12 ≤ j → congr_Meet.f j a.1 a.2.1 a.2.2 b.1 b.2.1 b.2.2 = congr_Meet.j1 (j - 1) false a.1 a.2.1 a.2.2 b.1 b.2.1 b.2.2 := fun j hj => by
    obtain ⟨i, rfl⟩ : ∃ i, j = i + 1 := ⟨j - 1, by omega⟩
    simp only [congr_Meet.f, congr_Meet.j0]
    rw [if_neg h1, if_neg h2, if_neg h3, show (b.2.1 == 0) = false by simp [h4]]; rfl
  generalize hdG : G a.2.1 b.2.1 = d at *
  have m0 : 0 < m' := by
    rcases Int.lt_trichotomy m' 0 with h | h | h
    · have := Int.mul_neg_of_pos_of_neg hd0 h; omega
    · rw [h] at hm; omega
    · exact h
  have n0 : 0 < n' := by
    rcases Int.lt_trichotomy n' 0 with h | h | h
    · have := Int.mul_neg_of_pos_of_neg hd0 h; omega
    · rw [h] at hn; omega
    · exact h
  have m1 : m' ≤ a.2.1 := by
    have : 1 * m' ≤ d * m' := Int.mul_le_mul_of_nonneg_right (by omega) (by omega)
    omega
  have n1 : n' ≤ b.2.1 := by
    have : 1 * n' ≤ d * n' := Int.mul_le_mul_of_nonneg_right (by omega) (by omega)
    omega
  have qm : a.2.1.tdiv d = m' := by rw [hm, Int.mul_tdiv_cancel_left _ (by omega)]
  have qn : b.2.1.tdiv d = n' := by rw [hn, Int.mul_tdiv_cancel_left _ (by omega)]
  have pL := prod_le (x := a.2.1) (y := n') (by omega) (by omega) (by omega) (by omega)
  have tm : Int.tmod (ab (a.2.2 - b.2.2)) d = ab (a.2.2 - b.2.2) % d := Int.tmod_eq_emod_of_nonneg (ab_nonneg _)
  by_cases h5 : d ∣ a.2.2 - b.2.2
  · obtain ⟨e, he⟩ := dvd_sub_comm' h5
    have qe : (b.2.2 - a.2.2).tdiv d = e := by rw [he, Int.mul_tdiv_cancel_left _ (by omega)]
    have er := tdiv_range (x := b.2.2 - a.2.2) (d := d) (m := 9223372036854775807) (by omega) (by omega)
    rw [qe] at er
    have t0 : ab (a.2.2 - b.2.2) % d = 0 := emod_zero_iff.mpr (dvd_ab.mpr h5)
    by_cases h6 : n' > 1
    · have mm0 := Int.emod_nonneg m' (show n' ≠ 0 by omega)
      have mm1 := Int.emod_lt_of_pos m' n0
      obtain ⟨z, hz, L, hL⟩ := inverse_f mm0 mm1 (by omega) (by rw [G_comm, G_step, hcop])
      dsimp only at hL
      have z0 := Int.emod_nonneg z (show n' ≠ 0 by omega)
      have z1 := Int.emod_lt_of_pos z n0
      have e0 := Int.emod_nonneg e (show n' ≠ 0 by omega)
      have e1 := Int.emod_lt_of_pos e n0
      have pz := prod_le (x := e % n') (y := z % n') e0 (by omega) z0 (by omega)
      have k0 := Int.emod_nonneg (e % n' * (z % n')) (show n' ≠ 0 by omega)
      have k1 := Int.emod_lt_of_pos (e % n' * (z % n')) n0
      have kd := emod_dvd_sub n' (e % n' * (z % n'))
      generalize hk : e % n' * (z % n') % n' = k at *
      have pk : a.2.1 * k + a.2.1 ≤ a.2.1 * n' := by
        have : a.2.1 * (k + 1) ≤ a.2.1 * n' := Int.mul_le_mul_of_nonneg_left (by omega) (by omega)
        rw [Int.mul_add] at this; omega
      have pk0 := Int.mul_nonneg (show 0 ≤ a.2.1 by omega) k0
      have kez : n' ∣ k - e * z := by
        obtain ⟨p, hp⟩ := emod_dvd_sub n' e
        obtain ⟨q, hq⟩ := emod_dvd_sub n' z
        obtain ⟨t, ht⟩ := kd
        refine ⟨-t - e * q - z * p + n' * p * q, ?_⟩
        have ee : e % n' = e - n' * p := by omega
        have ez : z % n' = z - n' * q := by omega
        rw [ee, ez] at ht
        grind
      refine ⟨norm (a.2.1 * n') (a.2.1 * k + a.2.2), hmn _ ?_ (found hm hn he hz kez), K + L + 20, fun j hj => ?_⟩
      · rw [show a.2.1 * k + a.2.2 - a.2.2 = a.2.1 * k by omega]; exact Int.dvd_mul_right _ _
      dsimp only
      rw [pre j (by omega)]
      obtain ⟨i, rfl⟩ : ∃ i, j = i + 3 := ⟨j - 3, by omega⟩
      show congr_Meet.j1 (i + 1 + 1) _ _ _ _ _ _ _ = _
      simp only [congr_Meet.j1, Bool.false_eq_true, if_false]
      rw [u64_id (n := a.2.1) (by omega) (by omega), u64_id (n := b.2.1) (by omega) (by omega), hK _ (by omega)]
      simp only [Option.bind_some]
      rw [w64_id (n := a.2.2 - b.2.2) (by omega) (by omega), w64_id (n := b.2.2 - a.2.2) (by omega) (by omega), w64_id (n := d) (by omega) (by omega), size_f (by omega) (by omega)]
      simp only [Option.bind_some]
      rw [if_neg (show ¬ d = 0 by omega), tm, if_pos t0, qn, qm, u64_id (n := n') (by omega) (by omega), u64_id (n := m') (by omega) (by omega), if_pos h6, if_neg (show ¬ d = 0 by omega), qe, w64_id (n := e) (by omega) (by omega), rest_f (by omega) (by omega) n0 (by omega)]
      simp only [Option.bind_some]
      rw [if_neg (show ¬ n' = 0 by omega), Int.tmod_eq_emod_of_nonneg (show 0 ≤ m' by omega), hL _ (by omega)]
      simp only [Option.bind_some]
      rw [mul64_f e0 (by omega) z0 (by omega) (by omega)]
      simp only [Option.bind_some]
      rw [show congr_words_rest.f 0 (e % n' * (z % n')) n' = some k by unfold congr_words_rest.f; rw [if_pos (by omega), hk]]
      simp only [Option.bind_some]
      rw [u64_id (n := a.2.1 * n') (by omega) (by omega), u64_id (n := a.2.1 * k) (by omega) (by omega), u64_id (n := a.2.2) (by omega) (by omega), u64_id (n := a.2.1 * k + a.2.2) (by omega) (by omega),
        of_f (by omega) (by omega) (by omega) (by omega)]; rfl
    · have hn1 : n' = 1 := by omega
      subst hn1
      refine ⟨norm (a.2.1 * 1) (a.2.1 * 0 + a.2.2), hmn _ ?_ (found hm hn he (z := 0) (by exact Int.one_dvd _) (Int.one_dvd _)), K + 20, fun j hj => ?_⟩
      · rw [show a.2.1 * 0 + a.2.2 - a.2.2 = 0 by omega]; exact Int.dvd_zero _
      dsimp only
      rw [pre j (by omega)]
      obtain ⟨i, rfl⟩ : ∃ i, j = i + 3 := ⟨j - 3, by omega⟩
      show congr_Meet.j1 (i + 1 + 1) _ _ _ _ _ _ _ = _
      simp only [congr_Meet.j1, Bool.false_eq_true, if_false]
      rw [u64_id (n := a.2.1) (by omega) (by omega), u64_id (n := b.2.1) (by omega) (by omega), hK _ (by omega)]
      simp only [Option.bind_some]
      rw [w64_id (n := a.2.2 - b.2.2) (by omega) (by omega), size_f (by omega) (by omega)]
      simp only [Option.bind_some]
      rw [if_neg (show ¬ d = 0 by omega), tm, if_pos t0, qn, u64_id (n := 1) (by omega) (by omega), if_neg h6]
      rw [u64_id (n := a.2.1 * 1) (by omega) (by omega), u64_id (n := a.2.1 * 0) (by omega) (by omega), u64_id (n := a.2.2) (by omega) (by omega), u64_id (n := a.2.1 * 0 + a.2.2) (by omega) (by omega),
        of_f (by omega) (by omega) (by omega) (by omega)]; rfl
  · refine ⟨_, meet_none (hap h5), K + 20, fun j hj => ?_⟩
    dsimp only
    rw [pre j (by omega)]
    obtain ⟨i, rfl⟩ : ∃ i, j = i + 3 := ⟨j - 3, by omega⟩
    show congr_Meet.j1 (i + 1 + 1) _ _ _ _ _ _ _ = _
    simp only [congr_Meet.j1, Bool.false_eq_true, if_false]
    rw [u64_id (n := a.2.1) (by omega) (by omega), u64_id (n := b.2.1) (by omega) (by omega), hK _ (by omega)]
    simp only [Option.bind_some]
    rw [w64_id (n := a.2.2 - b.2.2) (by omega) (by omega), size_f (by omega) (by omega)]
    simp only [Option.bind_some]
    rw [if_neg (show ¬ d = 0 by omega), tm, if_neg (fun e => h5 (dvd_ab.mp (emod_zero_iff.mp e)))]; rfl

end Go.Proofs.YtfmmjekhknaniaaDoor.Core

namespace Go.Proofs.YtfmmjekhknaniaaDoor.Pr
open Go.RowKit Go.Proofs.YtfmmjekhknaniaaDoor.Given Go.Proofs.YtfmmjekhknaniaaDoorW.PrintWords Go.Proofs.YtfmmjekhknaniaaDoorW.PrintLast Go.Proofs.YtfmmjekhknaniaaDoorW.PrintMore
attribute [local go_sem] max2_int min2_int max_two min_two max_three min_three max_four min_four   -- for this text's walks alone
set_option linter.unusedVariables false
set_option linter.unusedSimpArgs false

def gimballaw31_number.f (a0_0 : Bool) (a0_1 : Int) (a0_2 : Int) (a1 : Int) : Option (Int × Bool) := if a0_0 = true then (some (0, false)) else (if a0_1 = 0 then (some (a0_2, true)) else (if a0_2 > 2147483647 then (if (IntKind.u64.wrap (wrap64 ((wrap64 ((-1) + (wrap64 (Int.tdiv (wrap64 (a0_2 + 2147483648)) a0_1)))) + 1))) = 0 then (none) else (some (wrap64 (a0_2 + (wrap64 ((wrap64 ((wrap64 (Int.tmod (IntKind.u64.wrap (a1)) (IntKind.u64.wrap (wrap64 ((wrap64 ((-1) + (wrap64 (Int.tdiv (wrap64 (a0_2 + 2147483648)) a0_1)))) + 1))))) - (wrap64 (Int.tdiv (wrap64 (a0_2 + 2147483648)) a0_1)))) * a0_1))), true))) else (if (IntKind.u64.wrap (wrap64 ((wrap64 ((wrap64 (Int.tdiv (wrap64 (2147483647 - a0_2)) a0_1)) + (wrap64 (Int.tdiv (wrap64 (a0_2 + 2147483648)) a0_1)))) + 1))) = 0 then (none) else (some (wrap64 (a0_2 + (wrap64 ((wrap64 ((wrap64 (Int.tmod (IntKind.u64.wrap (a1)) (IntKind.u64.wrap (wrap64 ((wrap64 ((wrap64 (Int.tdiv (wrap64 (2147483647 - a0_2)) a0_1)) + (wrap64 (Int.tdiv (wrap64 (a0_2 + 2147483648)) a0_1)))) + 1))))) - (wrap64 (Int.tdiv (wrap64 (a0_2 + 2147483648)) a0_1)))) * a0_1))), true)))))
set_option maxHeartbeats 8000000 in
set_option maxRecDepth 100000 in
theorem gimballaw31_number.calls (a0_0 : Bool) (a0_1 : Int) (a0_2 : Int) (a1 : Int) (r1 : Int) (r2 : Bool) (w : World) (h : gimballaw31_number.f a0_0 a0_1 a0_2 a1 = some (r1, r2)) :
    Calls Tryd.prog 22 #[.agg #[.bool a0_0, .int .i64 a0_1, .int .i64 a0_2], .int .i64 a1] w fun e w' => e = .returned (.tuple #[.int .i64 r1, .bool r2]) ∧ Below w.heap.size w w' := by
  have hu23 := Tryd.underlying23
  have HB := Aside0.mk (Below.refl w.heap.size w)
  have H : (if a0_0 = true then (some (0, false)) else (if a0_1 = 0 then (some (a0_2, true)) else (if a0_2 > 2147483647 then (if (IntKind.u64.wrap (wrap64 ((wrap64 ((-1) + (wrap64 (Int.tdiv (wrap64 (a0_2 + 2147483648)) a0_1)))) + 1))) = 0 then (none) else (some (wrap64 (a0_2 + (wrap64 ((wrap64 ((wrap64 (Int.tmod (IntKind.u64.wrap (a1)) (IntKind.u64.wrap (wrap64 ((wrap64 ((-1) + (wrap64 (Int.tdiv (wrap64 (a0_2 + 2147483648)) a0_1)))) + 1))))) - (wrap64 (Int.tdiv (wrap64 (a0_2 + 2147483648)) a0_1)))) * a0_1))), true))) else (if (IntKind.u64.wrap (wrap64 ((wrap64 ((wrap64 (Int.tdiv (wrap64 (2147483647 - a0_2)) a0_1)) + (wrap64 (Int.tdiv (wrap64 (a0_2 + 2147483648)) a0_1)))) + 1))) = 0 then (none) else (some (wrap64 (a0_2 + (wrap64 ((wrap64 ((wrap64 (Int.tmod (IntKind.u64.wrap (a1)) (IntKind.u64.wrap (wrap64 ((wrap64 ((wrap64 (Int.tdiv (wrap64 (2147483647 - a0_2)) a0_1)) + (wrap64 (Int.tdiv (wrap64 (a0_2 + 2147483648)) a0_1)))) + 1))))) - (wrap64 (Int.tdiv (wrap64 (a0_2 + 2147483648)) a0_1)))) * a0_1))), true)))))) = some (r1, r2) := h
  clear h
  by_cases c3 : a0_0 = true
  · subst c3
    have H1 : (some (0, false)) = some (r1, r2) := by rw [if_pos rfl] at H; exact H
    clear H
    have H := H1
    clear H1
    simp only [Option.some.injEq, Prod.mk.injEq] at H
    obtain ⟨rfl, rfl⟩ := H
    go_enter Tryd.func22, Tryd.ntmps22
    go_wp2_with (first | ((with_reducible refine gate_dst (N := 2) rfl ?_); refine box_event ?hg (N := 2) ?hd (cs := #[.bool true, .int .i64 a0_1, .int .i64 a0_2]) (t := 23) ?hr ?_; (case hd => rfl); (case hg => rfl); (case hr => first | (go_simp; done) | (go_simp; rfl)); intro gb228 hg w4 hbox hb; have n0_ := Aside0.mk (below_step (by repeat (first | (with_reducible first | exact HB.out | apply below_alloc | apply pw_below_drewN | apply below_drew1) | exact HB.out)) hb); have n1_ := Aside0.mk (hbox); have n2_ := Aside0.mk ((by rw [hg]; exact (below_size (by repeat (first | (with_reducible first | exact HB.out | apply below_alloc | apply pw_below_drewN | apply below_drew1) | exact HB.out))) : w.heap.size ≤ gb228)); have n3_ := Aside0.mk ((by rw [hg]; exact (below_size (by repeat (first | (with_reducible first | exact HB.out | apply below_alloc | apply pw_below_drewN | apply below_drew1) | exact HB.out))) : w.heap.size ≤ gb228)); clear HB; have HB := n0_; have BK228 := n1_; have GW228 := n2_; have GE228 := n3_; clear n0_ n1_ n2_ n3_; clear hb hbox hg; have hcz5_0 : w4.cell? ⟨gb228, 0, none⟩ = some (.bool true) := (blk_cell BK228.out 0).trans rfl; have hcz5_1 : w4.cell? ⟨gb228, 1, none⟩ = some (.int .i64 a0_1) := (blk_cell BK228.out 1).trans rfl; have hcz5_2 : w4.cell? ⟨gb228, 2, none⟩ = some (.int .i64 a0_2) := (blk_cell BK228.out 2).trans rfl; have hfz5_0 := blk_frozen BK228.out 0; have hfz5_1 := blk_frozen BK228.out 1; have hfz5_2 := blk_frozen BK228.out 2))
    go_ret2
    exact ⟨by first | rfl | (simp [errW_none, errW_some] <;> rfl) | (simp [*, errW_none, errW_some] <;> rfl), by repeat (first | (with_reducible first | exact HB.out | apply below_alloc | apply pw_below_drewN | apply below_drew1 | refine below_set ?_ GE228.out) | exact HB.out)⟩
  · replace c3 := Bool.eq_false_iff.mpr c3
    subst c3
    have H1 : (if a0_1 = 0 then (some (a0_2, true)) else (if a0_2 > 2147483647 then (if (IntKind.u64.wrap (wrap64 ((wrap64 ((-1) + (wrap64 (Int.tdiv (wrap64 (a0_2 + 2147483648)) a0_1)))) + 1))) = 0 then (none) else (some (wrap64 (a0_2 + (wrap64 ((wrap64 ((wrap64 (Int.tmod (IntKind.u64.wrap (a1)) (IntKind.u64.wrap (wrap64 ((wrap64 ((-1) + (wrap64 (Int.tdiv (wrap64 (a0_2 + 2147483648)) a0_1)))) + 1))))) - (wrap64 (Int.tdiv (wrap64 (a0_2 + 2147483648)) a0_1)))) * a0_1))), true))) else (if (IntKind.u64.wrap (wrap64 ((wrap64 ((wrap64 (Int.tdiv (wrap64 (2147483647 - a0_2)) a0_1)) + (wrap64 (Int.tdiv (wrap64 (a0_2 + 2147483648)) a0_1)))) + 1))) = 0 then (none) else (some (wrap64 (a0_2 + (wrap64 ((wrap64 ((wrap64 (Int.tmod (IntKind.u64.wrap (a1)) (IntKind.u64.wrap (wrap64 ((wrap64 ((wrap64 (Int.tdiv (wrap64 (2147483647 - a0_2)) a0_1)) + (wrap64 (Int.tdiv (wrap64 (a0_2 + 2147483648)) a0_1)))) + 1))))) - (wrap64 (Int.tdiv (wrap64 (a0_2 + 2147483648)) a0_1)))) * a0_1))), true))))) = some (r1, r2) := by rw [if_neg (show ¬ (false = true) by decide)] at H; exact H
    clear H
    have H := H1
    clear H1
    by_cases c6 : a0_1 = 0
    · rw [if_pos c6] at H
      have c6b0 : (a0_1 == 0) = true := beq_iff_eq.mpr c6
      have c6b1 : (a0_1 != 0) = false := bne_eq_false_iff_eq.mpr c6
      clear c6
      simp only [Option.some.injEq, Prod.mk.injEq] at H
      obtain ⟨rfl, rfl⟩ := H
      go_enter Tryd.func22, Tryd.ntmps22
      go_wp2_with (first | ((with_reducible refine gate_dst (N := 2) rfl ?_); refine box_event ?hg (N := 2) ?hd (cs := #[.bool false, .int .i64 a0_1, .int .i64 a0_2]) (t := 23) ?hr ?_; (case hd => rfl); (case hg => rfl); (case hr => first | (go_simp; done) | (go_simp; rfl)); intro gb228 hg w7 hbox hb; have n0_ := Aside0.mk (below_step (by repeat (first | (with_reducible first | exact HB.out | apply below_alloc | apply pw_below_drewN | apply below_drew1) | exact HB.out)) hb); have n1_ := Aside0.mk (hbox); have n2_ := Aside0.mk ((by rw [hg]; exact (below_size (by repeat (first | (with_reducible first | exact HB.out | apply below_alloc | apply pw_below_drewN | apply below_drew1) | exact HB.out))) : w.heap.size ≤ gb228)); have n3_ := Aside0.mk ((by rw [hg]; exact (below_size (by repeat (first | (with_reducible first | exact HB.out | apply below_alloc | apply pw_below_drewN | apply below_drew1) | exact HB.out))) : w.heap.size ≤ gb228)); clear HB; have HB := n0_; have BK228 := n1_; have GW228 := n2_; have GE228 := n3_; clear n0_ n1_ n2_ n3_; clear hb hbox hg; have hcz8_0 : w7.cell? ⟨gb228, 0, none⟩ = some (.bool false) := (blk_cell BK228.out 0).trans rfl; have hcz8_1 : w7.cell? ⟨gb228, 1, none⟩ = some (.int .i64 a0_1) := (blk_cell BK228.out 1).trans rfl; have hcz8_2 : w7.cell? ⟨gb228, 2, none⟩ = some (.int .i64 a0_2) := (blk_cell BK228.out 2).trans rfl; have hfz8_0 := blk_frozen BK228.out 0; have hfz8_1 := blk_frozen BK228.out 1; have hfz8_2 := blk_frozen BK228.out 2))
      go_ret2
      exact ⟨by first | rfl | (simp [errW_none, errW_some] <;> rfl) | (simp [*, errW_none, errW_some] <;> rfl), by repeat (first | (with_reducible first | exact HB.out | apply below_alloc | apply pw_below_drewN | apply below_drew1 | refine below_set ?_ GE228.out) | exact HB.out)⟩
    · rw [if_neg c6] at H
      have c6b0 : (a0_1 == 0) = false := beq_eq_false_iff_ne.mpr c6
      have c6b1 : (a0_1 != 0) = true := bne_iff_ne.mpr c6
      by_cases c9 : a0_2 > 2147483647
      · rw [if_pos c9] at H
        have c9b0 : decide (2147483647 < a0_2) = true := decide_eq_true c9
        clear c9
        by_cases c10 : (IntKind.u64.wrap (wrap64 ((wrap64 ((-1) + (wrap64 (Int.tdiv (wrap64 (a0_2 + 2147483648)) a0_1)))) + 1))) = 0
        · rw [if_pos c10] at H
          exact absurd H (by simp)
        · rw [if_neg c10] at H
          have c10b0 : ((IntKind.u64.wrap (wrap64 ((wrap64 ((-1) + (wrap64 (Int.tdiv (wrap64 (a0_2 + 2147483648)) a0_1)))) + 1))) == 0) = false := beq_eq_false_iff_ne.mpr c10
          have c10b1 : ((IntKind.u64.wrap (wrap64 ((wrap64 ((-1) + (wrap64 (Int.tdiv (wrap64 (a0_2 + 2147483648)) a0_1)))) + 1))) != 0) = true := bne_iff_ne.mpr c10
          simp only [Option.some.injEq, Prod.mk.injEq] at H
          obtain ⟨rfl, rfl⟩ := H
          go_enter Tryd.func22, Tryd.ntmps22
          go_wp2_with (first | ((with_reducible refine gate_dst (N := 2) rfl ?_); refine box_event ?hg (N := 2) ?hd (cs := #[.bool false, .int .i64 a0_1, .int .i64 a0_2]) (t := 23) ?hr ?_; (case hd => rfl); (case hg => rfl); (case hr => first | (go_simp; done) | (go_simp; rfl)); intro gb228 hg w11 hbox hb; have n0_ := Aside0.mk (below_step (by repeat (first | (with_reducible first | exact HB.out | apply below_alloc | apply pw_below_drewN | apply below_drew1) | exact HB.out)) hb); have n1_ := Aside0.mk (hbox); have n2_ := Aside0.mk ((by rw [hg]; exact (below_size (by repeat (first | (with_reducible first | exact HB.out | apply below_alloc | apply pw_below_drewN | apply below_drew1) | exact HB.out))) : w.heap.size ≤ gb228)); have n3_ := Aside0.mk ((by rw [hg]; exact (below_size (by repeat (first | (with_reducible first | exact HB.out | apply below_alloc | apply pw_below_drewN | apply below_drew1) | exact HB.out))) : w.heap.size ≤ gb228)); clear HB; have HB := n0_; have BK228 := n1_; have GW228 := n2_; have GE228 := n3_; clear n0_ n1_ n2_ n3_; clear hb hbox hg; have hcz12_0 : w11.cell? ⟨gb228, 0, none⟩ = some (.bool false) := (blk_cell BK228.out 0).trans rfl; have hcz12_1 : w11.cell? ⟨gb228, 1, none⟩ = some (.int .i64 a0_1) := (blk_cell BK228.out 1).trans rfl; have hcz12_2 : w11.cell? ⟨gb228, 2, none⟩ = some (.int .i64 a0_2) := (blk_cell BK228.out 2).trans rfl; have hfz12_0 := blk_frozen BK228.out 0; have hfz12_1 := blk_frozen BK228.out 1; have hfz12_2 := blk_frozen BK228.out 2))
          go_ret2
          exact ⟨by first | rfl | (simp [errW_none, errW_some] <;> rfl) | (simp [*, errW_none, errW_some] <;> rfl), by repeat (first | (with_reducible first | exact HB.out | apply below_alloc | apply pw_below_drewN | apply below_drew1 | refine below_set ?_ GE228.out) | exact HB.out)⟩
      · rw [if_neg c9] at H
        have c9b0 : decide (2147483647 < a0_2) = false := decide_eq_false c9
        clear c9
        by_cases c13 : (IntKind.u64.wrap (wrap64 ((wrap64 ((wrap64 (Int.tdiv (wrap64 (2147483647 - a0_2)) a0_1)) + (wrap64 (Int.tdiv (wrap64 (a0_2 + 2147483648)) a0_1)))) + 1))) = 0
        · rw [if_pos c13] at H
          exact absurd H (by simp)
        · rw [if_neg c13] at H
          have c13b0 : ((IntKind.u64.wrap (wrap64 ((wrap64 ((wrap64 (Int.tdiv (wrap64 (2147483647 - a0_2)) a0_1)) + (wrap64 (Int.tdiv (wrap64 (a0_2 + 2147483648)) a0_1)))) + 1))) == 0) = false := beq_eq_false_iff_ne.mpr c13
          have c13b1 : ((IntKind.u64.wrap (wrap64 ((wrap64 ((wrap64 (Int.tdiv (wrap64 (2147483647 - a0_2)) a0_1)) + (wrap64 (Int.tdiv (wrap64 (a0_2 + 2147483648)) a0_1)))) + 1))) != 0) = true := bne_iff_ne.mpr c13
          simp only [Option.some.injEq, Prod.mk.injEq] at H
          obtain ⟨rfl, rfl⟩ := H
          go_enter Tryd.func22, Tryd.ntmps22
          go_wp2_with (first | ((with_reducible refine gate_dst (N := 2) rfl ?_); refine box_event ?hg (N := 2) ?hd (cs := #[.bool false, .int .i64 a0_1, .int .i64 a0_2]) (t := 23) ?hr ?_; (case hd => rfl); (case hg => rfl); (case hr => first | (go_simp; done) | (go_simp; rfl)); intro gb228 hg w14 hbox hb; have n0_ := Aside0.mk (below_step (by repeat (first | (with_reducible first | exact HB.out | apply below_alloc | apply pw_below_drewN | apply below_drew1) | exact HB.out)) hb); have n1_ := Aside0.mk (hbox); have n2_ := Aside0.mk ((by rw [hg]; exact (below_size (by repeat (first | (with_reducible first | exact HB.out | apply below_alloc | apply pw_below_drewN | apply below_drew1) | exact HB.out))) : w.heap.size ≤ gb228)); have n3_ := Aside0.mk ((by rw [hg]; exact (below_size (by repeat (first | (with_reducible first | exact HB.out | apply below_alloc | apply pw_below_drewN | apply below_drew1) | exact HB.out))) : w.heap.size ≤ gb228)); clear HB; have HB := n0_; have BK228 := n1_; have GW228 := n2_; have GE228 := n3_; clear n0_ n1_ n2_ n3_; clear hb hbox hg; have hcz15_0 : w14.cell? ⟨gb228, 0, none⟩ = some (.bool false) := (blk_cell BK228.out 0).trans rfl; have hcz15_1 : w14.cell? ⟨gb228, 1, none⟩ = some (.int .i64 a0_1) := (blk_cell BK228.out 1).trans rfl; have hcz15_2 : w14.cell? ⟨gb228, 2, none⟩ = some (.int .i64 a0_2) := (blk_cell BK228.out 2).trans rfl; have hfz15_0 := blk_frozen BK228.out 0; have hfz15_1 := blk_frozen BK228.out 1; have hfz15_2 := blk_frozen BK228.out 2))
          go_ret2
          exact ⟨by first | rfl | (simp [errW_none, errW_some] <;> rfl) | (simp [*, errW_none, errW_some] <;> rfl), by repeat (first | (with_reducible first | exact HB.out | apply below_alloc | apply pw_below_drewN | apply below_drew1 | refine below_set ?_ GE228.out) | exact HB.out)⟩

end Go.Proofs.YtfmmjekhknaniaaDoor.Pr

namespace Go.Proofs.YtfmmjekhknaniaaDoor.Core
open Go.RowKit Go.Proofs.YtfmmjekhknaniaaDoor.Pr Go.Proofs.YtfmmjekhknaniaaDoorW.PrintWords

/-- one of a congruence, by a count. -/
theorem number_f {c : Cg} (hc : Fit c) {i : Int} : (c.1 = true ∧ gimballaw31_number.f c.1 c.2.1 c.2.2 i = some (0, false)) ∨ ∃ x, Mem c x ∧ gimballaw31_number.f c.1 c.2.1 c.2.2 i = some (x, true) := by
  have mc := fit_mod hc
  have fc := fit_rem hc
  unfold gimballaw31_number.f
  by_cases h1 : c.1 = true
  · left; rw [if_pos h1]; exact ⟨h1, rfl⟩
  right
  rw [if_neg h1]
  by_cases h2 : c.2.1 = 0
  · rw [if_pos h2]
    exact ⟨c.2.2, ⟨bfalse h1, by unfold In32; omega, by rw [Int.sub_self]; exact Int.dvd_zero _⟩, rfl⟩
  have m0 : 0 < c.2.1 := by omega
  rw [if_neg h2]
  have key : ∀ (n m : Int), -1 ≤ n → n ≤ 2147483647 → 0 ≤ m → m ≤ 8589934592 → 0 < n + m + 1 → c.2.2 + n * c.2.1 ≤ 2147483647 → -2147483648 ≤ c.2.2 - m * c.2.1 → (n = -1 → c.2.2 - c.2.1 ≤ 2147483647) →
      IntKind.u64.wrap (wrap64 ((wrap64 (n + m)) + 1)) ≠ 0 ∧
      Mem c (wrap64 (c.2.2 + (wrap64 ((wrap64 ((wrap64 (Int.tmod (IntKind.u64.wrap i) (IntKind.u64.wrap (wrap64 ((wrap64 (n + m)) + 1))))) - m)) * c.2.1)))) := fun n m n0 n1 m0' m1 hp hu hl hneg => by
    have w0 : 0 ≤ IntKind.u64.wrap i := by rw [IntKind.wrap_u64]; omega
    rw [w64_id (n := n + m) (by omega) (by omega), w64_id (n := n + m + 1) (by omega) (by omega), u64_id (n := n + m + 1) (by omega) (by omega), Int.tmod_eq_emod_of_nonneg w0]
    refine ⟨by omega, ?_⟩
    have t0 := Int.emod_nonneg (IntKind.u64.wrap i) (show n + m + 1 ≠ 0 by omega)
    have t1 := Int.emod_lt_of_pos (IntKind.u64.wrap i) hp
    generalize IntKind.u64.wrap i % (n + m + 1) = t at *
    have q1 : (t - m) * c.2.1 ≤ n * c.2.1 := Int.mul_le_mul_of_nonneg_right (by omega) (by omega)
    have q2 : -m * c.2.1 ≤ (t - m) * c.2.1 := Int.mul_le_mul_of_nonneg_right (by omega) (by omega)
    rw [Int.neg_mul] at q2
    have q3 : -2147483648 ≤ c.2.2 + (t - m) * c.2.1 ∧ c.2.2 + (t - m) * c.2.1 ≤ 2147483647 := by omega
    rw [w64_id (n := t) (by omega) (by omega), w64_id (n := t - m) (by omega) (by omega), w64_id (n := (t - m) * c.2.1) (by omega) (by omega), w64_id (by omega) (by omega)]
    refine ⟨bfalse h1, q3, ⟨t - m, ?_⟩⟩
    rw [Int.mul_comm c.2.1]; omega
  have em := Int.mul_ediv_add_emod (c.2.2 + 2147483648) c.2.1
  have em0 := Int.emod_nonneg (c.2.2 + 2147483648) h2
  have em1 := Int.emod_lt_of_pos (c.2.2 + 2147483648) m0
  have d0 : 0 ≤ (c.2.2 + 2147483648) / c.2.1 := Int.ediv_nonneg (by omega) (by omega)
  have d1 : (c.2.2 + 2147483648) / c.2.1 ≤ c.2.2 + 2147483648 := Int.ediv_le_self _ (by omega)
  rw [w64_id (n := c.2.2 + 2147483648) (by omega) (by omega), Int.tdiv_eq_ediv_of_nonneg (show 0 ≤ c.2.2 + 2147483648 by omega), w64_id (n := (c.2.2 + 2147483648) / c.2.1) (by omega) (by omega)]
  have hne : ∃ y, In32 y ∧ c.2.1 ∣ y - c.2.2 := by
    obtain ⟨y, hy⟩ := fit_some hc (bfalse h1)
    exact ⟨y, hy.2.1, hy.2.2⟩
  generalize (c.2.2 + 2147483648) / c.2.1 = m at *
  generalize (c.2.2 + 2147483648) % c.2.1 = mr at *
  have hmm : m * c.2.1 = c.2.1 * m := Int.mul_comm _ _
  by_cases h3 : c.2.2 > 2147483647
  · rw [if_pos h3]
    -- one step down is an int32: so there is one
    obtain ⟨y, hy, hd⟩ := hne
    unfold In32 at hy
    have hm1 : 1 ≤ m := by
      have g1 := ge_of_dvd m0 (dvd_sub_comm' hd) (show y - c.2.1 < c.2.2 by omega)
      have g2 : y ≤ c.2.2 - c.2.1 := by
        rcases eq_or_step m0 (dvd_sub_comm' hd) g1 with e | e <;> omega
      by_cases h : 1 ≤ m
      · exact h
      · have : m = 0 := by omega
        subst this
        omega
    obtain ⟨k1, k2⟩ := key (-1) m (by omega) (by omega) d0 (by omega) (by omega) (by omega) (by omega) (by omega)
    rw [if_neg k1]
    exact ⟨_, k2, rfl⟩
  · have en := Int.mul_ediv_add_emod (2147483647 - c.2.2) c.2.1
    have en0 := Int.emod_nonneg (2147483647 - c.2.2) h2
    have e0 : 0 ≤ (2147483647 - c.2.2) / c.2.1 := Int.ediv_nonneg (by omega) (by omega)
    have e1 : (2147483647 - c.2.2) / c.2.1 ≤ 2147483647 - c.2.2 := Int.ediv_le_self _ (by omega)
    rw [if_neg h3, w64_id (n := 2147483647 - c.2.2) (by omega) (by omega), Int.tdiv_eq_ediv_of_nonneg (show 0 ≤ 2147483647 - c.2.2 by omega), w64_id (n := (2147483647 - c.2.2) / c.2.1) (by omega) (by omega)]
    generalize (2147483647 - c.2.2) / c.2.1 = n at *
    have hnn : n * c.2.1 = c.2.1 * n := Int.mul_comm _ _
    obtain ⟨k1, k2⟩ := key n m (by omega) (by omega) d0 (by omega) (by omega) (by omega) (by omega) (by omega)
    rw [if_neg k1]
    exact ⟨_, k2, rfl⟩

end Go.Proofs.YtfmmjekhknaniaaDoor.Core

namespace Go.Proofs.YtfmmjekhknaniaaDoor.Given
open Go.RowKit Go.Proofs.YtfmmjekhknaniaaDoor.Pr Go.Proofs.YtfmmjekhknaniaaDoor.Core
attribute [local go_sem high] eqA23

theorem of811 (w : World) : Calls Tryd.prog 10 #[.int .i64 8, .int .i64 11] w fun e w' => e = .returned (.agg #[.bool false, .int .i64 8, .int .i64 3]) ∧ Below w.heap.size w w' :=
  congr_Of.calls 1 8 11 false 8 3 w (by rw [Of_f (by omega) (by omega) (by omega) (by omega) 0]; decide +kernel)
theorem has833 (w : World) : Calls Tryd.prog 14 #[.agg #[.bool false, .int .i64 8, .int .i64 3], .int .i64 (-5)] w fun e w' => e = .returned (.bool true) ∧ Below w.heap.size w w' :=
  congr_Has.calls 8 false 8 3 (-5) true w (by decide +kernel)

def gimballaw31_awake.f : Option Bool := some true
set_option maxRecDepth 100000 in
theorem gimballaw31_awake.calls (r : Bool) (w : World) (h : gimballaw31_awake.f = some r) :
    Calls Tryd.prog 18 #[] w fun e w' => e = .returned (.bool r) ∧ Below w.heap.size w w' := by
  obtain rfl : true = r := Option.some.inj h
  clear h
  have hb0 := Below.refl w.heap.size w
  go_enter Tryd.func18, Tryd.ntmps18
  go_wp2_with (first | (go_at_call 10; with_reducible refine (of811 _).mono ?_; rintro e w' ⟨rfl, hb⟩; replace hb0 := hb0.trans (hb.mono hb0.size); clear hb) | (go_at_call 14; with_reducible refine (has833 _).mono ?_; rintro e w' ⟨rfl, hb⟩; replace hb0 := hb0.trans (hb.mono hb0.size); clear hb) | (go_at_call 16; with_reducible refine (congr_Text.calls false 8 3 _ _ rfl).mono ?_; rintro e w' ⟨rfl, hb⟩; replace hb0 := hb0.trans (hb.mono hb0.size); clear hb))
  go_ret
  exact ⟨rfl, hb0⟩
end Go.Proofs.YtfmmjekhknaniaaDoor.Given

namespace Go.Proofs.YtfmmjekhknaniaaDoor.Pr
open Go.RowKit Go.Proofs.YtfmmjekhknaniaaDoor.Given Go.Proofs.YtfmmjekhknaniaaDoorW.PrintWords Go.Proofs.YtfmmjekhknaniaaDoorW.PrintLast Go.Proofs.YtfmmjekhknaniaaDoorW.PrintMore
attribute [local go_sem] max2_int min2_int max_two min_two max_three min_three max_four min_four   -- for this text's walks alone
set_option linter.unusedVariables false
set_option linter.unusedSimpArgs false

attribute [local go_sem high] eqA23
def gimballaw31_CongrShort.l0 : Nat → Int → List (S23) → Int → Int → Bool → Int → Int → Option (Bool)
  | 0, _, _, _, _, _, _, _ => none
  | k + 1, x4, x9, x10, x11, x187000, x187001, x187002 => if x11 < x10 then (if 0 ≤ x11 then (if x11 < (x9.length : Int) then ((gimbalref31_Fit.f k ((rd_T23 x9 x11).f0) ((rd_T23 x9 x11).f1) ((rd_T23 x9 x11).f2)).bind fun t190 => (if t190 = true then ((congr_Join.f k x187000 x187001 x187002 ((rd_T23 x9 x11).f0) ((rd_T23 x9 x11).f1) ((rd_T23 x9 x11).f2)).bind fun bt191 => (if (!(bt191.1 == x187000) || (!(bt191.2.1 == x187001) || (!(bt191.2.2 == x187002)))) = true then (gimballaw31_CongrShort.l0 k (wrap64 (x4 + 1)) x9 x10 (wrap64 (x11 + 1)) bt191.1 bt191.2.1 bt191.2.2) else (gimballaw31_CongrShort.l0 k x4 x9 x10 (wrap64 (x11 + 1)) bt191.1 bt191.2.1 bt191.2.2))) else ((gimballaw31_awake.f).bind fun t195 => (some t195)))) else (none)) else (none)) else (if x4 ≤ 33 then ((gimballaw31_awake.f).bind fun t187 => (some t187)) else (some false))
def gimballaw31_CongrShort.f (k : Nat) (l0 : List (S23)) : Option (Bool) := gimballaw31_CongrShort.l0 k 0 l0 (l0.length : Int) 0 true 0 0
theorem gimballaw31_CongrShort.mono_l : ∀ k, (∀ y0 y1 y2 y3 y4 y5 y6, LeO (gimballaw31_CongrShort.l0 k y0 y1 y2 y3 y4 y5 y6) (gimballaw31_CongrShort.l0 (k + 1) y0 y1 y2 y3 y4 y5 y6))
  | 0 => fun _ _ _ _ _ _ _ r h => by simp [gimballaw31_CongrShort.l0] at h
  | k + 1 => by
    have ih0 := gimballaw31_CongrShort.mono_l k
    · intro y0 y1 y2 y3 y4 y5 y6
      unfold gimballaw31_CongrShort.l0
      repeat' first
      | (with_reducible exact ih0 _ _ _ _ _ _ _)
      | (with_reducible exact congr_Join.mono _ _ _ _ _ _ _)
      | (with_reducible exact gimbalref31_Fit.mono _ _ _ _)
      | (with_reducible exact LeO.refl _)
      | (with_reducible exact LeO.none _)
      | (with_reducible refine LeO.ite ?_ ?_)
      | (with_reducible refine LeO.bind ?_ (fun _ => ?_))
      | exact ih0 _ _ _ _ _ _ _
      | exact congr_Join.mono _ _ _ _ _ _ _
      | exact gimbalref31_Fit.mono _ _ _ _
      | exact LeO.none _
      | refine LeO.ite ?_ ?_
      | refine LeO.bind ?_ (fun _ => ?_)
theorem gimballaw31_CongrShort.mono : ∀ a0 k, LeO (gimballaw31_CongrShort.f k a0) (gimballaw31_CongrShort.f (k + 1) a0) := by
  intro a0 k
  have ih0 := gimballaw31_CongrShort.mono_l k
  unfold gimballaw31_CongrShort.f
  repeat' first
      | (with_reducible exact ih0 _ _ _ _ _ _ _)
      | (with_reducible exact congr_Join.mono _ _ _ _ _ _ _)
      | (with_reducible exact gimbalref31_Fit.mono _ _ _ _)
      | (with_reducible exact LeO.refl _)
      | (with_reducible exact LeO.none _)
      | (with_reducible refine LeO.ite ?_ ?_)
      | (with_reducible refine LeO.bind ?_ (fun _ => ?_))
      | exact ih0 _ _ _ _ _ _ _
      | exact congr_Join.mono _ _ _ _ _ _ _
      | exact gimbalref31_Fit.mono _ _ _ _
      | exact LeO.none _
      | refine LeO.ite ?_ ?_
      | refine LeO.bind ?_ (fun _ => ?_)
end Go.Proofs.YtfmmjekhknaniaaDoor.Pr

namespace Go.Proofs.YtfmmjekhknaniaaDoor.Lt
open Go.ChangeShapes Go.WideShapes Go.ChangeAt Go.RowKit Go.Deep Go.Proofs.YtfmmjekhknaniaaDoor.Core Go.Proofs.YtfmmjekhknaniaaDoor.Pr Go.Proofs.YtfmmjekhknaniaaDoor.Given
set_option maxRecDepth 100000

theorem fit13 (c : Cg) (h1 : I64 c.2.1) (h2 : I64 c.2.2) (w : World) : Calls Tryd.prog 13 #[.agg #[.bool c.1, .int .i64 c.2.1, .int .i64 c.2.2]] w fun e w' => e = .returned (.bool (fitB c)) ∧ Below w.heap.size w w' :=
  gimbalref31_Fit.calls 8 _ _ _ _ w (rFit_f c h1 h2 0)
theorem leq21 {a b : Cg} (ha : Fit a) (hb : Fit b) (w : World) : Calls Tryd.prog 21 #[.agg #[.bool a.1, .int .i64 a.2.1, .int .i64 a.2.2], .agg #[.bool b.1, .int .i64 b.2.1, .int .i64 b.2.2]] w fun e w' => e = .returned (.bool (leqB a b)) ∧ Below w.heap.size w w' := by
  obtain ⟨k, hk⟩ := (Leq_f ha hb).rounds
  exact congr_Leq.calls k _ _ _ _ _ _ _ w hk
theorem leq21t {a b : Cg} (ha : Fit a) (hb : Fit b) (h : Sub a b) (w : World) : Calls Tryd.prog 21 #[.agg #[.bool a.1, .int .i64 a.2.1, .int .i64 a.2.2], .agg #[.bool b.1, .int .i64 b.2.1, .int .i64 b.2.2]] w fun e w' => e = .returned (.bool true) ∧ Below w.heap.size w w' := by
  have := leq21 ha hb w
  rw [leqB_iff.mpr h] at this
  exact this

theorem law (a b c : Cg) (x : Int) (a1 : I64 a.2.1) (a2 : I64 a.2.2) (b1 : I64 b.2.1) (b2 : I64 b.2.2) (c1 : I64 c.2.1) (c2 : I64 c.2.2) (w : World) :
    Calls Tryd.prog 5 #[.agg #[.bool a.1, .int .i64 a.2.1, .int .i64 a.2.2], .agg #[.bool b.1, .int .i64 b.2.1, .int .i64 b.2.2], .agg #[.bool c.1, .int .i64 c.2.1, .int .i64 c.2.2], .int .i64 x] w fun e w' => e = .returned (.bool true) ∧ Below w.heap.size w w' := by
  have aw : ∀ w, Calls Tryd.prog 18 #[] w fun e w' => e = .returned (.bool true) ∧ Below w.heap.size w w' := fun w => gimballaw31_awake.calls true w rfl
  by_cases hf : (fitB a && fitB b && fitB c) = false
  · exact lat_unfit a.1 b.1 c.1 _ _ _ _ _ _ x _ _ _ hf (fit13 a a1 a2) (fit13 b b1 b2) (fit13 c c1 c2) aw w
  have hf' : (fitB a && fitB b && fitB c) = true := Eq.mp (Bool.not_eq_false _) hf
  simp only [Bool.and_eq_true] at hf'
  obtain ⟨⟨fa', fb'⟩, fc'⟩ := hf'
  have fa := fitB_iff.mp fa'
  have fb := fitB_iff.mp fb'
  have fc := fitB_iff.mp fc'
  have ca := fit13 a a1 a2
  have cb := fit13 b b1 b2
  have cc := fit13 c c1 c2
  rw [fa'] at ca
  rw [fb'] at cb
  rw [fc'] at cc
  obtain ⟨m, hm, em⟩ := Meet_f fa fb
  obtain ⟨km, hkm⟩ := em.rounds
  obtain ⟨kj, hkj⟩ := (Join_f fa fb).rounds
  have fj := fit_join fa fb
  have fm := hm.1
  have sma : Sub m a := fun y hy => ((hm.2 y).mp hy).1
  have smb : Sub m b := fun y hy => ((hm.2 y).mp hy).2
  have anti : leqB a b = true → leqB b a = true → (a.1 == b.1 && (a.2.1 == b.2.1 && (a.2.2 == b.2.2))) = true := fun h k => by
    have := sub_antisymm fa fb (leqB_iff.mp h) (leqB_iff.mp k)
    subst this
    simp
  have t2 : leqB a b = true → leqB b c = true → leqB a c = true := fun h k => leqB_iff.mpr ((leqB_iff.mp h).trans (leqB_iff.mp k))
  have t3 : leqB a c = true → leqB b c = true → leqB (joinS a b) c = true := fun h k => leqB_iff.mpr (join_least fa fb (leqB_iff.mp h) (leqB_iff.mp k))
  have t4 : leqB c a = true → leqB c b = true → leqB c m = true := fun h k => leqB_iff.mpr fun y hy => (hm.2 y).mpr ⟨leqB_iff.mp h y hy, leqB_iff.mp k y hy⟩
  have num : ∃ (y : Int) (ok : Bool), gimballaw31_number.f a.1 a.2.1 a.2.2 x = some (y, ok) ∧ (ok = true → Mem a y) := by
    rcases number_f fa (i := x) with ⟨_, h⟩ | ⟨y, hy, h⟩
    · exact ⟨0, false, h, fun h => by cases h⟩
    · exact ⟨y, true, h, fun _ => hy⟩
  obtain ⟨y, ok, hn, hy⟩ := num
  have iy : ok = true → I64 y := fun h => by
    have := (hy h).2.1
    unfold In32 at this
    unfold I64
    omega
  have same : ok = true → memB m y = memB b y := fun h => by
    apply beq_bool
    rw [memB_iff, memB_iff]
    exact ⟨fun k => smb y k, fun k => (hm.2 y).mpr ⟨hy h, k⟩⟩
  refine lat_fit a.1 b.1 c.1 _ _ _ _ _ _ x (joinS a b).1 m.1 _ _ _ _ ca cb cc (fun w => congr_Join.calls kj _ _ _ _ _ _ _ _ _ w hkj) (fun w => congr_Meet.calls km _ _ _ _ _ _ _ _ _ w hkm)
    (leqB a b) (leqB b a) (leqB b c) (leqB a c) (leqB (joinS a b) c) (leqB c a) (leqB c b) (leqB c m)
    (leq21t fa fj sub_join_l) (leq21t fb fj sub_join_r) (leq21t fm fa sma) (leq21t fm fb smb) (leq21 fa fb) (leq21 fb fa) (leq21 fb fc) (leq21 fa fc) (leq21 fj fc) (leq21 fc fa) (leq21 fc fb) (leq21 fc fm)
    y ok (memB b y) (fun w => gimballaw31_number.calls _ _ _ _ _ _ w hn) (fun h w => ?_) (fun h w => congr_Has.calls 8 _ _ _ _ _ w (Has_f fb (iy h) 0)) aw anti t2 t3 t4 w
  have := congr_Has.calls 8 _ _ _ _ _ w (Has_f fm (iy h) 0)
  rw [same h] at this
  exact this

theorem lattice_contract (H : Type) (enc : TypeId × Value → H) (W : World) (base : Nat) (args : Array Value) (ds gs : List (DataW H)) (before : List MemPlace)
    (hval : ∀ (j : Nat) t v, Tryd.f5.params[j]? = some t → args[j]? = some v → Value.okWide Tryd.prog W .any base t v)
    (hW : DataW.Whole enc Tryd.prog Tryd.f5.params.toList Rows.congrLatticeSpec.vars false W args.toList ds gs before) (_hL : laidMetH Tryd.prog Rows.congrLatticeRow.laid W) :
    Calls Tryd.prog 5 args W fun e W' => ∃ v, e = .returned v ∧ Rows.congrLatticeSpec.post enc Tryd.prog Tryd.f5 false true false false W args v W' := by
  have hW' := hW
  have hlt := hW.lt
  obtain ⟨p, q, hA0, hV, rfl, hfz, hnd⟩ := hW
  have hA : DataW.TrodAll enc Tryd.prog W 0 (fun _ => true) true Tryd.f5.params.toList args.toList ds p := hA0
  rw [Tryd.params5] at hA hval
  obtain ⟨v0, v1, v2, v3, d0, d1, d2, d3, p0, p1, p2, p3, rfl, rfl, rfl, h0, h1, h2, h3⟩ := trodAll_four hA
  obtain ⟨rfl, rfl⟩ := trodVars_none hV
  clear hA0
  obtain ⟨a, hv0, i1, i2⟩ := open_cg (hval 0 23 v0 rfl rfl) h0
  subst hv0
  obtain ⟨b, hv1, i3, i4⟩ := open_cg (hval 1 23 v1 rfl rfl) h1
  subst hv1
  obtain ⟨c, hv2, i5, i6⟩ := open_cg (hval 2 23 v2 rfl rfl) h2
  subst hv2
  obtain ⟨x, rfl, rfl, rfl, wx⟩ := open_int Tryd.underlying2 (hval 3 2 v3 rfl rfl) h3
  refine (law a b c x i1 i2 i3 i4 i5 i6 W).mono fun e W' ⟨he, hb⟩ => ?_
  subst he
  have h0' := hb.trod laidOut read23 size23 h0 (fun y hy => hlt y (by simp [hy]))
  have h1' := hb.trod laidOut read23 size23 h1 (fun y hy => hlt y (by simp [hy]))
  have h2' := hb.trod laidOut read23 size23 h2 (fun y hy => hlt y (by simp [hy]))
  exact ⟨_, rfl, _, _, _, [], _, [], hW', trodAll_mk1 (shut_bool Tryd.underlying4 _), trodAll_mk4 h0' h1' h2' (shut_int Tryd.underlying2 wx), rfl, hb.frame _, fun h => by cases h⟩
noncomputable def congrLattice_world (os : Os) : World := World.laidAll Tryd.prog os Rows.congrLatticeRow.laid
theorem congrLattice_laid_met (os : Os) : laidMet Tryd.prog Rows.congrLatticeRow.laid ((congrLattice_world os).forCall (fun _ _ => 0) ⟨#[], #[.agg #[.bool false, .int .i64 0, .int .i64 0], .agg #[.bool false, .int .i64 0, .int .i64 0], .agg #[.bool false, .int .i64 0, .int .i64 0], .int .i64 0], []⟩).memory :=
  laidMet_laidAll _ (by kernel_rfl) (by kernel_rfl)
theorem congrLattice_reads (os : Os) {H : Type} (enc : TypeId × Value → H) : ∃ places, DataW.whole enc Tryd.prog ((congrLattice_world os).forCall (fun _ _ => 0) ⟨#[], #[.agg #[.bool false, .int .i64 0, .int .i64 0], .agg #[.bool false, .int .i64 0, .int .i64 0], .agg #[.bool false, .int .i64 0, .int .i64 0], .int .i64 0], []⟩).memory Tryd.f5.params.toList Rows.congrLatticeSpec.vars false (#[.agg #[.bool false, .int .i64 0, .int .i64 0], .agg #[.bool false, .int .i64 0, .int .i64 0], .agg #[.bool false, .int .i64 0, .int .i64 0], .int .i64 0] : Array Value).toList 8 = some ([.agg [.lit (.bool false), .lit (.int .i64 0), .lit (.int .i64 0)], .agg [.lit (.bool false), .lit (.int .i64 0), .lit (.int .i64 0)], .agg [.lit (.bool false), .lit (.int .i64 0), .lit (.int .i64 0)], .lit (.int .i64 0)], [], places) :=
  ⟨[], by kernel_rfl⟩
theorem congrLattice_lifted (os : Os) (started : os.Started) (H : Type) (enc : TypeId × Value → H) (F : Stop.Interp) :
    ReturnsInHanded {} Tryd.checked os 5 .any ((OpenSpec.ofChange Rows.congrLatticeSpec).preRow enc Tryd.prog Tryd.f5 Rows.congrLatticeRow.domain false Rows.congrLatticeRow.laid) (((OpenSpec.ofChange Rows.congrLatticeSpec).at F).post enc Tryd.prog Tryd.f5 false true false false) := by
  obtain ⟨places, hx⟩ := congrLattice_reads os enc
  refine returnsInHanded_of_row (C := Tryd.checked) (s := OpenSpec.ofChange Rows.congrLatticeSpec) own started (by kernel_rfl) Tryd.func5
    (witness_row_at (enc := enc) (C := Tryd.checked) false (congrLattice_world os) #[.agg #[.bool false, .int .i64 0, .int .i64 0], .agg #[.bool false, .int .i64 0, .int .i64 0], .agg #[.bool false, .int .i64 0, .int .i64 0], .int .i64 0] (World.laidAll_os _ _ _) (by kernel_rfl) (by kernel_rfl) (by kernel_rfl)
      (OpenSpec.preRow_of_cond 8 hx (by kernel_rfl) (fun k hk => by cases hk) (by kernel_rfl) (congrLattice_laid_met os))) ?_
  intro W base args ds gs before hval hW _ _ _ hL _ _
  exact lattice_contract H enc W base args ds gs before hval hW hL
theorem congrLattice_said : Rows.CongrLatticeSaid :=
  OpenClaim.holds_of_cond 5 Tryd.f5 rfl rfl rfl rfl rfl rfl rfl ⟨rfl, rfl, rfl, rfl, rfl⟩ rfl rfl rfl rfl rfl (by kernel_rfl) Tryd.func5 (by kernel_rfl)
    (of_decide_eq_true (by kernel_rfl)) (by unfold Func.isWrapper; first | (rw [if_pos (by decide +kernel)]; kernel_rfl) | (rw [if_neg (by decide +kernel)]; exact ⟨rfl, rfl⟩))
    (fun os started H enc _ F => by rw [OpenClaim.pre_eq_preRow]; exact congrLattice_lifted os started H enc F)
theorem congrLattice_plain (f : FuncId) (fn : Func) (hf : Tryd.pinned.checked.prog.funcNamed "gimbal/gimballaw31.CongrLattice" = some f) (hfn : Tryd.pinned.checked.prog.funcs[f]? = some fn) :
    false = Tryd.pinned.checked.prog.looks [] ∧ ∀ (j : Nat) t, fn.params[j]? = some t → Tryd.pinned.checked.prog.wantsStandIn t = false := by
  obtain rfl : f = 5 := Option.some.inj ((show Tryd.prog.funcNamed "gimbal/gimballaw31.CongrLattice" = some 5 by kernel_rfl).symm.trans hf) |>.symm
  obtain rfl : fn = Tryd.f5 := (Option.some.inj (Tryd.func5.symm.trans hfn)).symm
  refine ⟨by kernel_rfl, fun j t ht => ?_⟩
  rw [Tryd.params5] at ht
  have hts : t = 23 ∨ t = 2 := by simpa using Array.mem_of_getElem? ht
  rcases hts with rfl | rfl
  · exact (show Tryd.prog.wantsStandIn 23 = false by kernel_rfl)
  · exact (show Tryd.prog.wantsStandIn 2 = false by kernel_rfl)

/-- The card. -/
theorem congrLattice_card : Rows.CongrLatticeCardSaid :=
  Claim7.holds_tied_plain_at .later [] _ _ _ _ congrLattice_said (fun _ h => by cases h) (by kernel_rfl) (fun _ h => by cases h) congrLattice_row_tie rfl ⟨rfl, rfl⟩ (by kernel_rfl) rfl congrLattice_plain (by kernel_rfl)
end Go.Proofs.YtfmmjekhknaniaaDoor.Lt
namespace Go.Proofs.YtfmmjekhknaniaaDoor
theorem CongrLattice_holds : Rows.CongrLatticeCardSaid := Lt.congrLattice_card
end Go.Proofs.YtfmmjekhknaniaaDoor

