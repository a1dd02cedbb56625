/-
  gimballaw31.CongrTests returns true, whatever the operation, the two congruences and the interval, in every world in which the listed tables read as listed: the row, and its card (the tables tied to the program's text). No further condition.
-/
import Derived.Test.YtfmmjekhknaniaaDoorTestP5
import Derived.Test.YtfmmjekhknaniaaDoorTestP8
import Derived.Test.YtfmmjekhknaniaaDoorTestP6
import Derived.Test.YtfmmjekhknaniaaDoorTestP7
import Derived.Test.YtfmmjekhknaniaaDoorTestP4
import Derived.Test.YtfmmjekhknaniaaDoorProg
import Derived.Deep.DeepCutAuto
import Derived.Below
import Derived.WalkKit
import Derived.Tactics
import Derived.Lib.Hide
import Derived.LoopTactic
import Derived.Deep.RegionHeld3
import Derived.Outline
namespace Go.Proofs.YtfmmjekhknaniaaDoor.Pr
open Go.RowKit Go.Proofs.YtfmmjekhknaniaaDoor.Given Go.Proofs.YtfmmjekhknaniaaDoorW.PrintWords Go.Proofs.YtfmmjekhknaniaaDoorW.PrintLast Go.Proofs.YtfmmjekhknaniaaDoorW.PrintMore
attribute [local go_sem] max2_int min2_int max_two min_two max_three min_three max_four min_four   -- for this text's walks alone
set_option linter.unusedVariables false
set_option linter.unusedSimpArgs false

def gimbalref31_Tighten.j0 : Nat → Bool → Bool → Int → Int → Int → Int → Option (Bool × Int × Int × Int × Int)
 | 0, _, _, _, _, _, _ => none
 | k + 1, x16, x378000, x378001, x378002, x379000, x379001 => if x16 = true then ((gimbalref31_None.f).bind fun bt386 => ((gimbalref02_Empty.f).bind fun bt389 => (some (bt386.1, bt386.2.1, bt386.2.2, bt389.1, bt389.2)))) else (if x378001 = 0 then ((gimbalref02_Has.f x379000 x379001 x378002).bind fun t391 => (if t391 = true then ((gimbalref02_Of.f x378002 x378002).bind fun bt392 => (some (x378000, x378001, x378002, bt392.1, bt392.2))) else ((gimbalref31_None.f).bind fun bt394 => ((gimbalref02_Empty.f).bind fun bt397 => (some (bt394.1, bt394.2.1, bt394.2.2, bt397.1, bt397.2)))))) else (if (wrap64 (x379000 + (Int.tmod (wrap64 ((Int.tmod (wrap64 (x378002 - x379000)) x378001) + x378001)) x378001))) > (wrap64 (x379001 - (Int.tmod (wrap64 ((Int.tmod (wrap64 (x379001 - x378002)) x378001) + x378001)) x378001))) then ((gimbalref31_None.f).bind fun bt399 => ((gimbalref02_Empty.f).bind fun bt402 => (some (bt399.1, bt399.2.1, bt399.2.2, bt402.1, bt402.2)))) else (if (wrap64 (x379000 + (Int.tmod (wrap64 ((Int.tmod (wrap64 (x378002 - x379000)) x378001) + x378001)) x378001))) = (wrap64 (x379001 - (Int.tmod (wrap64 ((Int.tmod (wrap64 (x379001 - x378002)) x378001) + x378001)) x378001))) then ((gimbalref02_Of.f (wrap64 (x379000 + (Int.tmod (wrap64 ((Int.tmod (wrap64 (x378002 - x379000)) x378001) + x378001)) x378001))) (wrap64 (x379000 + (Int.tmod (wrap64 ((Int.tmod (wrap64 (x378002 - x379000)) x378001) + x378001)) x378001)))).bind fun bt404 => (some (false, 0, wrap64 (x379000 + (Int.tmod (wrap64 ((Int.tmod (wrap64 (x378002 - x379000)) x378001) + x378001)) x378001)), bt404.1, bt404.2))) else ((gimbalref02_Of.f (wrap64 (x379000 + (Int.tmod (wrap64 ((Int.tmod (wrap64 (x378002 - x379000)) x378001) + x378001)) x378001))) (wrap64 (x379001 - (Int.tmod (wrap64 ((Int.tmod (wrap64 (x379001 - x378002)) x378001) + x378001)) x378001)))).bind fun bt406 => (some (x378000, x378001, x378002, bt406.1, bt406.2))))))
def gimbalref31_Tighten.f (k : Nat) (a0_0 : Bool) (a0_1 : Int) (a0_2 : Int) (a1_0 : Int) (a1_1 : Int) : Option (Bool × Int × Int × Int × Int) := (gimbalref02_Type.f 3).bind fun bt381 => ((gimbalref02_Meet.f k a1_0 a1_1 bt381.1 bt381.2).bind fun bt383 => (if a0_0 = true then (gimbalref31_Tighten.j0 k true a0_0 a0_1 a0_2 bt383.1 bt383.2) else ((gimbalref02_None.f bt383.1 bt383.2).bind fun t385 => (gimbalref31_Tighten.j0 k t385 a0_0 a0_1 a0_2 bt383.1 bt383.2))))
def gimbalref31_Tighten.T6 : Bool × List (List Nat × List Nat) := (true, [([], []), ([], []), ([1], [1]), ([], []), ([3], [3]), ([2, 4], [2, 4]), ([0, 5, 0], [0]), ([5, 6, 0, 1, 2, 3, 4, 5, 6], [5])])
def gimbalref31_Tighten.B6 : List Nat := [0, 0, 2, 0, 8, 30, 63, 127]
theorem gimbalref31_Tighten.tab6 : rtab .any (opsOf Tryd.f27 6) = gimbalref31_Tighten.T6 := by kernel_rfl
theorem gimbalref31_Tighten.bits6 : waitsOk gimbalref31_Tighten.T6.2 gimbalref31_Tighten.B6 = true := by kernel_rfl
def gimbalref31_Tighten.T8 : Bool × List (List Nat × List Nat) := (true, [([], []), ([0], [0]), ([], []), ([2], [2]), ([], []), ([4], [4]), ([3, 5], [3, 5]), ([], []), ([7], [7]), ([6, 8], [6, 8]), ([], []), ([10], [10]), ([9, 11], [9, 11]), ([], []), ([13], [13]), ([12, 14], [12, 14]), ([1, 15], [1, 15]), ([16, 0, 1, 2, 3, 4, 5, 6, 7, 8, 9, 10, 11, 12, 13, 14, 15, 16], [16])])
def gimbalref31_Tighten.B8 : List Nat := [0, 1, 0, 4, 0, 16, 60, 0, 128, 508, 0, 1024, 4092, 0, 8192, 32764, 65535, 131071]
theorem gimbalref31_Tighten.tab8 : rtab .any (opsOf Tryd.f27 8) = gimbalref31_Tighten.T8 := by kernel_rfl
theorem gimbalref31_Tighten.bits8 : waitsOk gimbalref31_Tighten.T8.2 gimbalref31_Tighten.B8 = true := by kernel_rfl
def gimbalref31_Tighten.T9 : Bool × List (List Nat × List Nat) := (true, [([], []), ([0], [0]), ([], []), ([2], [2]), ([], []), ([4], [4]), ([3, 5], [3, 5]), ([], []), ([7], [7]), ([6, 8], [6, 8]), ([], []), ([10], [10]), ([9, 11], [9, 11]), ([], []), ([13], [13]), ([12, 14], [12, 14]), ([1, 15], [1, 15]), ([16, 0, 1, 2, 3, 4, 5, 6, 7, 8, 9, 10, 11, 12, 13, 14, 15, 16], [16])])
def gimbalref31_Tighten.B9 : List Nat := [0, 1, 0, 4, 0, 16, 60, 0, 128, 508, 0, 1024, 4092, 0, 8192, 32764, 65535, 131071]
theorem gimbalref31_Tighten.tab9 : rtab .any (opsOf Tryd.f27 9) = gimbalref31_Tighten.T9 := by kernel_rfl
theorem gimbalref31_Tighten.bits9 : waitsOk gimbalref31_Tighten.T9.2 gimbalref31_Tighten.B9 = true := by kernel_rfl
set_option maxHeartbeats 8000000 in
set_option maxRecDepth 100000 in
theorem gimbalref31_Tighten.calls (k : Nat) (a0_0 : Bool) (a0_1 : Int) (a0_2 : Int) (a1_0 : Int) (a1_1 : Int) (r1 : Bool) (r2 : Int) (r3 : Int) (r4 : Int) (r5 : Int) (w : World) (h : gimbalref31_Tighten.f k a0_0 a0_1 a0_2 a1_0 a1_1 = some (r1, r2, r3, r4, r5)) :
  Calls Tryd.prog 27 #[.agg #[.bool a0_0, .int .i64 a0_1, .int .i64 a0_2], .agg #[.int .i64 a1_0, .int .i64 a1_1]] w fun e w' => e = .returned (.tuple #[.agg #[.bool r1, .int .i64 r2, .int .i64 r3], .agg #[.int .i64 r4, .int .i64 r5]]) ∧ Below w.heap.size w w' := by
 have hu23 := Tryd.underlying23
 have hu38 := Tryd.underlying38
 have HB := Aside0.mk (Below.refl w.heap.size w)
 have H : ((gimbalref02_Type.f 3).bind fun bt381 => ((gimbalref02_Meet.f k a1_0 a1_1 bt381.1 bt381.2).bind fun bt383 => (if a0_0 = true then (gimbalref31_Tighten.j0 k true a0_0 a0_1 a0_2 bt383.1 bt383.2) else ((gimbalref02_None.f bt383.1 bt383.2).bind fun t385 => (gimbalref31_Tighten.j0 k t385 a0_0 a0_1 a0_2 bt383.1 bt383.2))))) = some (r1, r2, r3, r4, r5) := h
 clear h
 replace H := Option.bind_eq_some_iff.mp H
 obtain ⟨⟨t381, t382⟩, A30, H⟩ := H
 replace H : ((gimbalref02_Meet.f k a1_0 a1_1 t381 t382).bind fun bt383 => (if a0_0 = true then (gimbalref31_Tighten.j0 k true a0_0 a0_1 a0_2 bt383.1 bt383.2) else ((gimbalref02_None.f bt383.1 bt383.2).bind fun t385 => (gimbalref31_Tighten.j0 k t385 a0_0 a0_1 a0_2 bt383.1 bt383.2)))) = some (r1, r2, r3, r4, r5) := H
 have A3 := Aside0.mk A30
 clear A30
 replace H := Option.bind_eq_some_iff.mp H
 obtain ⟨⟨t383, t384⟩, A40, H⟩ := H
 replace H : (if a0_0 = true then (gimbalref31_Tighten.j0 k true a0_0 a0_1 a0_2 t383 t384) else ((gimbalref02_None.f t383 t384).bind fun t385 => (gimbalref31_Tighten.j0 k t385 a0_0 a0_1 a0_2 t383 t384))) = some (r1, r2, r3, r4, r5) := H
 have A4 := Aside0.mk A40
 clear A40
 have HC5 := Aside0.mk H
 clear H
 go_enter Tryd.func27, Tryd.ntmps27
 try go_wp2_with (first | ((with_reducible refine gate_dst (N := 2) rfl ?_); refine box_event ?hg (N := 2) ?hd (cs := #[.bool a0_0, .int .i64 a0_1, .int .i64 a0_2]) (t := 23) ?hr ?_; (case hd => rfl); (case hg => rfl); (case hr => first | (go_simp; done) | (go_simp; rfl)); intro gb377 hg w6 hbox hb; have n0_ := kW HB hb; have n1_ := Aside0.mk (hbox); have n2_ := Aside0.mk ((by rw [hg]; exact (below_size (bS HB)) : w.heap.size ≤ gb377)); have n3_ := Aside0.mk ((by rw [hg]; exact (below_size (bS HB)) : w.heap.size ≤ gb377)); clear HB; have HB := n0_; have BK377 := n1_; have GW377 := n2_; have GE377 := n3_; clear n0_ n1_ n2_ n3_; clear hb hbox hg) | ((with_reducible refine gate_dst (N := 3) rfl ?_); refine box_event ?hg (N := 3) ?hd (cs := #[.int .i64 a1_0, .int .i64 a1_1]) (t := 38) ?hr ?_; (case hd => rfl); (case hg => rfl); (case hr => first | (go_simp; done) | (go_simp; rfl)); intro gb378 hg w7 hbox hb; have n0_ := kB BK377 hb; have n1_ := kW HB hb; have n2_ := Aside0.mk (hbox); have n3_ := Aside0.mk ((by rw [hg]; exact (below_size (bS HB)) : w.heap.size ≤ gb378)); have n4_ := Aside0.mk ((by rw [hg]; exact (below_size (bS HB)) : w.heap.size ≤ gb378)); have n5_ := Aside0.mk ((by rw [hg]; exact Nat.ne_of_lt (blk_lt (bkS BK377)) : gb377 ≠ gb378)); have n6_ := Aside0.mk ((by rw [hg]; exact Nat.ne_of_gt (blk_lt (bkS BK377)) : gb378 ≠ gb377)); clear BK377; clear HB; have BK377 := n0_; have HB := n1_; have BK378 := n2_; have GW378 := n3_; have GE378 := n4_; have NB377_378 := n5_; have NB378_377 := n6_; clear n0_ n1_ n2_ n3_ n4_ n5_ n6_; clear hb hbox hg) | ((with_reducible refine gate_dst (N := 4) rfl ?_); refine box_event ?hg (N := 4) ?hd (cs := #[.bool false, .int .i64 0, .int .i64 0]) (t := 23) ?hr ?_; (case hd => rfl); (case hg => rfl); (case hr => first | (go_simp; done) | (go_simp; rfl)); intro gb379 hg w8 hbox hb; have n0_ := kB BK377 hb; have n1_ := kB BK378 hb; have n2_ := kW HB hb; have n3_ := Aside0.mk (hbox); have n4_ := Aside0.mk ((by rw [hg]; exact (below_size (bS HB)) : w.heap.size ≤ gb379)); have n5_ := Aside0.mk ((by rw [hg]; exact (below_size (bS HB)) : w.heap.size ≤ gb379)); have n6_ := Aside0.mk ((by rw [hg]; exact Nat.ne_of_lt (blk_lt (bkS BK377)) : gb377 ≠ gb379)); have n7_ := Aside0.mk ((by rw [hg]; exact Nat.ne_of_gt (blk_lt (bkS BK377)) : gb379 ≠ gb377)); have n8_ := Aside0.mk ((by rw [hg]; exact Nat.ne_of_lt (blk_lt (bkS BK378)) : gb378 ≠ gb379)); have n9_ := Aside0.mk ((by rw [hg]; exact Nat.ne_of_gt (blk_lt (bkS BK378)) : gb379 ≠ gb378)); clear BK377; clear BK378; clear HB; have BK377 := n0_; have BK378 := n1_; have HB := n2_; have BK379 := n3_; have GW379 := n4_; have GE379 := n5_; have NB377_379 := n6_; have NB379_377 := n7_; have NB378_379 := n8_; have NB379_378 := n9_; clear n0_ n1_ n2_ n3_ n4_ n5_ n6_ n7_ n8_ n9_; clear hb hbox hg) | ((with_reducible refine gate_dst (N := 5) rfl ?_); refine box_event ?hg (N := 5) ?hd (cs := #[.int .i64 0, .int .i64 0]) (t := 38) ?hr ?_; (case hd => rfl); (case hg => rfl); (case hr => first | (go_simp; done) | (go_simp; rfl)); intro gb380 hg w9 hbox hb; have n0_ := kB BK377 hb; have n1_ := kB BK378 hb; have n2_ := kB BK379 hb; have n3_ := kW HB hb; have n4_ := Aside0.mk (hbox); have n5_ := Aside0.mk ((by rw [hg]; exact (below_size (bS HB)) : w.heap.size ≤ gb380)); have n6_ := Aside0.mk ((by rw [hg]; exact (below_size (bS HB)) : w.heap.size ≤ gb380)); have n7_ := Aside0.mk ((by rw [hg]; exact Nat.ne_of_lt (blk_lt (bkS BK377)) : gb377 ≠ gb380)); have n8_ := Aside0.mk ((by rw [hg]; exact Nat.ne_of_gt (blk_lt (bkS BK377)) : gb380 ≠ gb377)); have n9_ := Aside0.mk ((by rw [hg]; exact Nat.ne_of_lt (blk_lt (bkS BK378)) : gb378 ≠ gb380)); have n10_ := Aside0.mk ((by rw [hg]; exact Nat.ne_of_gt (blk_lt (bkS BK378)) : gb380 ≠ gb378)); have n11_ := Aside0.mk ((by rw [hg]; exact Nat.ne_of_lt (blk_lt (bkS BK379)) : gb379 ≠ gb380)); have n12_ := Aside0.mk ((by rw [hg]; exact Nat.ne_of_gt (blk_lt (bkS BK379)) : gb380 ≠ gb379)); clear BK377; clear BK378; clear BK379; clear HB; have BK377 := n0_; have BK378 := n1_; have BK379 := n2_; have HB := n3_; have BK380 := n4_; have GW380 := n5_; have GE380 := n6_; have NB377_380 := n7_; have NB380_377 := n8_; have NB378_380 := n9_; have NB380_378 := n10_; have NB379_380 := n11_; have NB380_379 := n12_; clear n0_ n1_ n2_ n3_ n4_ n5_ n6_ n7_ n8_ n9_ n10_ n11_ n12_; clear hb hbox hg))
 replace BK377 := Aside0.mk (blk_drew BK377.out)
 replace BK378 := Aside0.mk (blk_drew BK378.out)
 replace BK379 := Aside0.mk (blk_drew BK379.out)
 replace BK380 := Aside0.mk (blk_drew BK380.out)
 replace HB := Aside0.mk (below_drew1 HB.out)
 refine start_ (n := 4) (S := fun w' => w'.cell? ⟨gb378, 0, none⟩ = some (.int .i64 a1_0) ∧ w'.cell? ⟨gb378, 1, none⟩ = some (.int .i64 a1_1)) (ds := [3]) #[false, false, false, false] (by kernel_rfl) rfl rfl ⟨cz0 BK378, cz1 BK378⟩ (fun hHeld => ?_)
 generalize w9.drew = w10 at BK377 BK378 BK379 BK380 HB hHeld ⊢
 refine take_ (i := 0) (N := some 8) (v := ?_) (a' := ?_) #[true, false, false, false] rfl rfl (by kernel_rfl) (fun _ _ _ h => h) (Or.inl ⟨by rfl, ?_⟩) hHeld ?_ ?_
 rotate_left
 ·
  rintro w' ⟨s0, s1⟩
  go_simp
  with_reducible rfl
 rotate_left
 ·
  simp only [Act.put, lA, lB, lC, i64_w, i32_w]
  rfl
 refine one_ (i := 1) (N := some 9) #[true, true, false, false] rfl rfl (by kernel_rfl) (by decide) (fun K hK => ?_)
 refine goes_ Tryd.func77 (by kernel_rfl) rfl #[.int .i64 3] (by rfl) rfl rfl mS ?_
 with_reducible refine (gimbalref02_Type.calls 3 t381 t382 _ A3.out).mono ?_
 rintro e w11 ⟨rfl, hb⟩
 refine ⟨_, rfl, ?_⟩
 replace BK377 := kB BK377 hb
 replace BK378 := kB BK378 hb
 replace BK379 := kB BK379 hb
 replace BK380 := kB BK380 hb
 replace HB := kW HB hb
 (try clear hb)
 (try clear hb2)
 (try clear hk)
 (try clear hi)
 refine hK.out _ _ ⟨cz0 BK378, cz1 BK378⟩ (fun hHeld => ?_)
 clear hK K
 refine norm_ (a' := ?_) ?_ ?_
 rotate_left
 ·
  show Act.put _ (some 9) _ = _
  simp only [Act.put, lA, lB, lC, i64_w, i32_w]
  rfl
 refine one_ (i := 2) (N := some 10) #[true, true, true, false] rfl rfl (by kernel_rfl) (by decide) (fun K hK => ?_)
 refine goes_ Tryd.func76 (by kernel_rfl) rfl #[.agg #[.int .i64 a1_0, .int .i64 a1_1], .agg #[.int .i64 t381, .int .i64 t382]] (by rfl) rfl rfl mS ?_
 with_reducible refine (gimbalref02_Meet.calls k a1_0 a1_1 t381 t382 t383 t384 _ A4.out).mono ?_
 rintro e w12 ⟨rfl, hb⟩
 refine ⟨_, rfl, ?_⟩
 replace BK377 := kB BK377 hb
 replace BK378 := kB BK378 hb
 replace BK379 := kB BK379 hb
 replace BK380 := kB BK380 hb
 replace HB := kW HB hb
 (try clear hb)
 (try clear hb2)
 (try clear hk)
 (try clear hi)
 refine hK.out _ _ ⟨cz0 BK378, cz1 BK378⟩ (fun hHeld => ?_)
 clear hK K
 refine norm_ (a' := ?_) ?_ ?_
 rotate_left
 ·
  show Act.put _ (some 10) _ = _
  simp only [Act.put, lA, lB, lC, i64_w, i32_w]
  rfl
 refine last_ (i := 3) (N := none) #[true, true, true, true] rfl rfl (by kernel_rfl) (by decide) (fun K hK => ?_)
 have hs13 : w12.cell? ⟨gb378, 0, none⟩ = some (.int .i64 a1_0) := cz0 BK378
 have hfs13 := fz BK378 0
 have hns13_0 := NB377_378.out
 have hns13_2 := NB379_378.out
 have hns13_3 := NB380_378.out
 have hms13_0 := NB378_377.out
 have hms13_2 := NB378_379.out
 have hms13_3 := NB378_380.out
 have hs14 : w12.cell? ⟨gb378, 1, none⟩ = some (.int .i64 a1_1) := cz1 BK378
 have hfs14 := fz BK378 1
 have hns14_0 := NB377_378.out
 have hns14_2 := NB379_378.out
 have hns14_3 := NB380_378.out
 have hms14_0 := NB378_377.out
 have hms14_2 := NB378_379.out
 have hms14_3 := NB378_380.out
 refine skip_ (w1 := ?_) (by rfl) rfl ?_ ?_
 rotate_left
 ·
  go_simp
  rfl
 refine hK.out _ _ ?_
 clear hK K
 refine done_ (by kernel_rfl) ?_
 go_upto_region 2 with (fail)
 go_cut [16] (fun v16 wc => ∃ (kq : Nat) (x16_4 : Bool), v16 = .bool x16_4 ∧ Aside0 (gimbalref31_Tighten.j0 kq x16_4 a0_0 a0_1 a0_2 t383 t384 = some (r1, r2, r3, r4, r5)) ∧ Aside0 (kq ≤ k) ∧ Aside0 (wc.heap[gb377]? = some (.cells #[.bool a0_0, .int .i64 a0_1, .int .i64 a0_2] 23 (0, 0))) ∧ Aside0 (wc.heap[gb378]? = some (.cells #[.int .i64 t383, .int .i64 t384] 38 (0, 0))) ∧ Aside0 (wc.heap[gb379]? = some (.cells #[.bool false, .int .i64 0, .int .i64 0] 23 (0, 0))) ∧ Aside0 (wc.heap[gb380]? = some (.cells #[.int .i64 0, .int .i64 0] 38 (0, 0))) ∧ Aside0 (Below w.heap.size w wc))
 case first =>
  have H := HC5.out
  clear HC5
  by_cases c15 : a0_0 = true
  ·
   subst c15
   have H1 : (gimbalref31_Tighten.j0 k true true a0_1 a0_2 t383 t384) = some (r1, r2, r3, r4, r5) := by rw [if_pos rfl] at H; exact H
   clear H
   have H := H1
   clear H1
   have H' := Aside0.mk H
   clear H
   have hnb16 := NB377_378.out
   have hnc16 := NB378_377.out
   have hnb17 := NB377_379.out
   have hnc17 := NB379_377.out
   have hnb18 := NB377_380.out
   have hnc18 := NB380_377.out
   have hcz19_0 := cz0 BK377
   have hcz19_1 := cz1 BK377
   have hcz19_2 := cz2 BK377
   have hfz19_0 := fz BK377 0
   have hfz19_1 := fz BK377 1
   have hfz19_2 := fz BK377 2
   go_wp2
   go_meet
   case rel => exact ⟨_, (true), (by first | rfl | (simp; done) | (simp [*]; done)), H', ⟨by first | omega | exact Nat.le_refl _⟩, ⟨bkS BK377⟩, ⟨by (with_reducible repeat (first | refine b1 ?_ _ | refine b2 ?_ | refine b3 ?_ _)); refine blk_put (cs := #[.int .i64 t383, .int .i64 a1_1]) ?_ 1 _ rfl; (with_reducible repeat (first | refine b1 ?_ _ | refine b2 ?_ | refine b3 ?_ _)); refine blk_put (cs := #[.int .i64 a1_0, .int .i64 a1_1]) ?_ 0 _ rfl; (with_reducible repeat (first | refine b1 ?_ _ | refine b2 ?_ | refine b3 ?_ _)); exact BK378.out⟩, ⟨bkS BK379⟩, ⟨bkS BK380⟩, ⟨bS HB⟩⟩
  ·
   replace c15 := Bool.eq_false_iff.mpr c15
   subst c15
   have H1 : ((gimbalref02_None.f t383 t384).bind fun t385 => (gimbalref31_Tighten.j0 k t385 false a0_1 a0_2 t383 t384)) = some (r1, r2, r3, r4, r5) := by rw [if_neg (show ¬ (false = true) by decide)] at H; exact H
   clear H
   have H := H1
   clear H1
   replace H := Option.bind_eq_some_iff.mp H
   obtain ⟨t385, A200, H⟩ := H
   replace H : (gimbalref31_Tighten.j0 k t385 false a0_1 a0_2 t383 t384) = some (r1, r2, r3, r4, r5) := H
   have A20 := Aside0.mk A200
   clear A200
   have H' := Aside0.mk H
   clear H
   have hnb21 := NB377_378.out
   have hnc21 := NB378_377.out
   have hnb22 := NB377_379.out
   have hnc22 := NB379_377.out
   have hnb23 := NB377_380.out
   have hnc23 := NB380_377.out
   have hcz24_0 := cz0 BK377
   have hcz24_1 := cz1 BK377
   have hcz24_2 := cz2 BK377
   have hfz24_0 := fz BK377 0
   have hfz24_1 := fz BK377 1
   have hfz24_2 := fz BK377 2
   have hnb25 := NB378_379.out
   have hnc25 := NB379_378.out
   have hnb26 := NB378_380.out
   have hnc26 := NB380_378.out
   have hcz27_0 := cz0 BK378
   have hcz27_1 := cz1 BK378
   have hfz27_0 := fz BK378 0
   have hfz27_1 := fz BK378 1
   go_wp2_with (first | (go_at_call 78; (with_reducible refine (gimbalref02_None.calls t383 t384 t385 _ A20.out).mono ?_); rintro e w28 ⟨rfl, hb⟩; have n0_ := kB BK377 hb; have n1_ := Aside0.mk (blk_below (g := gb378) (o := .cells #[.int .i64 t383, .int .i64 t384] 38 (0, 0)) (by (with_reducible repeat (first | refine b1 ?_ _ | refine b2 ?_ | refine b3 ?_ _)); refine blk_put (cs := #[.int .i64 t383, .int .i64 a1_1]) ?_ 1 _ rfl; (with_reducible repeat (first | refine b1 ?_ _ | refine b2 ?_ | refine b3 ?_ _)); refine blk_put (cs := #[.int .i64 a1_0, .int .i64 a1_1]) ?_ 0 _ rfl; (with_reducible repeat (first | refine b1 ?_ _ | refine b2 ?_ | refine b3 ?_ _)); exact BK378.out) hb); have n2_ := kB BK379 hb; have n3_ := kB BK380 hb; have n4_ := kW HB hb; clear BK377; clear BK378; clear BK379; clear BK380; clear HB; have BK377 := n0_; have BK378 := n1_; have BK379 := n2_; have BK380 := n3_; have HB := n4_; clear n0_ n1_ n2_ n3_ n4_; (try clear hb); (try clear hb2); (try clear hk); (try clear hi)))
   go_meet
   case rel => exact ⟨_, (t385), (by first | rfl | (simp; done) | (simp [*]; done)), H', ⟨by first | omega | exact Nat.le_refl _⟩, ⟨bkS BK377⟩, ⟨bkS BK378⟩, ⟨bkS BK379⟩, ⟨bkS BK380⟩, ⟨bS HB⟩⟩
 case rest =>
  clear HC5
  try clear c1
  try clear c2
  try clear p2
  try clear c7
  try clear c15
  try clear c16
  try clear c17
  try clear c18
  try clear c21
  try clear c22
  try clear c23
  try clear c25
  try clear c26
  try clear c27
  try clear hcz19_0
  try clear hcz19_1
  try clear hcz19_2
  try clear hcz24_0
  try clear hcz24_1
  try clear hcz24_2
  try clear hcz27_0
  try clear hcz27_1
  try clear hfz19_0
  try clear hfz19_1
  try clear hfz19_2
  try clear hfz24_0
  try clear hfz24_1
  try clear hfz24_2
  try clear hfz27_0
  try clear hfz27_1
  obtain ⟨kq, x16_4, rfl, HA, HJ4, BK377, BK378, BK379, BK380, HB⟩ := hcut
  cases kq with
  | zero => exact absurd HA.out (by simp [gimbalref31_Tighten.j0])
  | succ kj4 =>
   have H := HA.out
   clear HA
   simp only [gimbalref31_Tighten.j0] at H
   by_cases c29 : x16_4 = true
   ·
    subst c29
    have H1 : ((gimbalref31_None.f).bind fun bt386 => ((gimbalref02_Empty.f).bind fun bt389 => (some (bt386.1, bt386.2.1, bt386.2.2, bt389.1, bt389.2)))) = some (r1, r2, r3, r4, r5) := by rw [if_pos rfl] at H; exact H
    clear H
    have H := H1
    clear H1
    replace H := Option.bind_eq_some_iff.mp H
    obtain ⟨⟨t386, t387, t388⟩, A300, H⟩ := H
    replace H : ((gimbalref02_Empty.f).bind fun bt389 => (some (t386, t387, t388, bt389.1, bt389.2))) = some (r1, r2, r3, r4, r5) := H
    have A30 := Aside0.mk A300
    clear A300
    replace H := Option.bind_eq_some_iff.mp H
    obtain ⟨⟨t389, t390⟩, A310, H⟩ := H
    replace H : (some (t386, t387, t388, t389, t390)) = some (r1, r2, r3, r4, r5) := H
    have A31 := Aside0.mk A310
    clear A310
    simp only [Option.some.injEq, Prod.mk.injEq] at H
    obtain ⟨rfl, rfl, rfl, rfl, rfl⟩ := H
    go_wp2_with (first | ((with_reducible refine gate_callee (f := 69) rfl ?_); refine goesL_ (some 17) rfl rfl Tryd.func69 (by kernel_rfl) rfl #[] rfl mS ?_; (with_reducible refine (gimbalref31_None.calls  t386 t387 t388 _ A30.out).mono ?_); rintro e w32 ⟨rfl, hb⟩; refine ⟨_, rfl, ?_⟩; replace BK377 := kB BK377 hb; replace BK378 := kB BK378 hb; replace BK379 := kB BK379 hb; replace BK380 := kB BK380 hb; replace HB := kW HB hb; (try clear hb); (try clear hb2); (try clear hk); (try clear hi)) | ((with_reducible refine gate_callee (f := 66) rfl ?_); refine goesL_ (some 18) rfl rfl Tryd.func66 (by kernel_rfl) rfl #[] rfl mS ?_; (with_reducible refine (gimbalref02_Empty.calls  t389 t390 _ A31.out).mono ?_); rintro e w33 ⟨rfl, hb⟩; refine ⟨_, rfl, ?_⟩; replace BK377 := kB BK377 hb; replace BK378 := kB BK378 hb; replace BK379 := kB BK379 hb; replace BK380 := kB BK380 hb; replace HB := kW HB hb; (try clear hb); (try clear hb2); (try clear hk); (try clear hi); have hnb34 := NB379_377.out; have hnc34 := NB377_379.out; have hnb35 := NB379_378.out; have hnc35 := NB378_379.out; have hnb36 := NB379_380.out; have hnc36 := NB380_379.out; have hcz37_0 := cz0 BK379; have hcz37_1 := cz1 BK379; have hcz37_2 := cz2 BK379; have hfz37_0 := fz BK379 0; have hfz37_1 := fz BK379 1; have hfz37_2 := fz BK379 2; have hnb38 := NB380_377.out; have hnc38 := NB377_380.out; have hnb39 := NB380_378.out; have hnc39 := NB378_380.out; have hcz40_0 := cz0 BK380; have hcz40_1 := cz1 BK380; have hfz40_0 := fz BK380 0; have hfz40_1 := fz BK380 1))
    refine bodyPost_ret (results_cc rfl _ _ gb379 gb380 23 38 #[.bool t386, .int .i64 t387, .int .i64 t388] #[.int .i64 t389, .int .i64 t390] (0, 0) (0, 0) _ _ rfl (by (with_reducible repeat (first | refine b1 ?_ _ | refine b2 ?_ | refine b3 ?_ _)); refine blk_far ?_ NB379_380.out _; (with_reducible repeat (first | refine b1 ?_ _ | refine b2 ?_ | refine b3 ?_ _)); refine blk_far ?_ NB379_380.out _; (with_reducible repeat (first | refine b1 ?_ _ | refine b2 ?_ | refine b3 ?_ _)); refine blk_put (cs := #[.bool t386, .int .i64 t387, .int .i64 0]) ?_ 2 _ rfl; (with_reducible repeat (first | refine b1 ?_ _ | refine b2 ?_ | refine b3 ?_ _)); refine blk_put (cs := #[.bool t386, .int .i64 0, .int .i64 0]) ?_ 1 _ rfl; (with_reducible repeat (first | refine b1 ?_ _ | refine b2 ?_ | refine b3 ?_ _)); refine blk_put (cs := #[.bool false, .int .i64 0, .int .i64 0]) ?_ 0 _ rfl; (with_reducible repeat (first | refine b1 ?_ _ | refine b2 ?_ | refine b3 ?_ _)); exact BK379.out) Tryd.underlying23 rfl (by kernel_rfl) rfl (by (with_reducible repeat (first | refine b1 ?_ _ | refine b2 ?_ | refine b3 ?_ _)); refine blk_put (cs := #[.int .i64 t389, .int .i64 0]) ?_ 1 _ rfl; (with_reducible repeat (first | refine b1 ?_ _ | refine b2 ?_ | refine b3 ?_ _)); refine blk_put (cs := #[.int .i64 0, .int .i64 0]) ?_ 0 _ rfl; (with_reducible repeat (first | refine b1 ?_ _ | refine b2 ?_ | refine b3 ?_ _)); refine blk_far ?_ NB380_379.out _; (with_reducible repeat (first | refine b1 ?_ _ | refine b2 ?_ | refine b3 ?_ _)); refine blk_far ?_ NB380_379.out _; (with_reducible repeat (first | refine b1 ?_ _ | refine b2 ?_ | refine b3 ?_ _)); refine blk_far ?_ NB380_379.out _; (with_reducible repeat (first | refine b1 ?_ _ | refine b2 ?_ | refine b3 ?_ _)); exact BK380.out) Tryd.underlying38 rfl (by kernel_rfl)) rfl ?_
    exact ⟨eS, bS HB⟩
   ·
    replace c29 := Bool.eq_false_iff.mpr c29
    subst c29
    have H1 : (if a0_1 = 0 then ((gimbalref02_Has.f t383 t384 a0_2).bind fun t391 => (if t391 = true then ((gimbalref02_Of.f a0_2 a0_2).bind fun bt392 => (some (a0_0, a0_1, a0_2, bt392.1, bt392.2))) else ((gimbalref31_None.f).bind fun bt394 => ((gimbalref02_Empty.f).bind fun bt397 => (some (bt394.1, bt394.2.1, bt394.2.2, bt397.1, bt397.2)))))) else (if (wrap64 (t383 + (Int.tmod (wrap64 ((Int.tmod (wrap64 (a0_2 - t383)) a0_1) + a0_1)) a0_1))) > (wrap64 (t384 - (Int.tmod (wrap64 ((Int.tmod (wrap64 (t384 - a0_2)) a0_1) + a0_1)) a0_1))) then ((gimbalref31_None.f).bind fun bt399 => ((gimbalref02_Empty.f).bind fun bt402 => (some (bt399.1, bt399.2.1, bt399.2.2, bt402.1, bt402.2)))) else (if (wrap64 (t383 + (Int.tmod (wrap64 ((Int.tmod (wrap64 (a0_2 - t383)) a0_1) + a0_1)) a0_1))) = (wrap64 (t384 - (Int.tmod (wrap64 ((Int.tmod (wrap64 (t384 - a0_2)) a0_1) + a0_1)) a0_1))) then ((gimbalref02_Of.f (wrap64 (t383 + (Int.tmod (wrap64 ((Int.tmod (wrap64 (a0_2 - t383)) a0_1) + a0_1)) a0_1))) (wrap64 (t383 + (Int.tmod (wrap64 ((Int.tmod (wrap64 (a0_2 - t383)) a0_1) + a0_1)) a0_1)))).bind fun bt404 => (some (false, 0, wrap64 (t383 + (Int.tmod (wrap64 ((Int.tmod (wrap64 (a0_2 - t383)) a0_1) + a0_1)) a0_1)), bt404.1, bt404.2))) else ((gimbalref02_Of.f (wrap64 (t383 + (Int.tmod (wrap64 ((Int.tmod (wrap64 (a0_2 - t383)) a0_1) + a0_1)) a0_1))) (wrap64 (t384 - (Int.tmod (wrap64 ((Int.tmod (wrap64 (t384 - a0_2)) a0_1) + a0_1)) a0_1)))).bind fun bt406 => (some (a0_0, a0_1, a0_2, bt406.1, bt406.2)))))) = some (r1, r2, r3, r4, r5) := by rw [if_neg (show ¬ (false = true) by decide)] at H; exact H
    clear H
    have H := H1
    clear H1
    by_cases c41 : a0_1 = 0
    ·
     rw [if_pos c41] at H
     have c41b0 : (a0_1 == 0) = true := beq_iff_eq.mpr c41
     have c41b1 : (a0_1 != 0) = false := bne_eq_false_iff_eq.mpr c41
     clear c41
     replace H := Option.bind_eq_some_iff.mp H
     obtain ⟨t391, A420, H⟩ := H
     replace H : (if t391 = true then ((gimbalref02_Of.f a0_2 a0_2).bind fun bt392 => (some (a0_0, a0_1, a0_2, bt392.1, bt392.2))) else ((gimbalref31_None.f).bind fun bt394 => ((gimbalref02_Empty.f).bind fun bt397 => (some (bt394.1, bt394.2.1, bt394.2.2, bt397.1, bt397.2))))) = some (r1, r2, r3, r4, r5) := H
     have A42 := Aside0.mk A420
     clear A420
     by_cases c43 : t391 = true
     ·
      subst c43
      have H1 : ((gimbalref02_Of.f a0_2 a0_2).bind fun bt392 => (some (a0_0, a0_1, a0_2, bt392.1, bt392.2))) = some (r1, r2, r3, r4, r5) := by rw [if_pos rfl] at H; exact H
      clear H
      have H := H1
      clear H1
      replace H := Option.bind_eq_some_iff.mp H
      obtain ⟨⟨t392, t393⟩, A440, H⟩ := H
      replace H : (some (a0_0, a0_1, a0_2, t392, t393)) = some (r1, r2, r3, r4, r5) := H
      have A44 := Aside0.mk A440
      clear A440
      simp only [Option.some.injEq, Prod.mk.injEq] at H
      obtain ⟨rfl, rfl, rfl, rfl, rfl⟩ := H
      have hnb45 := NB377_378.out
      have hnc45 := NB378_377.out
      have hnb46 := NB377_379.out
      have hnc46 := NB379_377.out
      have hnb47 := NB377_380.out
      have hnc47 := NB380_377.out
      have hcz48_0 : wc.cell? ⟨gb377, 0, none⟩ = some (.bool a0_0) := cz0 BK377
      have hcz48_1 : wc.cell? ⟨gb377, 1, none⟩ = some (.int .i64 a0_1) := cz1 BK377
      have hcz48_2 : wc.cell? ⟨gb377, 2, none⟩ = some (.int .i64 a0_2) := cz2 BK377
      have hfz48_0 := fz BK377 0
      have hfz48_1 := fz BK377 1
      have hfz48_2 := fz BK377 2
      have hnb49 := NB378_379.out
      have hnc49 := NB379_378.out
      have hnb50 := NB378_380.out
      have hnc50 := NB380_378.out
      have hcz51_0 : wc.cell? ⟨gb378, 0, none⟩ = some (.int .i64 t383) := cz0 BK378
      have hcz51_1 : wc.cell? ⟨gb378, 1, none⟩ = some (.int .i64 t384) := cz1 BK378
      have hfz51_0 := fz BK378 0
      have hfz51_1 := fz BK378 1
      try go_wp2_with (first | ((with_reducible refine gate_callee (f := 47) rfl ?_); refine goesL_ (some 25) rfl rfl Tryd.func47 (by kernel_rfl) rfl #[.agg #[.int .i64 t383, .int .i64 t384], .int .i64 a0_2] rfl mS ?_; (with_reducible refine (gimbalref02_Has.calls t383 t384 a0_2 true _ A42.out).mono ?_); rintro e w52 ⟨rfl, hb⟩; refine ⟨_, rfl, ?_⟩; replace BK377 := kB BK377 hb; replace BK378 := kB BK378 hb; replace BK379 := kB BK379 hb; replace BK380 := kB BK380 hb; replace HB := kW HB hb; (try clear hb); (try clear hb2); (try clear hk); (try clear hi)))
      replace BK377 := Aside0.mk (blk_drew BK377.out)
      replace BK378 := Aside0.mk (blk_drew BK378.out)
      replace BK379 := Aside0.mk (blk_drew BK379.out)
      replace BK380 := Aside0.mk (blk_drew BK380.out)
      replace HB := Aside0.mk (below_drew1 HB.out)
      refine start_ (n := 8) (S := fun w' => w'.cell? ⟨gb377, 0, none⟩ = some (.bool a0_0) ∧ w'.cell? ⟨gb377, 1, none⟩ = some (.int .i64 a0_1) ∧ w'.cell? ⟨gb377, 2, none⟩ = some (.int .i64 a0_2)) (ds := []) #[false, false, false, false, false, false, false, false] (by kernel_rfl) rfl rfl ⟨cz0 BK377, cz1 BK377, cz2 BK377⟩ (fun hHeld => ?_); refine with_tabW gimbalref31_Tighten.tab6 gimbalref31_Tighten.bits6 (fun HT_ HW_ => ?_)
      generalize w52.drew = w53 at BK377 BK378 BK379 BK380 HB hHeld ⊢
      refine pure_ (i := 1) (N := some 27) (v := ?_) (a' := ?_) #[false, true, false, false, false, false, false, false] rfl rfl (any_of HT_.out (by kernel_rfl)) (fun _ _ _ h => h) (Or.inl ⟨by rfl, ?_⟩) ?_ ?_
      rotate_left
      ·
       intro w'
       go_simp
       with_reducible rfl
      rotate_left
      ·
       simp only [Act.put, lA, lB, lC, i64_w, i32_w]
       rfl
      refine pure_ (i := 3) (N := some 29) (v := ?_) (a' := ?_) #[false, true, false, true, false, false, false, false] rfl rfl (any_of HT_.out (by kernel_rfl)) (fun _ _ _ h => h) (Or.inl ⟨by rfl, ?_⟩) ?_ ?_
      rotate_left
      ·
       intro w'
       go_simp
       with_reducible rfl
      rotate_left
      ·
       simp only [Act.put, lA, lB, lC, i64_w, i32_w]
       rfl
      refine take_ (i := 0) (N := some 26) (v := ?_) (a' := ?_) #[true, true, false, true, false, false, false, false] rfl rfl (take_ofW HT_.out HW_.out (by kernel_rfl)) (fun _ _ _ h => h) (Or.inl ⟨by rfl, ?_⟩) hHeld ?_ ?_
      rotate_left
      ·
       rintro w' ⟨s0, s1, s2⟩
       go_simp
       with_reducible rfl
      rotate_left
      ·
       simp only [Act.put, lA, lB, lC, i64_w, i32_w]
       rfl
      refine take_ (i := 2) (N := some 28) (v := ?_) (a' := ?_) #[true, true, true, true, false, false, false, false] rfl rfl (take_ofW HT_.out HW_.out (by kernel_rfl)) (fun _ _ _ h => h) (Or.inl ⟨by rfl, ?_⟩) hHeld ?_ ?_
      rotate_left
      ·
       rintro w' ⟨s0, s1, s2⟩
       go_simp
       with_reducible rfl
      rotate_left
      ·
       simp only [Act.put, lA, lB, lC, i64_w, i32_w]
       rfl
      refine take_ (i := 4) (N := some 30) (v := ?_) (a' := ?_) #[true, true, true, true, true, false, false, false] rfl rfl (take_ofW HT_.out HW_.out (by kernel_rfl)) (fun _ _ _ h => h) (Or.inl ⟨by rfl, ?_⟩) hHeld ?_ ?_
      rotate_left
      ·
       rintro w' ⟨s0, s1, s2⟩
       go_simp
       with_reducible rfl
      rotate_left
      ·
       simp only [Act.put, lA, lB, lC, i64_w, i32_w]
       rfl
      refine one_ (i := 5) (N := some 31) #[true, true, true, true, true, true, false, false] rfl rfl (one_of HT_.out (by kernel_rfl)) (by decide) (fun K hK => ?_)
      refine goes_ Tryd.func23 (by kernel_rfl) rfl #[.int .i64 a0_2, .int .i64 a0_2] (by rfl) rfl rfl mS ?_
      with_reducible refine (gimbalref02_Of.calls a0_2 a0_2 t392 t393 _ A44.out).mono ?_
      rintro e w54 ⟨rfl, hb⟩
      refine ⟨_, rfl, ?_⟩
      replace BK377 := kB BK377 hb
      replace BK378 := kB BK378 hb
      replace BK379 := kB BK379 hb
      replace BK380 := kB BK380 hb
      replace HB := kW HB hb
      (try clear hb)
      (try clear hb2)
      (try clear hk)
      (try clear hi)
      refine hK.out _ _ ⟨cz0 BK377, cz1 BK377, cz2 BK377⟩ (fun hHeld => ?_)
      clear hK K
      refine norm_ (a' := ?_) ?_ ?_
      rotate_left
      ·
       show Act.put _ (some 31) _ = _
       simp only [Act.put, lA, lB, lC, i64_w, i32_w]
       rfl
      refine one_ (i := 6) (N := none) #[true, true, true, true, true, true, true, false] rfl rfl (one_of HT_.out (by kernel_rfl)) (by decide) (fun K hK => ?_)
      have hs55 : w54.cell? ⟨gb379, 0, none⟩ = some (.bool false) := cz0 BK379
      have hfs55 := fz BK379 0
      have hns55_0 := NB377_379.out
      have hns55_1 := NB378_379.out
      have hns55_3 := NB380_379.out
      have hms55_0 := NB379_377.out
      have hms55_1 := NB379_378.out
      have hms55_3 := NB379_380.out
      have hs56 : w54.cell? ⟨gb379, 1, none⟩ = some (.int .i64 0) := cz1 BK379
      have hfs56 := fz BK379 1
      have hns56_0 := NB377_379.out
      have hns56_1 := NB378_379.out
      have hns56_3 := NB380_379.out
      have hms56_0 := NB379_377.out
      have hms56_1 := NB379_378.out
      have hms56_3 := NB379_380.out
      have hs57 : w54.cell? ⟨gb379, 2, none⟩ = some (.int .i64 0) := cz2 BK379
      have hfs57 := fz BK379 2
      have hns57_0 := NB377_379.out
      have hns57_1 := NB378_379.out
      have hns57_3 := NB380_379.out
      have hms57_0 := NB379_377.out
      have hms57_1 := NB379_378.out
      have hms57_3 := NB379_380.out
      refine skip_ (w1 := ?_) (by rfl) rfl ?_ ?_
      rotate_left
      ·
       go_simp
       rfl
      refine hK.out _ _ ⟨((cell_far (p := ⟨gb379, _, none⟩) NB377_379.out _).trans (((cell_far (p := ⟨gb379, _, none⟩) NB377_379.out _).trans (((cell_far (p := ⟨gb379, _, none⟩) NB377_379.out _).trans (hHeld.1)))))), ((cell_far (p := ⟨gb379, _, none⟩) NB377_379.out _).trans (((cell_far (p := ⟨gb379, _, none⟩) NB377_379.out _).trans (((cell_far (p := ⟨gb379, _, none⟩) NB377_379.out _).trans (hHeld.2.1)))))), ((cell_far (p := ⟨gb379, _, none⟩) NB377_379.out _).trans (((cell_far (p := ⟨gb379, _, none⟩) NB377_379.out _).trans (((cell_far (p := ⟨gb379, _, none⟩) NB377_379.out _).trans (hHeld.2.2))))))⟩ (fun hHeld => ?_)
      clear hK K
      refine one_ (i := 7) (N := none) #[true, true, true, true, true, true, true, true] rfl rfl (one_of HT_.out (by kernel_rfl)) (by decide) (fun K hK => ?_)
      have hs58 : w54.cell? ⟨gb380, 0, none⟩ = some (.int .i64 0) := cz0 BK380
      have hfs58 := fz BK380 0
      have hns58_0 := NB377_380.out
      have hns58_1 := NB378_380.out
      have hns58_2 := NB379_380.out
      have hms58_0 := NB380_377.out
      have hms58_1 := NB380_378.out
      have hms58_2 := NB380_379.out
      have hs59 : w54.cell? ⟨gb380, 1, none⟩ = some (.int .i64 0) := cz1 BK380
      have hfs59 := fz BK380 1
      have hns59_0 := NB377_380.out
      have hns59_1 := NB378_380.out
      have hns59_2 := NB379_380.out
      have hms59_0 := NB380_377.out
      have hms59_1 := NB380_378.out
      have hms59_2 := NB380_379.out
      refine skip_ (w1 := ?_) (by rfl) rfl ?_ ?_
      rotate_left
      ·
       go_simp
       rfl
      refine hK.out _ _ ⟨((cell_far (p := ⟨gb380, _, none⟩) NB377_380.out _).trans (((cell_far (p := ⟨gb380, _, none⟩) NB377_380.out _).trans (hHeld.1)))), ((cell_far (p := ⟨gb380, _, none⟩) NB377_380.out _).trans (((cell_far (p := ⟨gb380, _, none⟩) NB377_380.out _).trans (hHeld.2.1)))), ((cell_far (p := ⟨gb380, _, none⟩) NB377_380.out _).trans (((cell_far (p := ⟨gb380, _, none⟩) NB377_380.out _).trans (hHeld.2.2))))⟩ (fun hHeld => ?_)
      clear hK K
      refine done_ (done_of HT_.out (by kernel_rfl)) ?_
      try go_wp2
      refine bodyPost_ret (results_cc rfl _ _ gb379 gb380 23 38 #[.bool a0_0, .int .i64 a0_1, .int .i64 a0_2] #[.int .i64 t392, .int .i64 t393] (0, 0) (0, 0) _ _ rfl (by (with_reducible repeat (first | refine b1 ?_ _ | refine b2 ?_ | refine b3 ?_ _)); refine blk_far ?_ NB379_380.out _; (with_reducible repeat (first | refine b1 ?_ _ | refine b2 ?_ | refine b3 ?_ _)); refine blk_far ?_ NB379_380.out _; (with_reducible repeat (first | refine b1 ?_ _ | refine b2 ?_ | refine b3 ?_ _)); refine blk_put (cs := #[.bool a0_0, .int .i64 a0_1, .int .i64 0]) ?_ 2 _ rfl; (with_reducible repeat (first | refine b1 ?_ _ | refine b2 ?_ | refine b3 ?_ _)); refine blk_put (cs := #[.bool a0_0, .int .i64 0, .int .i64 0]) ?_ 1 _ rfl; (with_reducible repeat (first | refine b1 ?_ _ | refine b2 ?_ | refine b3 ?_ _)); refine blk_put (cs := #[.bool false, .int .i64 0, .int .i64 0]) ?_ 0 _ rfl; (with_reducible repeat (first | refine b1 ?_ _ | refine b2 ?_ | refine b3 ?_ _)); exact BK379.out) Tryd.underlying23 rfl (by kernel_rfl) rfl (by (with_reducible repeat (first | refine b1 ?_ _ | refine b2 ?_ | refine b3 ?_ _)); refine blk_put (cs := #[.int .i64 t392, .int .i64 0]) ?_ 1 _ rfl; (with_reducible repeat (first | refine b1 ?_ _ | refine b2 ?_ | refine b3 ?_ _)); refine blk_put (cs := #[.int .i64 0, .int .i64 0]) ?_ 0 _ rfl; (with_reducible repeat (first | refine b1 ?_ _ | refine b2 ?_ | refine b3 ?_ _)); refine blk_far ?_ NB380_379.out _; (with_reducible repeat (first | refine b1 ?_ _ | refine b2 ?_ | refine b3 ?_ _)); refine blk_far ?_ NB380_379.out _; (with_reducible repeat (first | refine b1 ?_ _ | refine b2 ?_ | refine b3 ?_ _)); refine blk_far ?_ NB380_379.out _; (with_reducible repeat (first | refine b1 ?_ _ | refine b2 ?_ | refine b3 ?_ _)); exact BK380.out) Tryd.underlying38 rfl (by kernel_rfl)) rfl ?_
      exact ⟨eS, bS HB⟩
     ·
      replace c43 := Bool.eq_false_iff.mpr c43
      subst c43
      have H1 : ((gimbalref31_None.f).bind fun bt394 => ((gimbalref02_Empty.f).bind fun bt397 => (some (bt394.1, bt394.2.1, bt394.2.2, bt397.1, bt397.2)))) = some (r1, r2, r3, r4, r5) := by rw [if_neg (show ¬ (false = true) by decide)] at H; exact H
      clear H
      have H := H1
      clear H1
      replace H := Option.bind_eq_some_iff.mp H
      obtain ⟨⟨t394, t395, t396⟩, A600, H⟩ := H
      replace H : ((gimbalref02_Empty.f).bind fun bt397 => (some (t394, t395, t396, bt397.1, bt397.2))) = some (r1, r2, r3, r4, r5) := H
      have A60 := Aside0.mk A600
      clear A600
      replace H := Option.bind_eq_some_iff.mp H
      obtain ⟨⟨t397, t398⟩, A610, H⟩ := H
      replace H : (some (t394, t395, t396, t397, t398)) = some (r1, r2, r3, r4, r5) := H
      have A61 := Aside0.mk A610
      clear A610
      simp only [Option.some.injEq, Prod.mk.injEq] at H
      obtain ⟨rfl, rfl, rfl, rfl, rfl⟩ := H
      have hnb62 := NB377_378.out
      have hnc62 := NB378_377.out
      have hnb63 := NB377_379.out
      have hnc63 := NB379_377.out
      have hnb64 := NB377_380.out
      have hnc64 := NB380_377.out
      have hcz65_0 : wc.cell? ⟨gb377, 0, none⟩ = some (.bool a0_0) := cz0 BK377
      have hcz65_1 : wc.cell? ⟨gb377, 1, none⟩ = some (.int .i64 a0_1) := cz1 BK377
      have hcz65_2 : wc.cell? ⟨gb377, 2, none⟩ = some (.int .i64 a0_2) := cz2 BK377
      have hfz65_0 := fz BK377 0
      have hfz65_1 := fz BK377 1
      have hfz65_2 := fz BK377 2
      have hnb66 := NB378_379.out
      have hnc66 := NB379_378.out
      have hnb67 := NB378_380.out
      have hnc67 := NB380_378.out
      have hcz68_0 : wc.cell? ⟨gb378, 0, none⟩ = some (.int .i64 t383) := cz0 BK378
      have hcz68_1 : wc.cell? ⟨gb378, 1, none⟩ = some (.int .i64 t384) := cz1 BK378
      have hfz68_0 := fz BK378 0
      have hfz68_1 := fz BK378 1
      go_wp2_with (first | ((with_reducible refine gate_callee (f := 47) rfl ?_); refine goesL_ (some 25) rfl rfl Tryd.func47 (by kernel_rfl) rfl #[.agg #[.int .i64 t383, .int .i64 t384], .int .i64 a0_2] rfl mS ?_; (with_reducible refine (gimbalref02_Has.calls t383 t384 a0_2 false _ A42.out).mono ?_); rintro e w69 ⟨rfl, hb⟩; refine ⟨_, rfl, ?_⟩; replace BK377 := kB BK377 hb; replace BK378 := kB BK378 hb; replace BK379 := kB BK379 hb; replace BK380 := kB BK380 hb; replace HB := kW HB hb; (try clear hb); (try clear hb2); (try clear hk); (try clear hi)) | ((with_reducible refine gate_callee (f := 69) rfl ?_); refine goesL_ (some 32) rfl rfl Tryd.func69 (by kernel_rfl) rfl #[] rfl mS ?_; (with_reducible refine (gimbalref31_None.calls  t394 t395 t396 _ A60.out).mono ?_); rintro e w70 ⟨rfl, hb⟩; refine ⟨_, rfl, ?_⟩; replace BK377 := kB BK377 hb; replace BK378 := kB BK378 hb; replace BK379 := kB BK379 hb; replace BK380 := kB BK380 hb; replace HB := kW HB hb; (try clear hb); (try clear hb2); (try clear hk); (try clear hi)) | ((with_reducible refine gate_callee (f := 66) rfl ?_); refine goesL_ (some 33) rfl rfl Tryd.func66 (by kernel_rfl) rfl #[] rfl mS ?_; (with_reducible refine (gimbalref02_Empty.calls  t397 t398 _ A61.out).mono ?_); rintro e w71 ⟨rfl, hb⟩; refine ⟨_, rfl, ?_⟩; replace BK377 := kB BK377 hb; replace BK378 := kB BK378 hb; replace BK379 := kB BK379 hb; replace BK380 := kB BK380 hb; replace HB := kW HB hb; (try clear hb); (try clear hb2); (try clear hk); (try clear hi); have hnb72 := NB379_380.out; have hnc72 := NB380_379.out; have hcz73_0 := cz0 BK379; have hcz73_1 := cz1 BK379; have hcz73_2 := cz2 BK379; have hfz73_0 := fz BK379 0; have hfz73_1 := fz BK379 1; have hfz73_2 := fz BK379 2; have hcz74_0 := cz0 BK380; have hcz74_1 := cz1 BK380; have hfz74_0 := fz BK380 0; have hfz74_1 := fz BK380 1))
      refine bodyPost_ret (results_cc rfl _ _ gb379 gb380 23 38 #[.bool t394, .int .i64 t395, .int .i64 t396] #[.int .i64 t397, .int .i64 t398] (0, 0) (0, 0) _ _ rfl (by (with_reducible repeat (first | refine b1 ?_ _ | refine b2 ?_ | refine b3 ?_ _)); refine blk_far ?_ NB379_380.out _; (with_reducible repeat (first | refine b1 ?_ _ | refine b2 ?_ | refine b3 ?_ _)); refine blk_far ?_ NB379_380.out _; (with_reducible repeat (first | refine b1 ?_ _ | refine b2 ?_ | refine b3 ?_ _)); refine blk_put (cs := #[.bool t394, .int .i64 t395, .int .i64 0]) ?_ 2 _ rfl; (with_reducible repeat (first | refine b1 ?_ _ | refine b2 ?_ | refine b3 ?_ _)); refine blk_put (cs := #[.bool t394, .int .i64 0, .int .i64 0]) ?_ 1 _ rfl; (with_reducible repeat (first | refine b1 ?_ _ | refine b2 ?_ | refine b3 ?_ _)); refine blk_put (cs := #[.bool false, .int .i64 0, .int .i64 0]) ?_ 0 _ rfl; (with_reducible repeat (first | refine b1 ?_ _ | refine b2 ?_ | refine b3 ?_ _)); exact BK379.out) Tryd.underlying23 rfl (by kernel_rfl) rfl (by (with_reducible repeat (first | refine b1 ?_ _ | refine b2 ?_ | refine b3 ?_ _)); refine blk_put (cs := #[.int .i64 t397, .int .i64 0]) ?_ 1 _ rfl; (with_reducible repeat (first | refine b1 ?_ _ | refine b2 ?_ | refine b3 ?_ _)); refine blk_put (cs := #[.int .i64 0, .int .i64 0]) ?_ 0 _ rfl; (with_reducible repeat (first | refine b1 ?_ _ | refine b2 ?_ | refine b3 ?_ _)); refine blk_far ?_ NB380_379.out _; (with_reducible repeat (first | refine b1 ?_ _ | refine b2 ?_ | refine b3 ?_ _)); refine blk_far ?_ NB380_379.out _; (with_reducible repeat (first | refine b1 ?_ _ | refine b2 ?_ | refine b3 ?_ _)); refine blk_far ?_ NB380_379.out _; (with_reducible repeat (first | refine b1 ?_ _ | refine b2 ?_ | refine b3 ?_ _)); exact BK380.out) Tryd.underlying38 rfl (by kernel_rfl)) rfl ?_
      exact ⟨eS, bS HB⟩
    ·
     rw [if_neg c41] at H
     have c41b0 : (a0_1 == 0) = false := beq_eq_false_iff_ne.mpr c41
     have c41b1 : (a0_1 != 0) = true := bne_iff_ne.mpr c41
     by_cases c75 : (wrap64 (t383 + (Int.tmod (wrap64 ((Int.tmod (wrap64 (a0_2 - t383)) a0_1) + a0_1)) a0_1))) > (wrap64 (t384 - (Int.tmod (wrap64 ((Int.tmod (wrap64 (t384 - a0_2)) a0_1) + a0_1)) a0_1)))
     ·
      rw [if_pos c75] at H
      have c75b0 : decide ((wrap64 (t384 - (Int.tmod (wrap64 ((Int.tmod (wrap64 (t384 - a0_2)) a0_1) + a0_1)) a0_1))) < (wrap64 (t383 + (Int.tmod (wrap64 ((Int.tmod (wrap64 (a0_2 - t383)) a0_1) + a0_1)) a0_1)))) = true := decide_eq_true c75
      clear c75
      replace H := Option.bind_eq_some_iff.mp H
      obtain ⟨⟨t399, t400, t401⟩, A760, H⟩ := H
      replace H : ((gimbalref02_Empty.f).bind fun bt402 => (some (t399, t400, t401, bt402.1, bt402.2))) = some (r1, r2, r3, r4, r5) := H
      have A76 := Aside0.mk A760
      clear A760
      replace H := Option.bind_eq_some_iff.mp H
      obtain ⟨⟨t402, t403⟩, A770, H⟩ := H
      replace H : (some (t399, t400, t401, t402, t403)) = some (r1, r2, r3, r4, r5) := H
      have A77 := Aside0.mk A770
      clear A770
      simp only [Option.some.injEq, Prod.mk.injEq] at H
      obtain ⟨rfl, rfl, rfl, rfl, rfl⟩ := H
      have hnb78 := NB377_378.out
      have hnc78 := NB378_377.out
      have hnb79 := NB377_379.out
      have hnc79 := NB379_377.out
      have hnb80 := NB377_380.out
      have hnc80 := NB380_377.out
      have hcz81_0 : wc.cell? ⟨gb377, 0, none⟩ = some (.bool a0_0) := cz0 BK377
      have hcz81_1 : wc.cell? ⟨gb377, 1, none⟩ = some (.int .i64 a0_1) := cz1 BK377
      have hcz81_2 : wc.cell? ⟨gb377, 2, none⟩ = some (.int .i64 a0_2) := cz2 BK377
      have hfz81_0 := fz BK377 0
      have hfz81_1 := fz BK377 1
      have hfz81_2 := fz BK377 2
      try go_wp2
      replace BK377 := Aside0.mk (blk_drew BK377.out)
      replace BK378 := Aside0.mk (blk_drew BK378.out)
      replace BK379 := Aside0.mk (blk_drew BK379.out)
      replace BK380 := Aside0.mk (blk_drew BK380.out)
      replace HB := Aside0.mk (below_drew1 HB.out)
      refine start_ (n := 18) (S := fun w' => w'.cell? ⟨gb378, 0, none⟩ = some (.int .i64 t383) ∧ w'.cell? ⟨gb378, 1, none⟩ = some (.int .i64 t384) ∧ w'.cell? ⟨gb377, 0, none⟩ = some (.bool a0_0) ∧ w'.cell? ⟨gb377, 1, none⟩ = some (.int .i64 a0_1) ∧ w'.cell? ⟨gb377, 2, none⟩ = some (.int .i64 a0_2)) (ds := []) #[false, false, false, false, false, false, false, false, false, false, false, false, false, false, false, false, false, false] (by kernel_rfl) rfl rfl ⟨cz0 BK378, cz1 BK378, cz0 BK377, cz1 BK377, cz2 BK377⟩ (fun hHeld => ?_); refine with_tabW gimbalref31_Tighten.tab8 gimbalref31_Tighten.bits8 (fun HT_ HW_ => ?_)
      generalize wc.drew = w82 at BK377 BK378 BK379 BK380 HB hHeld ⊢
      refine pure_ (i := 0) (N := some 34) (v := ?_) (a' := ?_) #[true, false, false, false, false, false, false, false, false, false, false, false, false, false, false, false, false, false] rfl rfl (any_of HT_.out (by kernel_rfl)) (fun _ _ _ h => h) (Or.inl ⟨by rfl, ?_⟩) ?_ ?_
      rotate_left
      ·
       intro w'
       go_simp
       with_reducible rfl
      rotate_left
      ·
       simp only [Act.put, lA, lB, lC, i64_w, i32_w]
       rfl
      refine pure_ (i := 2) (N := some 36) (v := ?_) (a' := ?_) #[true, false, true, false, false, false, false, false, false, false, false, false, false, false, false, false, false, false] rfl rfl (any_of HT_.out (by kernel_rfl)) (fun _ _ _ h => h) (Or.inl ⟨by rfl, ?_⟩) ?_ ?_
      rotate_left
      ·
       intro w'
       go_simp
       with_reducible rfl
      rotate_left
      ·
       simp only [Act.put, lA, lB, lC, i64_w, i32_w]
       rfl
      refine pure_ (i := 4) (N := some 38) (v := ?_) (a' := ?_) #[true, false, true, false, true, false, false, false, false, false, false, false, false, false, false, false, false, false] rfl rfl (any_of HT_.out (by kernel_rfl)) (fun _ _ _ h => h) (Or.inl ⟨by rfl, ?_⟩) ?_ ?_
      rotate_left
      ·
       intro w'
       go_simp
       with_reducible rfl
      rotate_left
      ·
       simp only [Act.put, lA, lB, lC, i64_w, i32_w]
       rfl
      refine pure_ (i := 7) (N := some 41) (v := ?_) (a' := ?_) #[true, false, true, false, true, false, false, true, false, false, false, false, false, false, false, false, false, false] rfl rfl (any_of HT_.out (by kernel_rfl)) (fun _ _ _ h => h) (Or.inl ⟨by rfl, ?_⟩) ?_ ?_
      rotate_left
      ·
       intro w'
       go_simp
       with_reducible rfl
      rotate_left
      ·
       simp only [Act.put, lA, lB, lC, i64_w, i32_w]
       rfl
      refine pure_ (i := 10) (N := some 44) (v := ?_) (a' := ?_) #[true, false, true, false, true, false, false, true, false, false, true, false, false, false, false, false, false, false] rfl rfl (any_of HT_.out (by kernel_rfl)) (fun _ _ _ h => h) (Or.inl ⟨by rfl, ?_⟩) ?_ ?_
      rotate_left
      ·
       intro w'
       go_simp
       with_reducible rfl
      rotate_left
      ·
       simp only [Act.put, lA, lB, lC, i64_w, i32_w]
       rfl
      refine pure_ (i := 13) (N := some 47) (v := ?_) (a' := ?_) #[true, false, true, false, true, false, false, true, false, false, true, false, false, true, false, false, false, false] rfl rfl (any_of HT_.out (by kernel_rfl)) (fun _ _ _ h => h) (Or.inl ⟨by rfl, ?_⟩) ?_ ?_
      rotate_left
      ·
       intro w'
       go_simp
       with_reducible rfl
      rotate_left
      ·
       simp only [Act.put, lA, lB, lC, i64_w, i32_w]
       rfl
      refine take_ (i := 1) (N := some 35) (v := ?_) (a' := ?_) #[true, true, true, false, true, false, false, true, false, false, true, false, false, true, false, false, false, false] rfl rfl (take_ofW HT_.out HW_.out (by kernel_rfl)) (fun _ _ _ h => h) (Or.inl ⟨by rfl, ?_⟩) hHeld ?_ ?_
      rotate_left
      ·
       rintro w' ⟨s0, s1, s2, s3, s4⟩
       go_simp
       with_reducible rfl
      rotate_left
      ·
       simp only [Act.put, lA, lB, lC, i64_w, i32_w]
       rfl
      refine take_ (i := 3) (N := some 37) (v := ?_) (a' := ?_) #[true, true, true, true, true, false, false, true, false, false, true, false, false, true, false, false, false, false] rfl rfl (take_ofW HT_.out HW_.out (by kernel_rfl)) (fun _ _ _ h => h) (Or.inl ⟨by rfl, ?_⟩) hHeld ?_ ?_
      rotate_left
      ·
       rintro w' ⟨s0, s1, s2, s3, s4⟩
       go_simp
       with_reducible rfl
      rotate_left
      ·
       simp only [Act.put, lA, lB, lC, i64_w, i32_w]
       rfl
      refine take_ (i := 5) (N := some 39) (v := ?_) (a' := ?_) #[true, true, true, true, true, true, false, true, false, false, true, false, false, true, false, false, false, false] rfl rfl (take_ofW HT_.out HW_.out (by kernel_rfl)) (fun _ _ _ h => h) (Or.inl ⟨by rfl, ?_⟩) hHeld ?_ ?_
      rotate_left
      ·
       rintro w' ⟨s0, s1, s2, s3, s4⟩
       go_simp
       with_reducible rfl
      rotate_left
      ·
       simp only [Act.put, lA, lB, lC, i64_w, i32_w]
       rfl
      refine pure_ (i := 6) (N := some 40) (v := ?_) (a' := ?_) #[true, true, true, true, true, true, true, true, false, false, true, false, false, true, false, false, false, false] rfl rfl (any_of HT_.out (by kernel_rfl)) (fun _ _ _ h => h) (Or.inl ⟨by rfl, ?_⟩) ?_ ?_
      rotate_left
      ·
       intro w'
       go_simp
       with_reducible rfl
      rotate_left
      ·
       simp only [Act.put, lA, lB, lC, i64_w, i32_w]
       rfl
      refine take_ (i := 8) (N := some 42) (v := ?_) (a' := ?_) #[true, true, true, true, true, true, true, true, true, false, true, false, false, true, false, false, false, false] rfl rfl (take_ofW HT_.out HW_.out (by kernel_rfl)) (fun _ _ _ h => h) (Or.inl ⟨by rfl, ?_⟩) hHeld ?_ ?_
      rotate_left
      ·
       rintro w' ⟨s0, s1, s2, s3, s4⟩
       go_simp
       with_reducible rfl
      rotate_left
      ·
       simp only [Act.put, lA, lB, lC, i64_w, i32_w]
       rfl
      refine pure_ (i := 9) (N := some 43) (v := ?_) (a' := ?_) #[true, true, true, true, true, true, true, true, true, true, true, false, false, true, false, false, false, false] rfl rfl (any_of HT_.out (by kernel_rfl)) (fun _ _ _ h => h) (Or.inl ⟨by rfl, ?_⟩) ?_ ?_
      rotate_left
      ·
       intro w'
       go_simp
       with_reducible rfl
      rotate_left
      ·
       simp only [Act.put, lA, lB, lC, i64_w, i32_w]
       rfl
      refine take_ (i := 11) (N := some 45) (v := ?_) (a' := ?_) #[true, true, true, true, true, true, true, true, true, true, true, true, false, true, false, false, false, false] rfl rfl (take_ofW HT_.out HW_.out (by kernel_rfl)) (fun _ _ _ h => h) (Or.inl ⟨by rfl, ?_⟩) hHeld ?_ ?_
      rotate_left
      ·
       rintro w' ⟨s0, s1, s2, s3, s4⟩
       go_simp
       with_reducible rfl
      rotate_left
      ·
       simp only [Act.put, lA, lB, lC, i64_w, i32_w]
       rfl
      refine pure_ (i := 12) (N := some 46) (v := ?_) (a' := ?_) #[true, true, true, true, true, true, true, true, true, true, true, true, true, true, false, false, false, false] rfl rfl (any_of HT_.out (by kernel_rfl)) (fun _ _ _ h => h) (Or.inl ⟨by rfl, ?_⟩) ?_ ?_
      rotate_left
      ·
       intro w'
       go_simp
       with_reducible rfl
      rotate_left
      ·
       simp only [Act.put, lA, lB, lC, i64_w, i32_w]
       rfl
      refine take_ (i := 14) (N := some 48) (v := ?_) (a' := ?_) #[true, true, true, true, true, true, true, true, true, true, true, true, true, true, true, false, false, false] rfl rfl (take_ofW HT_.out HW_.out (by kernel_rfl)) (fun _ _ _ h => h) (Or.inl ⟨by rfl, ?_⟩) hHeld ?_ ?_
      rotate_left
      ·
       rintro w' ⟨s0, s1, s2, s3, s4⟩
       go_simp
       with_reducible rfl
      rotate_left
      ·
       simp only [Act.put, lA, lB, lC, i64_w, i32_w]
       rfl
      refine pure_ (i := 15) (N := some 49) (v := ?_) (a' := ?_) #[true, true, true, true, true, true, true, true, true, true, true, true, true, true, true, true, false, false] rfl rfl (any_of HT_.out (by kernel_rfl)) (fun _ _ _ h => h) (Or.inl ⟨by rfl, ?_⟩) ?_ ?_
      rotate_left
      ·
       intro w'
       go_simp
       with_reducible rfl
      rotate_left
      ·
       simp only [Act.put, lA, lB, lC, i64_w, i32_w]
       rfl
      refine pure_ (i := 16) (N := some 50) (v := ?_) (a' := ?_) #[true, true, true, true, true, true, true, true, true, true, true, true, true, true, true, true, true, false] rfl rfl (any_of HT_.out (by kernel_rfl)) (fun _ _ _ h => h) (Or.inl ⟨by rfl, ?_⟩) ?_ ?_
      rotate_left
      ·
       intro w'
       go_simp
       with_reducible rfl
      rotate_left
      ·
       simp only [Act.put, lA, lB, lC, i64_w, i32_w]
       rfl
      refine pure_ (i := 17) (N := some 6) (v := ?_) (a' := ?_) #[true, true, true, true, true, true, true, true, true, true, true, true, true, true, true, true, true, true] rfl rfl (any_of HT_.out (by kernel_rfl)) (fun _ _ _ h => h) (Or.inl ⟨by rfl, ?_⟩) ?_ ?_
      rotate_left
      ·
       intro w'
       go_simp
       with_reducible rfl
      rotate_left
      ·
       simp only [Act.put, lA, lB, lC, i64_w, i32_w]
       rfl
      refine done_ (done_of HT_.out (by kernel_rfl)) ?_
      try go_wp2
      replace BK377 := Aside0.mk (blk_drew BK377.out)
      replace BK378 := Aside0.mk (blk_drew BK378.out)
      replace BK379 := Aside0.mk (blk_drew BK379.out)
      replace BK380 := Aside0.mk (blk_drew BK380.out)
      replace HB := Aside0.mk (below_drew1 HB.out)
      refine start_ (n := 18) (S := fun w' => w'.cell? ⟨gb378, 0, none⟩ = some (.int .i64 t383) ∧ w'.cell? ⟨gb378, 1, none⟩ = some (.int .i64 t384) ∧ w'.cell? ⟨gb377, 0, none⟩ = some (.bool a0_0) ∧ w'.cell? ⟨gb377, 1, none⟩ = some (.int .i64 a0_1) ∧ w'.cell? ⟨gb377, 2, none⟩ = some (.int .i64 a0_2)) (ds := []) #[false, false, false, false, false, false, false, false, false, false, false, false, false, false, false, false, false, false] (by kernel_rfl) rfl rfl ⟨cz0 BK378, cz1 BK378, cz0 BK377, cz1 BK377, cz2 BK377⟩ (fun hHeld => ?_); refine with_tabW gimbalref31_Tighten.tab9 gimbalref31_Tighten.bits9 (fun HT_ HW_ => ?_)
      generalize w82.drew = w83 at BK377 BK378 BK379 BK380 HB hHeld ⊢
      refine pure_ (i := 0) (N := some 51) (v := ?_) (a' := ?_) #[true, false, false, false, false, false, false, false, false, false, false, false, false, false, false, false, false, false] rfl rfl (any_of HT_.out (by kernel_rfl)) (fun _ _ _ h => h) (Or.inl ⟨by rfl, ?_⟩) ?_ ?_
      rotate_left
      ·
       intro w'
       go_simp
       with_reducible rfl
      rotate_left
      ·
       simp only [Act.put, lA, lB, lC, i64_w, i32_w]
       rfl
      refine pure_ (i := 2) (N := some 53) (v := ?_) (a' := ?_) #[true, false, true, false, false, false, false, false, false, false, false, false, false, false, false, false, false, false] rfl rfl (any_of HT_.out (by kernel_rfl)) (fun _ _ _ h => h) (Or.inl ⟨by rfl, ?_⟩) ?_ ?_
      rotate_left
      ·
       intro w'
       go_simp
       with_reducible rfl
      rotate_left
      ·
       simp only [Act.put, lA, lB, lC, i64_w, i32_w]
       rfl
      refine pure_ (i := 4) (N := some 55) (v := ?_) (a' := ?_) #[true, false, true, false, true, false, false, false, false, false, false, false, false, false, false, false, false, false] rfl rfl (any_of HT_.out (by kernel_rfl)) (fun _ _ _ h => h) (Or.inl ⟨by rfl, ?_⟩) ?_ ?_
      rotate_left
      ·
       intro w'
       go_simp
       with_reducible rfl
      rotate_left
      ·
       simp only [Act.put, lA, lB, lC, i64_w, i32_w]
       rfl
      refine pure_ (i := 7) (N := some 58) (v := ?_) (a' := ?_) #[true, false, true, false, true, false, false, true, false, false, false, false, false, false, false, false, false, false] rfl rfl (any_of HT_.out (by kernel_rfl)) (fun _ _ _ h => h) (Or.inl ⟨by rfl, ?_⟩) ?_ ?_
      rotate_left
      ·
       intro w'
       go_simp
       with_reducible rfl
      rotate_left
      ·
       simp only [Act.put, lA, lB, lC, i64_w, i32_w]
       rfl
      refine pure_ (i := 10) (N := some 61) (v := ?_) (a' := ?_) #[true, false, true, false, true, false, false, true, false, false, true, false, false, false, false, false, false, false] rfl rfl (any_of HT_.out (by kernel_rfl)) (fun _ _ _ h => h) (Or.inl ⟨by rfl, ?_⟩) ?_ ?_
      rotate_left
      ·
       intro w'
       go_simp
       with_reducible rfl
      rotate_left
      ·
       simp only [Act.put, lA, lB, lC, i64_w, i32_w]
       rfl
      refine pure_ (i := 13) (N := some 64) (v := ?_) (a' := ?_) #[true, false, true, false, true, false, false, true, false, false, true, false, false, true, false, false, false, false] rfl rfl (any_of HT_.out (by kernel_rfl)) (fun _ _ _ h => h) (Or.inl ⟨by rfl, ?_⟩) ?_ ?_
      rotate_left
      ·
       intro w'
       go_simp
       with_reducible rfl
      rotate_left
      ·
       simp only [Act.put, lA, lB, lC, i64_w, i32_w]
       rfl
      refine take_ (i := 1) (N := some 52) (v := ?_) (a' := ?_) #[true, true, true, false, true, false, false, true, false, false, true, false, false, true, false, false, false, false] rfl rfl (take_ofW HT_.out HW_.out (by kernel_rfl)) (fun _ _ _ h => h) (Or.inl ⟨by rfl, ?_⟩) hHeld ?_ ?_
      rotate_left
      ·
       rintro w' ⟨s0, s1, s2, s3, s4⟩
       go_simp
       with_reducible rfl
      rotate_left
      ·
       simp only [Act.put, lA, lB, lC, i64_w, i32_w]
       rfl
      refine take_ (i := 3) (N := some 54) (v := ?_) (a' := ?_) #[true, true, true, true, true, false, false, true, false, false, true, false, false, true, false, false, false, false] rfl rfl (take_ofW HT_.out HW_.out (by kernel_rfl)) (fun _ _ _ h => h) (Or.inl ⟨by rfl, ?_⟩) hHeld ?_ ?_
      rotate_left
      ·
       rintro w' ⟨s0, s1, s2, s3, s4⟩
       go_simp
       with_reducible rfl
      rotate_left
      ·
       simp only [Act.put, lA, lB, lC, i64_w, i32_w]
       rfl
      refine take_ (i := 5) (N := some 56) (v := ?_) (a' := ?_) #[true, true, true, true, true, true, false, true, false, false, true, false, false, true, false, false, false, false] rfl rfl (take_ofW HT_.out HW_.out (by kernel_rfl)) (fun _ _ _ h => h) (Or.inl ⟨by rfl, ?_⟩) hHeld ?_ ?_
      rotate_left
      ·
       rintro w' ⟨s0, s1, s2, s3, s4⟩
       go_simp
       with_reducible rfl
      rotate_left
      ·
       simp only [Act.put, lA, lB, lC, i64_w, i32_w]
       rfl
      refine pure_ (i := 6) (N := some 57) (v := ?_) (a' := ?_) #[true, true, true, true, true, true, true, true, false, false, true, false, false, true, false, false, false, false] rfl rfl (any_of HT_.out (by kernel_rfl)) (fun _ _ _ h => h) (Or.inl ⟨by rfl, ?_⟩) ?_ ?_
      rotate_left
      ·
       intro w'
       go_simp
       with_reducible rfl
      rotate_left
      ·
       simp only [Act.put, lA, lB, lC, i64_w, i32_w]
       rfl
      refine take_ (i := 8) (N := some 59) (v := ?_) (a' := ?_) #[true, true, true, true, true, true, true, true, true, false, true, false, false, true, false, false, false, false] rfl rfl (take_ofW HT_.out HW_.out (by kernel_rfl)) (fun _ _ _ h => h) (Or.inl ⟨by rfl, ?_⟩) hHeld ?_ ?_
      rotate_left
      ·
       rintro w' ⟨s0, s1, s2, s3, s4⟩
       go_simp
       with_reducible rfl
      rotate_left
      ·
       simp only [Act.put, lA, lB, lC, i64_w, i32_w]
       rfl
      refine pure_ (i := 9) (N := some 60) (v := ?_) (a' := ?_) #[true, true, true, true, true, true, true, true, true, true, true, false, false, true, false, false, false, false] rfl rfl (any_of HT_.out (by kernel_rfl)) (fun _ _ _ h => h) (Or.inl ⟨by rfl, ?_⟩) ?_ ?_
      rotate_left
      ·
       intro w'
       go_simp
       with_reducible rfl
      rotate_left
      ·
       simp only [Act.put, lA, lB, lC, i64_w, i32_w]
       rfl
      refine take_ (i := 11) (N := some 62) (v := ?_) (a' := ?_) #[true, true, true, true, true, true, true, true, true, true, true, true, false, true, false, false, false, false] rfl rfl (take_ofW HT_.out HW_.out (by kernel_rfl)) (fun _ _ _ h => h) (Or.inl ⟨by rfl, ?_⟩) hHeld ?_ ?_
      rotate_left
      ·
       rintro w' ⟨s0, s1, s2, s3, s4⟩
       go_simp
       with_reducible rfl
      rotate_left
      ·
       simp only [Act.put, lA, lB, lC, i64_w, i32_w]
       rfl
      refine pure_ (i := 12) (N := some 63) (v := ?_) (a' := ?_) #[true, true, true, true, true, true, true, true, true, true, true, true, true, true, false, false, false, false] rfl rfl (any_of HT_.out (by kernel_rfl)) (fun _ _ _ h => h) (Or.inl ⟨by rfl, ?_⟩) ?_ ?_
      rotate_left
      ·
       intro w'
       go_simp
       with_reducible rfl
      rotate_left
      ·
       simp only [Act.put, lA, lB, lC, i64_w, i32_w]
       rfl
      refine take_ (i := 14) (N := some 65) (v := ?_) (a' := ?_) #[true, true, true, true, true, true, true, true, true, true, true, true, true, true, true, false, false, false] rfl rfl (take_ofW HT_.out HW_.out (by kernel_rfl)) (fun _ _ _ h => h) (Or.inl ⟨by rfl, ?_⟩) hHeld ?_ ?_
      rotate_left
      ·
       rintro w' ⟨s0, s1, s2, s3, s4⟩
       go_simp
       with_reducible rfl
      rotate_left
      ·
       simp only [Act.put, lA, lB, lC, i64_w, i32_w]
       rfl
      refine pure_ (i := 15) (N := some 66) (v := ?_) (a' := ?_) #[true, true, true, true, true, true, true, true, true, true, true, true, true, true, true, true, false, false] rfl rfl (any_of HT_.out (by kernel_rfl)) (fun _ _ _ h => h) (Or.inl ⟨by rfl, ?_⟩) ?_ ?_
      rotate_left
      ·
       intro w'
       go_simp
       with_reducible rfl
      rotate_left
      ·
       simp only [Act.put, lA, lB, lC, i64_w, i32_w]
       rfl
      refine pure_ (i := 16) (N := some 67) (v := ?_) (a' := ?_) #[true, true, true, true, true, true, true, true, true, true, true, true, true, true, true, true, true, false] rfl rfl (any_of HT_.out (by kernel_rfl)) (fun _ _ _ h => h) (Or.inl ⟨by rfl, ?_⟩) ?_ ?_
      rotate_left
      ·
       intro w'
       go_simp
       with_reducible rfl
      rotate_left
      ·
       simp only [Act.put, lA, lB, lC, i64_w, i32_w]
       rfl
      refine pure_ (i := 17) (N := some 7) (v := ?_) (a' := ?_) #[true, true, true, true, true, true, true, true, true, true, true, true, true, true, true, true, true, true] rfl rfl (any_of HT_.out (by kernel_rfl)) (fun _ _ _ h => h) (Or.inl ⟨by rfl, ?_⟩) ?_ ?_
      rotate_left
      ·
       intro w'
       go_simp
       with_reducible rfl
      rotate_left
      ·
       simp only [Act.put, lA, lB, lC, i64_w, i32_w]
       rfl
      refine done_ (done_of HT_.out (by kernel_rfl)) ?_
      try go_wp2_with (first | ((with_reducible refine gate_callee (f := 69) rfl ?_); refine goesL_ (some 71) rfl rfl Tryd.func69 (by kernel_rfl) rfl #[] rfl mS ?_; (with_reducible refine (gimbalref31_None.calls  t399 t400 t401 _ A76.out).mono ?_); rintro e w84 ⟨rfl, hb⟩; refine ⟨_, rfl, ?_⟩; replace BK377 := kB BK377 hb; replace BK378 := kB BK378 hb; replace BK379 := kB BK379 hb; replace BK380 := kB BK380 hb; replace HB := kW HB hb; (try clear hb); (try clear hb2); (try clear hk); (try clear hi)) | ((with_reducible refine gate_callee (f := 66) rfl ?_); refine goesL_ (some 72) rfl rfl Tryd.func66 (by kernel_rfl) rfl #[] rfl mS ?_; (with_reducible refine (gimbalref02_Empty.calls  t402 t403 _ A77.out).mono ?_); rintro e w85 ⟨rfl, hb⟩; refine ⟨_, rfl, ?_⟩; replace BK377 := kB BK377 hb; replace BK378 := kB BK378 hb; replace BK379 := kB BK379 hb; replace BK380 := kB BK380 hb; replace HB := kW HB hb; (try clear hb); (try clear hb2); (try clear hk); (try clear hi); have hnb86 := NB379_378.out; have hnc86 := NB378_379.out; have hnb87 := NB379_380.out; have hnc87 := NB380_379.out; have hcz88_0 := cz0 BK379; have hcz88_1 := cz1 BK379; have hcz88_2 := cz2 BK379; have hfz88_0 := fz BK379 0; have hfz88_1 := fz BK379 1; have hfz88_2 := fz BK379 2; have hnb89 := NB380_378.out; have hnc89 := NB378_380.out; have hcz90_0 := cz0 BK380; have hcz90_1 := cz1 BK380; have hfz90_0 := fz BK380 0; have hfz90_1 := fz BK380 1))
      refine bodyPost_ret (results_cc rfl _ _ gb379 gb380 23 38 #[.bool t399, .int .i64 t400, .int .i64 t401] #[.int .i64 t402, .int .i64 t403] (0, 0) (0, 0) _ _ rfl (by (with_reducible repeat (first | refine b1 ?_ _ | refine b2 ?_ | refine b3 ?_ _)); refine blk_far ?_ NB379_380.out _; (with_reducible repeat (first | refine b1 ?_ _ | refine b2 ?_ | refine b3 ?_ _)); refine blk_far ?_ NB379_380.out _; (with_reducible repeat (first | refine b1 ?_ _ | refine b2 ?_ | refine b3 ?_ _)); refine blk_put (cs := #[.bool t399, .int .i64 t400, .int .i64 0]) ?_ 2 _ rfl; (with_reducible repeat (first | refine b1 ?_ _ | refine b2 ?_ | refine b3 ?_ _)); refine blk_put (cs := #[.bool t399, .int .i64 0, .int .i64 0]) ?_ 1 _ rfl; (with_reducible repeat (first | refine b1 ?_ _ | refine b2 ?_ | refine b3 ?_ _)); refine blk_put (cs := #[.bool false, .int .i64 0, .int .i64 0]) ?_ 0 _ rfl; (with_reducible repeat (first | refine b1 ?_ _ | refine b2 ?_ | refine b3 ?_ _)); exact BK379.out) Tryd.underlying23 rfl (by kernel_rfl) rfl (by (with_reducible repeat (first | refine b1 ?_ _ | refine b2 ?_ | refine b3 ?_ _)); refine blk_put (cs := #[.int .i64 t402, .int .i64 0]) ?_ 1 _ rfl; (with_reducible repeat (first | refine b1 ?_ _ | refine b2 ?_ | refine b3 ?_ _)); refine blk_put (cs := #[.int .i64 0, .int .i64 0]) ?_ 0 _ rfl; (with_reducible repeat (first | refine b1 ?_ _ | refine b2 ?_ | refine b3 ?_ _)); refine blk_far ?_ NB380_379.out _; (with_reducible repeat (first | refine b1 ?_ _ | refine b2 ?_ | refine b3 ?_ _)); refine blk_far ?_ NB380_379.out _; (with_reducible repeat (first | refine b1 ?_ _ | refine b2 ?_ | refine b3 ?_ _)); refine blk_far ?_ NB380_379.out _; (with_reducible repeat (first | refine b1 ?_ _ | refine b2 ?_ | refine b3 ?_ _)); exact BK380.out) Tryd.underlying38 rfl (by kernel_rfl)) rfl ?_
      exact ⟨eS, bS HB⟩
     ·
      rw [if_neg c75] at H
      have c75b0 : decide ((wrap64 (t384 - (Int.tmod (wrap64 ((Int.tmod (wrap64 (t384 - a0_2)) a0_1) + a0_1)) a0_1))) < (wrap64 (t383 + (Int.tmod (wrap64 ((Int.tmod (wrap64 (a0_2 - t383)) a0_1) + a0_1)) a0_1)))) = false := decide_eq_false c75
      clear c75
      by_cases c91 : (wrap64 (t383 + (Int.tmod (wrap64 ((Int.tmod (wrap64 (a0_2 - t383)) a0_1) + a0_1)) a0_1))) = (wrap64 (t384 - (Int.tmod (wrap64 ((Int.tmod (wrap64 (t384 - a0_2)) a0_1) + a0_1)) a0_1)))
      ·
       rw [if_pos c91] at H
       have c91b0 : ((wrap64 (t383 + (Int.tmod (wrap64 ((Int.tmod (wrap64 (a0_2 - t383)) a0_1) + a0_1)) a0_1))) == (wrap64 (t384 - (Int.tmod (wrap64 ((Int.tmod (wrap64 (t384 - a0_2)) a0_1) + a0_1)) a0_1)))) = true := beq_iff_eq.mpr c91
       have c91b1 : ((wrap64 (t383 + (Int.tmod (wrap64 ((Int.tmod (wrap64 (a0_2 - t383)) a0_1) + a0_1)) a0_1))) != (wrap64 (t384 - (Int.tmod (wrap64 ((Int.tmod (wrap64 (t384 - a0_2)) a0_1) + a0_1)) a0_1)))) = false := bne_eq_false_iff_eq.mpr c91
       clear c91
       replace H := Option.bind_eq_some_iff.mp H
       obtain ⟨⟨t404, t405⟩, A920, H⟩ := H
       replace H : (some (false, 0, wrap64 (t383 + (Int.tmod (wrap64 ((Int.tmod (wrap64 (a0_2 - t383)) a0_1) + a0_1)) a0_1)), t404, t405)) = some (r1, r2, r3, r4, r5) := H
       have A92 := Aside0.mk A920
       clear A920
       simp only [Option.some.injEq, Prod.mk.injEq] at H
       obtain ⟨rfl, rfl, rfl, rfl, rfl⟩ := H
       have hnb93 := NB377_378.out
       have hnc93 := NB378_377.out
       have hnb94 := NB377_379.out
       have hnc94 := NB379_377.out
       have hnb95 := NB377_380.out
       have hnc95 := NB380_377.out
       have hcz96_0 : wc.cell? ⟨gb377, 0, none⟩ = some (.bool a0_0) := cz0 BK377
       have hcz96_1 : wc.cell? ⟨gb377, 1, none⟩ = some (.int .i64 a0_1) := cz1 BK377
       have hcz96_2 : wc.cell? ⟨gb377, 2, none⟩ = some (.int .i64 a0_2) := cz2 BK377
       have hfz96_0 := fz BK377 0
       have hfz96_1 := fz BK377 1
       have hfz96_2 := fz BK377 2
       try go_wp2
       replace BK377 := Aside0.mk (blk_drew BK377.out)
       replace BK378 := Aside0.mk (blk_drew BK378.out)
       replace BK379 := Aside0.mk (blk_drew BK379.out)
       replace BK380 := Aside0.mk (blk_drew BK380.out)
       replace HB := Aside0.mk (below_drew1 HB.out)
       refine start_ (n := 18) (S := fun w' => w'.cell? ⟨gb378, 0, none⟩ = some (.int .i64 t383) ∧ w'.cell? ⟨gb378, 1, none⟩ = some (.int .i64 t384) ∧ w'.cell? ⟨gb377, 0, none⟩ = some (.bool a0_0) ∧ w'.cell? ⟨gb377, 1, none⟩ = some (.int .i64 a0_1) ∧ w'.cell? ⟨gb377, 2, none⟩ = some (.int .i64 a0_2)) (ds := []) #[false, false, false, false, false, false, false, false, false, false, false, false, false, false, false, false, false, false] (by kernel_rfl) rfl rfl ⟨cz0 BK378, cz1 BK378, cz0 BK377, cz1 BK377, cz2 BK377⟩ (fun hHeld => ?_); refine with_tabW gimbalref31_Tighten.tab8 gimbalref31_Tighten.bits8 (fun HT_ HW_ => ?_)
       generalize wc.drew = w97 at BK377 BK378 BK379 BK380 HB hHeld ⊢
       refine pure_ (i := 0) (N := some 34) (v := ?_) (a' := ?_) #[true, false, false, false, false, false, false, false, false, false, false, false, false, false, false, false, false, false] rfl rfl (any_of HT_.out (by kernel_rfl)) (fun _ _ _ h => h) (Or.inl ⟨by rfl, ?_⟩) ?_ ?_
       rotate_left
       ·
        intro w'
        go_simp
        with_reducible rfl
       rotate_left
       ·
        simp only [Act.put, lA, lB, lC, i64_w, i32_w]
        rfl
       refine pure_ (i := 2) (N := some 36) (v := ?_) (a' := ?_) #[true, false, true, false, false, false, false, false, false, false, false, false, false, false, false, false, false, false] rfl rfl (any_of HT_.out (by kernel_rfl)) (fun _ _ _ h => h) (Or.inl ⟨by rfl, ?_⟩) ?_ ?_
       rotate_left
       ·
        intro w'
        go_simp
        with_reducible rfl
       rotate_left
       ·
        simp only [Act.put, lA, lB, lC, i64_w, i32_w]
        rfl
       refine pure_ (i := 4) (N := some 38) (v := ?_) (a' := ?_) #[true, false, true, false, true, false, false, false, false, false, false, false, false, false, false, false, false, false] rfl rfl (any_of HT_.out (by kernel_rfl)) (fun _ _ _ h => h) (Or.inl ⟨by rfl, ?_⟩) ?_ ?_
       rotate_left
       ·
        intro w'
        go_simp
        with_reducible rfl
       rotate_left
       ·
        simp only [Act.put, lA, lB, lC, i64_w, i32_w]
        rfl
       refine pure_ (i := 7) (N := some 41) (v := ?_) (a' := ?_) #[true, false, true, false, true, false, false, true, false, false, false, false, false, false, false, false, false, false] rfl rfl (any_of HT_.out (by kernel_rfl)) (fun _ _ _ h => h) (Or.inl ⟨by rfl, ?_⟩) ?_ ?_
       rotate_left
       ·
        intro w'
        go_simp
        with_reducible rfl
       rotate_left
       ·
        simp only [Act.put, lA, lB, lC, i64_w, i32_w]
        rfl
       refine pure_ (i := 10) (N := some 44) (v := ?_) (a' := ?_) #[true, false, true, false, true, false, false, true, false, false, true, false, false, false, false, false, false, false] rfl rfl (any_of HT_.out (by kernel_rfl)) (fun _ _ _ h => h) (Or.inl ⟨by rfl, ?_⟩) ?_ ?_
       rotate_left
       ·
        intro w'
        go_simp
        with_reducible rfl
       rotate_left
       ·
        simp only [Act.put, lA, lB, lC, i64_w, i32_w]
        rfl
       refine pure_ (i := 13) (N := some 47) (v := ?_) (a' := ?_) #[true, false, true, false, true, false, false, true, false, false, true, false, false, true, false, false, false, false] rfl rfl (any_of HT_.out (by kernel_rfl)) (fun _ _ _ h => h) (Or.inl ⟨by rfl, ?_⟩) ?_ ?_
       rotate_left
       ·
        intro w'
        go_simp
        with_reducible rfl
       rotate_left
       ·
        simp only [Act.put, lA, lB, lC, i64_w, i32_w]
        rfl
       refine take_ (i := 1) (N := some 35) (v := ?_) (a' := ?_) #[true, true, true, false, true, false, false, true, false, false, true, false, false, true, false, false, false, false] rfl rfl (take_ofW HT_.out HW_.out (by kernel_rfl)) (fun _ _ _ h => h) (Or.inl ⟨by rfl, ?_⟩) hHeld ?_ ?_
       rotate_left
       ·
        rintro w' ⟨s0, s1, s2, s3, s4⟩
        go_simp
        with_reducible rfl
       rotate_left
       ·
        simp only [Act.put, lA, lB, lC, i64_w, i32_w]
        rfl
       refine take_ (i := 3) (N := some 37) (v := ?_) (a' := ?_) #[true, true, true, true, true, false, false, true, false, false, true, false, false, true, false, false, false, false] rfl rfl (take_ofW HT_.out HW_.out (by kernel_rfl)) (fun _ _ _ h => h) (Or.inl ⟨by rfl, ?_⟩) hHeld ?_ ?_
       rotate_left
       ·
        rintro w' ⟨s0, s1, s2, s3, s4⟩
        go_simp
        with_reducible rfl
       rotate_left
       ·
        simp only [Act.put, lA, lB, lC, i64_w, i32_w]
        rfl
       refine take_ (i := 5) (N := some 39) (v := ?_) (a' := ?_) #[true, true, true, true, true, true, false, true, false, false, true, false, false, true, false, false, false, false] rfl rfl (take_ofW HT_.out HW_.out (by kernel_rfl)) (fun _ _ _ h => h) (Or.inl ⟨by rfl, ?_⟩) hHeld ?_ ?_
       rotate_left
       ·
        rintro w' ⟨s0, s1, s2, s3, s4⟩
        go_simp
        with_reducible rfl
       rotate_left
       ·
        simp only [Act.put, lA, lB, lC, i64_w, i32_w]
        rfl
       refine pure_ (i := 6) (N := some 40) (v := ?_) (a' := ?_) #[true, true, true, true, true, true, true, true, false, false, true, false, false, true, false, false, false, false] rfl rfl (any_of HT_.out (by kernel_rfl)) (fun _ _ _ h => h) (Or.inl ⟨by rfl, ?_⟩) ?_ ?_
       rotate_left
       ·
        intro w'
        go_simp
        with_reducible rfl
       rotate_left
       ·
        simp only [Act.put, lA, lB, lC, i64_w, i32_w]
        rfl
       refine take_ (i := 8) (N := some 42) (v := ?_) (a' := ?_) #[true, true, true, true, true, true, true, true, true, false, true, false, false, true, false, false, false, false] rfl rfl (take_ofW HT_.out HW_.out (by kernel_rfl)) (fun _ _ _ h => h) (Or.inl ⟨by rfl, ?_⟩) hHeld ?_ ?_
       rotate_left
       ·
        rintro w' ⟨s0, s1, s2, s3, s4⟩
        go_simp
        with_reducible rfl
       rotate_left
       ·
        simp only [Act.put, lA, lB, lC, i64_w, i32_w]
        rfl
       refine pure_ (i := 9) (N := some 43) (v := ?_) (a' := ?_) #[true, true, true, true, true, true, true, true, true, true, true, false, false, true, false, false, false, false] rfl rfl (any_of HT_.out (by kernel_rfl)) (fun _ _ _ h => h) (Or.inl ⟨by rfl, ?_⟩) ?_ ?_
       rotate_left
       ·
        intro w'
        go_simp
        with_reducible rfl
       rotate_left
       ·
        simp only [Act.put, lA, lB, lC, i64_w, i32_w]
        rfl
       refine take_ (i := 11) (N := some 45) (v := ?_) (a' := ?_) #[true, true, true, true, true, true, true, true, true, true, true, true, false, true, false, false, false, false] rfl rfl (take_ofW HT_.out HW_.out (by kernel_rfl)) (fun _ _ _ h => h) (Or.inl ⟨by rfl, ?_⟩) hHeld ?_ ?_
       rotate_left
       ·
        rintro w' ⟨s0, s1, s2, s3, s4⟩
        go_simp
        with_reducible rfl
       rotate_left
       ·
        simp only [Act.put, lA, lB, lC, i64_w, i32_w]
        rfl
       refine pure_ (i := 12) (N := some 46) (v := ?_) (a' := ?_) #[true, true, true, true, true, true, true, true, true, true, true, true, true, true, false, false, false, false] rfl rfl (any_of HT_.out (by kernel_rfl)) (fun _ _ _ h => h) (Or.inl ⟨by rfl, ?_⟩) ?_ ?_
       rotate_left
       ·
        intro w'
        go_simp
        with_reducible rfl
       rotate_left
       ·
        simp only [Act.put, lA, lB, lC, i64_w, i32_w]
        rfl
       refine take_ (i := 14) (N := some 48) (v := ?_) (a' := ?_) #[true, true, true, true, true, true, true, true, true, true, true, true, true, true, true, false, false, false] rfl rfl (take_ofW HT_.out HW_.out (by kernel_rfl)) (fun _ _ _ h => h) (Or.inl ⟨by rfl, ?_⟩) hHeld ?_ ?_
       rotate_left
       ·
        rintro w' ⟨s0, s1, s2, s3, s4⟩
        go_simp
        with_reducible rfl
       rotate_left
       ·
        simp only [Act.put, lA, lB, lC, i64_w, i32_w]
        rfl
       refine pure_ (i := 15) (N := some 49) (v := ?_) (a' := ?_) #[true, true, true, true, true, true, true, true, true, true, true, true, true, true, true, true, false, false] rfl rfl (any_of HT_.out (by kernel_rfl)) (fun _ _ _ h => h) (Or.inl ⟨by rfl, ?_⟩) ?_ ?_
       rotate_left
       ·
        intro w'
        go_simp
        with_reducible rfl
       rotate_left
       ·
        simp only [Act.put, lA, lB, lC, i64_w, i32_w]
        rfl
       refine pure_ (i := 16) (N := some 50) (v := ?_) (a' := ?_) #[true, true, true, true, true, true, true, true, true, true, true, true, true, true, true, true, true, false] rfl rfl (any_of HT_.out (by kernel_rfl)) (fun _ _ _ h => h) (Or.inl ⟨by rfl, ?_⟩) ?_ ?_
       rotate_left
       ·
        intro w'
        go_simp
        with_reducible rfl
       rotate_left
       ·
        simp only [Act.put, lA, lB, lC, i64_w, i32_w]
        rfl
       refine pure_ (i := 17) (N := some 6) (v := ?_) (a' := ?_) #[true, true, true, true, true, true, true, true, true, true, true, true, true, true, true, true, true, true] rfl rfl (any_of HT_.out (by kernel_rfl)) (fun _ _ _ h => h) (Or.inl ⟨by rfl, ?_⟩) ?_ ?_
       rotate_left
       ·
        intro w'
        go_simp
        with_reducible rfl
       rotate_left
       ·
        simp only [Act.put, lA, lB, lC, i64_w, i32_w]
        rfl
       refine done_ (done_of HT_.out (by kernel_rfl)) ?_
       try go_wp2
       replace BK377 := Aside0.mk (blk_drew BK377.out)
       replace BK378 := Aside0.mk (blk_drew BK378.out)
       replace BK379 := Aside0.mk (blk_drew BK379.out)
       replace BK380 := Aside0.mk (blk_drew BK380.out)
       replace HB := Aside0.mk (below_drew1 HB.out)
       refine start_ (n := 18) (S := fun w' => w'.cell? ⟨gb378, 0, none⟩ = some (.int .i64 t383) ∧ w'.cell? ⟨gb378, 1, none⟩ = some (.int .i64 t384) ∧ w'.cell? ⟨gb377, 0, none⟩ = some (.bool a0_0) ∧ w'.cell? ⟨gb377, 1, none⟩ = some (.int .i64 a0_1) ∧ w'.cell? ⟨gb377, 2, none⟩ = some (.int .i64 a0_2)) (ds := []) #[false, false, false, false, false, false, false, false, false, false, false, false, false, false, false, false, false, false] (by kernel_rfl) rfl rfl ⟨cz0 BK378, cz1 BK378, cz0 BK377, cz1 BK377, cz2 BK377⟩ (fun hHeld => ?_); refine with_tabW gimbalref31_Tighten.tab9 gimbalref31_Tighten.bits9 (fun HT_ HW_ => ?_)
       generalize w97.drew = w98 at BK377 BK378 BK379 BK380 HB hHeld ⊢
       refine pure_ (i := 0) (N := some 51) (v := ?_) (a' := ?_) #[true, false, false, false, false, false, false, false, false, false, false, false, false, false, false, false, false, false] rfl rfl (any_of HT_.out (by kernel_rfl)) (fun _ _ _ h => h) (Or.inl ⟨by rfl, ?_⟩) ?_ ?_
       rotate_left
       ·
        intro w'
        go_simp
        with_reducible rfl
       rotate_left
       ·
        simp only [Act.put, lA, lB, lC, i64_w, i32_w]
        rfl
       refine pure_ (i := 2) (N := some 53) (v := ?_) (a' := ?_) #[true, false, true, false, false, false, false, false, false, false, false, false, false, false, false, false, false, false] rfl rfl (any_of HT_.out (by kernel_rfl)) (fun _ _ _ h => h) (Or.inl ⟨by rfl, ?_⟩) ?_ ?_
       rotate_left
       ·
        intro w'
        go_simp
        with_reducible rfl
       rotate_left
       ·
        simp only [Act.put, lA, lB, lC, i64_w, i32_w]
        rfl
       refine pure_ (i := 4) (N := some 55) (v := ?_) (a' := ?_) #[true, false, true, false, true, false, false, false, false, false, false, false, false, false, false, false, false, false] rfl rfl (any_of HT_.out (by kernel_rfl)) (fun _ _ _ h => h) (Or.inl ⟨by rfl, ?_⟩) ?_ ?_
       rotate_left
       ·
        intro w'
        go_simp
        with_reducible rfl
       rotate_left
       ·
        simp only [Act.put, lA, lB, lC, i64_w, i32_w]
        rfl
       refine pure_ (i := 7) (N := some 58) (v := ?_) (a' := ?_) #[true, false, true, false, true, false, false, true, false, false, false, false, false, false, false, false, false, false] rfl rfl (any_of HT_.out (by kernel_rfl)) (fun _ _ _ h => h) (Or.inl ⟨by rfl, ?_⟩) ?_ ?_
       rotate_left
       ·
        intro w'
        go_simp
        with_reducible rfl
       rotate_left
       ·
        simp only [Act.put, lA, lB, lC, i64_w, i32_w]
        rfl
       refine pure_ (i := 10) (N := some 61) (v := ?_) (a' := ?_) #[true, false, true, false, true, false, false, true, false, false, true, false, false, false, false, false, false, false] rfl rfl (any_of HT_.out (by kernel_rfl)) (fun _ _ _ h => h) (Or.inl ⟨by rfl, ?_⟩) ?_ ?_
       rotate_left
       ·
        intro w'
        go_simp
        with_reducible rfl
       rotate_left
       ·
        simp only [Act.put, lA, lB, lC, i64_w, i32_w]
        rfl
       refine pure_ (i := 13) (N := some 64) (v := ?_) (a' := ?_) #[true, false, true, false, true, false, false, true, false, false, true, false, false, true, false, false, false, false] rfl rfl (any_of HT_.out (by kernel_rfl)) (fun _ _ _ h => h) (Or.inl ⟨by rfl, ?_⟩) ?_ ?_
       rotate_left
       ·
        intro w'
        go_simp
        with_reducible rfl
       rotate_left
       ·
        simp only [Act.put, lA, lB, lC, i64_w, i32_w]
        rfl
       refine take_ (i := 1) (N := some 52) (v := ?_) (a' := ?_) #[true, true, true, false, true, false, false, true, false, false, true, false, false, true, false, false, false, false] rfl rfl (take_ofW HT_.out HW_.out (by kernel_rfl)) (fun _ _ _ h => h) (Or.inl ⟨by rfl, ?_⟩) hHeld ?_ ?_
       rotate_left
       ·
        rintro w' ⟨s0, s1, s2, s3, s4⟩
        go_simp
        with_reducible rfl
       rotate_left
       ·
        simp only [Act.put, lA, lB, lC, i64_w, i32_w]
        rfl
       refine take_ (i := 3) (N := some 54) (v := ?_) (a' := ?_) #[true, true, true, true, true, false, false, true, false, false, true, false, false, true, false, false, false, false] rfl rfl (take_ofW HT_.out HW_.out (by kernel_rfl)) (fun _ _ _ h => h) (Or.inl ⟨by rfl, ?_⟩) hHeld ?_ ?_
       rotate_left
       ·
        rintro w' ⟨s0, s1, s2, s3, s4⟩
        go_simp
        with_reducible rfl
       rotate_left
       ·
        simp only [Act.put, lA, lB, lC, i64_w, i32_w]
        rfl
       refine take_ (i := 5) (N := some 56) (v := ?_) (a' := ?_) #[true, true, true, true, true, true, false, true, false, false, true, false, false, true, false, false, false, false] rfl rfl (take_ofW HT_.out HW_.out (by kernel_rfl)) (fun _ _ _ h => h) (Or.inl ⟨by rfl, ?_⟩) hHeld ?_ ?_
       rotate_left
       ·
        rintro w' ⟨s0, s1, s2, s3, s4⟩
        go_simp
        with_reducible rfl
       rotate_left
       ·
        simp only [Act.put, lA, lB, lC, i64_w, i32_w]
        rfl
       refine pure_ (i := 6) (N := some 57) (v := ?_) (a' := ?_) #[true, true, true, true, true, true, true, true, false, false, true, false, false, true, false, false, false, false] rfl rfl (any_of HT_.out (by kernel_rfl)) (fun _ _ _ h => h) (Or.inl ⟨by rfl, ?_⟩) ?_ ?_
       rotate_left
       ·
        intro w'
        go_simp
        with_reducible rfl
       rotate_left
       ·
        simp only [Act.put, lA, lB, lC, i64_w, i32_w]
        rfl
       refine take_ (i := 8) (N := some 59) (v := ?_) (a' := ?_) #[true, true, true, true, true, true, true, true, true, false, true, false, false, true, false, false, false, false] rfl rfl (take_ofW HT_.out HW_.out (by kernel_rfl)) (fun _ _ _ h => h) (Or.inl ⟨by rfl, ?_⟩) hHeld ?_ ?_
       rotate_left
       ·
        rintro w' ⟨s0, s1, s2, s3, s4⟩
        go_simp
        with_reducible rfl
       rotate_left
       ·
        simp only [Act.put, lA, lB, lC, i64_w, i32_w]
        rfl
       refine pure_ (i := 9) (N := some 60) (v := ?_) (a' := ?_) #[true, true, true, true, true, true, true, true, true, true, true, false, false, true, false, false, false, false] rfl rfl (any_of HT_.out (by kernel_rfl)) (fun _ _ _ h => h) (Or.inl ⟨by rfl, ?_⟩) ?_ ?_
       rotate_left
       ·
        intro w'
        go_simp
        with_reducible rfl
       rotate_left
       ·
        simp only [Act.put, lA, lB, lC, i64_w, i32_w]
        rfl
       refine take_ (i := 11) (N := some 62) (v := ?_) (a' := ?_) #[true, true, true, true, true, true, true, true, true, true, true, true, false, true, false, false, false, false] rfl rfl (take_ofW HT_.out HW_.out (by kernel_rfl)) (fun _ _ _ h => h) (Or.inl ⟨by rfl, ?_⟩) hHeld ?_ ?_
       rotate_left
       ·
        rintro w' ⟨s0, s1, s2, s3, s4⟩
        go_simp
        with_reducible rfl
       rotate_left
       ·
        simp only [Act.put, lA, lB, lC, i64_w, i32_w]
        rfl
       refine pure_ (i := 12) (N := some 63) (v := ?_) (a' := ?_) #[true, true, true, true, true, true, true, true, true, true, true, true, true, true, false, false, false, false] rfl rfl (any_of HT_.out (by kernel_rfl)) (fun _ _ _ h => h) (Or.inl ⟨by rfl, ?_⟩) ?_ ?_
       rotate_left
       ·
        intro w'
        go_simp
        with_reducible rfl
       rotate_left
       ·
        simp only [Act.put, lA, lB, lC, i64_w, i32_w]
        rfl
       refine take_ (i := 14) (N := some 65) (v := ?_) (a' := ?_) #[true, true, true, true, true, true, true, true, true, true, true, true, true, true, true, false, false, false] rfl rfl (take_ofW HT_.out HW_.out (by kernel_rfl)) (fun _ _ _ h => h) (Or.inl ⟨by rfl, ?_⟩) hHeld ?_ ?_
       rotate_left
       ·
        rintro w' ⟨s0, s1, s2, s3, s4⟩
        go_simp
        with_reducible rfl
       rotate_left
       ·
        simp only [Act.put, lA, lB, lC, i64_w, i32_w]
        rfl
       refine pure_ (i := 15) (N := some 66) (v := ?_) (a' := ?_) #[true, true, true, true, true, true, true, true, true, true, true, true, true, true, true, true, false, false] rfl rfl (any_of HT_.out (by kernel_rfl)) (fun _ _ _ h => h) (Or.inl ⟨by rfl, ?_⟩) ?_ ?_
       rotate_left
       ·
        intro w'
        go_simp
        with_reducible rfl
       rotate_left
       ·
        simp only [Act.put, lA, lB, lC, i64_w, i32_w]
        rfl
       refine pure_ (i := 16) (N := some 67) (v := ?_) (a' := ?_) #[true, true, true, true, true, true, true, true, true, true, true, true, true, true, true, true, true, false] rfl rfl (any_of HT_.out (by kernel_rfl)) (fun _ _ _ h => h) (Or.inl ⟨by rfl, ?_⟩) ?_ ?_
       rotate_left
       ·
        intro w'
        go_simp
        with_reducible rfl
       rotate_left
       ·
        simp only [Act.put, lA, lB, lC, i64_w, i32_w]
        rfl
       refine pure_ (i := 17) (N := some 7) (v := ?_) (a' := ?_) #[true, true, true, true, true, true, true, true, true, true, true, true, true, true, true, true, true, true] rfl rfl (any_of HT_.out (by kernel_rfl)) (fun _ _ _ h => h) (Or.inl ⟨by rfl, ?_⟩) ?_ ?_
       rotate_left
       ·
        intro w'
        go_simp
        with_reducible rfl
       rotate_left
       ·
        simp only [Act.put, lA, lB, lC, i64_w, i32_w]
        rfl
       refine done_ (done_of HT_.out (by kernel_rfl)) ?_
       try go_wp2_with (first | ((with_reducible refine gate_callee (f := 23) rfl ?_); refine goesL_ (some 80) rfl rfl Tryd.func23 (by kernel_rfl) rfl #[.int .i64 (wrap64 (t383 + (Int.tmod (wrap64 ((Int.tmod (wrap64 (a0_2 - t383)) a0_1) + a0_1)) a0_1))), .int .i64 (wrap64 (t383 + (Int.tmod (wrap64 ((Int.tmod (wrap64 (a0_2 - t383)) a0_1) + a0_1)) a0_1)))] rfl mS ?_; (with_reducible refine (gimbalref02_Of.calls (wrap64 (t383 + (Int.tmod (wrap64 ((Int.tmod (wrap64 (a0_2 - t383)) a0_1) + a0_1)) a0_1))) (wrap64 (t383 + (Int.tmod (wrap64 ((Int.tmod (wrap64 (a0_2 - t383)) a0_1) + a0_1)) a0_1))) t404 t405 _ A92.out).mono ?_); rintro e w99 ⟨rfl, hb⟩; refine ⟨_, rfl, ?_⟩; replace BK377 := kB BK377 hb; replace BK378 := kB BK378 hb; replace BK379 := kB BK379 hb; replace BK380 := kB BK380 hb; replace HB := kW HB hb; (try clear hb); (try clear hb2); (try clear hk); (try clear hi); have hnb100 := NB379_378.out; have hnc100 := NB378_379.out; have hnb101 := NB379_380.out; have hnc101 := NB380_379.out; have hcz102_0 := cz0 BK379; have hcz102_1 := cz1 BK379; have hcz102_2 := cz2 BK379; have hfz102_0 := fz BK379 0; have hfz102_1 := fz BK379 1; have hfz102_2 := fz BK379 2; have hnb103 := NB380_378.out; have hnc103 := NB378_380.out; have hcz104_0 := cz0 BK380; have hcz104_1 := cz1 BK380; have hfz104_0 := fz BK380 0; have hfz104_1 := fz BK380 1))
       refine bodyPost_ret (results_cc rfl _ _ gb379 gb380 23 38 #[.bool false, .int .i64 0, .int .i64 (wrap64 (t383 + (Int.tmod (wrap64 ((Int.tmod (wrap64 (a0_2 - t383)) a0_1) + a0_1)) a0_1)))] #[.int .i64 t404, .int .i64 t405] (0, 0) (0, 0) _ _ rfl (by (with_reducible repeat (first | refine b1 ?_ _ | refine b2 ?_ | refine b3 ?_ _)); refine blk_far ?_ NB379_380.out _; (with_reducible repeat (first | refine b1 ?_ _ | refine b2 ?_ | refine b3 ?_ _)); refine blk_far ?_ NB379_380.out _; (with_reducible repeat (first | refine b1 ?_ _ | refine b2 ?_ | refine b3 ?_ _)); refine blk_put (cs := #[.bool false, .int .i64 0, .int .i64 0]) ?_ 2 _ rfl; (with_reducible repeat (first | refine b1 ?_ _ | refine b2 ?_ | refine b3 ?_ _)); refine blk_put (cs := #[.bool false, .int .i64 0, .int .i64 0]) ?_ 1 _ rfl; (with_reducible repeat (first | refine b1 ?_ _ | refine b2 ?_ | refine b3 ?_ _)); refine blk_put (cs := #[.bool false, .int .i64 0, .int .i64 0]) ?_ 0 _ rfl; (with_reducible repeat (first | refine b1 ?_ _ | refine b2 ?_ | refine b3 ?_ _)); exact BK379.out) Tryd.underlying23 rfl (by kernel_rfl) rfl (by (with_reducible repeat (first | refine b1 ?_ _ | refine b2 ?_ | refine b3 ?_ _)); refine blk_put (cs := #[.int .i64 t404, .int .i64 0]) ?_ 1 _ rfl; (with_reducible repeat (first | refine b1 ?_ _ | refine b2 ?_ | refine b3 ?_ _)); refine blk_put (cs := #[.int .i64 0, .int .i64 0]) ?_ 0 _ rfl; (with_reducible repeat (first | refine b1 ?_ _ | refine b2 ?_ | refine b3 ?_ _)); refine blk_far ?_ NB380_379.out _; (with_reducible repeat (first | refine b1 ?_ _ | refine b2 ?_ | refine b3 ?_ _)); refine blk_far ?_ NB380_379.out _; (with_reducible repeat (first | refine b1 ?_ _ | refine b2 ?_ | refine b3 ?_ _)); refine blk_far ?_ NB380_379.out _; (with_reducible repeat (first | refine b1 ?_ _ | refine b2 ?_ | refine b3 ?_ _)); exact BK380.out) Tryd.underlying38 rfl (by kernel_rfl)) rfl ?_
       exact ⟨eS, bS HB⟩
      ·
       rw [if_neg c91] at H
       have c91b0 : ((wrap64 (t383 + (Int.tmod (wrap64 ((Int.tmod (wrap64 (a0_2 - t383)) a0_1) + a0_1)) a0_1))) == (wrap64 (t384 - (Int.tmod (wrap64 ((Int.tmod (wrap64 (t384 - a0_2)) a0_1) + a0_1)) a0_1)))) = false := beq_eq_false_iff_ne.mpr c91
       have c91b1 : ((wrap64 (t383 + (Int.tmod (wrap64 ((Int.tmod (wrap64 (a0_2 - t383)) a0_1) + a0_1)) a0_1))) != (wrap64 (t384 - (Int.tmod (wrap64 ((Int.tmod (wrap64 (t384 - a0_2)) a0_1) + a0_1)) a0_1)))) = true := bne_iff_ne.mpr c91
       replace H := Option.bind_eq_some_iff.mp H
       obtain ⟨⟨t406, t407⟩, A1050, H⟩ := H
       replace H : (some (a0_0, a0_1, a0_2, t406, t407)) = some (r1, r2, r3, r4, r5) := H
       have A105 := Aside0.mk A1050
       clear A1050
       simp only [Option.some.injEq, Prod.mk.injEq] at H
       obtain ⟨rfl, rfl, rfl, rfl, rfl⟩ := H
       have hnb106 := NB377_378.out
       have hnc106 := NB378_377.out
       have hnb107 := NB377_379.out
       have hnc107 := NB379_377.out
       have hnb108 := NB377_380.out
       have hnc108 := NB380_377.out
       have hcz109_0 : wc.cell? ⟨gb377, 0, none⟩ = some (.bool a0_0) := cz0 BK377
       have hcz109_1 : wc.cell? ⟨gb377, 1, none⟩ = some (.int .i64 a0_1) := cz1 BK377
       have hcz109_2 : wc.cell? ⟨gb377, 2, none⟩ = some (.int .i64 a0_2) := cz2 BK377
       have hfz109_0 := fz BK377 0
       have hfz109_1 := fz BK377 1
       have hfz109_2 := fz BK377 2
       try go_wp2
       replace BK377 := Aside0.mk (blk_drew BK377.out)
       replace BK378 := Aside0.mk (blk_drew BK378.out)
       replace BK379 := Aside0.mk (blk_drew BK379.out)
       replace BK380 := Aside0.mk (blk_drew BK380.out)
       replace HB := Aside0.mk (below_drew1 HB.out)
       refine start_ (n := 18) (S := fun w' => w'.cell? ⟨gb378, 0, none⟩ = some (.int .i64 t383) ∧ w'.cell? ⟨gb378, 1, none⟩ = some (.int .i64 t384) ∧ w'.cell? ⟨gb377, 0, none⟩ = some (.bool a0_0) ∧ w'.cell? ⟨gb377, 1, none⟩ = some (.int .i64 a0_1) ∧ w'.cell? ⟨gb377, 2, none⟩ = some (.int .i64 a0_2)) (ds := []) #[false, false, false, false, false, false, false, false, false, false, false, false, false, false, false, false, false, false] (by kernel_rfl) rfl rfl ⟨cz0 BK378, cz1 BK378, cz0 BK377, cz1 BK377, cz2 BK377⟩ (fun hHeld => ?_); refine with_tabW gimbalref31_Tighten.tab8 gimbalref31_Tighten.bits8 (fun HT_ HW_ => ?_)
       generalize wc.drew = w110 at BK377 BK378 BK379 BK380 HB hHeld ⊢
       refine pure_ (i := 0) (N := some 34) (v := ?_) (a' := ?_) #[true, false, false, false, false, false, false, false, false, false, false, false, false, false, false, false, false, false] rfl rfl (any_of HT_.out (by kernel_rfl)) (fun _ _ _ h => h) (Or.inl ⟨by rfl, ?_⟩) ?_ ?_
       rotate_left
       ·
        intro w'
        go_simp
        with_reducible rfl
       rotate_left
       ·
        simp only [Act.put, lA, lB, lC, i64_w, i32_w]
        rfl
       refine pure_ (i := 2) (N := some 36) (v := ?_) (a' := ?_) #[true, false, true, false, false, false, false, false, false, false, false, false, false, false, false, false, false, false] rfl rfl (any_of HT_.out (by kernel_rfl)) (fun _ _ _ h => h) (Or.inl ⟨by rfl, ?_⟩) ?_ ?_
       rotate_left
       ·
        intro w'
        go_simp
        with_reducible rfl
       rotate_left
       ·
        simp only [Act.put, lA, lB, lC, i64_w, i32_w]
        rfl
       refine pure_ (i := 4) (N := some 38) (v := ?_) (a' := ?_) #[true, false, true, false, true, false, false, false, false, false, false, false, false, false, false, false, false, false] rfl rfl (any_of HT_.out (by kernel_rfl)) (fun _ _ _ h => h) (Or.inl ⟨by rfl, ?_⟩) ?_ ?_
       rotate_left
       ·
        intro w'
        go_simp
        with_reducible rfl
       rotate_left
       ·
        simp only [Act.put, lA, lB, lC, i64_w, i32_w]
        rfl
       refine pure_ (i := 7) (N := some 41) (v := ?_) (a' := ?_) #[true, false, true, false, true, false, false, true, false, false, false, false, false, false, false, false, false, false] rfl rfl (any_of HT_.out (by kernel_rfl)) (fun _ _ _ h => h) (Or.inl ⟨by rfl, ?_⟩) ?_ ?_
       rotate_left
       ·
        intro w'
        go_simp
        with_reducible rfl
       rotate_left
       ·
        simp only [Act.put, lA, lB, lC, i64_w, i32_w]
        rfl
       refine pure_ (i := 10) (N := some 44) (v := ?_) (a' := ?_) #[true, false, true, false, true, false, false, true, false, false, true, false, false, false, false, false, false, false] rfl rfl (any_of HT_.out (by kernel_rfl)) (fun _ _ _ h => h) (Or.inl ⟨by rfl, ?_⟩) ?_ ?_
       rotate_left
       ·
        intro w'
        go_simp
        with_reducible rfl
       rotate_left
       ·
        simp only [Act.put, lA, lB, lC, i64_w, i32_w]
        rfl
       refine pure_ (i := 13) (N := some 47) (v := ?_) (a' := ?_) #[true, false, true, false, true, false, false, true, false, false, true, false, false, true, false, false, false, false] rfl rfl (any_of HT_.out (by kernel_rfl)) (fun _ _ _ h => h) (Or.inl ⟨by rfl, ?_⟩) ?_ ?_
       rotate_left
       ·
        intro w'
        go_simp
        with_reducible rfl
       rotate_left
       ·
        simp only [Act.put, lA, lB, lC, i64_w, i32_w]
        rfl
       refine take_ (i := 1) (N := some 35) (v := ?_) (a' := ?_) #[true, true, true, false, true, false, false, true, false, false, true, false, false, true, false, false, false, false] rfl rfl (take_ofW HT_.out HW_.out (by kernel_rfl)) (fun _ _ _ h => h) (Or.inl ⟨by rfl, ?_⟩) hHeld ?_ ?_
       rotate_left
       ·
        rintro w' ⟨s0, s1, s2, s3, s4⟩
        go_simp
        with_reducible rfl
       rotate_left
       ·
        simp only [Act.put, lA, lB, lC, i64_w, i32_w]
        rfl
       refine take_ (i := 3) (N := some 37) (v := ?_) (a' := ?_) #[true, true, true, true, true, false, false, true, false, false, true, false, false, true, false, false, false, false] rfl rfl (take_ofW HT_.out HW_.out (by kernel_rfl)) (fun _ _ _ h => h) (Or.inl ⟨by rfl, ?_⟩) hHeld ?_ ?_
       rotate_left
       ·
        rintro w' ⟨s0, s1, s2, s3, s4⟩
        go_simp
        with_reducible rfl
       rotate_left
       ·
        simp only [Act.put, lA, lB, lC, i64_w, i32_w]
        rfl
       refine take_ (i := 5) (N := some 39) (v := ?_) (a' := ?_) #[true, true, true, true, true, true, false, true, false, false, true, false, false, true, false, false, false, false] rfl rfl (take_ofW HT_.out HW_.out (by kernel_rfl)) (fun _ _ _ h => h) (Or.inl ⟨by rfl, ?_⟩) hHeld ?_ ?_
       rotate_left
       ·
        rintro w' ⟨s0, s1, s2, s3, s4⟩
        go_simp
        with_reducible rfl
       rotate_left
       ·
        simp only [Act.put, lA, lB, lC, i64_w, i32_w]
        rfl
       refine pure_ (i := 6) (N := some 40) (v := ?_) (a' := ?_) #[true, true, true, true, true, true, true, true, false, false, true, false, false, true, false, false, false, false] rfl rfl (any_of HT_.out (by kernel_rfl)) (fun _ _ _ h => h) (Or.inl ⟨by rfl, ?_⟩) ?_ ?_
       rotate_left
       ·
        intro w'
        go_simp
        with_reducible rfl
       rotate_left
       ·
        simp only [Act.put, lA, lB, lC, i64_w, i32_w]
        rfl
       refine take_ (i := 8) (N := some 42) (v := ?_) (a' := ?_) #[true, true, true, true, true, true, true, true, true, false, true, false, false, true, false, false, false, false] rfl rfl (take_ofW HT_.out HW_.out (by kernel_rfl)) (fun _ _ _ h => h) (Or.inl ⟨by rfl, ?_⟩) hHeld ?_ ?_
       rotate_left
       ·
        rintro w' ⟨s0, s1, s2, s3, s4⟩
        go_simp
        with_reducible rfl
       rotate_left
       ·
        simp only [Act.put, lA, lB, lC, i64_w, i32_w]
        rfl
       refine pure_ (i := 9) (N := some 43) (v := ?_) (a' := ?_) #[true, true, true, true, true, true, true, true, true, true, true, false, false, true, false, false, false, false] rfl rfl (any_of HT_.out (by kernel_rfl)) (fun _ _ _ h => h) (Or.inl ⟨by rfl, ?_⟩) ?_ ?_
       rotate_left
       ·
        intro w'
        go_simp
        with_reducible rfl
       rotate_left
       ·
        simp only [Act.put, lA, lB, lC, i64_w, i32_w]
        rfl
       refine take_ (i := 11) (N := some 45) (v := ?_) (a' := ?_) #[true, true, true, true, true, true, true, true, true, true, true, true, false, true, false, false, false, false] rfl rfl (take_ofW HT_.out HW_.out (by kernel_rfl)) (fun _ _ _ h => h) (Or.inl ⟨by rfl, ?_⟩) hHeld ?_ ?_
       rotate_left
       ·
        rintro w' ⟨s0, s1, s2, s3, s4⟩
        go_simp
        with_reducible rfl
       rotate_left
       ·
        simp only [Act.put, lA, lB, lC, i64_w, i32_w]
        rfl
       refine pure_ (i := 12) (N := some 46) (v := ?_) (a' := ?_) #[true, true, true, true, true, true, true, true, true, true, true, true, true, true, false, false, false, false] rfl rfl (any_of HT_.out (by kernel_rfl)) (fun _ _ _ h => h) (Or.inl ⟨by rfl, ?_⟩) ?_ ?_
       rotate_left
       ·
        intro w'
        go_simp
        with_reducible rfl
       rotate_left
       ·
        simp only [Act.put, lA, lB, lC, i64_w, i32_w]
        rfl
       refine take_ (i := 14) (N := some 48) (v := ?_) (a' := ?_) #[true, true, true, true, true, true, true, true, true, true, true, true, true, true, true, false, false, false] rfl rfl (take_ofW HT_.out HW_.out (by kernel_rfl)) (fun _ _ _ h => h) (Or.inl ⟨by rfl, ?_⟩) hHeld ?_ ?_
       rotate_left
       ·
        rintro w' ⟨s0, s1, s2, s3, s4⟩
        go_simp
        with_reducible rfl
       rotate_left
       ·
        simp only [Act.put, lA, lB, lC, i64_w, i32_w]
        rfl
       refine pure_ (i := 15) (N := some 49) (v := ?_) (a' := ?_) #[true, true, true, true, true, true, true, true, true, true, true, true, true, true, true, true, false, false] rfl rfl (any_of HT_.out (by kernel_rfl)) (fun _ _ _ h => h) (Or.inl ⟨by rfl, ?_⟩) ?_ ?_
       rotate_left
       ·
        intro w'
        go_simp
        with_reducible rfl
       rotate_left
       ·
        simp only [Act.put, lA, lB, lC, i64_w, i32_w]
        rfl
       refine pure_ (i := 16) (N := some 50) (v := ?_) (a' := ?_) #[true, true, true, true, true, true, true, true, true, true, true, true, true, true, true, true, true, false] rfl rfl (any_of HT_.out (by kernel_rfl)) (fun _ _ _ h => h) (Or.inl ⟨by rfl, ?_⟩) ?_ ?_
       rotate_left
       ·
        intro w'
        go_simp
        with_reducible rfl
       rotate_left
       ·
        simp only [Act.put, lA, lB, lC, i64_w, i32_w]
        rfl
       refine pure_ (i := 17) (N := some 6) (v := ?_) (a' := ?_) #[true, true, true, true, true, true, true, true, true, true, true, true, true, true, true, true, true, true] rfl rfl (any_of HT_.out (by kernel_rfl)) (fun _ _ _ h => h) (Or.inl ⟨by rfl, ?_⟩) ?_ ?_
       rotate_left
       ·
        intro w'
        go_simp
        with_reducible rfl
       rotate_left
       ·
        simp only [Act.put, lA, lB, lC, i64_w, i32_w]
        rfl
       refine done_ (done_of HT_.out (by kernel_rfl)) ?_
       try go_wp2
       replace BK377 := Aside0.mk (blk_drew BK377.out)
       replace BK378 := Aside0.mk (blk_drew BK378.out)
       replace BK379 := Aside0.mk (blk_drew BK379.out)
       replace BK380 := Aside0.mk (blk_drew BK380.out)
       replace HB := Aside0.mk (below_drew1 HB.out)
       refine start_ (n := 18) (S := fun w' => w'.cell? ⟨gb378, 0, none⟩ = some (.int .i64 t383) ∧ w'.cell? ⟨gb378, 1, none⟩ = some (.int .i64 t384) ∧ w'.cell? ⟨gb377, 0, none⟩ = some (.bool a0_0) ∧ w'.cell? ⟨gb377, 1, none⟩ = some (.int .i64 a0_1) ∧ w'.cell? ⟨gb377, 2, none⟩ = some (.int .i64 a0_2)) (ds := []) #[false, false, false, false, false, false, false, false, false, false, false, false, false, false, false, false, false, false] (by kernel_rfl) rfl rfl ⟨cz0 BK378, cz1 BK378, cz0 BK377, cz1 BK377, cz2 BK377⟩ (fun hHeld => ?_); refine with_tabW gimbalref31_Tighten.tab9 gimbalref31_Tighten.bits9 (fun HT_ HW_ => ?_)
       generalize w110.drew = w111 at BK377 BK378 BK379 BK380 HB hHeld ⊢
       refine pure_ (i := 0) (N := some 51) (v := ?_) (a' := ?_) #[true, false, false, false, false, false, false, false, false, false, false, false, false, false, false, false, false, false] rfl rfl (any_of HT_.out (by kernel_rfl)) (fun _ _ _ h => h) (Or.inl ⟨by rfl, ?_⟩) ?_ ?_
       rotate_left
       ·
        intro w'
        go_simp
        with_reducible rfl
       rotate_left
       ·
        simp only [Act.put, lA, lB, lC, i64_w, i32_w]
        rfl
       refine pure_ (i := 2) (N := some 53) (v := ?_) (a' := ?_) #[true, false, true, false, false, false, false, false, false, false, false, false, false, false, false, false, false, false] rfl rfl (any_of HT_.out (by kernel_rfl)) (fun _ _ _ h => h) (Or.inl ⟨by rfl, ?_⟩) ?_ ?_
       rotate_left
       ·
        intro w'
        go_simp
        with_reducible rfl
       rotate_left
       ·
        simp only [Act.put, lA, lB, lC, i64_w, i32_w]
        rfl
       refine pure_ (i := 4) (N := some 55) (v := ?_) (a' := ?_) #[true, false, true, false, true, false, false, false, false, false, false, false, false, false, false, false, false, false] rfl rfl (any_of HT_.out (by kernel_rfl)) (fun _ _ _ h => h) (Or.inl ⟨by rfl, ?_⟩) ?_ ?_
       rotate_left
       ·
        intro w'
        go_simp
        with_reducible rfl
       rotate_left
       ·
        simp only [Act.put, lA, lB, lC, i64_w, i32_w]
        rfl
       refine pure_ (i := 7) (N := some 58) (v := ?_) (a' := ?_) #[true, false, true, false, true, false, false, true, false, false, false, false, false, false, false, false, false, false] rfl rfl (any_of HT_.out (by kernel_rfl)) (fun _ _ _ h => h) (Or.inl ⟨by rfl, ?_⟩) ?_ ?_
       rotate_left
       ·
        intro w'
        go_simp
        with_reducible rfl
       rotate_left
       ·
        simp only [Act.put, lA, lB, lC, i64_w, i32_w]
        rfl
       refine pure_ (i := 10) (N := some 61) (v := ?_) (a' := ?_) #[true, false, true, false, true, false, false, true, false, false, true, false, false, false, false, false, false, false] rfl rfl (any_of HT_.out (by kernel_rfl)) (fun _ _ _ h => h) (Or.inl ⟨by rfl, ?_⟩) ?_ ?_
       rotate_left
       ·
        intro w'
        go_simp
        with_reducible rfl
       rotate_left
       ·
        simp only [Act.put, lA, lB, lC, i64_w, i32_w]
        rfl
       refine pure_ (i := 13) (N := some 64) (v := ?_) (a' := ?_) #[true, false, true, false, true, false, false, true, false, false, true, false, false, true, false, false, false, false] rfl rfl (any_of HT_.out (by kernel_rfl)) (fun _ _ _ h => h) (Or.inl ⟨by rfl, ?_⟩) ?_ ?_
       rotate_left
       ·
        intro w'
        go_simp
        with_reducible rfl
       rotate_left
       ·
        simp only [Act.put, lA, lB, lC, i64_w, i32_w]
        rfl
       refine take_ (i := 1) (N := some 52) (v := ?_) (a' := ?_) #[true, true, true, false, true, false, false, true, false, false, true, false, false, true, false, false, false, false] rfl rfl (take_ofW HT_.out HW_.out (by kernel_rfl)) (fun _ _ _ h => h) (Or.inl ⟨by rfl, ?_⟩) hHeld ?_ ?_
       rotate_left
       ·
        rintro w' ⟨s0, s1, s2, s3, s4⟩
        go_simp
        with_reducible rfl
       rotate_left
       ·
        simp only [Act.put, lA, lB, lC, i64_w, i32_w]
        rfl
       refine take_ (i := 3) (N := some 54) (v := ?_) (a' := ?_) #[true, true, true, true, true, false, false, true, false, false, true, false, false, true, false, false, false, false] rfl rfl (take_ofW HT_.out HW_.out (by kernel_rfl)) (fun _ _ _ h => h) (Or.inl ⟨by rfl, ?_⟩) hHeld ?_ ?_
       rotate_left
       ·
        rintro w' ⟨s0, s1, s2, s3, s4⟩
        go_simp
        with_reducible rfl
       rotate_left
       ·
        simp only [Act.put, lA, lB, lC, i64_w, i32_w]
        rfl
       refine take_ (i := 5) (N := some 56) (v := ?_) (a' := ?_) #[true, true, true, true, true, true, false, true, false, false, true, false, false, true, false, false, false, false] rfl rfl (take_ofW HT_.out HW_.out (by kernel_rfl)) (fun _ _ _ h => h) (Or.inl ⟨by rfl, ?_⟩) hHeld ?_ ?_
       rotate_left
       ·
        rintro w' ⟨s0, s1, s2, s3, s4⟩
        go_simp
        with_reducible rfl
       rotate_left
       ·
        simp only [Act.put, lA, lB, lC, i64_w, i32_w]
        rfl
       refine pure_ (i := 6) (N := some 57) (v := ?_) (a' := ?_) #[true, true, true, true, true, true, true, true, false, false, true, false, false, true, false, false, false, false] rfl rfl (any_of HT_.out (by kernel_rfl)) (fun _ _ _ h => h) (Or.inl ⟨by rfl, ?_⟩) ?_ ?_
       rotate_left
       ·
        intro w'
        go_simp
        with_reducible rfl
       rotate_left
       ·
        simp only [Act.put, lA, lB, lC, i64_w, i32_w]
        rfl
       refine take_ (i := 8) (N := some 59) (v := ?_) (a' := ?_) #[true, true, true, true, true, true, true, true, true, false, true, false, false, true, false, false, false, false] rfl rfl (take_ofW HT_.out HW_.out (by kernel_rfl)) (fun _ _ _ h => h) (Or.inl ⟨by rfl, ?_⟩) hHeld ?_ ?_
       rotate_left
       ·
        rintro w' ⟨s0, s1, s2, s3, s4⟩
        go_simp
        with_reducible rfl
       rotate_left
       ·
        simp only [Act.put, lA, lB, lC, i64_w, i32_w]
        rfl
       refine pure_ (i := 9) (N := some 60) (v := ?_) (a' := ?_) #[true, true, true, true, true, true, true, true, true, true, true, false, false, true, false, false, false, false] rfl rfl (any_of HT_.out (by kernel_rfl)) (fun _ _ _ h => h) (Or.inl ⟨by rfl, ?_⟩) ?_ ?_
       rotate_left
       ·
        intro w'
        go_simp
        with_reducible rfl
       rotate_left
       ·
        simp only [Act.put, lA, lB, lC, i64_w, i32_w]
        rfl
       refine take_ (i := 11) (N := some 62) (v := ?_) (a' := ?_) #[true, true, true, true, true, true, true, true, true, true, true, true, false, true, false, false, false, false] rfl rfl (take_ofW HT_.out HW_.out (by kernel_rfl)) (fun _ _ _ h => h) (Or.inl ⟨by rfl, ?_⟩) hHeld ?_ ?_
       rotate_left
       ·
        rintro w' ⟨s0, s1, s2, s3, s4⟩
        go_simp
        with_reducible rfl
       rotate_left
       ·
        simp only [Act.put, lA, lB, lC, i64_w, i32_w]
        rfl
       refine pure_ (i := 12) (N := some 63) (v := ?_) (a' := ?_) #[true, true, true, true, true, true, true, true, true, true, true, true, true, true, false, false, false, false] rfl rfl (any_of HT_.out (by kernel_rfl)) (fun _ _ _ h => h) (Or.inl ⟨by rfl, ?_⟩) ?_ ?_
       rotate_left
       ·
        intro w'
        go_simp
        with_reducible rfl
       rotate_left
       ·
        simp only [Act.put, lA, lB, lC, i64_w, i32_w]
        rfl
       refine take_ (i := 14) (N := some 65) (v := ?_) (a' := ?_) #[true, true, true, true, true, true, true, true, true, true, true, true, true, true, true, false, false, false] rfl rfl (take_ofW HT_.out HW_.out (by kernel_rfl)) (fun _ _ _ h => h) (Or.inl ⟨by rfl, ?_⟩) hHeld ?_ ?_
       rotate_left
       ·
        rintro w' ⟨s0, s1, s2, s3, s4⟩
        go_simp
        with_reducible rfl
       rotate_left
       ·
        simp only [Act.put, lA, lB, lC, i64_w, i32_w]
        rfl
       refine pure_ (i := 15) (N := some 66) (v := ?_) (a' := ?_) #[true, true, true, true, true, true, true, true, true, true, true, true, true, true, true, true, false, false] rfl rfl (any_of HT_.out (by kernel_rfl)) (fun _ _ _ h => h) (Or.inl ⟨by rfl, ?_⟩) ?_ ?_
       rotate_left
       ·
        intro w'
        go_simp
        with_reducible rfl
       rotate_left
       ·
        simp only [Act.put, lA, lB, lC, i64_w, i32_w]
        rfl
       refine pure_ (i := 16) (N := some 67) (v := ?_) (a' := ?_) #[true, true, true, true, true, true, true, true, true, true, true, true, true, true, true, true, true, false] rfl rfl (any_of HT_.out (by kernel_rfl)) (fun _ _ _ h => h) (Or.inl ⟨by rfl, ?_⟩) ?_ ?_
       rotate_left
       ·
        intro w'
        go_simp
        with_reducible rfl
       rotate_left
       ·
        simp only [Act.put, lA, lB, lC, i64_w, i32_w]
        rfl
       refine pure_ (i := 17) (N := some 7) (v := ?_) (a' := ?_) #[true, true, true, true, true, true, true, true, true, true, true, true, true, true, true, true, true, true] rfl rfl (any_of HT_.out (by kernel_rfl)) (fun _ _ _ h => h) (Or.inl ⟨by rfl, ?_⟩) ?_ ?_
       rotate_left
       ·
        intro w'
        go_simp
        with_reducible rfl
       rotate_left
       ·
        simp only [Act.put, lA, lB, lC, i64_w, i32_w]
        rfl
       refine done_ (done_of HT_.out (by kernel_rfl)) ?_
       try go_wp2
       replace BK377 := Aside0.mk (blk_drew BK377.out)
       replace BK378 := Aside0.mk (blk_drew BK378.out)
       replace BK379 := Aside0.mk (blk_drew BK379.out)
       replace BK380 := Aside0.mk (blk_drew BK380.out)
       replace HB := Aside0.mk (below_drew1 HB.out)
       refine start_ (n := 6) (S := fun w' => w'.cell? ⟨gb377, 0, none⟩ = some (.bool a0_0) ∧ w'.cell? ⟨gb377, 1, none⟩ = some (.int .i64 a0_1) ∧ w'.cell? ⟨gb377, 2, none⟩ = some (.int .i64 a0_2)) (ds := []) #[false, false, false, false, false, false] (by kernel_rfl) rfl rfl ⟨cz0 BK377, cz1 BK377, cz2 BK377⟩ (fun hHeld => ?_)
       generalize w111.drew = w112 at BK377 BK378 BK379 BK380 HB hHeld ⊢
       refine pure_ (i := 1) (N := some 82) (v := ?_) (a' := ?_) #[false, true, false, false, false, false] rfl rfl (by kernel_rfl) (fun _ _ _ h => h) (Or.inl ⟨by rfl, ?_⟩) ?_ ?_
       rotate_left
       ·
        intro w'
        go_simp
        with_reducible rfl
       rotate_left
       ·
        simp only [Act.put, lA, lB, lC, i64_w, i32_w]
        rfl
       refine pure_ (i := 2) (N := some 83) (v := ?_) (a' := ?_) #[false, true, true, false, false, false] rfl rfl (by kernel_rfl) (fun _ _ _ h => h) (Or.inl ⟨by rfl, ?_⟩) ?_ ?_
       rotate_left
       ·
        intro w'
        go_simp
        with_reducible rfl
       rotate_left
       ·
        simp only [Act.put, lA, lB, lC, i64_w, i32_w]
        rfl
       refine take_ (i := 0) (N := some 81) (v := ?_) (a' := ?_) #[true, true, true, false, false, false] rfl rfl (by kernel_rfl) (fun _ _ _ h => h) (Or.inl ⟨by rfl, ?_⟩) hHeld ?_ ?_
       rotate_left
       ·
        rintro w' ⟨s0, s1, s2⟩
        go_simp
        with_reducible rfl
       rotate_left
       ·
        simp only [Act.put, lA, lB, lC, i64_w, i32_w]
        rfl
       refine one_ (i := 3) (N := some 84) #[true, true, true, true, false, false] rfl rfl (by kernel_rfl) (by decide) (fun K hK => ?_)
       refine goes_ Tryd.func23 (by kernel_rfl) rfl #[.int .i64 (wrap64 (t383 + (Int.tmod (wrap64 ((Int.tmod (wrap64 (a0_2 - t383)) a0_1) + a0_1)) a0_1))), .int .i64 (wrap64 (t384 - (Int.tmod (wrap64 ((Int.tmod (wrap64 (t384 - a0_2)) a0_1) + a0_1)) a0_1)))] (by rfl) rfl rfl mS ?_
       with_reducible refine (gimbalref02_Of.calls (wrap64 (t383 + (Int.tmod (wrap64 ((Int.tmod (wrap64 (a0_2 - t383)) a0_1) + a0_1)) a0_1))) (wrap64 (t384 - (Int.tmod (wrap64 ((Int.tmod (wrap64 (t384 - a0_2)) a0_1) + a0_1)) a0_1))) t406 t407 _ A105.out).mono ?_
       rintro e w113 ⟨rfl, hb⟩
       refine ⟨_, rfl, ?_⟩
       replace BK377 := kB BK377 hb
       replace BK378 := kB BK378 hb
       replace BK379 := kB BK379 hb
       replace BK380 := kB BK380 hb
       replace HB := kW HB hb
       (try clear hb)
       (try clear hb2)
       (try clear hk)
       (try clear hi)
       refine hK.out _ _ ⟨cz0 BK377, cz1 BK377, cz2 BK377⟩ (fun hHeld => ?_)
       clear hK K
       refine norm_ (a' := ?_) ?_ ?_
       rotate_left
       ·
        show Act.put _ (some 84) _ = _
        simp only [Act.put, lA, lB, lC, i64_w, i32_w]
        rfl
       refine one_ (i := 4) (N := none) #[true, true, true, true, true, false] rfl rfl (by kernel_rfl) (by decide) (fun K hK => ?_)
       have hs114 : w113.cell? ⟨gb379, 0, none⟩ = some (.bool false) := cz0 BK379
       have hfs114 := fz BK379 0
       have hns114_0 := NB377_379.out
       have hns114_1 := NB378_379.out
       have hns114_3 := NB380_379.out
       have hms114_0 := NB379_377.out
       have hms114_1 := NB379_378.out
       have hms114_3 := NB379_380.out
       have hs115 : w113.cell? ⟨gb379, 1, none⟩ = some (.int .i64 0) := cz1 BK379
       have hfs115 := fz BK379 1
       have hns115_0 := NB377_379.out
       have hns115_1 := NB378_379.out
       have hns115_3 := NB380_379.out
       have hms115_0 := NB379_377.out
       have hms115_1 := NB379_378.out
       have hms115_3 := NB379_380.out
       have hs116 : w113.cell? ⟨gb379, 2, none⟩ = some (.int .i64 0) := cz2 BK379
       have hfs116 := fz BK379 2
       have hns116_0 := NB377_379.out
       have hns116_1 := NB378_379.out
       have hns116_3 := NB380_379.out
       have hms116_0 := NB379_377.out
       have hms116_1 := NB379_378.out
       have hms116_3 := NB379_380.out
       refine skip_ (w1 := ?_) (by rfl) rfl ?_ ?_
       rotate_left
       ·
        go_simp
        rfl
       refine hK.out _ _ ⟨((cell_far (p := ⟨gb379, _, none⟩) NB377_379.out _).trans (((cell_far (p := ⟨gb379, _, none⟩) NB377_379.out _).trans (((cell_far (p := ⟨gb379, _, none⟩) NB377_379.out _).trans (hHeld.1)))))), ((cell_far (p := ⟨gb379, _, none⟩) NB377_379.out _).trans (((cell_far (p := ⟨gb379, _, none⟩) NB377_379.out _).trans (((cell_far (p := ⟨gb379, _, none⟩) NB377_379.out _).trans (hHeld.2.1)))))), ((cell_far (p := ⟨gb379, _, none⟩) NB377_379.out _).trans (((cell_far (p := ⟨gb379, _, none⟩) NB377_379.out _).trans (((cell_far (p := ⟨gb379, _, none⟩) NB377_379.out _).trans (hHeld.2.2))))))⟩ (fun hHeld => ?_)
       clear hK K
       refine one_ (i := 5) (N := none) #[true, true, true, true, true, true] rfl rfl (by kernel_rfl) (by decide) (fun K hK => ?_)
       have hs117 : w113.cell? ⟨gb380, 0, none⟩ = some (.int .i64 0) := cz0 BK380
       have hfs117 := fz BK380 0
       have hns117_0 := NB377_380.out
       have hns117_1 := NB378_380.out
       have hns117_2 := NB379_380.out
       have hms117_0 := NB380_377.out
       have hms117_1 := NB380_378.out
       have hms117_2 := NB380_379.out
       have hs118 : w113.cell? ⟨gb380, 1, none⟩ = some (.int .i64 0) := cz1 BK380
       have hfs118 := fz BK380 1
       have hns118_0 := NB377_380.out
       have hns118_1 := NB378_380.out
       have hns118_2 := NB379_380.out
       have hms118_0 := NB380_377.out
       have hms118_1 := NB380_378.out
       have hms118_2 := NB380_379.out
       refine skip_ (w1 := ?_) (by rfl) rfl ?_ ?_
       rotate_left
       ·
        go_simp
        rfl
       refine hK.out _ _ ⟨((cell_far (p := ⟨gb380, _, none⟩) NB377_380.out _).trans (((cell_far (p := ⟨gb380, _, none⟩) NB377_380.out _).trans (hHeld.1)))), ((cell_far (p := ⟨gb380, _, none⟩) NB377_380.out _).trans (((cell_far (p := ⟨gb380, _, none⟩) NB377_380.out _).trans (hHeld.2.1)))), ((cell_far (p := ⟨gb380, _, none⟩) NB377_380.out _).trans (((cell_far (p := ⟨gb380, _, none⟩) NB377_380.out _).trans (hHeld.2.2))))⟩ (fun hHeld => ?_)
       clear hK K
       refine done_ (by kernel_rfl) ?_
       try go_wp2
       refine bodyPost_ret (results_cc rfl _ _ gb379 gb380 23 38 #[.bool a0_0, .int .i64 a0_1, .int .i64 a0_2] #[.int .i64 t406, .int .i64 t407] (0, 0) (0, 0) _ _ rfl (by (with_reducible repeat (first | refine b1 ?_ _ | refine b2 ?_ | refine b3 ?_ _)); refine blk_far ?_ NB379_380.out _; (with_reducible repeat (first | refine b1 ?_ _ | refine b2 ?_ | refine b3 ?_ _)); refine blk_far ?_ NB379_380.out _; (with_reducible repeat (first | refine b1 ?_ _ | refine b2 ?_ | refine b3 ?_ _)); refine blk_put (cs := #[.bool a0_0, .int .i64 a0_1, .int .i64 0]) ?_ 2 _ rfl; (with_reducible repeat (first | refine b1 ?_ _ | refine b2 ?_ | refine b3 ?_ _)); refine blk_put (cs := #[.bool a0_0, .int .i64 0, .int .i64 0]) ?_ 1 _ rfl; (with_reducible repeat (first | refine b1 ?_ _ | refine b2 ?_ | refine b3 ?_ _)); refine blk_put (cs := #[.bool false, .int .i64 0, .int .i64 0]) ?_ 0 _ rfl; (with_reducible repeat (first | refine b1 ?_ _ | refine b2 ?_ | refine b3 ?_ _)); exact BK379.out) Tryd.underlying23 rfl (by kernel_rfl) rfl (by (with_reducible repeat (first | refine b1 ?_ _ | refine b2 ?_ | refine b3 ?_ _)); refine blk_put (cs := #[.int .i64 t406, .int .i64 0]) ?_ 1 _ rfl; (with_reducible repeat (first | refine b1 ?_ _ | refine b2 ?_ | refine b3 ?_ _)); refine blk_put (cs := #[.int .i64 0, .int .i64 0]) ?_ 0 _ rfl; (with_reducible repeat (first | refine b1 ?_ _ | refine b2 ?_ | refine b3 ?_ _)); refine blk_far ?_ NB380_379.out _; (with_reducible repeat (first | refine b1 ?_ _ | refine b2 ?_ | refine b3 ?_ _)); refine blk_far ?_ NB380_379.out _; (with_reducible repeat (first | refine b1 ?_ _ | refine b2 ?_ | refine b3 ?_ _)); refine blk_far ?_ NB380_379.out _; (with_reducible repeat (first | refine b1 ?_ _ | refine b2 ?_ | refine b3 ?_ _)); exact BK380.out) Tryd.underlying38 rfl (by kernel_rfl)) rfl ?_
       exact ⟨eS, bS HB⟩

end Go.Proofs.YtfmmjekhknaniaaDoor.Pr

namespace Go.Proofs.YtfmmjekhknaniaaDoor.Core
open Go.RowKit Go.Proofs.YtfmmjekhknaniaaDoor.Pr Go.Proofs.YtfmmjekhknaniaaDoor.Given Go.Proofs.YtfmmjekhknaniaaDoorW.PrintWords

abbrev Iv := Int × Int
def Sound (i : Iv) : Prop := ofI i.1 i.2 = i

theorem sound_iff {i : Iv} : Sound i ↔ i = (1, 0) ∨ (i.1 ≤ i.2 ∧ -4611686018427387904 ≤ i.1 ∧ i.1 < 4611686018427387904 ∧ -4611686018427387904 < i.2 ∧ i.2 ≤ 4611686018427387904) := by
  obtain ⟨a, b⟩ := i
  unfold Sound ofI
  simp only
  by_cases h : b < a
  · rw [if_pos h]
    constructor
    · intro e; exact Or.inl e.symm
    · rintro (e | e)
      · exact e.symm
      · omega
  · rw [if_neg h]
    constructor
    · intro e
      right
      obtain ⟨e1, e2⟩ := Prod.mk.inj e
      split at e1 <;> (split at e2 <;> (try split at e1) <;> (try split at e2) <;> omega)
    · rintro (e | e)
      · obtain ⟨e1, e2⟩ := Prod.mk.inj e; omega
      · obtain ⟨_, h1, h2, h3, h4⟩ := e
        congr 1
        · split <;> (try split) <;> omega
        · split <;> (try split) <;> omega

theorem ofI_id {a b : Int} (h : a ≤ b) (h1 : -4611686018427387904 ≤ a) (h2 : a < 4611686018427387904) (h3 : -4611686018427387904 < b) (h4 : b ≤ 4611686018427387904) : ofI a b = (a, b) :=
  (sound_iff (i := (a, b))).mpr (Or.inr ⟨h, h1, h2, h3, h4⟩)
theorem ofI_none {a b : Int} (h : b < a) : ofI a b = (1, 0) := by unfold ofI; rw [if_pos h]

/-- an interval's int32. -/
def mi (i : Iv) : Iv :=
  if i.2 < i.1 then (1, 0)
  else if min i.2 2147483647 < max i.1 (-2147483648) then (1, 0)
  else (max i.1 (-2147483648), min i.2 2147483647)

theorem mi_range (i : Iv) : mi i = (1, 0) ∨ (-2147483648 ≤ (mi i).1 ∧ (mi i).1 ≤ (mi i).2 ∧ (mi i).2 ≤ 2147483647) := by
  unfold mi
  by_cases h : i.2 < i.1
  · rw [if_pos h]; exact Or.inl rfl
  · rw [if_neg h]
    by_cases g : min i.2 2147483647 < max i.1 (-2147483648)
    · rw [if_pos g]; exact Or.inl rfl
    · rw [if_neg g]
      right
      dsimp only
      omega

theorem mx_max (a b : Int) : mx a b = max a b := by unfold mx; split <;> omega
theorem mn_min (a b : Int) : mn a b = min a b := by unfold mn; split <;> omega

theorem mi_of {i : Iv} (hr : i.1 ≤ i.2) : ofI (max i.1 (-2147483648)) (min i.2 2147483647) = mi i := by
  unfold mi
  rw [if_neg (by omega)]
  by_cases g : min i.2 2147483647 < max i.1 (-2147483648)
  · rw [if_pos g, ofI_none g]
  · rw [if_neg g, ofI_id (by omega) (by omega) (by omega) (by omega) (by omega)]

theorem itvMeet_f {i : Iv} (h : Sound i) (k : Nat) : itv_Meet.f (k + 1) i.1 i.2 (-2147483648) 2147483647 = some (mi i) := by
  unfold Sound at h
  unfold itv_Meet.f itv_sound.f itv_Of.f itv_None.f
  rw [h, ofI_id (a := -2147483648) (b := 2147483647) (by omega) (by omega) (by omega) (by omega) (by omega)]
  simp only [Option.bind_some]
  by_cases c : i.2 < i.1
  · unfold mi
    rw [if_pos c, if_pos (by simp; omega)]
    simp [itv_Meet.j0, itv_Empty.f]
  · rw [if_neg (by simp; omega)]
    simp only [itv_Meet.j0, itv_Of.f]
    rw [if_neg (by simp), mx_max, mn_min, mi_of (by omega)]; rfl
theorem r02Meet_f {i : Iv} (h : Sound i) (k : Nat) : gimbalref02_Meet.f (k + 1) i.1 i.2 (-2147483648) 2147483647 = some (mi i) := by
  unfold Sound at h
  unfold gimbalref02_Meet.f gimbalref02_norm.f gimbalref02_Of.f gimbalref02_None.f
  rw [h, ofI_id (a := -2147483648) (b := 2147483647) (by omega) (by omega) (by omega) (by omega) (by omega)]
  simp only [Option.bind_some]
  by_cases c : i.2 < i.1
  · unfold mi
    rw [if_pos c, if_pos (by simp; omega)]
    simp [gimbalref02_Meet.j0, gimbalref02_Empty.f]
  · rw [if_neg (by simp; omega)]
    simp only [gimbalref02_Meet.j0, gimbalref02_Of.f]
    rw [if_neg (by simp)]
    have e1 : gimbalref02_more.f i.1 (-2147483648) = some (max i.1 (-2147483648)) := by unfold gimbalref02_more.f; split <;> (congr 1; omega)
    have e2 : gimbalref02_less.f i.2 2147483647 = some (min i.2 2147483647) := by unfold gimbalref02_less.f; split <;> (congr 1; omega)
    rw [e1, e2]
    simp only [Option.bind_some]
    rw [mi_of (by omega)]

theorem itvType_f : itv_Type.f 3 = some (-2147483648, 2147483647) := by decide +kernel
theorem r02Type_f : gimbalref02_Type.f 3 = some (-2147483648, 2147483647) := by decide +kernel

/-- is a number in an interval of int32? -/
theorem itvHas_f {i : Iv} (h : i = (1, 0) ∨ (-2147483648 ≤ i.1 ∧ i.1 ≤ i.2 ∧ i.2 ≤ 2147483647)) (x : Int) : itv_Has.f i.1 i.2 x = some (decide (i.1 ≤ x ∧ x ≤ i.2)) := by
  have hs : ofI i.1 i.2 = i := by
    rcases h with e | e
    · rw [e]; rfl
    · exact sound_iff.mpr (Or.inr (by omega))
  unfold itv_Has.f itv_sound.f itv_Of.f itv_None.f
  rw [hs]
  simp only [Option.bind_some]
  rcases h with e | e
  · subst e
    simp
    omega
  · rw [if_neg (by simp; omega), if_neg (by omega)]
    by_cases c : i.1 ≤ x
    · rw [if_pos c, if_neg (by omega)]; simp [c]
    · rw [if_neg c]; simp [c]
theorem r02Has_f {i : Iv} (h : i = (1, 0) ∨ (-2147483648 ≤ i.1 ∧ i.1 ≤ i.2 ∧ i.2 ≤ 2147483647)) (x : Int) : gimbalref02_Has.f i.1 i.2 x = some (decide (i.1 ≤ x ∧ x ≤ i.2)) := by
  have hs : ofI i.1 i.2 = i := by
    rcases h with e | e
    · rw [e]; rfl
    · exact sound_iff.mpr (Or.inr (by omega))
  unfold gimbalref02_Has.f gimbalref02_norm.f gimbalref02_Of.f
  rw [hs]
  simp only [Option.bind_some]
  rcases h with e | e
  · subst e
    simp
    omega
  · rw [if_pos (by omega), if_neg (by omega)]
    by_cases c : i.1 ≤ x
    · rw [if_pos c, if_neg (by omega)]; simp [c]
    · rw [if_neg c]; simp [c]

/-- a congruence and an interval, tightened by one another. -/
def tightS (c : Cg) (i : Iv) : Cg × Iv :=
  if c.1 = true ∨ (mi i).2 < (mi i).1 then ((true, 0, 0), (1, 0))
  else if c.2.1 = 0 then (if (mi i).1 ≤ c.2.2 ∧ c.2.2 ≤ (mi i).2 then (c, (c.2.2, c.2.2)) else ((true, 0, 0), (1, 0)))
  else if (mi i).2 - ((mi i).2 - c.2.2) % c.2.1 < (mi i).1 + (c.2.2 - (mi i).1) % c.2.1 then ((true, 0, 0), (1, 0))
  else if (mi i).1 + (c.2.2 - (mi i).1) % c.2.1 = (mi i).2 - ((mi i).2 - c.2.2) % c.2.1 then ((false, 0, (mi i).1 + (c.2.2 - (mi i).1) % c.2.1), ((mi i).1 + (c.2.2 - (mi i).1) % c.2.1, (mi i).1 + (c.2.2 - (mi i).1) % c.2.1))
  else (c, ((mi i).1 + (c.2.2 - (mi i).1) % c.2.1, (mi i).2 - ((mi i).2 - c.2.2) % c.2.1))

def flat5 (t : Cg × Iv) : Bool × Int × Int × Int × Int := (t.1.1, t.1.2.1, t.1.2.2, t.2.1, t.2.2)

theorem fix_mod {x m : Int} (hm : 0 < m) : Int.tmod (Int.tmod x m + m) m = x % m := by
  have hd := tmod_dvd (g := m) (x := x) (Int.dvd_refl m)
  have h1 : (Int.tmod x m).natAbs < m.natAbs := by rw [Int.natAbs_tmod]; exact Nat.mod_lt _ (by omega)
  rw [Int.tmod_eq_emod_of_nonneg (by omega)]
  refine Int.emod_eq_emod_iff_emod_sub_eq_zero.mpr (emod_zero_iff.mpr ?_)
  have := Int.dvd_add hd (Int.dvd_refl m)
  rwa [show x.tmod m - x + m = x.tmod m + m - x by omega] at this

theorem const32 {x : Int} (h : In32 x) : norm 0 x = (false, 0, x) := by unfold norm; rw [if_pos rfl, if_pos h]

theorem Tighten_f {c : Cg} (hc : Fit c) {i : Iv} (hi : Sound i) (k : Nat) : congr_Tighten.f (k + 2) c.1 c.2.1 c.2.2 i.1 i.2 = some (flat5 (tightS c i)) := by
  have mc := fit_mod hc
  have fc := fit_rem hc
  have hr := mi_range i
  unfold congr_Tighten.f tightS
  rw [itvType_f]
  simp only [Option.bind_some]
  rw [show k + 2 = (k + 1) + 1 by omega, itvMeet_f hi]
  simp only [Option.bind_some]
  generalize mi i = j at *
  by_cases h1 : c.1 = true
  · rw [if_pos h1, if_pos (Or.inl h1)]; simp [congr_Tighten.j0, congr_none.f, itv_Empty.f, flat5]
  rw [if_neg h1]
  simp only [itv_None.f, Option.bind_some, congr_Tighten.j0]
  by_cases h2 : j.2 < j.1
  · rw [if_pos (by simp; omega), if_pos (Or.inr h2)]; simp [congr_none.f, itv_Empty.f, flat5]
  have hj : -2147483648 ≤ j.1 ∧ j.1 ≤ j.2 ∧ j.2 ≤ 2147483647 := by
    rcases hr with e | e
    · rw [e] at h2; simp at h2
    · exact e
  have hor : ¬ (c.1 = true ∨ j.2 < j.1) := fun e => e.elim h1 h2
  rw [if_neg (by simp; omega), if_neg hor]
  by_cases h3 : c.2.1 = 0
  · rw [if_pos h3, if_pos h3, itvHas_f hr]
    simp only [Option.bind_some]
    by_cases h4 : j.1 ≤ c.2.2 ∧ c.2.2 ≤ j.2
    · rw [if_pos (by simp [h4]), if_pos h4]
      simp only [itv_Of.f, Option.bind_some]
      rw [ofI_id (by omega) (by omega) (by omega) (by omega) (by omega)]; rfl
    · rw [if_neg (by simp; omega), if_neg h4]; rfl
  · have hm0 : 0 < c.2.1 := by omega
    have a0 := Int.emod_nonneg (c.2.2 - j.1) h3
    have a1 := Int.emod_lt_of_pos (c.2.2 - j.1) hm0
    have b0 := Int.emod_nonneg (j.2 - c.2.2) h3
    have b1 := Int.emod_lt_of_pos (j.2 - c.2.2) hm0
    rw [if_neg h3, if_neg h3, u64_id (n := c.2.1) (by omega) (by omega), w64_id (n := c.2.2 - j.1) (by omega) (by omega), w64_id (n := j.2 - c.2.2) (by omega) (by omega),
      rest_f (by omega) (by omega) hm0 (by omega), rest_f (by omega) (by omega) hm0 (by omega)]
    simp only [Option.bind_some]
    generalize (c.2.2 - j.1) % c.2.1 = p at *
    generalize (j.2 - c.2.2) % c.2.1 = q at *
    rw [w64_id (n := p) (by omega) (by omega), w64_id (n := q) (by omega) (by omega), w64_id (n := j.1 + p) (by omega) (by omega), w64_id (n := j.2 - q) (by omega) (by omega)]
    by_cases h4 : j.1 + p > j.2 - q
    · rw [if_pos h4, if_pos (show j.2 - q < j.1 + p by omega)]; rfl
    · rw [if_neg h4, if_neg (show ¬ j.2 - q < j.1 + p by omega)]
      by_cases h5 : j.1 + p = j.2 - q
      · rw [if_pos h5, if_pos h5, constant_f, const32 (by unfold In32; omega)]
        simp only [itv_Of.f, Option.bind_some]
        rw [ofI_id (by omega) (by omega) (by omega) (by omega) (by omega)]; rfl
      · rw [if_neg h5, if_neg h5]
        simp only [itv_Of.f, Option.bind_some]
        rw [ofI_id (by omega) (by omega) (by omega) (by omega) (by omega)]; rfl

theorem rTighten_f {c : Cg} (hc : Fit c) {i : Iv} (hi : Sound i) (k : Nat) : gimbalref31_Tighten.f (k + 2) c.1 c.2.1 c.2.2 i.1 i.2 = some (flat5 (tightS c i)) := by
  have mc := fit_mod hc
  have fc := fit_rem hc
  have hr := mi_range i
  unfold gimbalref31_Tighten.f tightS
  rw [r02Type_f]
  simp only [Option.bind_some]
  rw [show k + 2 = (k + 1) + 1 by omega, r02Meet_f hi]
  simp only [Option.bind_some]
  generalize mi i = j at *
  by_cases h1 : c.1 = true
  · rw [if_pos h1, if_pos (Or.inl h1)]; simp [gimbalref31_Tighten.j0, gimbalref31_None.f, gimbalref02_Empty.f, flat5]
  rw [if_neg h1]
  simp only [gimbalref02_None.f, Option.bind_some, gimbalref31_Tighten.j0]
  by_cases h2 : j.2 < j.1
  · rw [if_pos (by simp; omega), if_pos (Or.inr h2)]; simp [gimbalref31_None.f, gimbalref02_Empty.f, flat5]
  have hj : -2147483648 ≤ j.1 ∧ j.1 ≤ j.2 ∧ j.2 ≤ 2147483647 := by
    rcases hr with e | e
    · rw [e] at h2; simp at h2
    · exact e
  have hor : ¬ (c.1 = true ∨ j.2 < j.1) := fun e => e.elim h1 h2
  rw [if_neg (by simp; omega), if_neg hor]
  by_cases h3 : c.2.1 = 0
  · rw [if_pos h3, if_pos h3, r02Has_f hr]
    simp only [Option.bind_some]
    by_cases h4 : j.1 ≤ c.2.2 ∧ c.2.2 ≤ j.2
    · rw [if_pos (by simp [h4]), if_pos h4]
      simp only [gimbalref02_Of.f, Option.bind_some]
      rw [ofI_id (by omega) (by omega) (by omega) (by omega) (by omega)]; rfl
    · rw [if_neg (by simp; omega), if_neg h4]; rfl
  · have hm0 : 0 < c.2.1 := by omega
    have a0 := Int.emod_nonneg (c.2.2 - j.1) h3
    have a1 := Int.emod_lt_of_pos (c.2.2 - j.1) hm0
    have b0 := Int.emod_nonneg (j.2 - c.2.2) h3
    have b1 := Int.emod_lt_of_pos (j.2 - c.2.2) hm0
    have t1 := tmod_range (x := c.2.2 - j.1) (d := c.2.1) (m := 4294967295 + 2147483648) (by omega) (by omega)
    have t2 := tmod_range (x := j.2 - c.2.2) (d := c.2.1) (m := 4294967295 + 2147483648) (by omega) (by omega)
    rw [if_neg h3, if_neg h3, w64_id (n := c.2.2 - j.1) (by omega) (by omega), w64_id (n := j.2 - c.2.2) (by omega) (by omega), w64_id (n := Int.tmod (c.2.2 - j.1) c.2.1 + c.2.1) (by omega) (by omega), w64_id (n := Int.tmod (j.2 - c.2.2) c.2.1 + c.2.1) (by omega) (by omega), fix_mod hm0, fix_mod hm0]
    generalize (c.2.2 - j.1) % c.2.1 = p at *
    generalize (j.2 - c.2.2) % c.2.1 = q at *
    rw [w64_id (n := j.1 + p) (by omega) (by omega), w64_id (n := j.2 - q) (by omega) (by omega)]
    by_cases h4 : j.1 + p > j.2 - q
    · rw [if_pos h4, if_pos (show j.2 - q < j.1 + p by omega)]; rfl
    · rw [if_neg h4, if_neg (show ¬ j.2 - q < j.1 + p by omega)]
      by_cases h5 : j.1 + p = j.2 - q
      · rw [if_pos h5, if_pos h5]
        simp only [gimbalref02_Of.f, Option.bind_some]
        rw [ofI_id (by omega) (by omega) (by omega) (by omega) (by omega)]; rfl
      · rw [if_neg h5, if_neg h5]
        simp only [gimbalref02_Of.f, Option.bind_some]
        rw [ofI_id (by omega) (by omega) (by omega) (by omega) (by omega)]; rfl

def Holds (op x y : Int) : Prop := if op = 14 then x = y else if op = 15 then x ≠ y else if op = 16 then x < y else if op = 17 then x ≤ y else if op = 18 then y < x else y ≤ x
instance (op x y : Int) : Decidable (Holds op x y) := by unfold Holds; infer_instance
theorem holds_f (op x y : Int) : congr_holds.f op x y = some (decide (Holds op x y)) := by
  unfold congr_holds.f Holds
  (repeat' split) <;> simp
  all_goals (first | exact beq_bool (by simp) | rfl | skip)
theorem rholds_f (op x y : Int) : gimbalref31_holds.f op x y = some (decide (Holds op x y)) := holds_f op x y
/-- what is left where a comparison holds; r: what both have. -/
def testS (op : Int) (a b r : Cg) : Cg × Cg :=
  if op < 14 ∨ 19 < op then (a, b)
  else if a.1 = true ∨ b.1 = true ∨ (a.2.1 = 0 ∧ b.2.1 = 0 ∧ ¬ Holds op a.2.2 b.2.2) then ((true, 0, 0), (true, 0, 0))
  else if op = 14 then (r, r) else (a, b)
def flat6 (t : Cg × Cg) : Bool × Int × Int × Bool × Int × Int := (t.1.1, t.1.2.1, t.1.2.2, t.2.1, t.2.2.1, t.2.2.2)

theorem Test_f {a b r : Cg} (op : Int) (hr : Ev (fun k => congr_Meet.f k a.1 a.2.1 a.2.2 b.1 b.2.1 b.2.2) r) :
    Ev (fun k => congr_Test.f k op a.1 a.2.1 a.2.2 b.1 b.2.1 b.2.2) (flat6 (testS op a b r)) := by
  obtain ⟨K, hK⟩ := hr
  refine ⟨K + 5, fun k hk => ?_⟩
  obtain ⟨j, rfl⟩ : ∃ j, k = j + 2 := ⟨k - 2, by omega⟩
  dsimp only at hK ⊢
  unfold congr_Test.f testS
  by_cases h1 : op < 14
  · rw [if_pos h1, if_pos (Or.inl h1)]; simp [congr_Test.j0, flat6]
  rw [if_neg h1]
  by_cases h2 : op > 19
  · rw [show decide (op > 19) = true by simp [h2], if_pos (Or.inr h2)]; simp [congr_Test.j0, flat6]
  rw [show decide (op > 19) = false by simp [h2], if_neg (show ¬ (op < 14 ∨ 19 < op) by omega)]
  simp only [congr_Test.j0, Bool.false_eq_true, if_false]
  have none1 : congr_Test.j1 (j + 1) op true a.1 a.2.1 a.2.2 b.1 b.2.1 b.2.2 = some (flat6 ((true, 0, 0), (true, 0, 0))) := by
    simp [congr_Test.j1, congr_none.f, flat6]
  have rest1 : congr_Test.j1 (j + 1) op false a.1 a.2.1 a.2.2 b.1 b.2.1 b.2.2 = some (flat6 (if op = 14 then (r, r) else (a, b))) := by
    simp only [congr_Test.j1, Bool.false_eq_true, if_false]
    split
    · rw [hK _ (by omega)]; rfl
    · rfl
  by_cases h3 : a.1 = true
  · rw [if_pos h3, if_pos (Or.inl h3), none1]
  rw [if_neg h3]
  by_cases h4 : b.1 = true
  · rw [if_pos h4, if_pos (Or.inr (Or.inl h4)), none1]
  rw [if_neg h4]
  have neg : ¬ (a.2.1 = 0 ∧ b.2.1 = 0 ∧ ¬ Holds op a.2.2 b.2.2) → ¬ (a.1 = true ∨ b.1 = true ∨ (a.2.1 = 0 ∧ b.2.1 = 0 ∧ ¬ Holds op a.2.2 b.2.2)) := fun n e => e.elim h3 (fun e => e.elim h4 n)
  by_cases h5 : a.2.1 = 0
  · rw [if_pos h5]
    by_cases h6 : b.2.1 = 0
    · rw [if_pos h6, holds_f]
      simp only [Option.bind_some]
      by_cases h7 : Holds op a.2.2 b.2.2
      · rw [show (!decide (Holds op a.2.2 b.2.2)) = false by simp [h7], rest1, if_neg (neg fun e => e.2.2 h7)]
      · rw [show (!decide (Holds op a.2.2 b.2.2)) = true by simp [h7], none1, if_pos (Or.inr (Or.inr ⟨h5, h6, h7⟩))]
    · rw [if_neg h6, rest1, if_neg (neg fun e => h6 e.2.1)]
  · rw [if_neg h5, rest1, if_neg (neg fun e => h5 e.1)]

theorem rTest_f {a b r : Cg} (op : Int) (hr : Ev (fun k => gimbalref31_Meet.f k a.1 a.2.1 a.2.2 b.1 b.2.1 b.2.2) r) :
    Ev (fun k => gimbalref31_Test.f k op a.1 a.2.1 a.2.2 b.1 b.2.1 b.2.2) (flat6 (testS op a b r)) := by
  obtain ⟨K, hK⟩ := hr
  refine ⟨K + 5, fun k hk => ?_⟩
  obtain ⟨j, rfl⟩ : ∃ j, k = j + 2 := ⟨k - 2, by omega⟩
  dsimp only at hK ⊢
  unfold gimbalref31_Test.f testS
  by_cases h1 : op < 14
  · rw [if_pos h1, if_pos (Or.inl h1)]; simp [gimbalref31_Test.j0, flat6]
  rw [if_neg h1]
  by_cases h2 : op > 19
  · rw [show decide (op > 19) = true by simp [h2], if_pos (Or.inr h2)]; simp [gimbalref31_Test.j0, flat6]
  rw [show decide (op > 19) = false by simp [h2], if_neg (show ¬ (op < 14 ∨ 19 < op) by omega)]
  simp only [gimbalref31_Test.j0, Bool.false_eq_true, if_false]
  have none1 : gimbalref31_Test.j1 (j + 1) op true a.1 a.2.1 a.2.2 b.1 b.2.1 b.2.2 = some (flat6 ((true, 0, 0), (true, 0, 0))) := by
    simp [gimbalref31_Test.j1, gimbalref31_None.f, flat6]
  have rest1 : gimbalref31_Test.j1 (j + 1) op false a.1 a.2.1 a.2.2 b.1 b.2.1 b.2.2 = some (flat6 (if op = 14 then (r, r) else (a, b))) := by
    simp only [gimbalref31_Test.j1, Bool.false_eq_true, if_false]
    split
    · rw [hK _ (by omega)]; rfl
    · rfl
  by_cases h3 : a.1 = true
  · rw [if_pos h3, if_pos (Or.inl h3), none1]
  rw [if_neg h3]
  by_cases h4 : b.1 = true
  · rw [if_pos h4, if_pos (Or.inr (Or.inl h4)), none1]
  rw [if_neg h4]
  have neg : ¬ (a.2.1 = 0 ∧ b.2.1 = 0 ∧ ¬ Holds op a.2.2 b.2.2) → ¬ (a.1 = true ∨ b.1 = true ∨ (a.2.1 = 0 ∧ b.2.1 = 0 ∧ ¬ Holds op a.2.2 b.2.2)) := fun n e => e.elim h3 (fun e => e.elim h4 n)
  by_cases h5 : a.2.1 = 0
  · rw [if_pos h5]
    by_cases h6 : b.2.1 = 0
    · rw [if_pos h6, rholds_f]
      simp only [Option.bind_some]
      by_cases h7 : Holds op a.2.2 b.2.2
      · rw [show (!decide (Holds op a.2.2 b.2.2)) = false by simp [h7], rest1, if_neg (neg fun e => e.2.2 h7)]
      · rw [show (!decide (Holds op a.2.2 b.2.2)) = true by simp [h7], none1, if_pos (Or.inr (Or.inr ⟨h5, h6, h7⟩))]
    · rw [if_neg h6, rest1, if_neg (neg fun e => h6 e.2.1)]
  · rw [if_neg h5, rest1, if_neg (neg fun e => h5 e.1)]

/-- does a sound interval have a number? -/
def hasI (i : Iv) (x : Int) : Prop := i.1 ≤ i.2 ∧ (i.1 = -4611686018427387904 ∨ i.1 ≤ x) ∧ (i.2 = 4611686018427387904 ∨ x ≤ i.2)
instance (i : Iv) (x : Int) : Decidable (hasI i x) := by unfold hasI; infer_instance
end Go.Proofs.YtfmmjekhknaniaaDoor.Core

namespace Go.Proofs.YtfmmjekhknaniaaDoor.Given
open Go.RowKit Go.Proofs.YtfmmjekhknaniaaDoor.Pr Go.Proofs.YtfmmjekhknaniaaDoor.Core
attribute [local go_sem high] eqA23

theorem of811 (w : World) : Calls Tryd.prog 10 #[.int .i64 8, .int .i64 11] w fun e w' => e = .returned (.agg #[.bool false, .int .i64 8, .int .i64 3]) ∧ Below w.heap.size w w' :=
  congr_Of.calls 1 8 11 false 8 3 w (by rw [Of_f (by omega) (by omega) (by omega) (by omega) 0]; decide +kernel)
theorem has833 (w : World) : Calls Tryd.prog 14 #[.agg #[.bool false, .int .i64 8, .int .i64 3], .int .i64 (-5)] w fun e w' => e = .returned (.bool true) ∧ Below w.heap.size w w' :=
  congr_Has.calls 8 false 8 3 (-5) true w (by decide +kernel)

def gimballaw31_awake.f : Option Bool := some true
set_option maxRecDepth 100000 in
theorem gimballaw31_awake.calls (r : Bool) (w : World) (h : gimballaw31_awake.f = some r) :
    Calls Tryd.prog 18 #[] w fun e w' => e = .returned (.bool r) ∧ Below w.heap.size w w' := by
  obtain rfl : true = r := Option.some.inj h
  clear h
  have hb0 := Below.refl w.heap.size w
  go_enter Tryd.func18, Tryd.ntmps18
  go_wp2_with (first | (go_at_call 10; with_reducible refine (of811 _).mono ?_; rintro e w' ⟨rfl, hb⟩; replace hb0 := hb0.trans (hb.mono hb0.size); clear hb) | (go_at_call 14; with_reducible refine (has833 _).mono ?_; rintro e w' ⟨rfl, hb⟩; replace hb0 := hb0.trans (hb.mono hb0.size); clear hb) | (go_at_call 16; with_reducible refine (congr_Text.calls false 8 3 _ _ rfl).mono ?_; rintro e w' ⟨rfl, hb⟩; replace hb0 := hb0.trans (hb.mono hb0.size); clear hb))
  go_ret
  exact ⟨rfl, hb0⟩
end Go.Proofs.YtfmmjekhknaniaaDoor.Given

namespace Go.Proofs.YtfmmjekhknaniaaDoor.Lr
open Go.ChangeShapes Go.WideShapes Go.ChangeAt Go.RowKit Go.Deep Go.Proofs.YtfmmjekhknaniaaDoor.Core Go.Proofs.YtfmmjekhknaniaaDoor.Pr Go.Proofs.YtfmmjekhknaniaaDoor.Given Go.Proofs.YtfmmjekhknaniaaDoorW.PrintWords
set_option maxRecDepth 100000

theorem fitB_false {c : Cg} (h : ¬ Fit c) : fitB c = false := by
  cases hb : fitB c with
  | false => rfl
  | true => exact absurd (fitB_iff.mp hb) h
theorem fit_t {c : Cg} (h : Fit c) (h1 : I64 c.2.1) (h2 : I64 c.2.2) (w : World) : Calls Tryd.prog 13 #[.agg #[.bool c.1, .int .i64 c.2.1, .int .i64 c.2.2]] w fun e w' => e = .returned (.bool true) ∧ Below w.heap.size w w' :=
  gimbalref31_Fit.calls 8 _ _ _ _ w (by rw [rFit_f c h1 h2 0, fitB_iff.mpr h])
theorem fit_n {c : Cg} (h : ¬ Fit c) (h1 : I64 c.2.1) (h2 : I64 c.2.2) (w : World) : Calls Tryd.prog 13 #[.agg #[.bool c.1, .int .i64 c.2.1, .int .i64 c.2.2]] w fun e w' => e = .returned (.bool false) ∧ Below w.heap.size w w' :=
  gimbalref31_Fit.calls 8 _ _ _ _ w (by rw [rFit_f c h1 h2 0, fitB_false h])
theorem of_c (i : Iv) (w : World) : Calls Tryd.prog 23 #[.int .i64 i.1, .int .i64 i.2] w fun e w' => e = .returned (.agg #[.int .i64 (ofI i.1 i.2).1, .int .i64 (ofI i.1 i.2).2]) ∧ Below w.heap.size w w' :=
  gimbalref02_Of.calls _ _ _ _ w rfl
theorem of_t {i : Iv} (h : Sound i) (w : World) : Calls Tryd.prog 23 #[.int .i64 i.1, .int .i64 i.2] w fun e w' => e = .returned (.agg #[.int .i64 i.1, .int .i64 i.2]) ∧ Below w.heap.size w w' :=
  gimbalref02_Of.calls _ _ _ _ w (congrArg some (show ofI i.1 i.2 = (i.1, i.2) from h))
theorem unsound {i : Iv} (h : ¬ Sound i) : (i.1 == (ofI i.1 i.2).1 && (i.2 == (ofI i.1 i.2).2)) = false := by
  cases hb : (i.1 == (ofI i.1 i.2).1 && (i.2 == (ofI i.1 i.2).2)) with
  | false => rfl
  | true =>
    simp only [Bool.and_eq_true, beq_iff_eq] at hb
    exact absurd (Prod.ext hb.1.symm hb.2.symm : ofI i.1 i.2 = i) h
theorem aw (w : World) : Calls Tryd.prog 18 #[] w fun e w' => e = .returned (.bool true) ∧ Below w.heap.size w w' := gimballaw31_awake.calls true w rfl

theorem cells38 : Tryd.prog.cellsOf 38 = 2 := by kernel_rfl
theorem read38 : Tryd.prog.readableRec 38 = true := by kernel_rfl
theorem size38 : 38 < Tryd.prog.types.size := of_decide_eq_true (by kernel_rfl)
theorem one38 : oneCellFields Tryd.prog #[⟨"Lo", 2, 0, false, "", "", 0⟩, ⟨"Hi", 2, 1, false, "", "", 8⟩] = true := by kernel_rfl
/-- An interval handed over by value, opened. -/
theorem open_iv {H : Type} {enc : TypeId × Value → H} {W : World} {base : Nat} {v : Value} {d : DataW H} {p : List MemPlace}
    (hval : Value.okWide Tryd.prog W .any base 38 v) (h : DataW.Trod enc Tryd.prog W 0 (fun _ => true) true 38 v d p) :
    ∃ i : Iv, v = .agg #[.int .i64 i.1, .int .i64 i.2] ∧ I64 i.1 ∧ I64 i.2 := by
  obtain ⟨v0, v1, y0, y1, n, rfl, _, _, h0, h1⟩ := Go.Joins.open_agg2 Tryd.underlying38 one38 cells38 hval h
  obtain ⟨m1, hm1, _, w1⟩ := DataW.trod_int Tryd.underlying2 h0
  obtain ⟨m2, hm2, _, w2⟩ := DataW.trod_int Tryd.underlying2 h1
  simp only [List.cons.injEq, and_true] at hm1 hm2
  exact ⟨(m1, m2), by rw [hm1, hm2], i64_of w1, i64_of w2⟩
end Go.Proofs.YtfmmjekhknaniaaDoor.Lr

namespace Go.Proofs.YtfmmjekhknaniaaDoor.Lk
open Go.RowKit Go.Proofs.YtfmmjekhknaniaaDoorW.PrintWords
set_option linter.unusedSimpArgs false

theorem eqA23 (d : Nat) (w : World) (x0 y0 : Bool) (x1 y1 : Int) (x2 y2 : Int) :
    (Op.equalIn (d + 2) 23 (.agg #[.bool x0, .int .i64 x1, .int .i64 x2]) (.agg #[.bool y0, .int .i64 y1, .int .i64 y2])).run Tryd.prog w = .ok (x0 == y0 && (x1 == y1 && (x2 == y2))) w := by
  refine eqA_of Tryd.underlying23 (by kernel_rfl) ?_
  refine eqf_cons (by rfl) (by go_simp; rfl) (by go_simp; rfl) (by go_simp) ?_
  refine eqf_cons (by rfl) (by go_simp; rfl) (by go_simp; rfl) (by go_simp) ?_
  exact eqf_last (by rfl) (by go_simp; rfl) (by go_simp; rfl) (by go_simp)
theorem eqS23 (d : Nat) (w : World) (x0 : Bool) (x1 x2 : Int) :
    (Op.equalIn (d + 2) 23 (.agg #[.bool x0, .int .i64 x1, .int .i64 x2]) (.agg #[.bool x0, .int .i64 x1, .int .i64 x2])).run Tryd.prog w = .ok true w := by
  rw [eqA23]; simp
theorem eqA38 (d : Nat) (w : World) (x0 y0 : Int) (x1 y1 : Int) :
    (Op.equalIn (d + 2) 38 (.agg #[.int .i64 x0, .int .i64 x1]) (.agg #[.int .i64 y0, .int .i64 y1])).run Tryd.prog w = .ok (x0 == y0 && (x1 == y1)) w := by
  refine eqA_of Tryd.underlying38 (by kernel_rfl) ?_
  refine eqf_cons (by rfl) (by go_simp; rfl) (by go_simp; rfl) (by go_simp) ?_
  exact eqf_last (by rfl) (by go_simp; rfl) (by go_simp; rfl) (by go_simp)
theorem eqS38 (d : Nat) (w : World) (x0 x1 : Int) :
    (Op.equalIn (d + 2) 38 (.agg #[.int .i64 x0, .int .i64 x1]) (.agg #[.int .i64 x0, .int .i64 x1])).run Tryd.prog w = .ok true w := by
  rw [eqA38]; simp

/-- The world W is w with more in it, and these cells of W hold these values. -/
def Held (w : World) (L : List (Nat × Nat × Value)) (W : World) : Prop :=
  Below w.heap.size w W ∧ ∀ x ∈ L, x.1 < W.heap.size ∧ W.cell? ⟨x.1, x.2.1, none⟩ = some x.2.2
theorem Held.keep {w W W' : World} {L : List (Nat × Nat × Value)} (hb : Below W.heap.size W W') (h : Held w L W) : Held w L W' :=
  ⟨h.1.trans (hb.mono h.1.size), fun x hx => ⟨Nat.lt_of_lt_of_le (h.2 x hx).1 hb.size, by rw [hb.cell (p := ⟨x.1, x.2.1, none⟩) (h.2 x hx).1]; exact (h.2 x hx).2⟩⟩
theorem Held.drew {w W : World} {L : List (Nat × Nat × Value)} (h : Held w L W) : Held w L W.drew := ⟨h.1.drew, h.2⟩
theorem Held.alloc {w W : World} {L : List (Nat × Nat × Value)} (o : Obj) (h : Held w L W) : Held w L (W.alloc o) :=
  h.keep ((Below.refl _ _).alloc (Nat.le_refl _) o)
theorem Held.cons {w W : World} {L : List (Nat × Nat × Value)} {b o : Nat} {v : Value} (hb : b < W.heap.size) (hc : W.cell? ⟨b, o, none⟩ = some v) (h : Held w L W) : Held w ((b, o, v) :: L) W :=
  ⟨h.1, fun x hx => by
    rcases List.mem_cons.mp hx with rfl | hx
    · exact ⟨hb, hc⟩
    · exact h.2 x hx⟩
theorem Held.open {w W : World} {L : List (Nat × Nat × Value)} (h : Held w L W) : Below w.heap.size w W ∧ ∀ x ∈ L, x.1 < W.heap.size ∧ W.cell? ⟨x.1, x.2.1, none⟩ = some x.2.2 := h
end Go.Proofs.YtfmmjekhknaniaaDoor.Lk

namespace Go.Proofs.YtfmmjekhknaniaaDoor.Ts
open Go.RowKit Lk
set_option linter.unusedSimpArgs false
attribute [local go_sem high] eqS23 eqS38

theorem start3 (w : World) (a0 b0 : Bool) (a1 a2 b1 b2 i1 i2 : Int) (W : World) (hW : W = (((w.alloc (.cells #[.bool a0, .int .i64 a1, .int .i64 a2] 23)).alloc (.cells #[.bool b0, .int .i64 b1, .int .i64 b2] 23)).alloc (.cells #[.int .i64 i1, .int .i64 i2] 38))) : Held w [(w.heap.size, 0, .bool a0), (w.heap.size, 1, .int .i64 a1), (w.heap.size, 2, .int .i64 a2), (w.heap.size + 1, 0, .bool b0), (w.heap.size + 1, 1, .int .i64 b1), (w.heap.size + 1, 2, .int .i64 b2), (w.heap.size + 1 + 1, 0, .int .i64 i1), (w.heap.size + 1 + 1, 1, .int .i64 i2)] W := by
  subst hW
  refine ⟨(((Below.refl _ _).alloc (Nat.le_refl _) _).alloc (by simp) _).alloc (by simp; omega) _, ?_⟩
  simp only [List.forall_mem_cons, List.not_mem_nil, false_implies, implies_true, and_true]
  refine ⟨⟨by simp <;> omega, by go_simp⟩, ⟨by simp <;> omega, by go_simp⟩, ⟨by simp <;> omega, by go_simp⟩, ⟨by simp <;> omega, by go_simp⟩, ⟨by simp <;> omega, by go_simp⟩, ⟨by simp <;> omega, by go_simp⟩, ⟨by simp, by go_simp⟩, ⟨by simp, by go_simp⟩⟩
set_option maxRecDepth 100000 in
set_option maxHeartbeats 8000000 in
theorem unfit_a (op : Int) (a0 b0 : Bool) (a1 a2 b1 b2 i1 i2 : Int)
    (hFa : ∀ w, Calls Tryd.prog 13 #[.agg #[.bool a0, .int .i64 a1, .int .i64 a2]] w fun e w' => e = .returned (.bool false) ∧ Below w.heap.size w w')
    (hAw : ∀ w, Calls Tryd.prog 18 #[] w fun e w' => e = .returned (.bool true) ∧ Below w.heap.size w w') (w : World) :
    Calls Tryd.prog 6 #[.int .i64 op, .agg #[.bool a0, .int .i64 a1, .int .i64 a2], .agg #[.bool b0, .int .i64 b1, .int .i64 b2], .agg #[.int .i64 i1, .int .i64 i2]] w fun e w' => e = .returned (.bool true) ∧ Below w.heap.size w w' := by
  have HFa := Lib.hid hFa
  clear hFa
  have HAw := Lib.hid hAw
  clear hAw
  have hS := start3 w a0 b0 a1 a2 b1 b2 i1 i2 _ rfl
  go_enter Tryd.func6, Tryd.ntmps6
  go_upto_region 1 with fail
  refine wp_region_held_drew (S := (fun w' => Held w [(w.heap.size, 0, .bool a0), (w.heap.size, 1, .int .i64 a1), (w.heap.size, 2, .int .i64 a2), (w.heap.size + 1, 0, .bool b0), (w.heap.size + 1, 1, .int .i64 b1), (w.heap.size + 1, 2, .int .i64 b2), (w.heap.size + 1 + 1, 0, .int .i64 i1), (w.heap.size + 1 + 1, 1, .int .i64 i2)] w')) (by kernel_rfl) (Held.drew hS) (fun hHeld => ?_)
  refine wpAnyH_take (i := 0) (v := .agg #[.bool a0, .int .i64 a1, .int .i64 a2]) rfl (by kernel_rfl) (by kernel_rfl) (by kernel_rfl) (fun _ _ _ h => h) (Or.inl ⟨by rfl, fun w hSw => by simp only [Held, List.forall_mem_cons, List.not_mem_nil, false_implies, implies_true, and_true] at hSw; go_simp⟩) (by assumption) ?_
  try simp only [Act.put, List.setIfInBounds_toArray, List.set_cons_zero, List.set_cons_succ]
  refine wpAnyH_ready (rs := [1]) (by kernel_rfl) (by simp) ?_
  refine AllReadyH.cons rfl (fun K hK => ?_) AllReadyH.nil
  go_simp
  go_at_call 13; with_reducible refine (HFa.out _).mono ?_; rintro e w1 ⟨rfl, hb⟩
  refine hK.out _ _ (Held.keep hb (by assumption)) (fun hHeld => ?_)
  clear hK K hb
  try simp only [Act.put, List.setIfInBounds_toArray, List.set_cons_zero, List.set_cons_succ]
  refine wpAnyH_take (i := 2) (v := .bool true) rfl (by kernel_rfl) (by kernel_rfl) (by kernel_rfl) (fun _ _ _ h => h) (Or.inl ⟨by rfl, fun w hSw => by (try dsimp only at hSw); go_simp⟩) (by assumption) ?_
  try simp only [Act.put, List.setIfInBounds_toArray, List.set_cons_zero, List.set_cons_succ]
  refine wpAnyH_take (i := 3) (v := .bool true) rfl (by kernel_rfl) (by kernel_rfl) (by kernel_rfl) (fun _ _ _ h => h) (Or.inl ⟨by rfl, fun w hSw => by (try dsimp only at hSw); go_simp⟩) (by assumption) ?_
  try simp only [Act.put, List.setIfInBounds_toArray, List.set_cons_zero, List.set_cons_succ]
  refine wpAnyH_take (i := 4) (v := undef) rfl (by kernel_rfl) (by kernel_rfl) (by kernel_rfl) (fun _ _ _ h => h) (Or.inr ⟨by rfl, rfl⟩) (by assumption) ?_
  try simp only [Act.put, List.setIfInBounds_toArray, List.set_cons_zero, List.set_cons_succ]
  refine wpAnyH_ready (rs := [5]) (by kernel_rfl) (by simp) ?_
  refine AllReadyH.cons rfl (fun K hK => ?_) AllReadyH.nil
  go_simp
  refine hK.out _ _ (by assumption) (fun hHeld => ?_)
  clear hK K
  try simp only [Act.put, List.setIfInBounds_toArray, List.set_cons_zero, List.set_cons_succ]
  refine wpAnyH_take (i := 6) (v := undef) rfl (by kernel_rfl) (by kernel_rfl) (by kernel_rfl) (fun _ _ _ h => h) (Or.inr ⟨by rfl, rfl⟩) (by assumption) ?_
  try simp only [Act.put, List.setIfInBounds_toArray, List.set_cons_zero, List.set_cons_succ]
  refine wpAnyH_take (i := 7) (v := .bool true) rfl (by kernel_rfl) (by kernel_rfl) (by kernel_rfl) (fun _ _ _ h => h) (Or.inl ⟨by rfl, fun w hSw => by (try dsimp only at hSw); go_simp⟩) (by assumption) ?_
  try simp only [Act.put, List.setIfInBounds_toArray, List.set_cons_zero, List.set_cons_succ]
  refine wpAnyH_take (i := 8) (v := .bool true) rfl (by kernel_rfl) (by kernel_rfl) (by kernel_rfl) (fun _ _ _ h => h) (Or.inl ⟨by rfl, fun w hSw => by (try dsimp only at hSw); go_simp⟩) (by assumption) ?_
  try simp only [Act.put, List.setIfInBounds_toArray, List.set_cons_zero, List.set_cons_succ]
  refine wpAnyH_take (i := 9) (v := undef) rfl (by kernel_rfl) (by kernel_rfl) (by kernel_rfl) (fun _ _ _ h => h) (Or.inr ⟨by rfl, rfl⟩) (by assumption) ?_
  try simp only [Act.put, List.setIfInBounds_toArray, List.set_cons_zero, List.set_cons_succ]
  refine wpAnyH_take (i := 10) (v := undef) rfl (by kernel_rfl) (by kernel_rfl) (by kernel_rfl) (fun _ _ _ h => h) (Or.inr ⟨by rfl, rfl⟩) (by assumption) ?_
  try simp only [Act.put, List.setIfInBounds_toArray, List.set_cons_zero, List.set_cons_succ]
  refine wpAnyH_take (i := 11) (v := undef) rfl (by kernel_rfl) (by kernel_rfl) (by kernel_rfl) (fun _ _ _ h => h) (Or.inr ⟨by rfl, rfl⟩) (by assumption) ?_
  try simp only [Act.put, List.setIfInBounds_toArray, List.set_cons_zero, List.set_cons_succ]
  refine wpAnyH_take (i := 12) (v := undef) rfl (by kernel_rfl) (by kernel_rfl) (by kernel_rfl) (fun _ _ _ h => h) (Or.inr ⟨by rfl, rfl⟩) (by assumption) ?_
  try simp only [Act.put, List.setIfInBounds_toArray, List.set_cons_zero, List.set_cons_succ]
  refine wpAnyH_take (i := 13) (v := undef) rfl (by kernel_rfl) (by kernel_rfl) (by kernel_rfl) (fun _ _ _ h => h) (Or.inr ⟨by rfl, rfl⟩) (by assumption) ?_
  try simp only [Act.put, List.setIfInBounds_toArray, List.set_cons_zero, List.set_cons_succ]
  refine wpAnyH_ready (rs := [14]) (by kernel_rfl) (by simp) ?_
  refine AllReadyH.cons rfl (fun K hK => ?_) AllReadyH.nil
  go_simp
  refine hK.out _ _ (by assumption) (fun hHeld => ?_)
  clear hK K
  try simp only [Act.put, List.setIfInBounds_toArray, List.set_cons_zero, List.set_cons_succ]
  refine wpAnyH_take (i := 15) (v := undef) rfl (by kernel_rfl) (by kernel_rfl) (by kernel_rfl) (fun _ _ _ h => h) (Or.inr ⟨by rfl, rfl⟩) (by assumption) ?_
  try simp only [Act.put, List.setIfInBounds_toArray, List.set_cons_zero, List.set_cons_succ]
  refine wpAnyH_take (i := 16) (v := .bool true) rfl (by kernel_rfl) (by kernel_rfl) (by kernel_rfl) (fun _ _ _ h => h) (Or.inl ⟨by rfl, fun w hSw => by (try dsimp only at hSw); go_simp⟩) (by assumption) ?_
  try simp only [Act.put, List.setIfInBounds_toArray, List.set_cons_zero, List.set_cons_succ]
  refine wpAnyH_done (by kernel_rfl) ?_ _
  simp only [Act.put, List.getElem_toArray, List.getElem_cons_succ, List.getElem_cons_zero, List.setIfInBounds_toArray, List.set_cons_zero, List.set_cons_succ]
  have hS1 := hHeld
  clear hHeld
  go_wp2_with (first | (go_at_call 18; with_reducible refine (HAw.out _).mono ?_; rintro e w1 ⟨rfl, hb⟩; replace hS1 := Held.keep hb hS1))
  go_ret
  exact ⟨rfl, hS1.1⟩
set_option maxRecDepth 100000 in
set_option maxHeartbeats 8000000 in
theorem unfit_b (op : Int) (a0 b0 : Bool) (a1 a2 b1 b2 i1 i2 : Int)
    (hFa : ∀ w, Calls Tryd.prog 13 #[.agg #[.bool a0, .int .i64 a1, .int .i64 a2]] w fun e w' => e = .returned (.bool true) ∧ Below w.heap.size w w')
    (hFb : ∀ w, Calls Tryd.prog 13 #[.agg #[.bool b0, .int .i64 b1, .int .i64 b2]] w fun e w' => e = .returned (.bool false) ∧ Below w.heap.size w w')
    (hAw : ∀ w, Calls Tryd.prog 18 #[] w fun e w' => e = .returned (.bool true) ∧ Below w.heap.size w w') (w : World) :
    Calls Tryd.prog 6 #[.int .i64 op, .agg #[.bool a0, .int .i64 a1, .int .i64 a2], .agg #[.bool b0, .int .i64 b1, .int .i64 b2], .agg #[.int .i64 i1, .int .i64 i2]] w fun e w' => e = .returned (.bool true) ∧ Below w.heap.size w w' := by
  have HFa := Lib.hid hFa
  clear hFa
  have HFb := Lib.hid hFb
  clear hFb
  have HAw := Lib.hid hAw
  clear hAw
  have hS := start3 w a0 b0 a1 a2 b1 b2 i1 i2 _ rfl
  go_enter Tryd.func6, Tryd.ntmps6
  go_upto_region 1 with fail
  refine wp_region_held_drew (S := (fun w' => Held w [(w.heap.size, 0, .bool a0), (w.heap.size, 1, .int .i64 a1), (w.heap.size, 2, .int .i64 a2), (w.heap.size + 1, 0, .bool b0), (w.heap.size + 1, 1, .int .i64 b1), (w.heap.size + 1, 2, .int .i64 b2), (w.heap.size + 1 + 1, 0, .int .i64 i1), (w.heap.size + 1 + 1, 1, .int .i64 i2)] w')) (by kernel_rfl) (Held.drew hS) (fun hHeld => ?_)
  refine wpAnyH_take (i := 0) (v := .agg #[.bool a0, .int .i64 a1, .int .i64 a2]) rfl (by kernel_rfl) (by kernel_rfl) (by kernel_rfl) (fun _ _ _ h => h) (Or.inl ⟨by rfl, fun w hSw => by simp only [Held, List.forall_mem_cons, List.not_mem_nil, false_implies, implies_true, and_true] at hSw; go_simp⟩) (by assumption) ?_
  try simp only [Act.put, List.setIfInBounds_toArray, List.set_cons_zero, List.set_cons_succ]
  refine wpAnyH_ready (rs := [1]) (by kernel_rfl) (by simp) ?_
  refine AllReadyH.cons rfl (fun K hK => ?_) AllReadyH.nil
  go_simp
  go_at_call 13; with_reducible refine (HFa.out _).mono ?_; rintro e w1 ⟨rfl, hb⟩
  refine hK.out _ _ (Held.keep hb (by assumption)) (fun hHeld => ?_)
  clear hK K hb
  try simp only [Act.put, List.setIfInBounds_toArray, List.set_cons_zero, List.set_cons_succ]
  refine wpAnyH_take (i := 2) (v := .bool false) rfl (by kernel_rfl) (by kernel_rfl) (by kernel_rfl) (fun _ _ _ h => h) (Or.inl ⟨by rfl, fun w hSw => by (try dsimp only at hSw); go_simp⟩) (by assumption) ?_
  try simp only [Act.put, List.setIfInBounds_toArray, List.set_cons_zero, List.set_cons_succ]
  refine wpAnyH_take (i := 3) (v := .bool false) rfl (by kernel_rfl) (by kernel_rfl) (by kernel_rfl) (fun _ _ _ h => h) (Or.inl ⟨by rfl, fun w hSw => by (try dsimp only at hSw); go_simp⟩) (by assumption) ?_
  try simp only [Act.put, List.setIfInBounds_toArray, List.set_cons_zero, List.set_cons_succ]
  refine wpAnyH_take (i := 4) (v := .agg #[.bool b0, .int .i64 b1, .int .i64 b2]) rfl (by kernel_rfl) (by kernel_rfl) (by kernel_rfl) (fun _ _ _ h => h) (Or.inl ⟨by rfl, fun w hSw => by simp only [Held, List.forall_mem_cons, List.not_mem_nil, false_implies, implies_true, and_true] at hSw; go_simp⟩) (by assumption) ?_
  try simp only [Act.put, List.setIfInBounds_toArray, List.set_cons_zero, List.set_cons_succ]
  refine wpAnyH_ready (rs := [5]) (by kernel_rfl) (by simp) ?_
  refine AllReadyH.cons rfl (fun K hK => ?_) AllReadyH.nil
  go_simp
  go_at_call 13; with_reducible refine (HFb.out _).mono ?_; rintro e w1 ⟨rfl, hb⟩
  refine hK.out _ _ (Held.keep hb (by assumption)) (fun hHeld => ?_)
  clear hK K hb
  try simp only [Act.put, List.setIfInBounds_toArray, List.set_cons_zero, List.set_cons_succ]
  refine wpAnyH_take (i := 6) (v := .bool true) rfl (by kernel_rfl) (by kernel_rfl) (by kernel_rfl) (fun _ _ _ h => h) (Or.inl ⟨by rfl, fun w hSw => by (try dsimp only at hSw); go_simp⟩) (by assumption) ?_
  try simp only [Act.put, List.setIfInBounds_toArray, List.set_cons_zero, List.set_cons_succ]
  refine wpAnyH_take (i := 7) (v := .bool true) rfl (by kernel_rfl) (by kernel_rfl) (by kernel_rfl) (fun _ _ _ h => h) (Or.inl ⟨by rfl, fun w hSw => by (try dsimp only at hSw); go_simp⟩) (by assumption) ?_
  try simp only [Act.put, List.setIfInBounds_toArray, List.set_cons_zero, List.set_cons_succ]
  refine wpAnyH_take (i := 8) (v := .bool true) rfl (by kernel_rfl) (by kernel_rfl) (by kernel_rfl) (fun _ _ _ h => h) (Or.inl ⟨by rfl, fun w hSw => by (try dsimp only at hSw); go_simp⟩) (by assumption) ?_
  try simp only [Act.put, List.setIfInBounds_toArray, List.set_cons_zero, List.set_cons_succ]
  refine wpAnyH_take (i := 9) (v := undef) rfl (by kernel_rfl) (by kernel_rfl) (by kernel_rfl) (fun _ _ _ h => h) (Or.inr ⟨by rfl, rfl⟩) (by assumption) ?_
  try simp only [Act.put, List.setIfInBounds_toArray, List.set_cons_zero, List.set_cons_succ]
  refine wpAnyH_take (i := 10) (v := undef) rfl (by kernel_rfl) (by kernel_rfl) (by kernel_rfl) (fun _ _ _ h => h) (Or.inr ⟨by rfl, rfl⟩) (by assumption) ?_
  try simp only [Act.put, List.setIfInBounds_toArray, List.set_cons_zero, List.set_cons_succ]
  refine wpAnyH_take (i := 11) (v := undef) rfl (by kernel_rfl) (by kernel_rfl) (by kernel_rfl) (fun _ _ _ h => h) (Or.inr ⟨by rfl, rfl⟩) (by assumption) ?_
  try simp only [Act.put, List.setIfInBounds_toArray, List.set_cons_zero, List.set_cons_succ]
  refine wpAnyH_take (i := 12) (v := undef) rfl (by kernel_rfl) (by kernel_rfl) (by kernel_rfl) (fun _ _ _ h => h) (Or.inr ⟨by rfl, rfl⟩) (by assumption) ?_
  try simp only [Act.put, List.setIfInBounds_toArray, List.set_cons_zero, List.set_cons_succ]
  refine wpAnyH_take (i := 13) (v := undef) rfl (by kernel_rfl) (by kernel_rfl) (by kernel_rfl) (fun _ _ _ h => h) (Or.inr ⟨by rfl, rfl⟩) (by assumption) ?_
  try simp only [Act.put, List.setIfInBounds_toArray, List.set_cons_zero, List.set_cons_succ]
  refine wpAnyH_ready (rs := [14]) (by kernel_rfl) (by simp) ?_
  refine AllReadyH.cons rfl (fun K hK => ?_) AllReadyH.nil
  go_simp
  refine hK.out _ _ (by assumption) (fun hHeld => ?_)
  clear hK K
  try simp only [Act.put, List.setIfInBounds_toArray, List.set_cons_zero, List.set_cons_succ]
  refine wpAnyH_take (i := 15) (v := undef) rfl (by kernel_rfl) (by kernel_rfl) (by kernel_rfl) (fun _ _ _ h => h) (Or.inr ⟨by rfl, rfl⟩) (by assumption) ?_
  try simp only [Act.put, List.setIfInBounds_toArray, List.set_cons_zero, List.set_cons_succ]
  refine wpAnyH_take (i := 16) (v := .bool true) rfl (by kernel_rfl) (by kernel_rfl) (by kernel_rfl) (fun _ _ _ h => h) (Or.inl ⟨by rfl, fun w hSw => by (try dsimp only at hSw); go_simp⟩) (by assumption) ?_
  try simp only [Act.put, List.setIfInBounds_toArray, List.set_cons_zero, List.set_cons_succ]
  refine wpAnyH_done (by kernel_rfl) ?_ _
  simp only [Act.put, List.getElem_toArray, List.getElem_cons_succ, List.getElem_cons_zero, List.setIfInBounds_toArray, List.set_cons_zero, List.set_cons_succ]
  have hS1 := hHeld
  clear hHeld
  go_wp2_with (first | (go_at_call 18; with_reducible refine (HAw.out _).mono ?_; rintro e w1 ⟨rfl, hb⟩; replace hS1 := Held.keep hb hS1))
  go_ret
  exact ⟨rfl, hS1.1⟩
set_option maxRecDepth 100000 in
set_option maxHeartbeats 8000000 in
theorem unsound (op : Int) (a0 b0 : Bool) (a1 a2 b1 b2 i1 i2 : Int) (o1 o2 : Int) (ho : (i1 == o1 && (i2 == o2)) = false)
    (hFa : ∀ w, Calls Tryd.prog 13 #[.agg #[.bool a0, .int .i64 a1, .int .i64 a2]] w fun e w' => e = .returned (.bool true) ∧ Below w.heap.size w w')
    (hFb : ∀ w, Calls Tryd.prog 13 #[.agg #[.bool b0, .int .i64 b1, .int .i64 b2]] w fun e w' => e = .returned (.bool true) ∧ Below w.heap.size w w')
    (hO : ∀ w, Calls Tryd.prog 23 #[.int .i64 i1, .int .i64 i2] w fun e w' => e = .returned (.agg #[.int .i64 o1, .int .i64 o2]) ∧ Below w.heap.size w w')
    (hAw : ∀ w, Calls Tryd.prog 18 #[] w fun e w' => e = .returned (.bool true) ∧ Below w.heap.size w w') (w : World) :
    Calls Tryd.prog 6 #[.int .i64 op, .agg #[.bool a0, .int .i64 a1, .int .i64 a2], .agg #[.bool b0, .int .i64 b1, .int .i64 b2], .agg #[.int .i64 i1, .int .i64 i2]] w fun e w' => e = .returned (.bool true) ∧ Below w.heap.size w w' := by
  have HFa := Lib.hid hFa
  clear hFa
  have HFb := Lib.hid hFb
  clear hFb
  have HO := Lib.hid hO
  clear hO
  have HAw := Lib.hid hAw
  clear hAw
  have hne : ∀ (d : Nat) (w : World), (Op.equalIn (d + 2) 38 (.agg #[.int .i64 i1, .int .i64 i2]) (.agg #[.int .i64 o1, .int .i64 o2])).run Tryd.prog w = .ok false w := fun d w => by rw [eqA38, ho]
  clear ho
  have hS := start3 w a0 b0 a1 a2 b1 b2 i1 i2 _ rfl
  go_enter Tryd.func6, Tryd.ntmps6
  go_upto_region 1 with fail
  refine wp_region_held_drew (S := (fun w' => Held w [(w.heap.size, 0, .bool a0), (w.heap.size, 1, .int .i64 a1), (w.heap.size, 2, .int .i64 a2), (w.heap.size + 1, 0, .bool b0), (w.heap.size + 1, 1, .int .i64 b1), (w.heap.size + 1, 2, .int .i64 b2), (w.heap.size + 1 + 1, 0, .int .i64 i1), (w.heap.size + 1 + 1, 1, .int .i64 i2)] w')) (by kernel_rfl) (Held.drew hS) (fun hHeld => ?_)
  refine wpAnyH_take (i := 0) (v := .agg #[.bool a0, .int .i64 a1, .int .i64 a2]) rfl (by kernel_rfl) (by kernel_rfl) (by kernel_rfl) (fun _ _ _ h => h) (Or.inl ⟨by rfl, fun w hSw => by simp only [Held, List.forall_mem_cons, List.not_mem_nil, false_implies, implies_true, and_true] at hSw; go_simp⟩) (by assumption) ?_
  try simp only [Act.put, List.setIfInBounds_toArray, List.set_cons_zero, List.set_cons_succ]
  refine wpAnyH_ready (rs := [1]) (by kernel_rfl) (by simp) ?_
  refine AllReadyH.cons rfl (fun K hK => ?_) AllReadyH.nil
  go_simp
  go_at_call 13; with_reducible refine (HFa.out _).mono ?_; rintro e w1 ⟨rfl, hb⟩
  refine hK.out _ _ (Held.keep hb (by assumption)) (fun hHeld => ?_)
  clear hK K hb
  try simp only [Act.put, List.setIfInBounds_toArray, List.set_cons_zero, List.set_cons_succ]
  refine wpAnyH_take (i := 2) (v := .bool false) rfl (by kernel_rfl) (by kernel_rfl) (by kernel_rfl) (fun _ _ _ h => h) (Or.inl ⟨by rfl, fun w hSw => by (try dsimp only at hSw); go_simp⟩) (by assumption) ?_
  try simp only [Act.put, List.setIfInBounds_toArray, List.set_cons_zero, List.set_cons_succ]
  refine wpAnyH_take (i := 3) (v := .bool false) rfl (by kernel_rfl) (by kernel_rfl) (by kernel_rfl) (fun _ _ _ h => h) (Or.inl ⟨by rfl, fun w hSw => by (try dsimp only at hSw); go_simp⟩) (by assumption) ?_
  try simp only [Act.put, List.setIfInBounds_toArray, List.set_cons_zero, List.set_cons_succ]
  refine wpAnyH_take (i := 4) (v := .agg #[.bool b0, .int .i64 b1, .int .i64 b2]) rfl (by kernel_rfl) (by kernel_rfl) (by kernel_rfl) (fun _ _ _ h => h) (Or.inl ⟨by rfl, fun w hSw => by simp only [Held, List.forall_mem_cons, List.not_mem_nil, false_implies, implies_true, and_true] at hSw; go_simp⟩) (by assumption) ?_
  try simp only [Act.put, List.setIfInBounds_toArray, List.set_cons_zero, List.set_cons_succ]
  refine wpAnyH_ready (rs := [5]) (by kernel_rfl) (by simp) ?_
  refine AllReadyH.cons rfl (fun K hK => ?_) AllReadyH.nil
  go_simp
  go_at_call 13; with_reducible refine (HFb.out _).mono ?_; rintro e w1 ⟨rfl, hb⟩
  refine hK.out _ _ (Held.keep hb (by assumption)) (fun hHeld => ?_)
  clear hK K hb
  try simp only [Act.put, List.setIfInBounds_toArray, List.set_cons_zero, List.set_cons_succ]
  refine wpAnyH_take (i := 6) (v := .bool false) rfl (by kernel_rfl) (by kernel_rfl) (by kernel_rfl) (fun _ _ _ h => h) (Or.inl ⟨by rfl, fun w hSw => by (try dsimp only at hSw); go_simp⟩) (by assumption) ?_
  try simp only [Act.put, List.setIfInBounds_toArray, List.set_cons_zero, List.set_cons_succ]
  refine wpAnyH_take (i := 7) (v := .bool false) rfl (by kernel_rfl) (by kernel_rfl) (by kernel_rfl) (fun _ _ _ h => h) (Or.inl ⟨by rfl, fun w hSw => by (try dsimp only at hSw); go_simp⟩) (by assumption) ?_
  try simp only [Act.put, List.setIfInBounds_toArray, List.set_cons_zero, List.set_cons_succ]
  refine wpAnyH_take (i := 8) (v := .bool false) rfl (by kernel_rfl) (by kernel_rfl) (by kernel_rfl) (fun _ _ _ h => h) (Or.inl ⟨by rfl, fun w hSw => by (try dsimp only at hSw); go_simp⟩) (by assumption) ?_
  try simp only [Act.put, List.setIfInBounds_toArray, List.set_cons_zero, List.set_cons_succ]
  refine wpAnyH_take (i := 9) (v := .agg #[.int .i64 i1, .int .i64 i2]) rfl (by kernel_rfl) (by kernel_rfl) (by kernel_rfl) (fun _ _ _ h => h) (Or.inl ⟨by rfl, fun w hSw => by simp only [Held, List.forall_mem_cons, List.not_mem_nil, false_implies, implies_true, and_true] at hSw; go_simp⟩) (by assumption) ?_
  try simp only [Act.put, List.setIfInBounds_toArray, List.set_cons_zero, List.set_cons_succ]
  refine wpAnyH_take (i := 10) (v := .pointer (some ⟨w.heap.size + 1 + 1, 0, none⟩)) rfl (by kernel_rfl) (by kernel_rfl) (by kernel_rfl) (fun _ _ _ h => h) (Or.inl ⟨by rfl, fun w hSw => by (try dsimp only at hSw); go_simp⟩) (by assumption) ?_
  try simp only [Act.put, List.setIfInBounds_toArray, List.set_cons_zero, List.set_cons_succ]
  refine wpAnyH_take (i := 11) (v := .int .i64 i1) rfl (by kernel_rfl) (by kernel_rfl) (by kernel_rfl) (fun _ _ _ h => h) (Or.inl ⟨by rfl, fun w hSw => by simp only [Held, List.forall_mem_cons, List.not_mem_nil, false_implies, implies_true, and_true] at hSw; go_simp⟩) (by assumption) ?_
  try simp only [Act.put, List.setIfInBounds_toArray, List.set_cons_zero, List.set_cons_succ]
  refine wpAnyH_take (i := 12) (v := .pointer (some ⟨w.heap.size + 1 + 1, 1, none⟩)) rfl (by kernel_rfl) (by kernel_rfl) (by kernel_rfl) (fun _ _ _ h => h) (Or.inl ⟨by rfl, fun w hSw => by (try dsimp only at hSw); go_simp⟩) (by assumption) ?_
  try simp only [Act.put, List.setIfInBounds_toArray, List.set_cons_zero, List.set_cons_succ]
  refine wpAnyH_take (i := 13) (v := .int .i64 i2) rfl (by kernel_rfl) (by kernel_rfl) (by kernel_rfl) (fun _ _ _ h => h) (Or.inl ⟨by rfl, fun w hSw => by simp only [Held, List.forall_mem_cons, List.not_mem_nil, false_implies, implies_true, and_true] at hSw; go_simp⟩) (by assumption) ?_
  try simp only [Act.put, List.setIfInBounds_toArray, List.set_cons_zero, List.set_cons_succ]
  refine wpAnyH_ready (rs := [14]) (by kernel_rfl) (by simp) ?_
  refine AllReadyH.cons rfl (fun K hK => ?_) AllReadyH.nil
  go_simp
  go_at_call 23; with_reducible refine (HO.out _).mono ?_; rintro e w1 ⟨rfl, hb⟩
  refine hK.out _ _ (Held.keep hb (by assumption)) (fun hHeld => ?_)
  clear hK K hb
  try simp only [Act.put, List.setIfInBounds_toArray, List.set_cons_zero, List.set_cons_succ]
  refine wpAnyH_take (i := 15) (v := .bool true) rfl (by kernel_rfl) (by kernel_rfl) (by kernel_rfl) (fun _ _ _ h => h) (Or.inl ⟨by rfl, fun w hSw => by (try dsimp only at hSw); go_simp⟩) (by assumption) ?_
  try simp only [Act.put, List.setIfInBounds_toArray, List.set_cons_zero, List.set_cons_succ]
  refine wpAnyH_take (i := 16) (v := .bool true) rfl (by kernel_rfl) (by kernel_rfl) (by kernel_rfl) (fun _ _ _ h => h) (Or.inl ⟨by rfl, fun w hSw => by (try dsimp only at hSw); go_simp⟩) (by assumption) ?_
  try simp only [Act.put, List.setIfInBounds_toArray, List.set_cons_zero, List.set_cons_succ]
  refine wpAnyH_done (by kernel_rfl) ?_ _
  simp only [Act.put, List.getElem_toArray, List.getElem_cons_succ, List.getElem_cons_zero, List.setIfInBounds_toArray, List.set_cons_zero, List.set_cons_succ]
  have hS1 := hHeld
  clear hHeld
  go_wp2_with (first | (go_at_call 18; with_reducible refine (HAw.out _).mono ?_; rintro e w1 ⟨rfl, hb⟩; replace hS1 := Held.keep hb hS1))
  go_ret
  exact ⟨rfl, hS1.1⟩
end Go.Proofs.YtfmmjekhknaniaaDoor.Ts

namespace Go.Proofs.YtfmmjekhknaniaaDoor.Ts
open Go.RowKit Lk
set_option linter.unusedSimpArgs false
attribute [local go_sem high] eqS23 eqS38
set_option maxRecDepth 100000 in
set_option maxHeartbeats 8000000 in
theorem fits (op : Int) (a0 b0 : Bool) (a1 a2 b1 b2 i1 i2 : Int) (u0 v0 c0 : Bool) (u1 u2 v1 v2 c1 c2 j1 j2 : Int)
    (hFa : ∀ w, Calls Tryd.prog 13 #[.agg #[.bool a0, .int .i64 a1, .int .i64 a2]] w fun e w' => e = .returned (.bool true) ∧ Below w.heap.size w w')
    (hFb : ∀ w, Calls Tryd.prog 13 #[.agg #[.bool b0, .int .i64 b1, .int .i64 b2]] w fun e w' => e = .returned (.bool true) ∧ Below w.heap.size w w')
    (hO : ∀ w, Calls Tryd.prog 23 #[.int .i64 i1, .int .i64 i2] w fun e w' => e = .returned (.agg #[.int .i64 i1, .int .i64 i2]) ∧ Below w.heap.size w w')
    (hT : ∀ w, Calls Tryd.prog 24 #[.int .i64 op, .agg #[.bool a0, .int .i64 a1, .int .i64 a2], .agg #[.bool b0, .int .i64 b1, .int .i64 b2]] w fun e w' => e = .returned (.tuple #[.agg #[.bool u0, .int .i64 u1, .int .i64 u2], .agg #[.bool v0, .int .i64 v1, .int .i64 v2]]) ∧ Below w.heap.size w w')
    (hR : ∀ w, Calls Tryd.prog 25 #[.int .i64 op, .agg #[.bool a0, .int .i64 a1, .int .i64 a2], .agg #[.bool b0, .int .i64 b1, .int .i64 b2]] w fun e w' => e = .returned (.tuple #[.agg #[.bool u0, .int .i64 u1, .int .i64 u2], .agg #[.bool v0, .int .i64 v1, .int .i64 v2]]) ∧ Below w.heap.size w w')
    (hG : ∀ w, Calls Tryd.prog 26 #[.agg #[.bool a0, .int .i64 a1, .int .i64 a2], .agg #[.int .i64 i1, .int .i64 i2]] w fun e w' => e = .returned (.tuple #[.agg #[.bool c0, .int .i64 c1, .int .i64 c2], .agg #[.int .i64 j1, .int .i64 j2]]) ∧ Below w.heap.size w w')
    (hH : ∀ w, Calls Tryd.prog 27 #[.agg #[.bool a0, .int .i64 a1, .int .i64 a2], .agg #[.int .i64 i1, .int .i64 i2]] w fun e w' => e = .returned (.tuple #[.agg #[.bool c0, .int .i64 c1, .int .i64 c2], .agg #[.int .i64 j1, .int .i64 j2]]) ∧ Below w.heap.size w w')
    (hAw : ∀ w, Calls Tryd.prog 18 #[] w fun e w' => e = .returned (.bool true) ∧ Below w.heap.size w w') (w : World) :
    Calls Tryd.prog 6 #[.int .i64 op, .agg #[.bool a0, .int .i64 a1, .int .i64 a2], .agg #[.bool b0, .int .i64 b1, .int .i64 b2], .agg #[.int .i64 i1, .int .i64 i2]] w fun e w' => e = .returned (.bool true) ∧ Below w.heap.size w w' := by
  have HFa := Lib.hid hFa
  clear hFa
  have HFb := Lib.hid hFb
  clear hFb
  have HO := Lib.hid hO
  clear hO
  have HT := Lib.hid hT
  clear hT
  have HR := Lib.hid hR
  clear hR
  have HG := Lib.hid hG
  clear hG
  have HH := Lib.hid hH
  clear hH
  have HAw := Lib.hid hAw
  clear hAw
  have hS := start3 w a0 b0 a1 a2 b1 b2 i1 i2 _ rfl
  go_enter Tryd.func6, Tryd.ntmps6
  go_upto_region 1 with fail
  refine wp_region_held_drew (S := (fun w' => Held w [(w.heap.size, 0, .bool a0), (w.heap.size, 1, .int .i64 a1), (w.heap.size, 2, .int .i64 a2), (w.heap.size + 1, 0, .bool b0), (w.heap.size + 1, 1, .int .i64 b1), (w.heap.size + 1, 2, .int .i64 b2), (w.heap.size + 1 + 1, 0, .int .i64 i1), (w.heap.size + 1 + 1, 1, .int .i64 i2)] w')) (by kernel_rfl) (Held.drew hS) (fun hHeld => ?_)
  refine wpAnyH_take (i := 0) (v := .agg #[.bool a0, .int .i64 a1, .int .i64 a2]) rfl (by kernel_rfl) (by kernel_rfl) (by kernel_rfl) (fun _ _ _ h => h) (Or.inl ⟨by rfl, fun w hSw => by simp only [Held, List.forall_mem_cons, List.not_mem_nil, false_implies, implies_true, and_true] at hSw; go_simp⟩) (by assumption) ?_
  try simp only [Act.put, List.setIfInBounds_toArray, List.set_cons_zero, List.set_cons_succ]
  refine wpAnyH_ready (rs := [1]) (by kernel_rfl) (by simp) ?_
  refine AllReadyH.cons rfl (fun K hK => ?_) AllReadyH.nil
  go_simp
  go_at_call 13; with_reducible refine (HFa.out _).mono ?_; rintro e w1 ⟨rfl, hb⟩
  refine hK.out _ _ (Held.keep hb (by assumption)) (fun hHeld => ?_)
  clear hK K hb
  try simp only [Act.put, List.setIfInBounds_toArray, List.set_cons_zero, List.set_cons_succ]
  refine wpAnyH_take (i := 2) (v := .bool false) rfl (by kernel_rfl) (by kernel_rfl) (by kernel_rfl) (fun _ _ _ h => h) (Or.inl ⟨by rfl, fun w hSw => by (try dsimp only at hSw); go_simp⟩) (by assumption) ?_
  try simp only [Act.put, List.setIfInBounds_toArray, List.set_cons_zero, List.set_cons_succ]
  refine wpAnyH_take (i := 3) (v := .bool false) rfl (by kernel_rfl) (by kernel_rfl) (by kernel_rfl) (fun _ _ _ h => h) (Or.inl ⟨by rfl, fun w hSw => by (try dsimp only at hSw); go_simp⟩) (by assumption) ?_
  try simp only [Act.put, List.setIfInBounds_toArray, List.set_cons_zero, List.set_cons_succ]
  refine wpAnyH_take (i := 4) (v := .agg #[.bool b0, .int .i64 b1, .int .i64 b2]) rfl (by kernel_rfl) (by kernel_rfl) (by kernel_rfl) (fun _ _ _ h => h) (Or.inl ⟨by rfl, fun w hSw => by simp only [Held, List.forall_mem_cons, List.not_mem_nil, false_implies, implies_true, and_true] at hSw; go_simp⟩) (by assumption) ?_
  try simp only [Act.put, List.setIfInBounds_toArray, List.set_cons_zero, List.set_cons_succ]
  refine wpAnyH_ready (rs := [5]) (by kernel_rfl) (by simp) ?_
  refine AllReadyH.cons rfl (fun K hK => ?_) AllReadyH.nil
  go_simp
  go_at_call 13; with_reducible refine (HFb.out _).mono ?_; rintro e w1 ⟨rfl, hb⟩
  refine hK.out _ _ (Held.keep hb (by assumption)) (fun hHeld => ?_)
  clear hK K hb
  try simp only [Act.put, List.setIfInBounds_toArray, List.set_cons_zero, List.set_cons_succ]
  refine wpAnyH_take (i := 6) (v := .bool false) rfl (by kernel_rfl) (by kernel_rfl) (by kernel_rfl) (fun _ _ _ h => h) (Or.inl ⟨by rfl, fun w hSw => by (try dsimp only at hSw); go_simp⟩) (by assumption) ?_
  try simp only [Act.put, List.setIfInBounds_toArray, List.set_cons_zero, List.set_cons_succ]
  refine wpAnyH_take (i := 7) (v := .bool false) rfl (by kernel_rfl) (by kernel_rfl) (by kernel_rfl) (fun _ _ _ h => h) (Or.inl ⟨by rfl, fun w hSw => by (try dsimp only at hSw); go_simp⟩) (by assumption) ?_
  try simp only [Act.put, List.setIfInBounds_toArray, List.set_cons_zero, List.set_cons_succ]
  refine wpAnyH_take (i := 8) (v := .bool false) rfl (by kernel_rfl) (by kernel_rfl) (by kernel_rfl) (fun _ _ _ h => h) (Or.inl ⟨by rfl, fun w hSw => by (try dsimp only at hSw); go_simp⟩) (by assumption) ?_
  try simp only [Act.put, List.setIfInBounds_toArray, List.set_cons_zero, List.set_cons_succ]
  refine wpAnyH_take (i := 9) (v := .agg #[.int .i64 i1, .int .i64 i2]) rfl (by kernel_rfl) (by kernel_rfl) (by kernel_rfl) (fun _ _ _ h => h) (Or.inl ⟨by rfl, fun w hSw => by simp only [Held, List.forall_mem_cons, List.not_mem_nil, false_implies, implies_true, and_true] at hSw; go_simp⟩) (by assumption) ?_
  try simp only [Act.put, List.setIfInBounds_toArray, List.set_cons_zero, List.set_cons_succ]
  refine wpAnyH_take (i := 10) (v := .pointer (some ⟨w.heap.size + 1 + 1, 0, none⟩)) rfl (by kernel_rfl) (by kernel_rfl) (by kernel_rfl) (fun _ _ _ h => h) (Or.inl ⟨by rfl, fun w hSw => by (try dsimp only at hSw); go_simp⟩) (by assumption) ?_
  try simp only [Act.put, List.setIfInBounds_toArray, List.set_cons_zero, List.set_cons_succ]
  refine wpAnyH_take (i := 11) (v := .int .i64 i1) rfl (by kernel_rfl) (by kernel_rfl) (by kernel_rfl) (fun _ _ _ h => h) (Or.inl ⟨by rfl, fun w hSw => by simp only [Held, List.forall_mem_cons, List.not_mem_nil, false_implies, implies_true, and_true] at hSw; go_simp⟩) (by assumption) ?_
  try simp only [Act.put, List.setIfInBounds_toArray, List.set_cons_zero, List.set_cons_succ]
  refine wpAnyH_take (i := 12) (v := .pointer (some ⟨w.heap.size + 1 + 1, 1, none⟩)) rfl (by kernel_rfl) (by kernel_rfl) (by kernel_rfl) (fun _ _ _ h => h) (Or.inl ⟨by rfl, fun w hSw => by (try dsimp only at hSw); go_simp⟩) (by assumption) ?_
  try simp only [Act.put, List.setIfInBounds_toArray, List.set_cons_zero, List.set_cons_succ]
  refine wpAnyH_take (i := 13) (v := .int .i64 i2) rfl (by kernel_rfl) (by kernel_rfl) (by kernel_rfl) (fun _ _ _ h => h) (Or.inl ⟨by rfl, fun w hSw => by simp only [Held, List.forall_mem_cons, List.not_mem_nil, false_implies, implies_true, and_true] at hSw; go_simp⟩) (by assumption) ?_
  try simp only [Act.put, List.setIfInBounds_toArray, List.set_cons_zero, List.set_cons_succ]
  refine wpAnyH_ready (rs := [14]) (by kernel_rfl) (by simp) ?_
  refine AllReadyH.cons rfl (fun K hK => ?_) AllReadyH.nil
  go_simp
  go_at_call 23; with_reducible refine (HO.out _).mono ?_; rintro e w1 ⟨rfl, hb⟩
  refine hK.out _ _ (Held.keep hb (by assumption)) (fun hHeld => ?_)
  clear hK K hb
  try simp only [Act.put, List.setIfInBounds_toArray, List.set_cons_zero, List.set_cons_succ]
  refine wpAnyH_take (i := 15) (v := .bool false) rfl (by kernel_rfl) (by kernel_rfl) (by kernel_rfl) (fun _ _ _ h => h) (Or.inl ⟨by rfl, fun w hSw => by (try dsimp only at hSw); go_simp⟩) (by assumption) ?_
  try simp only [Act.put, List.setIfInBounds_toArray, List.set_cons_zero, List.set_cons_succ]
  refine wpAnyH_take (i := 16) (v := .bool false) rfl (by kernel_rfl) (by kernel_rfl) (by kernel_rfl) (fun _ _ _ h => h) (Or.inl ⟨by rfl, fun w hSw => by (try dsimp only at hSw); go_simp⟩) (by assumption) ?_
  try simp only [Act.put, List.setIfInBounds_toArray, List.set_cons_zero, List.set_cons_succ]
  refine wpAnyH_done (by kernel_rfl) ?_ _
  simp only [Act.put, List.getElem_toArray, List.getElem_cons_succ, List.getElem_cons_zero, List.setIfInBounds_toArray, List.set_cons_zero, List.set_cons_succ]
  replace hS := hHeld
  clear hHeld
  go_upto_region 3 with fail
  go_cut [9, 10] (fun s9 s10 wc => ∃ n9 n10 : Nat, s9 = .pointer (some ⟨n9, 0, none⟩) ∧ s10 = .pointer (some ⟨n10, 0, none⟩) ∧ Held w [(n9, 0, .bool u0), (n9, 1, .int .i64 u1), (n9, 2, .int .i64 u2), (n10, 0, .bool v0), (n10, 1, .int .i64 v1), (n10, 2, .int .i64 v2), (w.heap.size, 0, .bool a0), (w.heap.size, 1, .int .i64 a1), (w.heap.size, 2, .int .i64 a2), (w.heap.size + 1, 0, .bool b0), (w.heap.size + 1, 1, .int .i64 b1), (w.heap.size + 1, 2, .int .i64 b2), (w.heap.size + 1 + 1, 0, .int .i64 i1), (w.heap.size + 1 + 1, 1, .int .i64 i2)] wc)
  case first =>
    obtain ⟨kB, kk⟩ := Held.open hS; simp only [List.forall_mem_cons, List.not_mem_nil, false_implies, implies_true, and_true] at kk; obtain ⟨⟨l0, k0⟩, ⟨l1, k1⟩, ⟨l2, k2⟩, ⟨l3, k3⟩, ⟨l4, k4⟩, ⟨l5, k5⟩, ⟨l6, k6⟩, ⟨l7, k7⟩⟩ := kk
    go_wp2_with (go_at_call 24; with_reducible refine (HT.out _).mono ?_; rintro e w1 ⟨rfl, hb⟩; replace hS := Held.keep hb hS; clear hb kB k0 l0 k1 l1 k2 l2 k3 l3 k4 l4 k5 l5 k6 l6 k7 l7; obtain ⟨kB, kk⟩ := Held.open hS; simp only [List.forall_mem_cons, List.not_mem_nil, false_implies, implies_true, and_true] at kk; obtain ⟨⟨l0, k0⟩, ⟨l1, k1⟩, ⟨l2, k2⟩, ⟨l3, k3⟩, ⟨l4, k4⟩, ⟨l5, k5⟩, ⟨l6, k6⟩, ⟨l7, k7⟩⟩ := kk)
    go_meet
    refine ⟨_, _, rfl, rfl, ?_⟩
    refine Held.cons ?_ ?_ (Held.cons ?_ ?_ (Held.cons ?_ ?_ (Held.cons ?_ ?_ (Held.cons ?_ ?_ (Held.cons ?_ ?_ (Held.alloc _ (Held.alloc _ hS)))))))
    all_goals go_simp
  case rest =>
    obtain ⟨n9, n10, rfl, rfl, hS⟩ := hcut
    go_upto_region 4 with fail
    go_cut [11, 12] (fun s11 s12 wc => ∃ n11 n12 : Nat, s11 = .pointer (some ⟨n11, 0, none⟩) ∧ s12 = .pointer (some ⟨n12, 0, none⟩) ∧ Held w [(n11, 0, .bool u0), (n11, 1, .int .i64 u1), (n11, 2, .int .i64 u2), (n12, 0, .bool v0), (n12, 1, .int .i64 v1), (n12, 2, .int .i64 v2), (n9, 0, .bool u0), (n9, 1, .int .i64 u1), (n9, 2, .int .i64 u2), (n10, 0, .bool v0), (n10, 1, .int .i64 v1), (n10, 2, .int .i64 v2), (w.heap.size, 0, .bool a0), (w.heap.size, 1, .int .i64 a1), (w.heap.size, 2, .int .i64 a2), (w.heap.size + 1, 0, .bool b0), (w.heap.size + 1, 1, .int .i64 b1), (w.heap.size + 1, 2, .int .i64 b2), (w.heap.size + 1 + 1, 0, .int .i64 i1), (w.heap.size + 1 + 1, 1, .int .i64 i2)] wc)
    case first =>
      obtain ⟨kB, kk⟩ := Held.open hS; simp only [List.forall_mem_cons, List.not_mem_nil, false_implies, implies_true, and_true] at kk; obtain ⟨⟨l0, k0⟩, ⟨l1, k1⟩, ⟨l2, k2⟩, ⟨l3, k3⟩, ⟨l4, k4⟩, ⟨l5, k5⟩, ⟨l6, k6⟩, ⟨l7, k7⟩, ⟨l8, k8⟩, ⟨l9, k9⟩, ⟨l10, k10⟩, ⟨l11, k11⟩, ⟨l12, k12⟩, ⟨l13, k13⟩⟩ := kk
      go_wp2_with (go_at_call 25; with_reducible refine (HR.out _).mono ?_; rintro e w1 ⟨rfl, hb⟩; replace hS := Held.keep hb hS; clear hb kB k0 l0 k1 l1 k2 l2 k3 l3 k4 l4 k5 l5 k6 l6 k7 l7 k8 l8 k9 l9 k10 l10 k11 l11 k12 l12 k13 l13; obtain ⟨kB, kk⟩ := Held.open hS; simp only [List.forall_mem_cons, List.not_mem_nil, false_implies, implies_true, and_true] at kk; obtain ⟨⟨l0, k0⟩, ⟨l1, k1⟩, ⟨l2, k2⟩, ⟨l3, k3⟩, ⟨l4, k4⟩, ⟨l5, k5⟩, ⟨l6, k6⟩, ⟨l7, k7⟩, ⟨l8, k8⟩, ⟨l9, k9⟩, ⟨l10, k10⟩, ⟨l11, k11⟩, ⟨l12, k12⟩, ⟨l13, k13⟩⟩ := kk)
      go_meet
      refine ⟨_, _, rfl, rfl, ?_⟩
      refine Held.cons ?_ ?_ (Held.cons ?_ ?_ (Held.cons ?_ ?_ (Held.cons ?_ ?_ (Held.cons ?_ ?_ (Held.cons ?_ ?_ (Held.alloc _ (Held.alloc _ hS)))))))
      all_goals go_simp
    case rest =>
      obtain ⟨n11, n12, rfl, rfl, hS⟩ := hcut
      go_upto_region 5 with fail
      go_cut [13, 14] (fun s13 s14 wc => ∃ n13 n14 : Nat, s13 = .pointer (some ⟨n13, 0, none⟩) ∧ s14 = .pointer (some ⟨n14, 0, none⟩) ∧ Held w [(n13, 0, .bool c0), (n13, 1, .int .i64 c1), (n13, 2, .int .i64 c2), (n14, 0, .int .i64 j1), (n14, 1, .int .i64 j2), (n11, 0, .bool u0), (n11, 1, .int .i64 u1), (n11, 2, .int .i64 u2), (n12, 0, .bool v0), (n12, 1, .int .i64 v1), (n12, 2, .int .i64 v2), (n9, 0, .bool u0), (n9, 1, .int .i64 u1), (n9, 2, .int .i64 u2), (n10, 0, .bool v0), (n10, 1, .int .i64 v1), (n10, 2, .int .i64 v2), (w.heap.size, 0, .bool a0), (w.heap.size, 1, .int .i64 a1), (w.heap.size, 2, .int .i64 a2), (w.heap.size + 1, 0, .bool b0), (w.heap.size + 1, 1, .int .i64 b1), (w.heap.size + 1, 2, .int .i64 b2), (w.heap.size + 1 + 1, 0, .int .i64 i1), (w.heap.size + 1 + 1, 1, .int .i64 i2)] wc)
      case first =>
        obtain ⟨kB, kk⟩ := Held.open hS; simp only [List.forall_mem_cons, List.not_mem_nil, false_implies, implies_true, and_true] at kk; obtain ⟨⟨l0, k0⟩, ⟨l1, k1⟩, ⟨l2, k2⟩, ⟨l3, k3⟩, ⟨l4, k4⟩, ⟨l5, k5⟩, ⟨l6, k6⟩, ⟨l7, k7⟩, ⟨l8, k8⟩, ⟨l9, k9⟩, ⟨l10, k10⟩, ⟨l11, k11⟩, ⟨l12, k12⟩, ⟨l13, k13⟩, ⟨l14, k14⟩, ⟨l15, k15⟩, ⟨l16, k16⟩, ⟨l17, k17⟩, ⟨l18, k18⟩, ⟨l19, k19⟩⟩ := kk
        go_wp2_with (go_at_call 26; with_reducible refine (HG.out _).mono ?_; rintro e w1 ⟨rfl, hb⟩; replace hS := Held.keep hb hS; clear hb kB k0 l0 k1 l1 k2 l2 k3 l3 k4 l4 k5 l5 k6 l6 k7 l7 k8 l8 k9 l9 k10 l10 k11 l11 k12 l12 k13 l13 k14 l14 k15 l15 k16 l16 k17 l17 k18 l18 k19 l19; obtain ⟨kB, kk⟩ := Held.open hS; simp only [List.forall_mem_cons, List.not_mem_nil, false_implies, implies_true, and_true] at kk; obtain ⟨⟨l0, k0⟩, ⟨l1, k1⟩, ⟨l2, k2⟩, ⟨l3, k3⟩, ⟨l4, k4⟩, ⟨l5, k5⟩, ⟨l6, k6⟩, ⟨l7, k7⟩, ⟨l8, k8⟩, ⟨l9, k9⟩, ⟨l10, k10⟩, ⟨l11, k11⟩, ⟨l12, k12⟩, ⟨l13, k13⟩, ⟨l14, k14⟩, ⟨l15, k15⟩, ⟨l16, k16⟩, ⟨l17, k17⟩, ⟨l18, k18⟩, ⟨l19, k19⟩⟩ := kk)
        go_meet
        refine ⟨_, _, rfl, rfl, ?_⟩
        refine Held.cons ?_ ?_ (Held.cons ?_ ?_ (Held.cons ?_ ?_ (Held.cons ?_ ?_ (Held.cons ?_ ?_ (Held.alloc _ (Held.alloc _ hS))))))
        all_goals go_simp
      case rest =>
        obtain ⟨n13, n14, rfl, rfl, hS⟩ := hcut
        go_upto_region 6 with fail
        go_cut [15, 16] (fun s15 s16 wc => ∃ n15 n16 : Nat, s15 = .pointer (some ⟨n15, 0, none⟩) ∧ s16 = .pointer (some ⟨n16, 0, none⟩) ∧ Held w [(n15, 0, .bool c0), (n15, 1, .int .i64 c1), (n15, 2, .int .i64 c2), (n16, 0, .int .i64 j1), (n16, 1, .int .i64 j2), (n13, 0, .bool c0), (n13, 1, .int .i64 c1), (n13, 2, .int .i64 c2), (n14, 0, .int .i64 j1), (n14, 1, .int .i64 j2), (n11, 0, .bool u0), (n11, 1, .int .i64 u1), (n11, 2, .int .i64 u2), (n12, 0, .bool v0), (n12, 1, .int .i64 v1), (n12, 2, .int .i64 v2), (n9, 0, .bool u0), (n9, 1, .int .i64 u1), (n9, 2, .int .i64 u2), (n10, 0, .bool v0), (n10, 1, .int .i64 v1), (n10, 2, .int .i64 v2), (w.heap.size, 0, .bool a0), (w.heap.size, 1, .int .i64 a1), (w.heap.size, 2, .int .i64 a2), (w.heap.size + 1, 0, .bool b0), (w.heap.size + 1, 1, .int .i64 b1), (w.heap.size + 1, 2, .int .i64 b2), (w.heap.size + 1 + 1, 0, .int .i64 i1), (w.heap.size + 1 + 1, 1, .int .i64 i2)] wc)
        case first =>
          obtain ⟨kB, kk⟩ := Held.open hS; simp only [List.forall_mem_cons, List.not_mem_nil, false_implies, implies_true, and_true] at kk; obtain ⟨⟨l0, k0⟩, ⟨l1, k1⟩, ⟨l2, k2⟩, ⟨l3, k3⟩, ⟨l4, k4⟩, ⟨l5, k5⟩, ⟨l6, k6⟩, ⟨l7, k7⟩, ⟨l8, k8⟩, ⟨l9, k9⟩, ⟨l10, k10⟩, ⟨l11, k11⟩, ⟨l12, k12⟩, ⟨l13, k13⟩, ⟨l14, k14⟩, ⟨l15, k15⟩, ⟨l16, k16⟩, ⟨l17, k17⟩, ⟨l18, k18⟩, ⟨l19, k19⟩, ⟨l20, k20⟩, ⟨l21, k21⟩, ⟨l22, k22⟩, ⟨l23, k23⟩, ⟨l24, k24⟩⟩ := kk
          go_wp2_with (go_at_call 27; with_reducible refine (HH.out _).mono ?_; rintro e w1 ⟨rfl, hb⟩; replace hS := Held.keep hb hS; clear hb kB k0 l0 k1 l1 k2 l2 k3 l3 k4 l4 k5 l5 k6 l6 k7 l7 k8 l8 k9 l9 k10 l10 k11 l11 k12 l12 k13 l13 k14 l14 k15 l15 k16 l16 k17 l17 k18 l18 k19 l19 k20 l20 k21 l21 k22 l22 k23 l23 k24 l24; obtain ⟨kB, kk⟩ := Held.open hS; simp only [List.forall_mem_cons, List.not_mem_nil, false_implies, implies_true, and_true] at kk; obtain ⟨⟨l0, k0⟩, ⟨l1, k1⟩, ⟨l2, k2⟩, ⟨l3, k3⟩, ⟨l4, k4⟩, ⟨l5, k5⟩, ⟨l6, k6⟩, ⟨l7, k7⟩, ⟨l8, k8⟩, ⟨l9, k9⟩, ⟨l10, k10⟩, ⟨l11, k11⟩, ⟨l12, k12⟩, ⟨l13, k13⟩, ⟨l14, k14⟩, ⟨l15, k15⟩, ⟨l16, k16⟩, ⟨l17, k17⟩, ⟨l18, k18⟩, ⟨l19, k19⟩, ⟨l20, k20⟩, ⟨l21, k21⟩, ⟨l22, k22⟩, ⟨l23, k23⟩, ⟨l24, k24⟩⟩ := kk)
          go_meet
          refine ⟨_, _, rfl, rfl, ?_⟩
          refine Held.cons ?_ ?_ (Held.cons ?_ ?_ (Held.cons ?_ ?_ (Held.cons ?_ ?_ (Held.cons ?_ ?_ (Held.alloc _ (Held.alloc _ hS))))))
          all_goals go_simp
        case rest =>
          obtain ⟨n15, n16, rfl, rfl, hS⟩ := hcut
          obtain ⟨kB, kk⟩ := Held.open hS; simp only [List.forall_mem_cons, List.not_mem_nil, false_implies, implies_true, and_true] at kk; obtain ⟨⟨l0, k0⟩, ⟨l1, k1⟩, ⟨l2, k2⟩, ⟨l3, k3⟩, ⟨l4, k4⟩, ⟨l5, k5⟩, ⟨l6, k6⟩, ⟨l7, k7⟩, ⟨l8, k8⟩, ⟨l9, k9⟩, ⟨l10, k10⟩, ⟨l11, k11⟩, ⟨l12, k12⟩, ⟨l13, k13⟩, ⟨l14, k14⟩, ⟨l15, k15⟩, ⟨l16, k16⟩, ⟨l17, k17⟩, ⟨l18, k18⟩, ⟨l19, k19⟩, ⟨l20, k20⟩, ⟨l21, k21⟩, ⟨l22, k22⟩, ⟨l23, k23⟩, ⟨l24, k24⟩, ⟨l25, k25⟩, ⟨l26, k26⟩, ⟨l27, k27⟩, ⟨l28, k28⟩, ⟨l29, k29⟩⟩ := kk
          go_wp2_with (go_at_call 18; with_reducible refine (HAw.out _).mono ?_; rintro e w1 ⟨rfl, hb⟩; replace hS := Held.keep hb hS)
          go_ret
          exact ⟨rfl, hS.1⟩
end Go.Proofs.YtfmmjekhknaniaaDoor.Ts

namespace Go.Proofs.YtfmmjekhknaniaaDoor.Ts
open Go.ChangeShapes Go.WideShapes Go.ChangeAt Go.RowKit Go.Deep Go.Proofs.YtfmmjekhknaniaaDoor.Core Go.Proofs.YtfmmjekhknaniaaDoor.Pr Go.Proofs.YtfmmjekhknaniaaDoor.Given Lr
set_option maxRecDepth 100000

theorem law (op : Int) (a b : Cg) (i : Iv) (a1 : I64 a.2.1) (a2 : I64 a.2.2) (b1 : I64 b.2.1) (b2 : I64 b.2.2) (w : World) :
    Calls Tryd.prog 6 #[.int .i64 op, .agg #[.bool a.1, .int .i64 a.2.1, .int .i64 a.2.2], .agg #[.bool b.1, .int .i64 b.2.1, .int .i64 b.2.2], .agg #[.int .i64 i.1, .int .i64 i.2]] w fun e w' => e = .returned (.bool true) ∧ Below w.heap.size w w' := by
  by_cases fa : Fit a
  case neg => exact unfit_a op _ _ _ _ _ _ _ _ (fit_n fa a1 a2) aw w
  by_cases fb : Fit b
  case neg => exact unfit_b op _ _ _ _ _ _ _ _ (fit_t fa a1 a2) (fit_n fb b1 b2) aw w
  by_cases fi : Sound i
  case neg => exact unsound op _ _ _ _ _ _ _ _ _ _ (Lr.unsound fi) (fit_t fa a1 a2) (fit_t fb b1 b2) (of_c i) aw w
  obtain ⟨m, hm, em⟩ := Meet_f fa fb
  obtain ⟨m', hm', em'⟩ := rMeet_f fa fb
  obtain rfl := hm.unique hm'
  obtain ⟨kt, ht⟩ := (Test_f op em).rounds
  obtain ⟨kr, hr⟩ := (rTest_f op em').rounds
  exact fits op _ _ _ _ _ _ _ _ _ _ _ _ _ _ _ _ _ _ _ (fit_t fa a1 a2) (fit_t fb b1 b2) (of_t fi)
    (fun w => congr_Test.calls kt _ _ _ _ _ _ _ _ _ _ _ _ _ w ht) (fun w => gimbalref31_Test.calls kr _ _ _ _ _ _ _ _ _ _ _ _ _ w hr)
    (fun w => congr_Tighten.calls 2 _ _ _ _ _ _ _ _ _ _ w (Tighten_f fa fi 0)) (fun w => gimbalref31_Tighten.calls 2 _ _ _ _ _ _ _ _ _ _ w (rTighten_f fa fi 0)) aw w

theorem tests_contract (H : Type) (enc : TypeId × Value → H) (W : World) (base : Nat) (args : Array Value) (ds gs : List (DataW H)) (before : List MemPlace)
    (hval : ∀ (j : Nat) t v, Tryd.f6.params[j]? = some t → args[j]? = some v → Value.okWide Tryd.prog W .any base t v)
    (hW : DataW.Whole enc Tryd.prog Tryd.f6.params.toList Rows.congrTestsSpec.vars false W args.toList ds gs before) (_hL : laidMetH Tryd.prog Rows.congrTestsRow.laid W) :
    Calls Tryd.prog 6 args W fun e W' => ∃ v, e = .returned v ∧ Rows.congrTestsSpec.post enc Tryd.prog Tryd.f6 false true false false W args v W' := by
  have hW' := hW
  have hlt := hW.lt
  obtain ⟨p, q, hA0, hV, rfl, hfz, hnd⟩ := hW
  have hA : DataW.TrodAll enc Tryd.prog W 0 (fun _ => true) true Tryd.f6.params.toList args.toList ds p := hA0
  rw [Tryd.params6] at hA hval
  obtain ⟨v0, v1, v2, v3, d0, d1, d2, d3, p0, p1, p2, p3, rfl, rfl, rfl, h0, h1, h2, h3⟩ := trodAll_four hA
  obtain ⟨rfl, rfl⟩ := trodVars_none hV
  clear hA0
  obtain ⟨op, rfl, rfl, rfl, wx⟩ := open_int Tryd.underlying3 (hval 0 3 v0 rfl rfl) h0
  obtain ⟨a, hv0, i1, i2⟩ := open_cg (hval 1 23 v1 rfl rfl) h1
  subst hv0
  obtain ⟨b, hv1, i3, i4⟩ := open_cg (hval 2 23 v2 rfl rfl) h2
  subst hv1
  obtain ⟨i, hv2, _, _⟩ := open_iv (hval 3 38 v3 rfl rfl) h3
  subst hv2
  refine (law op a b i i1 i2 i3 i4 W).mono fun e W' ⟨he, hb⟩ => ?_
  subst he
  have h1' := hb.trod laidOut read23 size23 h1 (fun y hy => hlt y (by simp [hy]))
  have h2' := hb.trod laidOut read23 size23 h2 (fun y hy => hlt y (by simp [hy]))
  have h3' := hb.trod laidOut read38 size38 h3 (fun y hy => hlt y (by simp [hy]))
  exact ⟨_, rfl, _, _, _, [], _, [], hW', trodAll_mk1 (shut_bool Tryd.underlying4 _), trodAll_mk4 (shut_int Tryd.underlying3 wx) h1' h2' h3', rfl, hb.frame _, fun h => by cases h⟩
noncomputable def congrTests_world (os : Os) : World := World.laidAll Tryd.prog os Rows.congrTestsRow.laid
theorem congrTests_laid_met (os : Os) : laidMet Tryd.prog Rows.congrTestsRow.laid ((congrTests_world os).forCall (fun _ _ => 0) ⟨#[], #[.int .i64 0, .agg #[.bool false, .int .i64 0, .int .i64 0], .agg #[.bool false, .int .i64 0, .int .i64 0], .agg #[.int .i64 0, .int .i64 0]], []⟩).memory :=
  laidMet_laidAll _ (by kernel_rfl) (by kernel_rfl)
theorem congrTests_reads (os : Os) {H : Type} (enc : TypeId × Value → H) : ∃ places, DataW.whole enc Tryd.prog ((congrTests_world os).forCall (fun _ _ => 0) ⟨#[], #[.int .i64 0, .agg #[.bool false, .int .i64 0, .int .i64 0], .agg #[.bool false, .int .i64 0, .int .i64 0], .agg #[.int .i64 0, .int .i64 0]], []⟩).memory Tryd.f6.params.toList Rows.congrTestsSpec.vars false (#[.int .i64 0, .agg #[.bool false, .int .i64 0, .int .i64 0], .agg #[.bool false, .int .i64 0, .int .i64 0], .agg #[.int .i64 0, .int .i64 0]] : Array Value).toList 8 = some ([.lit (.int .i64 0), .agg [.lit (.bool false), .lit (.int .i64 0), .lit (.int .i64 0)], .agg [.lit (.bool false), .lit (.int .i64 0), .lit (.int .i64 0)], .agg [.lit (.int .i64 0), .lit (.int .i64 0)]], [], places) :=
  ⟨[], by kernel_rfl⟩
theorem congrTests_lifted (os : Os) (started : os.Started) (H : Type) (enc : TypeId × Value → H) (F : Stop.Interp) :
    ReturnsInHanded {} Tryd.checked os 6 .any ((OpenSpec.ofChange Rows.congrTestsSpec).preRow enc Tryd.prog Tryd.f6 Rows.congrTestsRow.domain false Rows.congrTestsRow.laid) (((OpenSpec.ofChange Rows.congrTestsSpec).at F).post enc Tryd.prog Tryd.f6 false true false false) := by
  obtain ⟨places, hx⟩ := congrTests_reads os enc
  refine returnsInHanded_of_row (C := Tryd.checked) (s := OpenSpec.ofChange Rows.congrTestsSpec) own started (by kernel_rfl) Tryd.func6
    (witness_row_at (enc := enc) (C := Tryd.checked) false (congrTests_world os) #[.int .i64 0, .agg #[.bool false, .int .i64 0, .int .i64 0], .agg #[.bool false, .int .i64 0, .int .i64 0], .agg #[.int .i64 0, .int .i64 0]] (World.laidAll_os _ _ _) (by kernel_rfl) (by kernel_rfl) (by kernel_rfl)
      (OpenSpec.preRow_of_cond 8 hx (by kernel_rfl) (fun k hk => by cases hk) (by kernel_rfl) (congrTests_laid_met os))) ?_
  intro W base args ds gs before hval hW _ _ _ hL _ _
  exact tests_contract H enc W base args ds gs before hval hW hL
theorem congrTests_said : Rows.CongrTestsSaid :=
  OpenClaim.holds_of_cond 6 Tryd.f6 rfl rfl rfl rfl rfl rfl rfl ⟨rfl, rfl, rfl, rfl, rfl⟩ rfl rfl rfl rfl rfl (by kernel_rfl) Tryd.func6 (by kernel_rfl)
    (of_decide_eq_true (by kernel_rfl)) (by unfold Func.isWrapper; first | (rw [if_pos (by decide +kernel)]; kernel_rfl) | (rw [if_neg (by decide +kernel)]; exact ⟨rfl, rfl⟩))
    (fun os started H enc _ F => by rw [OpenClaim.pre_eq_preRow]; exact congrTests_lifted os started H enc F)
theorem congrTests_plain (f : FuncId) (fn : Func) (hf : Tryd.pinned.checked.prog.funcNamed "gimbal/gimballaw31.CongrTests" = some f) (hfn : Tryd.pinned.checked.prog.funcs[f]? = some fn) :
    false = Tryd.pinned.checked.prog.looks [] ∧ ∀ (j : Nat) t, fn.params[j]? = some t → Tryd.pinned.checked.prog.wantsStandIn t = false := by
  obtain rfl : f = 6 := Option.some.inj ((show Tryd.prog.funcNamed "gimbal/gimballaw31.CongrTests" = some 6 by kernel_rfl).symm.trans hf) |>.symm
  obtain rfl : fn = Tryd.f6 := (Option.some.inj (Tryd.func6.symm.trans hfn)).symm
  refine ⟨by kernel_rfl, fun j t ht => ?_⟩
  rw [Tryd.params6] at ht
  have hts : t = 3 ∨ t = 23 ∨ t = 38 := by simpa using Array.mem_of_getElem? ht
  rcases hts with rfl | rfl | rfl
  · exact (show Tryd.prog.wantsStandIn 3 = false by kernel_rfl)
  · exact (show Tryd.prog.wantsStandIn 23 = false by kernel_rfl)
  · exact (show Tryd.prog.wantsStandIn 38 = false by kernel_rfl)

/-- The card. -/
theorem congrTests_card : Rows.CongrTestsCardSaid :=
  Claim7.holds_tied_plain_at .later [] _ _ _ _ congrTests_said (fun _ h => by cases h) (by kernel_rfl) (fun _ h => by cases h) congrTests_row_tie rfl ⟨rfl, rfl⟩ (by kernel_rfl) rfl congrTests_plain (by kernel_rfl)
end Go.Proofs.YtfmmjekhknaniaaDoor.Ts
namespace Go.Proofs.YtfmmjekhknaniaaDoor
theorem CongrTests_holds : Rows.CongrTestsCardSaid := Ts.congrTests_card
end Go.Proofs.YtfmmjekhknaniaaDoor

