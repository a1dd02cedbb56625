/- This claim's own texts, joined, with only what the claim uses: Hx30, Hx56, Hx57, FnD, FnE, FnF, FnG, FnH, Awake, LawR, LawK. -/
import Derived.Test.YtfmmjekhknaniaaDoorReckP4
import Derived.Test.YtfmmjekhknaniaaDoorReckP6
import Derived.Test.YtfmmjekhknaniaaDoorReckP3
import Derived.Test.YtfmmjekhknaniaaDoorProg
import Derived.Deep.DeepCutAuto
import Derived.Below
import Derived.WalkKit
import Derived.Tactics
import Derived.Lib.Hide
import Derived.LoopTactic
import Derived.Deep.RegionHeld3
import Derived.Outline
namespace Go.Proofs.YtfmmjekhknaniaaDoor.Pr
open Go.RowKit Go.Proofs.YtfmmjekhknaniaaDoor.Given Go.Proofs.YtfmmjekhknaniaaDoorW.PrintWords Go.Proofs.YtfmmjekhknaniaaDoorW.PrintLast Go.Proofs.YtfmmjekhknaniaaDoorW.PrintMore
attribute [local go_sem] max2_int min2_int max_two min_two max_three min_three max_four min_four   -- for this text's walks alone
set_option linter.unusedVariables false
set_option linter.unusedSimpArgs false

mutual
def gimbalref31_Meet.j0 : Nat → Bool → Bool → Int → Int → Bool → Int → Int → Option (Bool × Int × Int)
 | 0, _, _, _, _, _, _, _ => none
 | k + 1, x15, x247000, x247001, x247002, x248000, x248001, x248002 => if x15 = true then ((gimbalref31_None.f).bind fun bt249 => (some (bt249.1, bt249.2.1, bt249.2.2))) else (if x247001 < x248001 then (gimbalref31_Meet.j1 k x248000 x248001 x248002 x247000 x247001 x247002) else (gimbalref31_Meet.j1 k x247000 x247001 x247002 x248000 x248001 x248002))
def gimbalref31_Meet.j1 : Nat → Bool → Int → Int → Bool → Int → Int → Option (Bool × Int × Int)
 | 0, _, _, _, _, _, _ => none
 | k + 1, x247000, x247001, x247002, x248000, x248001, x248002 => if x248001 = 0 then ((gimbalref31_Has.f k x247000 x247001 x247002 x248002).bind fun t252 => (if t252 = true then (some (x248000, x248001, x248002)) else ((gimbalref31_None.f).bind fun bt253 => (some (bt253.1, bt253.2.1, bt253.2.2))))) else ((gimbalref31_size.f x247001).bind fun t256 => ((gimbalref31_size.f x248001).bind fun t257 => ((gimbalref31_gcd.f k t256 t257).bind fun t258 => ((gimbalref31_size.f (wrap64 (x247002 - x248002))).bind fun t259 => (if t258 = 0 then (none) else (if (Int.tmod t259 t258) = 0 then ((gimbalref31_size.f x248001).bind fun t263 => ((gimbalref31_size.f x247001).bind fun t264 => (if (IntKind.u64.wrap (Int.tdiv t263 t258)) = 0 then (none) else (if (wrap64 (t258)) = 0 then (none) else (if (wrap64 (IntKind.u64.wrap (Int.tdiv t263 t258))) = 0 then (none) else (if (Int.tmod (wrap64 (Int.tdiv (wrap64 (x248002 - x247002)) (wrap64 (t258)))) (wrap64 (IntKind.u64.wrap (Int.tdiv t263 t258)))) < 0 then (gimbalref31_Meet.j2 k t258 (IntKind.u64.wrap (Int.tdiv t263 t258)) (Int.tmod (IntKind.u64.wrap (Int.tdiv t264 t258)) (IntKind.u64.wrap (Int.tdiv t263 t258))) (wrap64 ((Int.tmod (wrap64 (Int.tdiv (wrap64 (x248002 - x247002)) (wrap64 (t258)))) (wrap64 (IntKind.u64.wrap (Int.tdiv t263 t258)))) + (wrap64 (IntKind.u64.wrap (Int.tdiv t263 t258))))) x247000 x247001 x247002 x248000 x248001 x248002) else (gimbalref31_Meet.j2 k t258 (IntKind.u64.wrap (Int.tdiv t263 t258)) (Int.tmod (IntKind.u64.wrap (Int.tdiv t264 t258)) (IntKind.u64.wrap (Int.tdiv t263 t258))) (Int.tmod (wrap64 (Int.tdiv (wrap64 (x248002 - x247002)) (wrap64 (t258)))) (wrap64 (IntKind.u64.wrap (Int.tdiv t263 t258)))) x247000 x247001 x247002 x248000 x248001 x248002))))))) else ((gimbalref31_None.f).bind fun bt260 => (some (bt260.1, bt260.2.1, bt260.2.2)))))))))
def gimbalref31_Meet.j2 : Nat → Int → Int → Int → Int → Bool → Int → Int → Bool → Int → Int → Option (Bool × Int × Int)
 | 0, _, _, _, _, _, _, _, _, _, _ => none
 | k + 1, x5, x6, x7, x8, x247000, x247001, x247002, x248000, x248001, x248002 => if x6 > 1 then ((gimbalref31_inverse.f k x7 x6).bind fun t265 => ((gimbalref31_times.f (IntKind.u64.wrap (x8)) t265 x6).bind fun t266 => (gimbalref31_Meet.j3 k x5 t266 x247000 x247001 x247002 x248000 x248001 x248002))) else (gimbalref31_Meet.j3 k x5 0 x247000 x247001 x247002 x248000 x248001 x248002)
def gimbalref31_Meet.j3 : Nat → Int → Int → Bool → Int → Int → Bool → Int → Int → Option (Bool × Int × Int)
 | 0, _, _, _, _, _, _, _, _ => none
 | k + 1, x5, x9, x247000, x247001, x247002, x248000, x248001, x248002 => (gimbalref31_size.f x247001).bind fun t267 => (if x5 = 0 then (none) else ((gimbalref31_size.f x248001).bind fun t268 => ((gimbalref31_size.f x247002).bind fun t269 => ((gimbalref31_size.f x247001).bind fun t270 => ((gimbalref31_class.f k (IntKind.u64.wrap ((IntKind.u64.wrap (Int.tdiv t267 x5)) * t268)) (IntKind.u64.wrap (t269 + (IntKind.u64.wrap (t270 * x9)))) false).bind fun bt271 => (some (bt271.1, bt271.2.1, bt271.2.2)))))))
end
def gimbalref31_Meet.f (k : Nat) (a0_0 : Bool) (a0_1 : Int) (a0_2 : Int) (a1_0 : Bool) (a1_1 : Int) (a1_2 : Int) : Option (Bool × Int × Int) := if a0_0 = true then (gimbalref31_Meet.j0 k true a0_0 a0_1 a0_2 a1_0 a1_1 a1_2) else (gimbalref31_Meet.j0 k a1_0 a0_0 a0_1 a0_2 a1_0 a1_1 a1_2)
def gimbalref31_Meet.T9 : Bool × List (List Nat × List Nat) := (true, [([], []), ([0], [0]), ([1], [1]), ([], []), ([3], [3]), ([4, 2], [4]), ([2, 5, 5], [2, 5]), ([6, 6, 0, 1, 2, 3, 4, 5, 6], [6])])
def gimbalref31_Meet.B9 : List Nat := [0, 1, 3, 0, 8, 31, 63, 127]
theorem gimbalref31_Meet.tab9 : rtab .any (opsOf Tryd.f30 9) = gimbalref31_Meet.T9 := by kernel_rfl
theorem gimbalref31_Meet.bits9 : waitsOk gimbalref31_Meet.T9.2 gimbalref31_Meet.B9 = true := by kernel_rfl
def gimbalref31_Meet.T20 : Bool × List (List Nat × List Nat) := (true, [([], []), ([0], [0]), ([1], [1]), ([], []), ([2, 3], [2, 3]), ([], []), ([5], [5]), ([6, 2], [6]), ([4, 7], [4, 7]), ([], []), ([9], [9]), ([10, 7], [10]), ([], []), ([12], [12]), ([13, 11], [13]), ([], []), ([14, 15], [14, 15]), ([11, 16], [11, 16]), ([8, 17, 14], [8, 17]), ([18, 18, 0, 1, 2, 3, 4, 5, 6, 7, 8, 9, 10, 11, 12, 13, 14, 15, 16, 17, 18], [18])])
def gimbalref31_Meet.B20 : List Nat := [0, 1, 3, 0, 15, 0, 32, 103, 255, 0, 512, 1767, 0, 4096, 16103, 0, 65255, 130791, 262143, 524287]
theorem gimbalref31_Meet.tab20 : rtab .any (opsOf Tryd.f30 20) = gimbalref31_Meet.T20 := by kernel_rfl
theorem gimbalref31_Meet.bits20 : waitsOk gimbalref31_Meet.T20.2 gimbalref31_Meet.B20 = true := by kernel_rfl
set_option maxHeartbeats 8000000 in
set_option maxRecDepth 100000 in
theorem gimbalref31_Meet.calls (k : Nat) (a0_0 : Bool) (a0_1 : Int) (a0_2 : Int) (a1_0 : Bool) (a1_1 : Int) (a1_2 : Int) (r1 : Bool) (r2 : Int) (r3 : Int) (w : World) (h : gimbalref31_Meet.f k a0_0 a0_1 a0_2 a1_0 a1_1 a1_2 = some (r1, r2, r3)) :
  Calls Tryd.prog 30 #[.agg #[.bool a0_0, .int .i64 a0_1, .int .i64 a0_2], .agg #[.bool a1_0, .int .i64 a1_1, .int .i64 a1_2]] w fun e w' => e = .returned (.agg #[.bool r1, .int .i64 r2, .int .i64 r3]) ∧ Below w.heap.size w w' := by
 have hu23 := Tryd.underlying23
 have HB := Aside0.mk (Below.refl w.heap.size w)
 have H : (if a0_0 = true then (gimbalref31_Meet.j0 k true a0_0 a0_1 a0_2 a1_0 a1_1 a1_2) else (gimbalref31_Meet.j0 k a1_0 a0_0 a0_1 a0_2 a1_0 a1_1 a1_2)) = some (r1, r2, r3) := h
 clear h
 have HC3 := Aside0.mk H
 clear H
 go_enter Tryd.func30, Tryd.ntmps30
 go_upto_region 1 with (first | ((with_reducible refine gate_dst (N := 2) rfl ?_); refine box_event ?hg (N := 2) ?hd (cs := #[.bool a0_0, .int .i64 a0_1, .int .i64 a0_2]) (t := 23) ?hr ?_; (case hd => rfl); (case hg => rfl); (case hr => first | (go_simp; done) | (go_simp; rfl)); intro gb246 hg w4 hbox hb; have n0_ := kW HB hb; have n1_ := Aside0.mk (hbox); have n2_ := Aside0.mk ((by rw [hg]; exact (below_size (bS HB)) : w.heap.size ≤ gb246)); have n3_ := Aside0.mk ((by rw [hg]; exact (below_size (bS HB)) : w.heap.size ≤ gb246)); clear HB; have HB := n0_; have BK246 := n1_; have GW246 := n2_; have GE246 := n3_; clear n0_ n1_ n2_ n3_; clear hb hbox hg) | ((with_reducible refine gate_dst (N := 3) rfl ?_); refine box_event ?hg (N := 3) ?hd (cs := #[.bool a1_0, .int .i64 a1_1, .int .i64 a1_2]) (t := 23) ?hr ?_; (case hd => rfl); (case hg => rfl); (case hr => first | (go_simp; done) | (go_simp; rfl)); intro gb247 hg w5 hbox hb; have n0_ := kB BK246 hb; have n1_ := kW HB hb; have n2_ := Aside0.mk (hbox); have n3_ := Aside0.mk ((by rw [hg]; exact (below_size (bS HB)) : w.heap.size ≤ gb247)); have n4_ := Aside0.mk ((by rw [hg]; exact (below_size (bS HB)) : w.heap.size ≤ gb247)); have n5_ := Aside0.mk ((by rw [hg]; exact Nat.ne_of_lt (blk_lt (bkS BK246)) : gb246 ≠ gb247)); have n6_ := Aside0.mk ((by rw [hg]; exact Nat.ne_of_gt (blk_lt (bkS BK246)) : gb247 ≠ gb246)); clear BK246; clear HB; have BK246 := n0_; have HB := n1_; have BK247 := n2_; have GW247 := n3_; have GE247 := n4_; have NB246_247 := n5_; have NB247_246 := n6_; clear n0_ n1_ n2_ n3_ n4_ n5_ n6_; clear hb hbox hg) | ((with_reducible refine gate_dst (N := 4) rfl ?_); refine box_event ?hg (N := 4) ?hd (cs := #[.bool false, .int .i64 0, .int .i64 0]) (t := 23) ?hr ?_; (case hd => rfl); (case hg => rfl); (case hr => first | (go_simp; done) | (go_simp; rfl)); intro gb248 hg w6 hbox hb; have n0_ := kB BK246 hb; have n1_ := kB BK247 hb; have n2_ := kW HB hb; have n3_ := Aside0.mk (hbox); have n4_ := Aside0.mk ((by rw [hg]; exact (below_size (bS HB)) : w.heap.size ≤ gb248)); have n5_ := Aside0.mk ((by rw [hg]; exact (below_size (bS HB)) : w.heap.size ≤ gb248)); have n6_ := Aside0.mk ((by rw [hg]; exact Nat.ne_of_lt (blk_lt (bkS BK246)) : gb246 ≠ gb248)); have n7_ := Aside0.mk ((by rw [hg]; exact Nat.ne_of_gt (blk_lt (bkS BK246)) : gb248 ≠ gb246)); have n8_ := Aside0.mk ((by rw [hg]; exact Nat.ne_of_lt (blk_lt (bkS BK247)) : gb247 ≠ gb248)); have n9_ := Aside0.mk ((by rw [hg]; exact Nat.ne_of_gt (blk_lt (bkS BK247)) : gb248 ≠ gb247)); clear BK246; clear BK247; clear HB; have BK246 := n0_; have BK247 := n1_; have HB := n2_; have BK248 := n3_; have GW248 := n4_; have GE248 := n5_; have NB246_248 := n6_; have NB248_246 := n7_; have NB247_248 := n8_; have NB248_247 := n9_; clear n0_ n1_ n2_ n3_ n4_ n5_ n6_ n7_ n8_ n9_; clear hb hbox hg))
 (try simp only [Act.put, lA, lB, lC])
 go_cut [15] (fun v15 wc => ∃ (kq : Nat) (x15_2 : Bool), v15 = .bool x15_2 ∧ Aside0 (gimbalref31_Meet.j0 kq x15_2 a0_0 a0_1 a0_2 a1_0 a1_1 a1_2 = some (r1, r2, r3)) ∧ Aside0 (kq ≤ k) ∧ Aside0 (wc.heap[gb246]? = some (.cells #[.bool a0_0, .int .i64 a0_1, .int .i64 a0_2] 23 (0, 0))) ∧ Aside0 (wc.heap[gb247]? = some (.cells #[.bool a1_0, .int .i64 a1_1, .int .i64 a1_2] 23 (0, 0))) ∧ Aside0 (wc.heap[gb248]? = some (.cells #[.bool false, .int .i64 0, .int .i64 0] 23 (0, 0))) ∧ Aside0 (Below w.heap.size w wc))
 case first =>
  have H := HC3.out
  clear HC3
  by_cases c7 : a0_0 = true
  ·
   subst c7
   have H1 : (gimbalref31_Meet.j0 k true true a0_1 a0_2 a1_0 a1_1 a1_2) = some (r1, r2, r3) := by rw [if_pos rfl] at H; exact H
   clear H
   have H := H1
   clear H1
   have H' := Aside0.mk H
   clear H
   have hnb8 := NB246_247.out
   have hnc8 := NB247_246.out
   have hnb9 := NB246_248.out
   have hnc9 := NB248_246.out
   have hcz10_0 := cz0 BK246
   have hcz10_1 := cz1 BK246
   have hcz10_2 := cz2 BK246
   have hfz10_0 := fz BK246 0
   have hfz10_1 := fz BK246 1
   have hfz10_2 := fz BK246 2
   go_wp2
   go_meet
   case rel => exact ⟨_, (true), (by first | rfl | (simp; done) | (simp [*]; done)), H', ⟨by first | omega | exact Nat.le_refl _⟩, ⟨bkS BK246⟩, ⟨bkS BK247⟩, ⟨bkS BK248⟩, ⟨bS HB⟩⟩
  ·
   replace c7 := Bool.eq_false_iff.mpr c7
   subst c7
   have H1 : (gimbalref31_Meet.j0 k a1_0 false a0_1 a0_2 a1_0 a1_1 a1_2) = some (r1, r2, r3) := by rw [if_neg (show ¬ (false = true) by decide)] at H; exact H
   clear H
   have H := H1
   clear H1
   have H' := Aside0.mk H
   clear H
   have hnb11 := NB246_247.out
   have hnc11 := NB247_246.out
   have hnb12 := NB246_248.out
   have hnc12 := NB248_246.out
   have hcz13_0 := cz0 BK246
   have hcz13_1 := cz1 BK246
   have hcz13_2 := cz2 BK246
   have hfz13_0 := fz BK246 0
   have hfz13_1 := fz BK246 1
   have hfz13_2 := fz BK246 2
   have hnb14 := NB247_248.out
   have hnc14 := NB248_247.out
   have hcz15_0 := cz0 BK247
   have hcz15_1 := cz1 BK247
   have hcz15_2 := cz2 BK247
   have hfz15_0 := fz BK247 0
   have hfz15_1 := fz BK247 1
   have hfz15_2 := fz BK247 2
   go_wp2
   go_meet
   case rel => exact ⟨_, (a1_0), (by first | rfl | (simp; done) | (simp [*]; done)), H', ⟨by first | omega | exact Nat.le_refl _⟩, ⟨bkS BK246⟩, ⟨bkS BK247⟩, ⟨bkS BK248⟩, ⟨bS HB⟩⟩
 case rest =>
  clear HC3
  try clear c1
  try clear p2
  try clear c3
  try clear c7
  try clear c8
  try clear c9
  try clear c11
  try clear c12
  try clear c14
  try clear hcz10_0
  try clear hcz10_1
  try clear hcz10_2
  try clear hcz13_0
  try clear hcz13_1
  try clear hcz13_2
  try clear hcz15_0
  try clear hcz15_1
  try clear hcz15_2
  try clear hfz10_0
  try clear hfz10_1
  try clear hfz10_2
  try clear hfz13_0
  try clear hfz13_1
  try clear hfz13_2
  try clear hfz15_0
  try clear hfz15_1
  try clear hfz15_2
  obtain ⟨kq, x15_2, rfl, HA, HJ2, BK246, BK247, BK248, HB⟩ := hcut
  cases kq with
  | zero => exact absurd HA.out (by simp [gimbalref31_Meet.j0])
  | succ kj2 =>
   have H := HA.out
   clear HA
   simp only [gimbalref31_Meet.j0] at H
   by_cases c16 : x15_2 = true
   ·
    subst c16
    have H1 : ((gimbalref31_None.f).bind fun bt249 => (some (bt249.1, bt249.2.1, bt249.2.2))) = some (r1, r2, r3) := by rw [if_pos rfl] at H; exact H
    clear H
    have H := H1
    clear H1
    replace H := Option.bind_eq_some_iff.mp H
    obtain ⟨⟨t249, t250, t251⟩, A170, H⟩ := H
    replace H : (some (t249, t250, t251)) = some (r1, r2, r3) := H
    have A17 := Aside0.mk A170
    clear A170
    simp only [Option.some.injEq, Prod.mk.injEq] at H
    obtain ⟨rfl, rfl, rfl⟩ := H
    go_wp2_with (first | ((with_reducible refine gate_callee (f := 69) rfl ?_); refine goesL_ (some 16) rfl rfl Tryd.func69 (by kernel_rfl) rfl #[] rfl mS ?_; (with_reducible refine (gimbalref31_None.calls  t249 t250 t251 _ A17.out).mono ?_); rintro e w18 ⟨rfl, hb⟩; refine ⟨_, rfl, ?_⟩; replace BK246 := kB BK246 hb; replace BK247 := kB BK247 hb; replace BK248 := kB BK248 hb; replace HB := kW HB hb; (try clear hb); (try clear hb2); (try clear hk); (try clear hi); have hnb19 := NB248_246.out; have hnc19 := NB246_248.out; have hnb20 := NB248_247.out; have hnc20 := NB247_248.out; have hcz21_0 := cz0 BK248; have hcz21_1 := cz1 BK248; have hcz21_2 := cz2 BK248; have hfz21_0 := fz BK248 0; have hfz21_1 := fz BK248 1; have hfz21_2 := fz BK248 2))
    refine bodyPost_ret (results_cell_row rfl _ _ gb248 23 #[.bool t249, .int .i64 t250, .int .i64 t251] (0, 0) _ rfl (by (with_reducible repeat (first | refine b1 ?_ _ | refine b2 ?_ | refine b3 ?_ _)); refine blk_put (cs := #[.bool t249, .int .i64 t250, .int .i64 0]) ?_ 2 _ rfl; (with_reducible repeat (first | refine b1 ?_ _ | refine b2 ?_ | refine b3 ?_ _)); refine blk_put (cs := #[.bool t249, .int .i64 0, .int .i64 0]) ?_ 1 _ rfl; (with_reducible repeat (first | refine b1 ?_ _ | refine b2 ?_ | refine b3 ?_ _)); refine blk_put (cs := #[.bool false, .int .i64 0, .int .i64 0]) ?_ 0 _ rfl; (with_reducible repeat (first | refine b1 ?_ _ | refine b2 ?_ | refine b3 ?_ _)); exact BK248.out) Tryd.underlying23 rfl (by kernel_rfl)) rfl ?_
    exact ⟨eS, bS HB⟩
   ·
    replace c16 := Bool.eq_false_iff.mpr c16
    subst c16
    have H1 : (if a0_1 < a1_1 then (gimbalref31_Meet.j1 kj2 a1_0 a1_1 a1_2 a0_0 a0_1 a0_2) else (gimbalref31_Meet.j1 kj2 a0_0 a0_1 a0_2 a1_0 a1_1 a1_2)) = some (r1, r2, r3) := by rw [if_neg (show ¬ (false = true) by decide)] at H; exact H
    clear H
    have H := H1
    clear H1
    have HC22 := Aside0.mk H
    clear H
    have hnb23 := NB246_247.out
    have hnc23 := NB247_246.out
    have hnb24 := NB246_248.out
    have hnc24 := NB248_246.out
    have hcz25_0 : wc.cell? ⟨gb246, 0, none⟩ = some (.bool a0_0) := cz0 BK246
    have hcz25_1 : wc.cell? ⟨gb246, 1, none⟩ = some (.int .i64 a0_1) := cz1 BK246
    have hcz25_2 : wc.cell? ⟨gb246, 2, none⟩ = some (.int .i64 a0_2) := cz2 BK246
    have hfz25_0 := fz BK246 0
    have hfz25_1 := fz BK246 1
    have hfz25_2 := fz BK246 2
    have hnb26 := NB247_248.out
    have hnc26 := NB248_247.out
    have hcz27_0 : wc.cell? ⟨gb247, 0, none⟩ = some (.bool a1_0) := cz0 BK247
    have hcz27_1 : wc.cell? ⟨gb247, 1, none⟩ = some (.int .i64 a1_1) := cz1 BK247
    have hcz27_2 : wc.cell? ⟨gb247, 2, none⟩ = some (.int .i64 a1_2) := cz2 BK247
    have hfz27_0 := fz BK247 0
    have hfz27_1 := fz BK247 1
    have hfz27_2 := fz BK247 2
    go_upto_if 21 with (fail)
    go_cut [] (fun wc => ∃ (kq : Nat) (x247000_21 : Bool) (x247001_21 : Int) (x247002_21 : Int) (x248000_21 : Bool) (x248001_21 : Int) (x248002_21 : Int), Aside0 (gimbalref31_Meet.j1 kq x247000_21 x247001_21 x247002_21 x248000_21 x248001_21 x248002_21 = some (r1, r2, r3)) ∧ Aside0 (kq ≤ kj2) ∧ Aside0 (wc.heap[gb246]? = some (.cells #[.bool x247000_21, .int .i64 x247001_21, .int .i64 x247002_21] 23 (0, 0))) ∧ Aside0 (wc.heap[gb247]? = some (.cells #[.bool x248000_21, .int .i64 x248001_21, .int .i64 x248002_21] 23 (0, 0))) ∧ Aside0 (wc.heap[gb248]? = some (.cells #[.bool false, .int .i64 0, .int .i64 0] 23 (0, 0))) ∧ Aside0 (Below w.heap.size w wc))
    case first =>
     have H := HC22.out
     clear HC22
     by_cases c28 : a0_1 < a1_1
     ·
      rw [if_pos c28] at H
      have c28b0 : decide (a0_1 < a1_1) = true := decide_eq_true c28
      clear c28
      (first | rw [c28b0] | (simp only [i64_w, i32_w]; rw [c28b0]) | skip)
      have H' := Aside0.mk H
      clear H
      have hnb29 := NB247_246.out
      have hnc29 := NB246_247.out
      have hnb30 := NB247_248.out
      have hnc30 := NB248_247.out
      have hcz31_0 : wc.cell? ⟨gb247, 0, none⟩ = some (.bool a1_0) := cz0 BK247
      have hcz31_1 : wc.cell? ⟨gb247, 1, none⟩ = some (.int .i64 a1_1) := cz1 BK247
      have hcz31_2 : wc.cell? ⟨gb247, 2, none⟩ = some (.int .i64 a1_2) := cz2 BK247
      have hfz31_0 := fz BK247 0
      have hfz31_1 := fz BK247 1
      have hfz31_2 := fz BK247 2
      have hnb32 := NB246_248.out
      have hnc32 := NB248_246.out
      have hcz33_0 : wc.cell? ⟨gb246, 0, none⟩ = some (.bool a0_0) := cz0 BK246
      have hcz33_1 : wc.cell? ⟨gb246, 1, none⟩ = some (.int .i64 a0_1) := cz1 BK246
      have hcz33_2 : wc.cell? ⟨gb246, 2, none⟩ = some (.int .i64 a0_2) := cz2 BK246
      have hfz33_0 := fz BK246 0
      have hfz33_1 := fz BK246 1
      have hfz33_2 := fz BK246 2
      go_wp2
      go_meet
      case rel => exact ⟨_, (a1_0), (a1_1), (a1_2), (a0_0), (a0_1), (a0_2), H', ⟨by have := HJ2.out; first | omega | exact Nat.le_refl _⟩, ⟨by (with_reducible repeat (first | refine b1 ?_ _ | refine b2 ?_ | refine b3 ?_ _)); refine blk_far ?_ NB246_247.out _; (with_reducible repeat (first | refine b1 ?_ _ | refine b2 ?_ | refine b3 ?_ _)); refine blk_far ?_ NB246_247.out _; (with_reducible repeat (first | refine b1 ?_ _ | refine b2 ?_ | refine b3 ?_ _)); refine blk_far ?_ NB246_247.out _; (with_reducible repeat (first | refine b1 ?_ _ | refine b2 ?_ | refine b3 ?_ _)); refine blk_put (cs := #[.bool a1_0, .int .i64 a1_1, .int .i64 a0_2]) ?_ 2 _ rfl; (with_reducible repeat (first | refine b1 ?_ _ | refine b2 ?_ | refine b3 ?_ _)); refine blk_put (cs := #[.bool a1_0, .int .i64 a0_1, .int .i64 a0_2]) ?_ 1 _ rfl; (with_reducible repeat (first | refine b1 ?_ _ | refine b2 ?_ | refine b3 ?_ _)); refine blk_put (cs := #[.bool a0_0, .int .i64 a0_1, .int .i64 a0_2]) ?_ 0 _ rfl; (with_reducible repeat (first | refine b1 ?_ _ | refine b2 ?_ | refine b3 ?_ _)); exact BK246.out⟩, ⟨by (with_reducible repeat (first | refine b1 ?_ _ | refine b2 ?_ | refine b3 ?_ _)); refine blk_put (cs := #[.bool a0_0, .int .i64 a0_1, .int .i64 a1_2]) ?_ 2 _ rfl; (with_reducible repeat (first | refine b1 ?_ _ | refine b2 ?_ | refine b3 ?_ _)); refine blk_put (cs := #[.bool a0_0, .int .i64 a1_1, .int .i64 a1_2]) ?_ 1 _ rfl; (with_reducible repeat (first | refine b1 ?_ _ | refine b2 ?_ | refine b3 ?_ _)); refine blk_put (cs := #[.bool a1_0, .int .i64 a1_1, .int .i64 a1_2]) ?_ 0 _ rfl; (with_reducible repeat (first | refine b1 ?_ _ | refine b2 ?_ | refine b3 ?_ _)); refine blk_far ?_ NB247_246.out _; (with_reducible repeat (first | refine b1 ?_ _ | refine b2 ?_ | refine b3 ?_ _)); refine blk_far ?_ NB247_246.out _; (with_reducible repeat (first | refine b1 ?_ _ | refine b2 ?_ | refine b3 ?_ _)); refine blk_far ?_ NB247_246.out _; (with_reducible repeat (first | refine b1 ?_ _ | refine b2 ?_ | refine b3 ?_ _)); exact BK247.out⟩, ⟨bkS BK248⟩, ⟨bS HB⟩⟩
     ·
      rw [if_neg c28] at H
      have c28b0 : decide (a0_1 < a1_1) = false := decide_eq_false c28
      clear c28
      (first | rw [c28b0] | (simp only [i64_w, i32_w]; rw [c28b0]) | skip)
      have H' := Aside0.mk H
      clear H
      go_wp2
      go_meet
      case rel => exact ⟨_, (a0_0), (a0_1), (a0_2), (a1_0), (a1_1), (a1_2), H', ⟨by have := HJ2.out; first | omega | exact Nat.le_refl _⟩, ⟨bkS BK246⟩, ⟨bkS BK247⟩, ⟨bkS BK248⟩, ⟨bS HB⟩⟩
    case rest =>
     clear HC22
     try clear c1
     try clear c2
     try clear p2
     try clear c3
     try clear c6
     try clear c7
     try clear c8
     try clear c9
     try clear c11
     try clear c12
     try clear c14
     try clear c16
     try clear c19
     try clear c20
     try clear c23
     try clear c24
     try clear c26
     try clear c28
     try clear c28b0
     try clear c29
     try clear c30
     try clear c32
     try clear hcz10_0
     try clear hcz10_1
     try clear hcz10_2
     try clear hcz13_0
     try clear hcz13_1
     try clear hcz13_2
     try clear hcz15_0
     try clear hcz15_1
     try clear hcz15_2
     try clear hcz21_0
     try clear hcz21_1
     try clear hcz21_2
     try clear hcz25_0
     try clear hcz25_1
     try clear hcz25_2
     try clear hcz27_0
     try clear hcz27_1
     try clear hcz27_2
     try clear hcz31_0
     try clear hcz31_1
     try clear hcz31_2
     try clear hcz33_0
     try clear hcz33_1
     try clear hcz33_2
     try clear hfz10_0
     try clear hfz10_1
     try clear hfz10_2
     try clear hfz13_0
     try clear hfz13_1
     try clear hfz13_2
     try clear hfz15_0
     try clear hfz15_1
     try clear hfz15_2
     try clear hfz21_0
     try clear hfz21_1
     try clear hfz21_2
     try clear hfz25_0
     try clear hfz25_1
     try clear hfz25_2
     try clear hfz27_0
     try clear hfz27_1
     try clear hfz27_2
     try clear hfz31_0
     try clear hfz31_1
     try clear hfz31_2
     try clear hfz33_0
     try clear hfz33_1
     try clear hfz33_2
     try clear p2
     obtain ⟨kq, x247000_21, x247001_21, x247002_21, x248000_21, x248001_21, x248002_21, HA, HJ21, BK246, BK247, BK248, HB⟩ := hcut
     cases kq with
     | zero => exact absurd HA.out (by simp [gimbalref31_Meet.j1])
     | succ kj21 =>
      have H := HA.out
      clear HA
      simp only [gimbalref31_Meet.j1] at H
      by_cases c34 : x248001_21 = 0
      ·
       rw [if_pos c34] at H
       have c34b0 : (x248001_21 == 0) = true := beq_iff_eq.mpr c34
       have c34b1 : (x248001_21 != 0) = false := bne_eq_false_iff_eq.mpr c34
       clear c34
       replace H := Option.bind_eq_some_iff.mp H
       obtain ⟨t252, A350, H⟩ := H
       replace H : (if t252 = true then (some (x248000_21, x248001_21, x248002_21)) else ((gimbalref31_None.f).bind fun bt253 => (some (bt253.1, bt253.2.1, bt253.2.2)))) = some (r1, r2, r3) := H
       have A35 := Aside0.mk A350
       clear A350
       by_cases c36 : t252 = true
       ·
        subst c36
        have H1 : (some (x248000_21, x248001_21, x248002_21)) = some (r1, r2, r3) := by rw [if_pos rfl] at H; exact H
        clear H
        have H := H1
        clear H1
        simp only [Option.some.injEq, Prod.mk.injEq] at H
        obtain ⟨rfl, rfl, rfl⟩ := H
        have hnb37 := NB247_246.out
        have hnc37 := NB246_247.out
        have hnb38 := NB247_248.out
        have hnc38 := NB248_247.out
        have hcz39_0 : wc.cell? ⟨gb247, 0, none⟩ = some (.bool x248000_21) := cz0 BK247
        have hcz39_1 : wc.cell? ⟨gb247, 1, none⟩ = some (.int .i64 x248001_21) := cz1 BK247
        have hcz39_2 : wc.cell? ⟨gb247, 2, none⟩ = some (.int .i64 x248002_21) := cz2 BK247
        have hfz39_0 := fz BK247 0
        have hfz39_1 := fz BK247 1
        have hfz39_2 := fz BK247 2
        have hnb40 := NB246_248.out
        have hnc40 := NB248_246.out
        have hcz41_0 : wc.cell? ⟨gb246, 0, none⟩ = some (.bool x247000_21) := cz0 BK246
        have hcz41_1 : wc.cell? ⟨gb246, 1, none⟩ = some (.int .i64 x247001_21) := cz1 BK246
        have hcz41_2 : wc.cell? ⟨gb246, 2, none⟩ = some (.int .i64 x247002_21) := cz2 BK246
        have hfz41_0 := fz BK246 0
        have hfz41_1 := fz BK246 1
        have hfz41_2 := fz BK246 2
        go_wp2_with (first | ((with_reducible refine gate_callee (f := 15) rfl ?_); refine goesL_ (some 30) rfl rfl Tryd.func15 (by kernel_rfl) rfl #[.agg #[.bool x247000_21, .int .i64 x247001_21, .int .i64 x247002_21], .int .i64 x248002_21] rfl mS ?_; (with_reducible refine (gimbalref31_Has.calls kj21 x247000_21 x247001_21 x247002_21 x248002_21 true _ A35.out).mono ?_); rintro e w42 ⟨rfl, hb⟩; refine ⟨_, rfl, ?_⟩; replace BK246 := kB BK246 hb; replace BK247 := kB BK247 hb; replace BK248 := kB BK248 hb; replace HB := kW HB hb; (try clear hb); (try clear hb2); (try clear hk); (try clear hi); have hcz43_0 := cz0 BK247; have hcz43_1 := cz1 BK247; have hcz43_2 := cz2 BK247; have hfz43_0 := fz BK247 0; have hfz43_1 := fz BK247 1; have hfz43_2 := fz BK247 2; have hcz44_0 := cz0 BK248; have hcz44_1 := cz1 BK248; have hcz44_2 := cz2 BK248; have hfz44_0 := fz BK248 0; have hfz44_1 := fz BK248 1; have hfz44_2 := fz BK248 2))
        refine bodyPost_ret (results_cell_row rfl _ _ gb248 23 #[.bool x248000_21, .int .i64 x248001_21, .int .i64 x248002_21] (0, 0) _ rfl (by (with_reducible repeat (first | refine b1 ?_ _ | refine b2 ?_ | refine b3 ?_ _)); refine blk_put (cs := #[.bool x248000_21, .int .i64 x248001_21, .int .i64 0]) ?_ 2 _ rfl; (with_reducible repeat (first | refine b1 ?_ _ | refine b2 ?_ | refine b3 ?_ _)); refine blk_put (cs := #[.bool x248000_21, .int .i64 0, .int .i64 0]) ?_ 1 _ rfl; (with_reducible repeat (first | refine b1 ?_ _ | refine b2 ?_ | refine b3 ?_ _)); refine blk_put (cs := #[.bool false, .int .i64 0, .int .i64 0]) ?_ 0 _ rfl; (with_reducible repeat (first | refine b1 ?_ _ | refine b2 ?_ | refine b3 ?_ _)); exact BK248.out) Tryd.underlying23 rfl (by kernel_rfl)) rfl ?_
        exact ⟨eS, bS HB⟩
       ·
        replace c36 := Bool.eq_false_iff.mpr c36
        subst c36
        have H1 : ((gimbalref31_None.f).bind fun bt253 => (some (bt253.1, bt253.2.1, bt253.2.2))) = some (r1, r2, r3) := by rw [if_neg (show ¬ (false = true) by decide)] at H; exact H
        clear H
        have H := H1
        clear H1
        replace H := Option.bind_eq_some_iff.mp H
        obtain ⟨⟨t253, t254, t255⟩, A450, H⟩ := H
        replace H : (some (t253, t254, t255)) = some (r1, r2, r3) := H
        have A45 := Aside0.mk A450
        clear A450
        simp only [Option.some.injEq, Prod.mk.injEq] at H
        obtain ⟨rfl, rfl, rfl⟩ := H
        have hnb46 := NB247_246.out
        have hnc46 := NB246_247.out
        have hnb47 := NB247_248.out
        have hnc47 := NB248_247.out
        have hcz48_0 : wc.cell? ⟨gb247, 0, none⟩ = some (.bool x248000_21) := cz0 BK247
        have hcz48_1 : wc.cell? ⟨gb247, 1, none⟩ = some (.int .i64 x248001_21) := cz1 BK247
        have hcz48_2 : wc.cell? ⟨gb247, 2, none⟩ = some (.int .i64 x248002_21) := cz2 BK247
        have hfz48_0 := fz BK247 0
        have hfz48_1 := fz BK247 1
        have hfz48_2 := fz BK247 2
        have hnb49 := NB246_248.out
        have hnc49 := NB248_246.out
        have hcz50_0 : wc.cell? ⟨gb246, 0, none⟩ = some (.bool x247000_21) := cz0 BK246
        have hcz50_1 : wc.cell? ⟨gb246, 1, none⟩ = some (.int .i64 x247001_21) := cz1 BK246
        have hcz50_2 : wc.cell? ⟨gb246, 2, none⟩ = some (.int .i64 x247002_21) := cz2 BK246
        have hfz50_0 := fz BK246 0
        have hfz50_1 := fz BK246 1
        have hfz50_2 := fz BK246 2
        go_wp2_with (first | ((with_reducible refine gate_callee (f := 15) rfl ?_); refine goesL_ (some 30) rfl rfl Tryd.func15 (by kernel_rfl) rfl #[.agg #[.bool x247000_21, .int .i64 x247001_21, .int .i64 x247002_21], .int .i64 x248002_21] rfl mS ?_; (with_reducible refine (gimbalref31_Has.calls kj21 x247000_21 x247001_21 x247002_21 x248002_21 false _ A35.out).mono ?_); rintro e w51 ⟨rfl, hb⟩; refine ⟨_, rfl, ?_⟩; replace BK246 := kB BK246 hb; replace BK247 := kB BK247 hb; replace BK248 := kB BK248 hb; replace HB := kW HB hb; (try clear hb); (try clear hb2); (try clear hk); (try clear hi)) | ((with_reducible refine gate_callee (f := 69) rfl ?_); refine goesL_ (some 32) rfl rfl Tryd.func69 (by kernel_rfl) rfl #[] rfl mS ?_; (with_reducible refine (gimbalref31_None.calls  t253 t254 t255 _ A45.out).mono ?_); rintro e w52 ⟨rfl, hb⟩; refine ⟨_, rfl, ?_⟩; replace BK246 := kB BK246 hb; replace BK247 := kB BK247 hb; replace BK248 := kB BK248 hb; replace HB := kW HB hb; (try clear hb); (try clear hb2); (try clear hk); (try clear hi); have hcz53_0 := cz0 BK248; have hcz53_1 := cz1 BK248; have hcz53_2 := cz2 BK248; have hfz53_0 := fz BK248 0; have hfz53_1 := fz BK248 1; have hfz53_2 := fz BK248 2))
        refine bodyPost_ret (results_cell_row rfl _ _ gb248 23 #[.bool t253, .int .i64 t254, .int .i64 t255] (0, 0) _ rfl (by (with_reducible repeat (first | refine b1 ?_ _ | refine b2 ?_ | refine b3 ?_ _)); refine blk_put (cs := #[.bool t253, .int .i64 t254, .int .i64 0]) ?_ 2 _ rfl; (with_reducible repeat (first | refine b1 ?_ _ | refine b2 ?_ | refine b3 ?_ _)); refine blk_put (cs := #[.bool t253, .int .i64 0, .int .i64 0]) ?_ 1 _ rfl; (with_reducible repeat (first | refine b1 ?_ _ | refine b2 ?_ | refine b3 ?_ _)); refine blk_put (cs := #[.bool false, .int .i64 0, .int .i64 0]) ?_ 0 _ rfl; (with_reducible repeat (first | refine b1 ?_ _ | refine b2 ?_ | refine b3 ?_ _)); exact BK248.out) Tryd.underlying23 rfl (by kernel_rfl)) rfl ?_
        exact ⟨eS, bS HB⟩
      ·
       rw [if_neg c34] at H
       have c34b0 : (x248001_21 == 0) = false := beq_eq_false_iff_ne.mpr c34
       have c34b1 : (x248001_21 != 0) = true := bne_iff_ne.mpr c34
       replace H := Option.bind_eq_some_iff.mp H
       obtain ⟨t256, A540, H⟩ := H
       replace H : ((gimbalref31_size.f x248001_21).bind fun t257 => ((gimbalref31_gcd.f kj21 t256 t257).bind fun t258 => ((gimbalref31_size.f (wrap64 (x247002_21 - x248002_21))).bind fun t259 => (if t258 = 0 then (none) else (if (Int.tmod t259 t258) = 0 then ((gimbalref31_size.f x248001_21).bind fun t263 => ((gimbalref31_size.f x247001_21).bind fun t264 => (if (IntKind.u64.wrap (Int.tdiv t263 t258)) = 0 then (none) else (if (wrap64 (t258)) = 0 then (none) else (if (wrap64 (IntKind.u64.wrap (Int.tdiv t263 t258))) = 0 then (none) else (if (Int.tmod (wrap64 (Int.tdiv (wrap64 (x248002_21 - x247002_21)) (wrap64 (t258)))) (wrap64 (IntKind.u64.wrap (Int.tdiv t263 t258)))) < 0 then (gimbalref31_Meet.j2 kj21 t258 (IntKind.u64.wrap (Int.tdiv t263 t258)) (Int.tmod (IntKind.u64.wrap (Int.tdiv t264 t258)) (IntKind.u64.wrap (Int.tdiv t263 t258))) (wrap64 ((Int.tmod (wrap64 (Int.tdiv (wrap64 (x248002_21 - x247002_21)) (wrap64 (t258)))) (wrap64 (IntKind.u64.wrap (Int.tdiv t263 t258)))) + (wrap64 (IntKind.u64.wrap (Int.tdiv t263 t258))))) x247000_21 x247001_21 x247002_21 x248000_21 x248001_21 x248002_21) else (gimbalref31_Meet.j2 kj21 t258 (IntKind.u64.wrap (Int.tdiv t263 t258)) (Int.tmod (IntKind.u64.wrap (Int.tdiv t264 t258)) (IntKind.u64.wrap (Int.tdiv t263 t258))) (Int.tmod (wrap64 (Int.tdiv (wrap64 (x248002_21 - x247002_21)) (wrap64 (t258)))) (wrap64 (IntKind.u64.wrap (Int.tdiv t263 t258)))) x247000_21 x247001_21 x247002_21 x248000_21 x248001_21 x248002_21))))))) else ((gimbalref31_None.f).bind fun bt260 => (some (bt260.1, bt260.2.1, bt260.2.2)))))))) = some (r1, r2, r3) := H
       have A54 := Aside0.mk A540
       clear A540
       replace H := Option.bind_eq_some_iff.mp H
       obtain ⟨t257, A550, H⟩ := H
       replace H : ((gimbalref31_gcd.f kj21 t256 t257).bind fun t258 => ((gimbalref31_size.f (wrap64 (x247002_21 - x248002_21))).bind fun t259 => (if t258 = 0 then (none) else (if (Int.tmod t259 t258) = 0 then ((gimbalref31_size.f x248001_21).bind fun t263 => ((gimbalref31_size.f x247001_21).bind fun t264 => (if (IntKind.u64.wrap (Int.tdiv t263 t258)) = 0 then (none) else (if (wrap64 (t258)) = 0 then (none) else (if (wrap64 (IntKind.u64.wrap (Int.tdiv t263 t258))) = 0 then (none) else (if (Int.tmod (wrap64 (Int.tdiv (wrap64 (x248002_21 - x247002_21)) (wrap64 (t258)))) (wrap64 (IntKind.u64.wrap (Int.tdiv t263 t258)))) < 0 then (gimbalref31_Meet.j2 kj21 t258 (IntKind.u64.wrap (Int.tdiv t263 t258)) (Int.tmod (IntKind.u64.wrap (Int.tdiv t264 t258)) (IntKind.u64.wrap (Int.tdiv t263 t258))) (wrap64 ((Int.tmod (wrap64 (Int.tdiv (wrap64 (x248002_21 - x247002_21)) (wrap64 (t258)))) (wrap64 (IntKind.u64.wrap (Int.tdiv t263 t258)))) + (wrap64 (IntKind.u64.wrap (Int.tdiv t263 t258))))) x247000_21 x247001_21 x247002_21 x248000_21 x248001_21 x248002_21) else (gimbalref31_Meet.j2 kj21 t258 (IntKind.u64.wrap (Int.tdiv t263 t258)) (Int.tmod (IntKind.u64.wrap (Int.tdiv t264 t258)) (IntKind.u64.wrap (Int.tdiv t263 t258))) (Int.tmod (wrap64 (Int.tdiv (wrap64 (x248002_21 - x247002_21)) (wrap64 (t258)))) (wrap64 (IntKind.u64.wrap (Int.tdiv t263 t258)))) x247000_21 x247001_21 x247002_21 x248000_21 x248001_21 x248002_21))))))) else ((gimbalref31_None.f).bind fun bt260 => (some (bt260.1, bt260.2.1, bt260.2.2))))))) = some (r1, r2, r3) := H
       have A55 := Aside0.mk A550
       clear A550
       replace H := Option.bind_eq_some_iff.mp H
       obtain ⟨t258, A560, H⟩ := H
       replace H : ((gimbalref31_size.f (wrap64 (x247002_21 - x248002_21))).bind fun t259 => (if t258 = 0 then (none) else (if (Int.tmod t259 t258) = 0 then ((gimbalref31_size.f x248001_21).bind fun t263 => ((gimbalref31_size.f x247001_21).bind fun t264 => (if (IntKind.u64.wrap (Int.tdiv t263 t258)) = 0 then (none) else (if (wrap64 (t258)) = 0 then (none) else (if (wrap64 (IntKind.u64.wrap (Int.tdiv t263 t258))) = 0 then (none) else (if (Int.tmod (wrap64 (Int.tdiv (wrap64 (x248002_21 - x247002_21)) (wrap64 (t258)))) (wrap64 (IntKind.u64.wrap (Int.tdiv t263 t258)))) < 0 then (gimbalref31_Meet.j2 kj21 t258 (IntKind.u64.wrap (Int.tdiv t263 t258)) (Int.tmod (IntKind.u64.wrap (Int.tdiv t264 t258)) (IntKind.u64.wrap (Int.tdiv t263 t258))) (wrap64 ((Int.tmod (wrap64 (Int.tdiv (wrap64 (x248002_21 - x247002_21)) (wrap64 (t258)))) (wrap64 (IntKind.u64.wrap (Int.tdiv t263 t258)))) + (wrap64 (IntKind.u64.wrap (Int.tdiv t263 t258))))) x247000_21 x247001_21 x247002_21 x248000_21 x248001_21 x248002_21) else (gimbalref31_Meet.j2 kj21 t258 (IntKind.u64.wrap (Int.tdiv t263 t258)) (Int.tmod (IntKind.u64.wrap (Int.tdiv t264 t258)) (IntKind.u64.wrap (Int.tdiv t263 t258))) (Int.tmod (wrap64 (Int.tdiv (wrap64 (x248002_21 - x247002_21)) (wrap64 (t258)))) (wrap64 (IntKind.u64.wrap (Int.tdiv t263 t258)))) x247000_21 x247001_21 x247002_21 x248000_21 x248001_21 x248002_21))))))) else ((gimbalref31_None.f).bind fun bt260 => (some (bt260.1, bt260.2.1, bt260.2.2)))))) = some (r1, r2, r3) := H
       have A56 := Aside0.mk A560
       clear A560
       replace H := Option.bind_eq_some_iff.mp H
       obtain ⟨t259, A570, H⟩ := H
       replace H : (if t258 = 0 then (none) else (if (Int.tmod t259 t258) = 0 then ((gimbalref31_size.f x248001_21).bind fun t263 => ((gimbalref31_size.f x247001_21).bind fun t264 => (if (IntKind.u64.wrap (Int.tdiv t263 t258)) = 0 then (none) else (if (wrap64 (t258)) = 0 then (none) else (if (wrap64 (IntKind.u64.wrap (Int.tdiv t263 t258))) = 0 then (none) else (if (Int.tmod (wrap64 (Int.tdiv (wrap64 (x248002_21 - x247002_21)) (wrap64 (t258)))) (wrap64 (IntKind.u64.wrap (Int.tdiv t263 t258)))) < 0 then (gimbalref31_Meet.j2 kj21 t258 (IntKind.u64.wrap (Int.tdiv t263 t258)) (Int.tmod (IntKind.u64.wrap (Int.tdiv t264 t258)) (IntKind.u64.wrap (Int.tdiv t263 t258))) (wrap64 ((Int.tmod (wrap64 (Int.tdiv (wrap64 (x248002_21 - x247002_21)) (wrap64 (t258)))) (wrap64 (IntKind.u64.wrap (Int.tdiv t263 t258)))) + (wrap64 (IntKind.u64.wrap (Int.tdiv t263 t258))))) x247000_21 x247001_21 x247002_21 x248000_21 x248001_21 x248002_21) else (gimbalref31_Meet.j2 kj21 t258 (IntKind.u64.wrap (Int.tdiv t263 t258)) (Int.tmod (IntKind.u64.wrap (Int.tdiv t264 t258)) (IntKind.u64.wrap (Int.tdiv t263 t258))) (Int.tmod (wrap64 (Int.tdiv (wrap64 (x248002_21 - x247002_21)) (wrap64 (t258)))) (wrap64 (IntKind.u64.wrap (Int.tdiv t263 t258)))) x247000_21 x247001_21 x247002_21 x248000_21 x248001_21 x248002_21))))))) else ((gimbalref31_None.f).bind fun bt260 => (some (bt260.1, bt260.2.1, bt260.2.2))))) = some (r1, r2, r3) := H
       have A57 := Aside0.mk A570
       clear A570
       by_cases c58 : t258 = 0
       ·
        rw [if_pos c58] at H
        exact absurd H (by simp)
       ·
        rw [if_neg c58] at H
        have c58b0 : (t258 == 0) = false := beq_eq_false_iff_ne.mpr c58
        have c58b1 : (t258 != 0) = true := bne_iff_ne.mpr c58
        by_cases c59 : (Int.tmod t259 t258) = 0
        ·
         rw [if_pos c59] at H
         have c59b0 : ((Int.tmod t259 t258) == 0) = true := beq_iff_eq.mpr c59
         have c59b1 : ((Int.tmod t259 t258) != 0) = false := bne_eq_false_iff_eq.mpr c59
         clear c59
         replace H := Option.bind_eq_some_iff.mp H
         obtain ⟨t263, A600, H⟩ := H
         replace H : ((gimbalref31_size.f x247001_21).bind fun t264 => (if (IntKind.u64.wrap (Int.tdiv t263 t258)) = 0 then (none) else (if (wrap64 (t258)) = 0 then (none) else (if (wrap64 (IntKind.u64.wrap (Int.tdiv t263 t258))) = 0 then (none) else (if (Int.tmod (wrap64 (Int.tdiv (wrap64 (x248002_21 - x247002_21)) (wrap64 (t258)))) (wrap64 (IntKind.u64.wrap (Int.tdiv t263 t258)))) < 0 then (gimbalref31_Meet.j2 kj21 t258 (IntKind.u64.wrap (Int.tdiv t263 t258)) (Int.tmod (IntKind.u64.wrap (Int.tdiv t264 t258)) (IntKind.u64.wrap (Int.tdiv t263 t258))) (wrap64 ((Int.tmod (wrap64 (Int.tdiv (wrap64 (x248002_21 - x247002_21)) (wrap64 (t258)))) (wrap64 (IntKind.u64.wrap (Int.tdiv t263 t258)))) + (wrap64 (IntKind.u64.wrap (Int.tdiv t263 t258))))) x247000_21 x247001_21 x247002_21 x248000_21 x248001_21 x248002_21) else (gimbalref31_Meet.j2 kj21 t258 (IntKind.u64.wrap (Int.tdiv t263 t258)) (Int.tmod (IntKind.u64.wrap (Int.tdiv t264 t258)) (IntKind.u64.wrap (Int.tdiv t263 t258))) (Int.tmod (wrap64 (Int.tdiv (wrap64 (x248002_21 - x247002_21)) (wrap64 (t258)))) (wrap64 (IntKind.u64.wrap (Int.tdiv t263 t258)))) x247000_21 x247001_21 x247002_21 x248000_21 x248001_21 x248002_21)))))) = some (r1, r2, r3) := H
         have A60 := Aside0.mk A600
         clear A600
         replace H := Option.bind_eq_some_iff.mp H
         obtain ⟨t264, A610, H⟩ := H
         replace H : (if (IntKind.u64.wrap (Int.tdiv t263 t258)) = 0 then (none) else (if (wrap64 (t258)) = 0 then (none) else (if (wrap64 (IntKind.u64.wrap (Int.tdiv t263 t258))) = 0 then (none) else (if (Int.tmod (wrap64 (Int.tdiv (wrap64 (x248002_21 - x247002_21)) (wrap64 (t258)))) (wrap64 (IntKind.u64.wrap (Int.tdiv t263 t258)))) < 0 then (gimbalref31_Meet.j2 kj21 t258 (IntKind.u64.wrap (Int.tdiv t263 t258)) (Int.tmod (IntKind.u64.wrap (Int.tdiv t264 t258)) (IntKind.u64.wrap (Int.tdiv t263 t258))) (wrap64 ((Int.tmod (wrap64 (Int.tdiv (wrap64 (x248002_21 - x247002_21)) (wrap64 (t258)))) (wrap64 (IntKind.u64.wrap (Int.tdiv t263 t258)))) + (wrap64 (IntKind.u64.wrap (Int.tdiv t263 t258))))) x247000_21 x247001_21 x247002_21 x248000_21 x248001_21 x248002_21) else (gimbalref31_Meet.j2 kj21 t258 (IntKind.u64.wrap (Int.tdiv t263 t258)) (Int.tmod (IntKind.u64.wrap (Int.tdiv t264 t258)) (IntKind.u64.wrap (Int.tdiv t263 t258))) (Int.tmod (wrap64 (Int.tdiv (wrap64 (x248002_21 - x247002_21)) (wrap64 (t258)))) (wrap64 (IntKind.u64.wrap (Int.tdiv t263 t258)))) x247000_21 x247001_21 x247002_21 x248000_21 x248001_21 x248002_21))))) = some (r1, r2, r3) := H
         have A61 := Aside0.mk A610
         clear A610
         by_cases c62 : (IntKind.u64.wrap (Int.tdiv t263 t258)) = 0
         ·
          rw [if_pos c62] at H
          exact absurd H (by simp)
         ·
          rw [if_neg c62] at H
          have c62b0 : ((IntKind.u64.wrap (Int.tdiv t263 t258)) == 0) = false := beq_eq_false_iff_ne.mpr c62
          have c62b1 : ((IntKind.u64.wrap (Int.tdiv t263 t258)) != 0) = true := bne_iff_ne.mpr c62
          by_cases c63 : (wrap64 (t258)) = 0
          ·
           rw [if_pos c63] at H
           exact absurd H (by simp)
          ·
           rw [if_neg c63] at H
           have c63b0 : ((wrap64 (t258)) == 0) = false := beq_eq_false_iff_ne.mpr c63
           have c63b1 : ((wrap64 (t258)) != 0) = true := bne_iff_ne.mpr c63
           by_cases c64 : (wrap64 (IntKind.u64.wrap (Int.tdiv t263 t258))) = 0
           ·
            rw [if_pos c64] at H
            exact absurd H (by simp)
           ·
            rw [if_neg c64] at H
            have c64b0 : ((wrap64 (IntKind.u64.wrap (Int.tdiv t263 t258))) == 0) = false := beq_eq_false_iff_ne.mpr c64
            have c64b1 : ((wrap64 (IntKind.u64.wrap (Int.tdiv t263 t258))) != 0) = true := bne_iff_ne.mpr c64
            have HC65 := Aside0.mk H
            clear H
            have hnb66 := NB247_246.out
            have hnc66 := NB246_247.out
            have hnb67 := NB247_248.out
            have hnc67 := NB248_247.out
            have hcz68_0 : wc.cell? ⟨gb247, 0, none⟩ = some (.bool x248000_21) := cz0 BK247
            have hcz68_1 : wc.cell? ⟨gb247, 1, none⟩ = some (.int .i64 x248001_21) := cz1 BK247
            have hcz68_2 : wc.cell? ⟨gb247, 2, none⟩ = some (.int .i64 x248002_21) := cz2 BK247
            have hfz68_0 := fz BK247 0
            have hfz68_1 := fz BK247 1
            have hfz68_2 := fz BK247 2
            try go_wp2
            replace BK246 := Aside0.mk (blk_drew BK246.out)
            replace BK247 := Aside0.mk (blk_drew BK247.out)
            replace BK248 := Aside0.mk (blk_drew BK248.out)
            replace HB := Aside0.mk (below_drew1 HB.out)
            refine start_ (n := 8) (S := fun w' => w'.cell? ⟨gb246, 0, none⟩ = some (.bool x247000_21) ∧ w'.cell? ⟨gb246, 1, none⟩ = some (.int .i64 x247001_21) ∧ w'.cell? ⟨gb246, 2, none⟩ = some (.int .i64 x247002_21) ∧ w'.cell? ⟨gb247, 0, none⟩ = some (.bool x248000_21) ∧ w'.cell? ⟨gb247, 1, none⟩ = some (.int .i64 x248001_21) ∧ w'.cell? ⟨gb247, 2, none⟩ = some (.int .i64 x248002_21)) (ds := []) #[false, false, false, false, false, false, false, false] (by kernel_rfl) rfl rfl ⟨cz0 BK246, cz1 BK246, cz2 BK246, cz0 BK247, cz1 BK247, cz2 BK247⟩ (fun hHeld => ?_); refine with_tabW gimbalref31_Meet.tab9 gimbalref31_Meet.bits9 (fun HT_ HW_ => ?_)
            generalize wc.drew = w69 at BK246 BK247 BK248 HB hHeld ⊢
            refine pure_ (i := 0) (N := some 33) (v := ?_) (a' := ?_) #[true, false, false, false, false, false, false, false] rfl rfl (any_of HT_.out (by kernel_rfl)) (fun _ _ _ h => h) (Or.inl ⟨by rfl, ?_⟩) ?_ ?_
            rotate_left
            ·
             intro w'
             go_simp
             with_reducible rfl
            rotate_left
            ·
             simp only [Act.put, lA, lB, lC, i64_w, i32_w]
             rfl
            refine pure_ (i := 3) (N := some 36) (v := ?_) (a' := ?_) #[true, false, false, true, false, false, false, false] rfl rfl (any_of HT_.out (by kernel_rfl)) (fun _ _ _ h => h) (Or.inl ⟨by rfl, ?_⟩) ?_ ?_
            rotate_left
            ·
             intro w'
             go_simp
             with_reducible rfl
            rotate_left
            ·
             simp only [Act.put, lA, lB, lC, i64_w, i32_w]
             rfl
            refine take_ (i := 1) (N := some 34) (v := ?_) (a' := ?_) #[true, true, false, true, false, false, false, false] rfl rfl (take_ofW HT_.out HW_.out (by kernel_rfl)) (fun _ _ _ h => h) (Or.inl ⟨by rfl, ?_⟩) hHeld ?_ ?_
            rotate_left
            ·
             rintro w' ⟨s0, s1, s2, s3, s4, s5⟩
             go_simp
             with_reducible rfl
            rotate_left
            ·
             simp only [Act.put, lA, lB, lC, i64_w, i32_w]
             rfl
            refine take_ (i := 4) (N := some 37) (v := ?_) (a' := ?_) #[true, true, false, true, true, false, false, false] rfl rfl (take_ofW HT_.out HW_.out (by kernel_rfl)) (fun _ _ _ h => h) (Or.inl ⟨by rfl, ?_⟩) hHeld ?_ ?_
            rotate_left
            ·
             rintro w' ⟨s0, s1, s2, s3, s4, s5⟩
             go_simp
             with_reducible rfl
            rotate_left
            ·
             simp only [Act.put, lA, lB, lC, i64_w, i32_w]
             rfl
            refine one_ (i := 2) (N := some 35) #[true, true, true, true, true, false, false, false] rfl rfl (one_of HT_.out (by kernel_rfl)) (by decide) (fun K hK => ?_)
            refine goes_ Tryd.func55 (by kernel_rfl) rfl #[.int .i64 x247001_21] (by rfl) rfl rfl mS ?_
            with_reducible refine (gimbalref31_size.calls x247001_21 t256 _ A54.out).mono ?_
            rintro e w' ⟨rfl, ⟨nd, rfl⟩⟩
            refine ⟨_, rfl, ?_⟩
            refine hK.out _ _ ⟨cz0 BK246, cz1 BK246, cz2 BK246, cz0 BK247, cz1 BK247, cz2 BK247⟩ (fun hHeld => ?_)
            clear hK K
            refine norm_ (a' := ?_) ?_ ?_
            rotate_left
            ·
             show Act.put _ (some 35) _ = _
             simp only [Act.put, lA, lB, lC, i64_w, i32_w]
             rfl
            refine one_ (i := 5) (N := some 38) #[true, true, true, true, true, true, false, false] rfl rfl (one_of HT_.out (by kernel_rfl)) (by decide) (fun K hK => ?_)
            refine goes_ Tryd.func55 (by kernel_rfl) rfl #[.int .i64 x248001_21] (by rfl) rfl rfl mS ?_
            with_reducible refine (gimbalref31_size.calls x248001_21 t257 _ A55.out).mono ?_
            rintro e w' ⟨rfl, ⟨nd, rfl⟩⟩
            refine ⟨_, rfl, ?_⟩
            refine hK.out _ _ ⟨cz0 BK246, cz1 BK246, cz2 BK246, cz0 BK247, cz1 BK247, cz2 BK247⟩ (fun hHeld => ?_)
            clear hK K
            refine norm_ (a' := ?_) ?_ ?_
            rotate_left
            ·
             show Act.put _ (some 38) _ = _
             simp only [Act.put, lA, lB, lC, i64_w, i32_w]
             rfl
            refine one_ (i := 6) (N := some 39) #[true, true, true, true, true, true, true, false] rfl rfl (one_of HT_.out (by kernel_rfl)) (by decide) (fun K hK => ?_)
            refine goes_ Tryd.func80 (by kernel_rfl) rfl #[.int .u64 t256, .int .u64 t257] (by rfl) rfl rfl mS ?_
            with_reducible refine (gimbalref31_gcd.calls kj21 t256 t257 t258 _ A56.out).mono ?_
            rintro e w' ⟨rfl, ⟨nd, rfl⟩⟩
            refine ⟨_, rfl, ?_⟩
            refine hK.out _ _ ⟨cz0 BK246, cz1 BK246, cz2 BK246, cz0 BK247, cz1 BK247, cz2 BK247⟩ (fun hHeld => ?_)
            clear hK K
            refine norm_ (a' := ?_) ?_ ?_
            rotate_left
            ·
             show Act.put _ (some 39) _ = _
             simp only [Act.put, lA, lB, lC, i64_w, i32_w]
             rfl
            refine pure_ (i := 7) (N := some 5) (v := ?_) (a' := ?_) #[true, true, true, true, true, true, true, true] rfl rfl (any_of HT_.out (by kernel_rfl)) (fun _ _ _ h => h) (Or.inl ⟨by rfl, ?_⟩) ?_ ?_
            rotate_left
            ·
             intro w'
             go_simp
             with_reducible rfl
            rotate_left
            ·
             simp only [Act.put, lA, lB, lC, i64_w, i32_w]
             rfl
            refine done_ (done_of HT_.out (by kernel_rfl)) ?_
            have hnb70 := NB246_248.out
            have hnc70 := NB248_246.out
            have hcz71_0 := cz0 BK246
            have hcz71_1 := cz1 BK246
            have hcz71_2 := cz2 BK246
            have hfz71_0 := fz BK246 0
            have hfz71_1 := fz BK246 1
            have hfz71_2 := fz BK246 2
            have hcz72_0 := cz0 BK247
            have hcz72_1 := cz1 BK247
            have hcz72_2 := cz2 BK247
            have hfz72_0 := fz BK247 0
            have hfz72_1 := fz BK247 1
            have hfz72_2 := fz BK247 2
            go_upto_if 74 with (first | ((with_reducible refine gate_callee (f := 55) rfl ?_); refine goesL_ (some 45) rfl rfl Tryd.func55 (by kernel_rfl) rfl #[.int .i64 (wrap64 (x247002_21 - x248002_21))] rfl mS ?_; (with_reducible refine (gimbalref31_size.calls (wrap64 (x247002_21 - x248002_21)) t259 _ A57.out).mono ?_); rintro e w' ⟨rfl, ⟨nd, rfl⟩⟩; refine ⟨_, rfl, ?_⟩) | ((with_reducible refine gate_callee (f := 55) rfl ?_); refine goesL_ (some 52) rfl rfl Tryd.func55 (by kernel_rfl) rfl #[.int .i64 x248001_21] rfl mS ?_; (with_reducible refine (gimbalref31_size.calls x248001_21 t263 _ A60.out).mono ?_); rintro e w' ⟨rfl, ⟨nd, rfl⟩⟩; refine ⟨_, rfl, ?_⟩) | ((with_reducible refine gate_callee (f := 55) rfl ?_); refine goesL_ (some 57) rfl rfl Tryd.func55 (by kernel_rfl) rfl #[.int .i64 x247001_21] rfl mS ?_; (with_reducible refine (gimbalref31_size.calls x247001_21 t264 _ A61.out).mono ?_); rintro e w' ⟨rfl, ⟨nd, rfl⟩⟩; refine ⟨_, rfl, ?_⟩))
            (try simp only [Act.put, lA, lB, lC])
            go_cut [8] (fun v8 wc => ∃ (kq : Nat) (x8_64 : Int), v8 = .int .i64 x8_64 ∧ Aside0 (gimbalref31_Meet.j2 kq t258 (IntKind.u64.wrap (Int.tdiv t263 t258)) (Int.tmod (IntKind.u64.wrap (Int.tdiv t264 t258)) (IntKind.u64.wrap (Int.tdiv t263 t258))) x8_64 x247000_21 x247001_21 x247002_21 x248000_21 x248001_21 x248002_21 = some (r1, r2, r3)) ∧ Aside0 (kq ≤ kj21) ∧ Aside0 (wc.heap[gb246]? = some (.cells #[.bool x247000_21, .int .i64 x247001_21, .int .i64 x247002_21] 23 (0, 0))) ∧ Aside0 (wc.heap[gb247]? = some (.cells #[.bool x248000_21, .int .i64 x248001_21, .int .i64 x248002_21] 23 (0, 0))) ∧ Aside0 (wc.heap[gb248]? = some (.cells #[.bool false, .int .i64 0, .int .i64 0] 23 (0, 0))) ∧ Aside0 (Below w.heap.size w wc))
            case first =>
             have H := HC65.out
             clear HC65
             by_cases c73 : (Int.tmod (wrap64 (Int.tdiv (wrap64 (x248002_21 - x247002_21)) (wrap64 (t258)))) (wrap64 (IntKind.u64.wrap (Int.tdiv t263 t258)))) < 0
             ·
              rw [if_pos c73] at H
              have c73b0 : decide ((Int.tmod (wrap64 (Int.tdiv (wrap64 (x248002_21 - x247002_21)) (wrap64 (t258)))) (wrap64 (IntKind.u64.wrap (Int.tdiv t263 t258)))) < 0) = true := decide_eq_true c73
              clear c73
              (first | rw [c73b0] | (simp only [i64_w, i32_w]; rw [c73b0]) | skip)
              have H' := Aside0.mk H
              clear H
              go_wp2
              go_meet
              case rel => exact ⟨_, (wrap64 ((Int.tmod (wrap64 (Int.tdiv (wrap64 (x248002_21 - x247002_21)) (wrap64 (t258)))) (wrap64 (IntKind.u64.wrap (Int.tdiv t263 t258)))) + (wrap64 (IntKind.u64.wrap (Int.tdiv t263 t258))))), (by first | rfl | (simp; done) | (simp [*]; done)), H', ⟨by have := HJ2.out; have := HJ21.out; first | omega | exact Nat.le_refl _⟩, ⟨bkS BK246⟩, ⟨bkS BK247⟩, ⟨bkS BK248⟩, ⟨bS HB⟩⟩
             ·
              rw [if_neg c73] at H
              have c73b0 : decide ((Int.tmod (wrap64 (Int.tdiv (wrap64 (x248002_21 - x247002_21)) (wrap64 (t258)))) (wrap64 (IntKind.u64.wrap (Int.tdiv t263 t258)))) < 0) = false := decide_eq_false c73
              clear c73
              (first | rw [c73b0] | (simp only [i64_w, i32_w]; rw [c73b0]) | skip)
              have H' := Aside0.mk H
              clear H
              go_wp2
              go_meet
              case rel => exact ⟨_, (Int.tmod (wrap64 (Int.tdiv (wrap64 (x248002_21 - x247002_21)) (wrap64 (t258)))) (wrap64 (IntKind.u64.wrap (Int.tdiv t263 t258)))), (by first | rfl | (simp; done) | (simp [*]; done)), H', ⟨by have := HJ2.out; have := HJ21.out; first | omega | exact Nat.le_refl _⟩, ⟨bkS BK246⟩, ⟨bkS BK247⟩, ⟨bkS BK248⟩, ⟨bS HB⟩⟩
            case rest =>
             clear HC65
             try clear c1
             try clear c2
             try clear p2
             try clear c3
             try clear c4
             try clear c5
             try clear c6
             try clear p6
             try clear c7
             try clear c8
             try clear c9
             try clear c11
             try clear c12
             try clear c14
             try clear c15
             try clear c16
             try clear c19
             try clear c20
             try clear c23
             try clear c24
             try clear c26
             try clear c28
             try clear c28b0
             try clear c29
             try clear c30
             try clear c32
             try clear c34
             try clear c34b0
             try clear c34b1
             try clear c36
             try clear c37
             try clear c38
             try clear c40
             try clear c46
             try clear c47
             try clear c49
             try clear c55
             try clear c58
             try clear c58b0
             try clear c58b1
             try clear c59
             try clear c59b0
             try clear c59b1
             try clear c62
             try clear c62b0
             try clear c62b1
             try clear c63
             try clear c63b0
             try clear c63b1
             try clear c64
             try clear c64b0
             try clear c64b1
             try clear p64
             try clear c66
             try clear c67
             try clear c69
             try clear c70
             try clear c73
             try clear c73b0
             try clear hcz10_0
             try clear hcz10_1
             try clear hcz10_2
             try clear hcz13_0
             try clear hcz13_1
             try clear hcz13_2
             try clear hcz15_0
             try clear hcz15_1
             try clear hcz15_2
             try clear hcz21_0
             try clear hcz21_1
             try clear hcz21_2
             try clear hcz25_0
             try clear hcz25_1
             try clear hcz25_2
             try clear hcz27_0
             try clear hcz27_1
             try clear hcz27_2
             try clear hcz31_0
             try clear hcz31_1
             try clear hcz31_2
             try clear hcz33_0
             try clear hcz33_1
             try clear hcz33_2
             try clear hcz39_0
             try clear hcz39_1
             try clear hcz39_2
             try clear hcz41_0
             try clear hcz41_1
             try clear hcz41_2
             try clear hcz43_0
             try clear hcz43_1
             try clear hcz43_2
             try clear hcz44_0
             try clear hcz44_1
             try clear hcz44_2
             try clear hcz48_0
             try clear hcz48_1
             try clear hcz48_2
             try clear hcz50_0
             try clear hcz50_1
             try clear hcz50_2
             try clear hcz53_0
             try clear hcz53_1
             try clear hcz53_2
             try clear hcz68_0
             try clear hcz68_1
             try clear hcz68_2
             try clear hcz71_0
             try clear hcz71_1
             try clear hcz71_2
             try clear hcz72_0
             try clear hcz72_1
             try clear hcz72_2
             try clear hfz10_0
             try clear hfz10_1
             try clear hfz10_2
             try clear hfz13_0
             try clear hfz13_1
             try clear hfz13_2
             try clear hfz15_0
             try clear hfz15_1
             try clear hfz15_2
             try clear hfz21_0
             try clear hfz21_1
             try clear hfz21_2
             try clear hfz25_0
             try clear hfz25_1
             try clear hfz25_2
             try clear hfz27_0
             try clear hfz27_1
             try clear hfz27_2
             try clear hfz31_0
             try clear hfz31_1
             try clear hfz31_2
             try clear hfz33_0
             try clear hfz33_1
             try clear hfz33_2
             try clear hfz39_0
             try clear hfz39_1
             try clear hfz39_2
             try clear hfz41_0
             try clear hfz41_1
             try clear hfz41_2
             try clear hfz43_0
             try clear hfz43_1
             try clear hfz43_2
             try clear hfz44_0
             try clear hfz44_1
             try clear hfz44_2
             try clear hfz48_0
             try clear hfz48_1
             try clear hfz48_2
             try clear hfz50_0
             try clear hfz50_1
             try clear hfz50_2
             try clear hfz53_0
             try clear hfz53_1
             try clear hfz53_2
             try clear hfz68_0
             try clear hfz68_1
             try clear hfz68_2
             try clear hfz71_0
             try clear hfz71_1
             try clear hfz71_2
             try clear hfz72_0
             try clear hfz72_1
             try clear hfz72_2
             try clear p2
             obtain ⟨kq, x8_64, rfl, HA, HJ64, BK246, BK247, BK248, HB⟩ := hcut
             cases kq with
             | zero => exact absurd HA.out (by simp [gimbalref31_Meet.j2])
             | succ kj64 =>
              have H := HA.out
              clear HA
              simp only [gimbalref31_Meet.j2] at H
              have HC74 := Aside0.mk H
              clear H
              go_upto_if 80 with (fail)
              go_cut [9] (fun v9 wc => ∃ (kq : Nat) (x9_73 : Int), v9 = .int .u64 x9_73 ∧ Aside0 (gimbalref31_Meet.j3 kq t258 x9_73 x247000_21 x247001_21 x247002_21 x248000_21 x248001_21 x248002_21 = some (r1, r2, r3)) ∧ Aside0 (kq ≤ kj64) ∧ Aside0 (wc.heap[gb246]? = some (.cells #[.bool x247000_21, .int .i64 x247001_21, .int .i64 x247002_21] 23 (0, 0))) ∧ Aside0 (wc.heap[gb247]? = some (.cells #[.bool x248000_21, .int .i64 x248001_21, .int .i64 x248002_21] 23 (0, 0))) ∧ Aside0 (wc.heap[gb248]? = some (.cells #[.bool false, .int .i64 0, .int .i64 0] 23 (0, 0))) ∧ Aside0 (Below w.heap.size w wc))
              case first =>
               have H := HC74.out
               clear HC74
               by_cases c75 : (IntKind.u64.wrap (Int.tdiv t263 t258)) > 1
               ·
                rw [if_pos c75] at H
                have c75b0 : decide (1 < (IntKind.u64.wrap (Int.tdiv t263 t258))) = true := decide_eq_true c75
                clear c75
                (first | rw [c75b0] | (simp only [i64_w, i32_w]; rw [c75b0]) | skip)
                replace H := Option.bind_eq_some_iff.mp H
                obtain ⟨t265, A760, H⟩ := H
                replace H : ((gimbalref31_times.f (IntKind.u64.wrap (x8_64)) t265 (IntKind.u64.wrap (Int.tdiv t263 t258))).bind fun t266 => (gimbalref31_Meet.j3 kj64 t258 t266 x247000_21 x247001_21 x247002_21 x248000_21 x248001_21 x248002_21)) = some (r1, r2, r3) := H
                have A76 := Aside0.mk A760
                clear A760
                replace H := Option.bind_eq_some_iff.mp H
                obtain ⟨t266, A770, H⟩ := H
                replace H : (gimbalref31_Meet.j3 kj64 t258 t266 x247000_21 x247001_21 x247002_21 x248000_21 x248001_21 x248002_21) = some (r1, r2, r3) := H
                have A77 := Aside0.mk A770
                clear A770
                have H' := Aside0.mk H
                clear H
                go_wp2_with (first | ((with_reducible refine gate_callee (f := 82) rfl ?_); refine goesL_ (some 85) rfl rfl Tryd.func82 (by kernel_rfl) rfl #[.int .u64 (Int.tmod (IntKind.u64.wrap (Int.tdiv t264 t258)) (IntKind.u64.wrap (Int.tdiv t263 t258))), .int .u64 (IntKind.u64.wrap (Int.tdiv t263 t258))] rfl mS ?_; (with_reducible refine (gimbalref31_inverse.calls kj64 (Int.tmod (IntKind.u64.wrap (Int.tdiv t264 t258)) (IntKind.u64.wrap (Int.tdiv t263 t258))) (IntKind.u64.wrap (Int.tdiv t263 t258)) t265 _ A76.out).mono ?_); rintro e w' ⟨rfl, ⟨nd, rfl⟩⟩; refine ⟨_, rfl, ?_⟩) | ((with_reducible refine gate_callee (f := 81) rfl ?_); refine goesL_ (some 87) rfl rfl Tryd.func81 (by kernel_rfl) rfl #[.int .u64 (IntKind.u64.wrap (x8_64)), .int .u64 t265, .int .u64 (IntKind.u64.wrap (Int.tdiv t263 t258))] rfl mS ?_; (with_reducible refine (gimbalref31_times.calls (IntKind.u64.wrap (x8_64)) t265 (IntKind.u64.wrap (Int.tdiv t263 t258)) t266 _ A77.out).mono ?_); rintro e w' ⟨rfl, ⟨nd, rfl⟩⟩; refine ⟨_, rfl, ?_⟩))
                go_meet
                case rel => exact ⟨_, (t266), (by first | rfl | (simp; done) | (simp [*]; done)), H', ⟨by have := HJ2.out; have := HJ21.out; have := HJ64.out; first | omega | exact Nat.le_refl _⟩, ⟨bkS BK246⟩, ⟨bkS BK247⟩, ⟨bkS BK248⟩, ⟨bS HB⟩⟩
               ·
                rw [if_neg c75] at H
                have c75b0 : decide (1 < (IntKind.u64.wrap (Int.tdiv t263 t258))) = false := decide_eq_false c75
                clear c75
                (first | rw [c75b0] | (simp only [i64_w, i32_w]; rw [c75b0]) | skip)
                have H' := Aside0.mk H
                clear H
                go_wp2
                go_meet
                case rel => exact ⟨_, (0), (by first | rfl | (simp; done) | (simp [*]; done)), H', ⟨by have := HJ2.out; have := HJ21.out; have := HJ64.out; first | omega | exact Nat.le_refl _⟩, ⟨bkS BK246⟩, ⟨bkS BK247⟩, ⟨bkS BK248⟩, ⟨bS HB⟩⟩
              case rest =>
               clear HC74
               try clear c1
               try clear c2
               try clear p2
               try clear c3
               try clear c4
               try clear c5
               try clear c6
               try clear p6
               try clear c7
               try clear c8
               try clear c9
               try clear c11
               try clear c12
               try clear c14
               try clear c15
               try clear c16
               try clear c19
               try clear c20
               try clear c23
               try clear c24
               try clear c26
               try clear c28
               try clear c28b0
               try clear c29
               try clear c30
               try clear c32
               try clear c34
               try clear c34b0
               try clear c34b1
               try clear c36
               try clear c37
               try clear c38
               try clear c40
               try clear c46
               try clear c47
               try clear c49
               try clear c55
               try clear c58
               try clear c58b0
               try clear c58b1
               try clear c59
               try clear c59b0
               try clear c59b1
               try clear c62
               try clear c62b0
               try clear c62b1
               try clear c63
               try clear c63b0
               try clear c63b1
               try clear c64
               try clear c64b0
               try clear c64b1
               try clear p64
               try clear c66
               try clear c67
               try clear c69
               try clear c70
               try clear c73
               try clear c73b0
               try clear c75
               try clear c75b0
               try clear hcz10_0
               try clear hcz10_1
               try clear hcz10_2
               try clear hcz13_0
               try clear hcz13_1
               try clear hcz13_2
               try clear hcz15_0
               try clear hcz15_1
               try clear hcz15_2
               try clear hcz21_0
               try clear hcz21_1
               try clear hcz21_2
               try clear hcz25_0
               try clear hcz25_1
               try clear hcz25_2
               try clear hcz27_0
               try clear hcz27_1
               try clear hcz27_2
               try clear hcz31_0
               try clear hcz31_1
               try clear hcz31_2
               try clear hcz33_0
               try clear hcz33_1
               try clear hcz33_2
               try clear hcz39_0
               try clear hcz39_1
               try clear hcz39_2
               try clear hcz41_0
               try clear hcz41_1
               try clear hcz41_2
               try clear hcz43_0
               try clear hcz43_1
               try clear hcz43_2
               try clear hcz44_0
               try clear hcz44_1
               try clear hcz44_2
               try clear hcz48_0
               try clear hcz48_1
               try clear hcz48_2
               try clear hcz50_0
               try clear hcz50_1
               try clear hcz50_2
               try clear hcz53_0
               try clear hcz53_1
               try clear hcz53_2
               try clear hcz68_0
               try clear hcz68_1
               try clear hcz68_2
               try clear hcz71_0
               try clear hcz71_1
               try clear hcz71_2
               try clear hcz72_0
               try clear hcz72_1
               try clear hcz72_2
               try clear hfz10_0
               try clear hfz10_1
               try clear hfz10_2
               try clear hfz13_0
               try clear hfz13_1
               try clear hfz13_2
               try clear hfz15_0
               try clear hfz15_1
               try clear hfz15_2
               try clear hfz21_0
               try clear hfz21_1
               try clear hfz21_2
               try clear hfz25_0
               try clear hfz25_1
               try clear hfz25_2
               try clear hfz27_0
               try clear hfz27_1
               try clear hfz27_2
               try clear hfz31_0
               try clear hfz31_1
               try clear hfz31_2
               try clear hfz33_0
               try clear hfz33_1
               try clear hfz33_2
               try clear hfz39_0
               try clear hfz39_1
               try clear hfz39_2
               try clear hfz41_0
               try clear hfz41_1
               try clear hfz41_2
               try clear hfz43_0
               try clear hfz43_1
               try clear hfz43_2
               try clear hfz44_0
               try clear hfz44_1
               try clear hfz44_2
               try clear hfz48_0
               try clear hfz48_1
               try clear hfz48_2
               try clear hfz50_0
               try clear hfz50_1
               try clear hfz50_2
               try clear hfz53_0
               try clear hfz53_1
               try clear hfz53_2
               try clear hfz68_0
               try clear hfz68_1
               try clear hfz68_2
               try clear hfz71_0
               try clear hfz71_1
               try clear hfz71_2
               try clear hfz72_0
               try clear hfz72_1
               try clear hfz72_2
               try clear p2
               try clear p6
               try clear p64
               obtain ⟨kq, x9_73, rfl, HA, HJ73, BK246, BK247, BK248, HB⟩ := hcut
               cases kq with
               | zero => exact absurd HA.out (by simp [gimbalref31_Meet.j3])
               | succ kj73 =>
                have H := HA.out
                clear HA
                simp only [gimbalref31_Meet.j3] at H
                replace H := Option.bind_eq_some_iff.mp H
                obtain ⟨t267, A780, H⟩ := H
                replace H : (if t258 = 0 then (none) else ((gimbalref31_size.f x248001_21).bind fun t268 => ((gimbalref31_size.f x247002_21).bind fun t269 => ((gimbalref31_size.f x247001_21).bind fun t270 => ((gimbalref31_class.f kj73 (IntKind.u64.wrap ((IntKind.u64.wrap (Int.tdiv t267 t258)) * t268)) (IntKind.u64.wrap (t269 + (IntKind.u64.wrap (t270 * x9_73)))) false).bind fun bt271 => (some (bt271.1, bt271.2.1, bt271.2.2))))))) = some (r1, r2, r3) := H
                have A78 := Aside0.mk A780
                clear A780
                by_cases c79 : t258 = 0
                ·
                 rw [if_pos c79] at H
                 exact absurd H (by simp)
                ·
                 rw [if_neg c79] at H
                 have c79b0 : (t258 == 0) = false := beq_eq_false_iff_ne.mpr c79
                 have c79b1 : (t258 != 0) = true := bne_iff_ne.mpr c79
                 replace H := Option.bind_eq_some_iff.mp H
                 obtain ⟨t268, A800, H⟩ := H
                 replace H : ((gimbalref31_size.f x247002_21).bind fun t269 => ((gimbalref31_size.f x247001_21).bind fun t270 => ((gimbalref31_class.f kj73 (IntKind.u64.wrap ((IntKind.u64.wrap (Int.tdiv t267 t258)) * t268)) (IntKind.u64.wrap (t269 + (IntKind.u64.wrap (t270 * x9_73)))) false).bind fun bt271 => (some (bt271.1, bt271.2.1, bt271.2.2))))) = some (r1, r2, r3) := H
                 have A80 := Aside0.mk A800
                 clear A800
                 replace H := Option.bind_eq_some_iff.mp H
                 obtain ⟨t269, A810, H⟩ := H
                 replace H : ((gimbalref31_size.f x247001_21).bind fun t270 => ((gimbalref31_class.f kj73 (IntKind.u64.wrap ((IntKind.u64.wrap (Int.tdiv t267 t258)) * t268)) (IntKind.u64.wrap (t269 + (IntKind.u64.wrap (t270 * x9_73)))) false).bind fun bt271 => (some (bt271.1, bt271.2.1, bt271.2.2)))) = some (r1, r2, r3) := H
                 have A81 := Aside0.mk A810
                 clear A810
                 replace H := Option.bind_eq_some_iff.mp H
                 obtain ⟨t270, A820, H⟩ := H
                 replace H : ((gimbalref31_class.f kj73 (IntKind.u64.wrap ((IntKind.u64.wrap (Int.tdiv t267 t258)) * t268)) (IntKind.u64.wrap (t269 + (IntKind.u64.wrap (t270 * x9_73)))) false).bind fun bt271 => (some (bt271.1, bt271.2.1, bt271.2.2))) = some (r1, r2, r3) := H
                 have A82 := Aside0.mk A820
                 clear A820
                 replace H := Option.bind_eq_some_iff.mp H
                 obtain ⟨⟨t271, t272, t273⟩, A830, H⟩ := H
                 replace H : (some (t271, t272, t273)) = some (r1, r2, r3) := H
                 have A83 := Aside0.mk A830
                 clear A830
                 simp only [Option.some.injEq, Prod.mk.injEq] at H
                 obtain ⟨rfl, rfl, rfl⟩ := H
                 try go_wp2
                 replace BK246 := Aside0.mk (blk_drew BK246.out)
                 replace BK247 := Aside0.mk (blk_drew BK247.out)
                 replace BK248 := Aside0.mk (blk_drew BK248.out)
                 replace HB := Aside0.mk (below_drew1 HB.out)
                 refine start_ (n := 20) (S := fun w' => w'.cell? ⟨gb246, 0, none⟩ = some (.bool x247000_21) ∧ w'.cell? ⟨gb246, 1, none⟩ = some (.int .i64 x247001_21) ∧ w'.cell? ⟨gb246, 2, none⟩ = some (.int .i64 x247002_21) ∧ w'.cell? ⟨gb247, 0, none⟩ = some (.bool x248000_21) ∧ w'.cell? ⟨gb247, 1, none⟩ = some (.int .i64 x248001_21) ∧ w'.cell? ⟨gb247, 2, none⟩ = some (.int .i64 x248002_21)) (ds := []) #[false, false, false, false, false, false, false, false, false, false, false, false, false, false, false, false, false, false, false, false] (by kernel_rfl) rfl rfl ⟨cz0 BK246, cz1 BK246, cz2 BK246, cz0 BK247, cz1 BK247, cz2 BK247⟩ (fun hHeld => ?_); refine with_tabW gimbalref31_Meet.tab20 gimbalref31_Meet.bits20 (fun HT_ HW_ => ?_)
                 generalize wc.drew = w84 at BK246 BK247 BK248 HB hHeld ⊢
                 refine pure_ (i := 0) (N := some 88) (v := ?_) (a' := ?_) #[true, false, false, false, false, false, false, false, false, false, false, false, false, false, false, false, false, false, false, false] rfl rfl (any_of HT_.out (by kernel_rfl)) (fun _ _ _ h => h) (Or.inl ⟨by rfl, ?_⟩) ?_ ?_
                 rotate_left
                 ·
                  intro w'
                  go_simp
                  with_reducible rfl
                 rotate_left
                 ·
                  simp only [Act.put, lA, lB, lC, i64_w, i32_w]
                  rfl
                 refine pure_ (i := 3) (N := some 91) (v := ?_) (a' := ?_) #[true, false, false, true, false, false, false, false, false, false, false, false, false, false, false, false, false, false, false, false] rfl rfl (any_of HT_.out (by kernel_rfl)) (fun _ _ _ h => h) (Or.inl ⟨by rfl, ?_⟩) ?_ ?_
                 rotate_left
                 ·
                  intro w'
                  go_simp
                  with_reducible rfl
                 rotate_left
                 ·
                  simp only [Act.put, lA, lB, lC, i64_w, i32_w]
                  rfl
                 refine pure_ (i := 5) (N := some 93) (v := ?_) (a' := ?_) #[true, false, false, true, false, true, false, false, false, false, false, false, false, false, false, false, false, false, false, false] rfl rfl (any_of HT_.out (by kernel_rfl)) (fun _ _ _ h => h) (Or.inl ⟨by rfl, ?_⟩) ?_ ?_
                 rotate_left
                 ·
                  intro w'
                  go_simp
                  with_reducible rfl
                 rotate_left
                 ·
                  simp only [Act.put, lA, lB, lC, i64_w, i32_w]
                  rfl
                 refine pure_ (i := 9) (N := some 97) (v := ?_) (a' := ?_) #[true, false, false, true, false, true, false, false, false, true, false, false, false, false, false, false, false, false, false, false] rfl rfl (any_of HT_.out (by kernel_rfl)) (fun _ _ _ h => h) (Or.inl ⟨by rfl, ?_⟩) ?_ ?_
                 rotate_left
                 ·
                  intro w'
                  go_simp
                  with_reducible rfl
                 rotate_left
                 ·
                  simp only [Act.put, lA, lB, lC, i64_w, i32_w]
                  rfl
                 refine pure_ (i := 12) (N := some 100) (v := ?_) (a' := ?_) #[true, false, false, true, false, true, false, false, false, true, false, false, true, false, false, false, false, false, false, false] rfl rfl (any_of HT_.out (by kernel_rfl)) (fun _ _ _ h => h) (Or.inl ⟨by rfl, ?_⟩) ?_ ?_
                 rotate_left
                 ·
                  intro w'
                  go_simp
                  with_reducible rfl
                 rotate_left
                 ·
                  simp only [Act.put, lA, lB, lC, i64_w, i32_w]
                  rfl
                 refine pure_ (i := 15) (N := some 103) (v := ?_) (a' := ?_) #[true, false, false, true, false, true, false, false, false, true, false, false, true, false, false, true, false, false, false, false] rfl rfl (any_of HT_.out (by kernel_rfl)) (fun _ _ _ h => h) (Or.inl ⟨by rfl, ?_⟩) ?_ ?_
                 rotate_left
                 ·
                  intro w'
                  go_simp
                  with_reducible rfl
                 rotate_left
                 ·
                  simp only [Act.put, lA, lB, lC, i64_w, i32_w]
                  rfl
                 refine take_ (i := 1) (N := some 89) (v := ?_) (a' := ?_) #[true, true, false, true, false, true, false, false, false, true, false, false, true, false, false, true, false, false, false, false] rfl rfl (take_ofW HT_.out HW_.out (by kernel_rfl)) (fun _ _ _ h => h) (Or.inl ⟨by rfl, ?_⟩) hHeld ?_ ?_
                 rotate_left
                 ·
                  rintro w' ⟨s0, s1, s2, s3, s4, s5⟩
                  go_simp
                  with_reducible rfl
                 rotate_left
                 ·
                  simp only [Act.put, lA, lB, lC, i64_w, i32_w]
                  rfl
                 refine take_ (i := 6) (N := some 94) (v := ?_) (a' := ?_) #[true, true, false, true, false, true, true, false, false, true, false, false, true, false, false, true, false, false, false, false] rfl rfl (take_ofW HT_.out HW_.out (by kernel_rfl)) (fun _ _ _ h => h) (Or.inl ⟨by rfl, ?_⟩) hHeld ?_ ?_
                 rotate_left
                 ·
                  rintro w' ⟨s0, s1, s2, s3, s4, s5⟩
                  go_simp
                  with_reducible rfl
                 rotate_left
                 ·
                  simp only [Act.put, lA, lB, lC, i64_w, i32_w]
                  rfl
                 refine take_ (i := 10) (N := some 98) (v := ?_) (a' := ?_) #[true, true, false, true, false, true, true, false, false, true, true, false, true, false, false, true, false, false, false, false] rfl rfl (take_ofW HT_.out HW_.out (by kernel_rfl)) (fun _ _ _ h => h) (Or.inl ⟨by rfl, ?_⟩) hHeld ?_ ?_
                 rotate_left
                 ·
                  rintro w' ⟨s0, s1, s2, s3, s4, s5⟩
                  go_simp
                  with_reducible rfl
                 rotate_left
                 ·
                  simp only [Act.put, lA, lB, lC, i64_w, i32_w]
                  rfl
                 refine take_ (i := 13) (N := some 101) (v := ?_) (a' := ?_) #[true, true, false, true, false, true, true, false, false, true, true, false, true, true, false, true, false, false, false, false] rfl rfl (take_ofW HT_.out HW_.out (by kernel_rfl)) (fun _ _ _ h => h) (Or.inl ⟨by rfl, ?_⟩) hHeld ?_ ?_
                 rotate_left
                 ·
                  rintro w' ⟨s0, s1, s2, s3, s4, s5⟩
                  go_simp
                  with_reducible rfl
                 rotate_left
                 ·
                  simp only [Act.put, lA, lB, lC, i64_w, i32_w]
                  rfl
                 refine one_ (i := 2) (N := some 90) #[true, true, true, true, false, true, true, false, false, true, true, false, true, true, false, true, false, false, false, false] rfl rfl (one_of HT_.out (by kernel_rfl)) (by decide) (fun K hK => ?_)
                 refine goes_ Tryd.func55 (by kernel_rfl) rfl #[.int .i64 x247001_21] (by rfl) rfl rfl mS ?_
                 with_reducible refine (gimbalref31_size.calls x247001_21 t267 _ A78.out).mono ?_
                 rintro e w' ⟨rfl, ⟨nd, rfl⟩⟩
                 refine ⟨_, rfl, ?_⟩
                 refine hK.out _ _ ⟨cz0 BK246, cz1 BK246, cz2 BK246, cz0 BK247, cz1 BK247, cz2 BK247⟩ (fun hHeld => ?_)
                 clear hK K
                 refine norm_ (a' := ?_) ?_ ?_
                 rotate_left
                 ·
                  show Act.put _ (some 90) _ = _
                  simp only [Act.put, lA, lB, lC, i64_w, i32_w]
                  rfl
                 refine pure_ (i := 4) (N := some 92) (v := ?_) (a' := ?_) #[true, true, true, true, true, true, true, false, false, true, true, false, true, true, false, true, false, false, false, false] rfl rfl (any_of HT_.out (by kernel_rfl)) (fun _ _ _ h => h) (Or.inl ⟨by rfl, ?_⟩) ?_ ?_
                 rotate_left
                 ·
                  intro w'
                  go_simp
                  with_reducible rfl
                 rotate_left
                 ·
                  simp only [Act.put, lA, lB, lC, i64_w, i32_w]
                  rfl
                 refine one_ (i := 7) (N := some 95) #[true, true, true, true, true, true, true, true, false, true, true, false, true, true, false, true, false, false, false, false] rfl rfl (one_of HT_.out (by kernel_rfl)) (by decide) (fun K hK => ?_)
                 refine goes_ Tryd.func55 (by kernel_rfl) rfl #[.int .i64 x248001_21] (by rfl) rfl rfl mS ?_
                 with_reducible refine (gimbalref31_size.calls x248001_21 t268 _ A80.out).mono ?_
                 rintro e w' ⟨rfl, ⟨nd, rfl⟩⟩
                 refine ⟨_, rfl, ?_⟩
                 refine hK.out _ _ ⟨cz0 BK246, cz1 BK246, cz2 BK246, cz0 BK247, cz1 BK247, cz2 BK247⟩ (fun hHeld => ?_)
                 clear hK K
                 refine norm_ (a' := ?_) ?_ ?_
                 rotate_left
                 ·
                  show Act.put _ (some 95) _ = _
                  simp only [Act.put, lA, lB, lC, i64_w, i32_w]
                  rfl
                 refine pure_ (i := 8) (N := some 96) (v := ?_) (a' := ?_) #[true, true, true, true, true, true, true, true, true, true, true, false, true, true, false, true, false, false, false, false] rfl rfl (any_of HT_.out (by kernel_rfl)) (fun _ _ _ h => h) (Or.inl ⟨by rfl, ?_⟩) ?_ ?_
                 rotate_left
                 ·
                  intro w'
                  go_simp
                  with_reducible rfl
                 rotate_left
                 ·
                  simp only [Act.put, lA, lB, lC, i64_w, i32_w]
                  rfl
                 refine one_ (i := 11) (N := some 99) #[true, true, true, true, true, true, true, true, true, true, true, true, true, true, false, true, false, false, false, false] rfl rfl (one_of HT_.out (by kernel_rfl)) (by decide) (fun K hK => ?_)
                 refine goes_ Tryd.func55 (by kernel_rfl) rfl #[.int .i64 x247002_21] (by rfl) rfl rfl mS ?_
                 with_reducible refine (gimbalref31_size.calls x247002_21 t269 _ A81.out).mono ?_
                 rintro e w' ⟨rfl, ⟨nd, rfl⟩⟩
                 refine ⟨_, rfl, ?_⟩
                 refine hK.out _ _ ⟨cz0 BK246, cz1 BK246, cz2 BK246, cz0 BK247, cz1 BK247, cz2 BK247⟩ (fun hHeld => ?_)
                 clear hK K
                 refine norm_ (a' := ?_) ?_ ?_
                 rotate_left
                 ·
                  show Act.put _ (some 99) _ = _
                  simp only [Act.put, lA, lB, lC, i64_w, i32_w]
                  rfl
                 refine one_ (i := 14) (N := some 102) #[true, true, true, true, true, true, true, true, true, true, true, true, true, true, true, true, false, false, false, false] rfl rfl (one_of HT_.out (by kernel_rfl)) (by decide) (fun K hK => ?_)
                 refine goes_ Tryd.func55 (by kernel_rfl) rfl #[.int .i64 x247001_21] (by rfl) rfl rfl mS ?_
                 with_reducible refine (gimbalref31_size.calls x247001_21 t270 _ A82.out).mono ?_
                 rintro e w' ⟨rfl, ⟨nd, rfl⟩⟩
                 refine ⟨_, rfl, ?_⟩
                 refine hK.out _ _ ⟨cz0 BK246, cz1 BK246, cz2 BK246, cz0 BK247, cz1 BK247, cz2 BK247⟩ (fun hHeld => ?_)
                 clear hK K
                 refine norm_ (a' := ?_) ?_ ?_
                 rotate_left
                 ·
                  show Act.put _ (some 102) _ = _
                  simp only [Act.put, lA, lB, lC, i64_w, i32_w]
                  rfl
                 refine pure_ (i := 16) (N := some 104) (v := ?_) (a' := ?_) #[true, true, true, true, true, true, true, true, true, true, true, true, true, true, true, true, true, false, false, false] rfl rfl (any_of HT_.out (by kernel_rfl)) (fun _ _ _ h => h) (Or.inl ⟨by rfl, ?_⟩) ?_ ?_
                 rotate_left
                 ·
                  intro w'
                  go_simp
                  with_reducible rfl
                 rotate_left
                 ·
                  simp only [Act.put, lA, lB, lC, i64_w, i32_w]
                  rfl
                 refine pure_ (i := 17) (N := some 105) (v := ?_) (a' := ?_) #[true, true, true, true, true, true, true, true, true, true, true, true, true, true, true, true, true, true, false, false] rfl rfl (any_of HT_.out (by kernel_rfl)) (fun _ _ _ h => h) (Or.inl ⟨by rfl, ?_⟩) ?_ ?_
                 rotate_left
                 ·
                  intro w'
                  go_simp
                  with_reducible rfl
                 rotate_left
                 ·
                  simp only [Act.put, lA, lB, lC, i64_w, i32_w]
                  rfl
                 refine one_ (i := 18) (N := some 106) #[true, true, true, true, true, true, true, true, true, true, true, true, true, true, true, true, true, true, true, false] rfl rfl (one_of HT_.out (by kernel_rfl)) (by decide) (fun K hK => ?_)
                 refine goes_ Tryd.func54 (by kernel_rfl) rfl #[.int .u64 (IntKind.u64.wrap ((IntKind.u64.wrap (Int.tdiv t267 t258)) * t268)), .int .u64 (IntKind.u64.wrap (t269 + (IntKind.u64.wrap (t270 * x9_73)))), .bool false] (by rfl) rfl rfl mS ?_
                 with_reducible refine (gimbalref31_class.calls kj73 (IntKind.u64.wrap ((IntKind.u64.wrap (Int.tdiv t267 t258)) * t268)) (IntKind.u64.wrap (t269 + (IntKind.u64.wrap (t270 * x9_73)))) false t271 t272 t273 _ A83.out).mono ?_
                 rintro e w85 ⟨rfl, hb⟩
                 refine ⟨_, rfl, ?_⟩
                 replace BK246 := kB BK246 hb
                 replace BK247 := kB BK247 hb
                 replace BK248 := kB BK248 hb
                 replace HB := kW HB hb
                 (try clear hb)
                 (try clear hb2)
                 (try clear hk)
                 (try clear hi)
                 refine hK.out _ _ ⟨cz0 BK246, cz1 BK246, cz2 BK246, cz0 BK247, cz1 BK247, cz2 BK247⟩ (fun hHeld => ?_)
                 clear hK K
                 refine norm_ (a' := ?_) ?_ ?_
                 rotate_left
                 ·
                  show Act.put _ (some 106) _ = _
                  simp only [Act.put, lA, lB, lC, i64_w, i32_w]
                  rfl
                 refine one_ (i := 19) (N := none) #[true, true, true, true, true, true, true, true, true, true, true, true, true, true, true, true, true, true, true, true] rfl rfl (one_of HT_.out (by kernel_rfl)) (by decide) (fun K hK => ?_)
                 have hs86 : w85.cell? ⟨gb248, 0, none⟩ = some (.bool false) := cz0 BK248
                 have hfs86 := fz BK248 0
                 have hns86_0 := NB246_248.out
                 have hns86_1 := NB247_248.out
                 have hms86_0 := NB248_246.out
                 have hms86_1 := NB248_247.out
                 have hs87 : w85.cell? ⟨gb248, 1, none⟩ = some (.int .i64 0) := cz1 BK248
                 have hfs87 := fz BK248 1
                 have hns87_0 := NB246_248.out
                 have hns87_1 := NB247_248.out
                 have hms87_0 := NB248_246.out
                 have hms87_1 := NB248_247.out
                 have hs88 : w85.cell? ⟨gb248, 2, none⟩ = some (.int .i64 0) := cz2 BK248
                 have hfs88 := fz BK248 2
                 have hns88_0 := NB246_248.out
                 have hns88_1 := NB247_248.out
                 have hms88_0 := NB248_246.out
                 have hms88_1 := NB248_247.out
                 refine skip_ (w1 := ?_) (by rfl) rfl ?_ ?_
                 rotate_left
                 ·
                  go_simp
                  rfl
                 refine hK.out _ _ ⟨((cell_far (p := ⟨gb248, _, none⟩) NB246_248.out _).trans (((cell_far (p := ⟨gb248, _, none⟩) NB246_248.out _).trans (((cell_far (p := ⟨gb248, _, none⟩) NB246_248.out _).trans (hHeld.1)))))), ((cell_far (p := ⟨gb248, _, none⟩) NB246_248.out _).trans (((cell_far (p := ⟨gb248, _, none⟩) NB246_248.out _).trans (((cell_far (p := ⟨gb248, _, none⟩) NB246_248.out _).trans (hHeld.2.1)))))), ((cell_far (p := ⟨gb248, _, none⟩) NB246_248.out _).trans (((cell_far (p := ⟨gb248, _, none⟩) NB246_248.out _).trans (((cell_far (p := ⟨gb248, _, none⟩) NB246_248.out _).trans (hHeld.2.2.1)))))), ((cell_far (p := ⟨gb248, _, none⟩) NB247_248.out _).trans (((cell_far (p := ⟨gb248, _, none⟩) NB247_248.out _).trans (((cell_far (p := ⟨gb248, _, none⟩) NB247_248.out _).trans (hHeld.2.2.2.1)))))), ((cell_far (p := ⟨gb248, _, none⟩) NB247_248.out _).trans (((cell_far (p := ⟨gb248, _, none⟩) NB247_248.out _).trans (((cell_far (p := ⟨gb248, _, none⟩) NB247_248.out _).trans (hHeld.2.2.2.2.1)))))), ((cell_far (p := ⟨gb248, _, none⟩) NB247_248.out _).trans (((cell_far (p := ⟨gb248, _, none⟩) NB247_248.out _).trans (((cell_far (p := ⟨gb248, _, none⟩) NB247_248.out _).trans (hHeld.2.2.2.2.2))))))⟩ (fun hHeld => ?_)
                 clear hK K
                 refine done_ (done_of HT_.out (by kernel_rfl)) ?_
                 try go_wp2
                 refine bodyPost_ret (results_cell_row rfl _ _ gb248 23 #[.bool t271, .int .i64 t272, .int .i64 t273] (0, 0) _ rfl (by (with_reducible repeat (first | refine b1 ?_ _ | refine b2 ?_ | refine b3 ?_ _)); refine blk_put (cs := #[.bool t271, .int .i64 t272, .int .i64 0]) ?_ 2 _ rfl; (with_reducible repeat (first | refine b1 ?_ _ | refine b2 ?_ | refine b3 ?_ _)); refine blk_put (cs := #[.bool t271, .int .i64 0, .int .i64 0]) ?_ 1 _ rfl; (with_reducible repeat (first | refine b1 ?_ _ | refine b2 ?_ | refine b3 ?_ _)); refine blk_put (cs := #[.bool false, .int .i64 0, .int .i64 0]) ?_ 0 _ rfl; (with_reducible repeat (first | refine b1 ?_ _ | refine b2 ?_ | refine b3 ?_ _)); exact BK248.out) Tryd.underlying23 rfl (by kernel_rfl)) rfl ?_
                 exact ⟨eS, bS HB⟩
        ·
         rw [if_neg c59] at H
         have c59b0 : ((Int.tmod t259 t258) == 0) = false := beq_eq_false_iff_ne.mpr c59
         have c59b1 : ((Int.tmod t259 t258) != 0) = true := bne_iff_ne.mpr c59
         replace H := Option.bind_eq_some_iff.mp H
         obtain ⟨⟨t260, t261, t262⟩, A890, H⟩ := H
         replace H : (some (t260, t261, t262)) = some (r1, r2, r3) := H
         have A89 := Aside0.mk A890
         clear A890
         simp only [Option.some.injEq, Prod.mk.injEq] at H
         obtain ⟨rfl, rfl, rfl⟩ := H
         have hnb90 := NB247_246.out
         have hnc90 := NB246_247.out
         have hnb91 := NB247_248.out
         have hnc91 := NB248_247.out
         have hcz92_0 : wc.cell? ⟨gb247, 0, none⟩ = some (.bool x248000_21) := cz0 BK247
         have hcz92_1 : wc.cell? ⟨gb247, 1, none⟩ = some (.int .i64 x248001_21) := cz1 BK247
         have hcz92_2 : wc.cell? ⟨gb247, 2, none⟩ = some (.int .i64 x248002_21) := cz2 BK247
         have hfz92_0 := fz BK247 0
         have hfz92_1 := fz BK247 1
         have hfz92_2 := fz BK247 2
         try go_wp2
         replace BK246 := Aside0.mk (blk_drew BK246.out)
         replace BK247 := Aside0.mk (blk_drew BK247.out)
         replace BK248 := Aside0.mk (blk_drew BK248.out)
         replace HB := Aside0.mk (below_drew1 HB.out)
         refine start_ (n := 8) (S := fun w' => w'.cell? ⟨gb246, 0, none⟩ = some (.bool x247000_21) ∧ w'.cell? ⟨gb246, 1, none⟩ = some (.int .i64 x247001_21) ∧ w'.cell? ⟨gb246, 2, none⟩ = some (.int .i64 x247002_21) ∧ w'.cell? ⟨gb247, 0, none⟩ = some (.bool x248000_21) ∧ w'.cell? ⟨gb247, 1, none⟩ = some (.int .i64 x248001_21) ∧ w'.cell? ⟨gb247, 2, none⟩ = some (.int .i64 x248002_21)) (ds := []) #[false, false, false, false, false, false, false, false] (by kernel_rfl) rfl rfl ⟨cz0 BK246, cz1 BK246, cz2 BK246, cz0 BK247, cz1 BK247, cz2 BK247⟩ (fun hHeld => ?_); refine with_tabW gimbalref31_Meet.tab9 gimbalref31_Meet.bits9 (fun HT_ HW_ => ?_)
         generalize wc.drew = w93 at BK246 BK247 BK248 HB hHeld ⊢
         refine pure_ (i := 0) (N := some 33) (v := ?_) (a' := ?_) #[true, false, false, false, false, false, false, false] rfl rfl (any_of HT_.out (by kernel_rfl)) (fun _ _ _ h => h) (Or.inl ⟨by rfl, ?_⟩) ?_ ?_
         rotate_left
         ·
          intro w'
          go_simp
          with_reducible rfl
         rotate_left
         ·
          simp only [Act.put, lA, lB, lC, i64_w, i32_w]
          rfl
         refine pure_ (i := 3) (N := some 36) (v := ?_) (a' := ?_) #[true, false, false, true, false, false, false, false] rfl rfl (any_of HT_.out (by kernel_rfl)) (fun _ _ _ h => h) (Or.inl ⟨by rfl, ?_⟩) ?_ ?_
         rotate_left
         ·
          intro w'
          go_simp
          with_reducible rfl
         rotate_left
         ·
          simp only [Act.put, lA, lB, lC, i64_w, i32_w]
          rfl
         refine take_ (i := 1) (N := some 34) (v := ?_) (a' := ?_) #[true, true, false, true, false, false, false, false] rfl rfl (take_ofW HT_.out HW_.out (by kernel_rfl)) (fun _ _ _ h => h) (Or.inl ⟨by rfl, ?_⟩) hHeld ?_ ?_
         rotate_left
         ·
          rintro w' ⟨s0, s1, s2, s3, s4, s5⟩
          go_simp
          with_reducible rfl
         rotate_left
         ·
          simp only [Act.put, lA, lB, lC, i64_w, i32_w]
          rfl
         refine take_ (i := 4) (N := some 37) (v := ?_) (a' := ?_) #[true, true, false, true, true, false, false, false] rfl rfl (take_ofW HT_.out HW_.out (by kernel_rfl)) (fun _ _ _ h => h) (Or.inl ⟨by rfl, ?_⟩) hHeld ?_ ?_
         rotate_left
         ·
          rintro w' ⟨s0, s1, s2, s3, s4, s5⟩
          go_simp
          with_reducible rfl
         rotate_left
         ·
          simp only [Act.put, lA, lB, lC, i64_w, i32_w]
          rfl
         refine one_ (i := 2) (N := some 35) #[true, true, true, true, true, false, false, false] rfl rfl (one_of HT_.out (by kernel_rfl)) (by decide) (fun K hK => ?_)
         refine goes_ Tryd.func55 (by kernel_rfl) rfl #[.int .i64 x247001_21] (by rfl) rfl rfl mS ?_
         with_reducible refine (gimbalref31_size.calls x247001_21 t256 _ A54.out).mono ?_
         rintro e w' ⟨rfl, ⟨nd, rfl⟩⟩
         refine ⟨_, rfl, ?_⟩
         refine hK.out _ _ ⟨cz0 BK246, cz1 BK246, cz2 BK246, cz0 BK247, cz1 BK247, cz2 BK247⟩ (fun hHeld => ?_)
         clear hK K
         refine norm_ (a' := ?_) ?_ ?_
         rotate_left
         ·
          show Act.put _ (some 35) _ = _
          simp only [Act.put, lA, lB, lC, i64_w, i32_w]
          rfl
         refine one_ (i := 5) (N := some 38) #[true, true, true, true, true, true, false, false] rfl rfl (one_of HT_.out (by kernel_rfl)) (by decide) (fun K hK => ?_)
         refine goes_ Tryd.func55 (by kernel_rfl) rfl #[.int .i64 x248001_21] (by rfl) rfl rfl mS ?_
         with_reducible refine (gimbalref31_size.calls x248001_21 t257 _ A55.out).mono ?_
         rintro e w' ⟨rfl, ⟨nd, rfl⟩⟩
         refine ⟨_, rfl, ?_⟩
         refine hK.out _ _ ⟨cz0 BK246, cz1 BK246, cz2 BK246, cz0 BK247, cz1 BK247, cz2 BK247⟩ (fun hHeld => ?_)
         clear hK K
         refine norm_ (a' := ?_) ?_ ?_
         rotate_left
         ·
          show Act.put _ (some 38) _ = _
          simp only [Act.put, lA, lB, lC, i64_w, i32_w]
          rfl
         refine one_ (i := 6) (N := some 39) #[true, true, true, true, true, true, true, false] rfl rfl (one_of HT_.out (by kernel_rfl)) (by decide) (fun K hK => ?_)
         refine goes_ Tryd.func80 (by kernel_rfl) rfl #[.int .u64 t256, .int .u64 t257] (by rfl) rfl rfl mS ?_
         with_reducible refine (gimbalref31_gcd.calls kj21 t256 t257 t258 _ A56.out).mono ?_
         rintro e w' ⟨rfl, ⟨nd, rfl⟩⟩
         refine ⟨_, rfl, ?_⟩
         refine hK.out _ _ ⟨cz0 BK246, cz1 BK246, cz2 BK246, cz0 BK247, cz1 BK247, cz2 BK247⟩ (fun hHeld => ?_)
         clear hK K
         refine norm_ (a' := ?_) ?_ ?_
         rotate_left
         ·
          show Act.put _ (some 39) _ = _
          simp only [Act.put, lA, lB, lC, i64_w, i32_w]
          rfl
         refine pure_ (i := 7) (N := some 5) (v := ?_) (a' := ?_) #[true, true, true, true, true, true, true, true] rfl rfl (any_of HT_.out (by kernel_rfl)) (fun _ _ _ h => h) (Or.inl ⟨by rfl, ?_⟩) ?_ ?_
         rotate_left
         ·
          intro w'
          go_simp
          with_reducible rfl
         rotate_left
         ·
          simp only [Act.put, lA, lB, lC, i64_w, i32_w]
          rfl
         refine done_ (done_of HT_.out (by kernel_rfl)) ?_
         have hnb94 := NB246_248.out
         have hnc94 := NB248_246.out
         have hcz95_0 := cz0 BK246
         have hcz95_1 := cz1 BK246
         have hcz95_2 := cz2 BK246
         have hfz95_0 := fz BK246 0
         have hfz95_1 := fz BK246 1
         have hfz95_2 := fz BK246 2
         have hcz96_0 := cz0 BK247
         have hcz96_1 := cz1 BK247
         have hcz96_2 := cz2 BK247
         have hfz96_0 := fz BK247 0
         have hfz96_1 := fz BK247 1
         have hfz96_2 := fz BK247 2
         try go_wp2_with (first | ((with_reducible refine gate_callee (f := 55) rfl ?_); refine goesL_ (some 45) rfl rfl Tryd.func55 (by kernel_rfl) rfl #[.int .i64 (wrap64 (x247002_21 - x248002_21))] rfl mS ?_; (with_reducible refine (gimbalref31_size.calls (wrap64 (x247002_21 - x248002_21)) t259 _ A57.out).mono ?_); rintro e w' ⟨rfl, ⟨nd, rfl⟩⟩; refine ⟨_, rfl, ?_⟩; (try (rw [drewN_self w93]; generalize hq_ : World.drewN w93 _ = w93; have n0_ : Aside0 (w93.heap[gb246]? = some (.cells #[.bool x247000_21, .int .i64 x247001_21, .int .i64 x247002_21] 23 (0, 0))) := ⟨by rw [← hq_]; exact (bkS BK246)⟩; have n1_ : Aside0 (w93.heap[gb247]? = some (.cells #[.bool x248000_21, .int .i64 x248001_21, .int .i64 x248002_21] 23 (0, 0))) := ⟨by rw [← hq_]; exact (bkS BK247)⟩; have n2_ : Aside0 (w93.heap[gb248]? = some (.cells #[.bool false, .int .i64 0, .int .i64 0] 23 (0, 0))) := ⟨by rw [← hq_]; exact (bkS BK248)⟩; have n3_ : Aside0 (Below w.heap.size w w93) := ⟨by rw [← hq_]; exact (bS HB)⟩; clear BK246 BK247 BK248 HB hq_; have BK246 := n0_; have BK247 := n1_; have BK248 := n2_; have HB := n3_; clear n0_ n1_ n2_ n3_))) | ((with_reducible refine gate_callee (f := 69) rfl ?_); refine goesL_ (some 49) rfl rfl Tryd.func69 (by kernel_rfl) rfl #[] rfl mS ?_; (with_reducible refine (gimbalref31_None.calls  t260 t261 t262 _ A89.out).mono ?_); rintro e w97 ⟨rfl, hb⟩; refine ⟨_, rfl, ?_⟩; replace BK246 := kB BK246 hb; replace BK247 := kB BK247 hb; replace BK248 := kB BK248 hb; replace HB := kW HB hb; (try clear hb); (try clear hb2); (try clear hk); (try clear hi); have hcz98_0 := cz0 BK248; have hcz98_1 := cz1 BK248; have hcz98_2 := cz2 BK248; have hfz98_0 := fz BK248 0; have hfz98_1 := fz BK248 1; have hfz98_2 := fz BK248 2))
         refine bodyPost_ret (results_cell_row rfl _ _ gb248 23 #[.bool t260, .int .i64 t261, .int .i64 t262] (0, 0) _ rfl (by (with_reducible repeat (first | refine b1 ?_ _ | refine b2 ?_ | refine b3 ?_ _)); refine blk_put (cs := #[.bool t260, .int .i64 t261, .int .i64 0]) ?_ 2 _ rfl; (with_reducible repeat (first | refine b1 ?_ _ | refine b2 ?_ | refine b3 ?_ _)); refine blk_put (cs := #[.bool t260, .int .i64 0, .int .i64 0]) ?_ 1 _ rfl; (with_reducible repeat (first | refine b1 ?_ _ | refine b2 ?_ | refine b3 ?_ _)); refine blk_put (cs := #[.bool false, .int .i64 0, .int .i64 0]) ?_ 0 _ rfl; (with_reducible repeat (first | refine b1 ?_ _ | refine b2 ?_ | refine b3 ?_ _)); exact BK248.out) Tryd.underlying23 rfl (by kernel_rfl)) rfl ?_
         exact ⟨eS, bS HB⟩

def congr_times.f (a0 : Int) (a1 : Int) : Option (Int × Int × Bool) := (congr_size.f a0).bind fun t511 => ((congr_size.f a1).bind fun t512 => ((bits_Mul64.f t511 t512).bind fun bt513 => (some (bt513.1, bt513.2, ((decide (a0 < 0)) != (decide (a1 < 0)))))))
set_option maxHeartbeats 8000000 in
set_option maxRecDepth 100000 in
theorem congr_times.calls (a0 : Int) (a1 : Int) (r1 : Int) (r2 : Int) (r3 : Bool) (w : World) (h : congr_times.f a0 a1 = some (r1, r2, r3)) :
  Calls Tryd.prog 83 #[.int .i64 a0, .int .i64 a1] w fun e w' => e = .returned (.agg #[.int .u64 r1, .int .u64 r2, .bool r3]) ∧ Below w.heap.size w w' := by
 have hu74 := Tryd.underlying74
 have hu67 := Tryd.underlying67
 have HB := Aside0.mk (Below.refl w.heap.size w)
 have H : ((congr_size.f a0).bind fun t511 => ((congr_size.f a1).bind fun t512 => ((bits_Mul64.f t511 t512).bind fun bt513 => (some (bt513.1, bt513.2, ((decide (a0 < 0)) != (decide (a1 < 0)))))))) = some (r1, r2, r3) := h
 clear h
 replace H := Option.bind_eq_some_iff.mp H
 obtain ⟨t511, A30, H⟩ := H
 replace H : ((congr_size.f a1).bind fun t512 => ((bits_Mul64.f t511 t512).bind fun bt513 => (some (bt513.1, bt513.2, ((decide (a0 < 0)) != (decide (a1 < 0))))))) = some (r1, r2, r3) := H
 have A3 := Aside0.mk A30
 clear A30
 replace H := Option.bind_eq_some_iff.mp H
 obtain ⟨t512, A40, H⟩ := H
 replace H : ((bits_Mul64.f t511 t512).bind fun bt513 => (some (bt513.1, bt513.2, ((decide (a0 < 0)) != (decide (a1 < 0)))))) = some (r1, r2, r3) := H
 have A4 := Aside0.mk A40
 clear A40
 replace H := Option.bind_eq_some_iff.mp H
 obtain ⟨⟨t513, t514⟩, A50, H⟩ := H
 replace H : (some (t513, t514, ((decide (a0 < 0)) != (decide (a1 < 0))))) = some (r1, r2, r3) := H
 have A5 := Aside0.mk A50
 clear A50
 simp only [Option.some.injEq, Prod.mk.injEq] at H
 obtain ⟨rfl, rfl, rfl⟩ := H
 go_enter Tryd.func83, Tryd.ntmps83
 go_wp2_with (first | ((with_reducible refine gate_dst (N := 4) rfl ?_); refine box_event ?hg (N := 4) ?hd (cs := #[.int .u64 0, .int .u64 0, .bool false]) (t := 74) ?hr ?_; (case hd => rfl); (case hg => rfl); (case hr => first | (go_simp; done) | (go_simp; rfl)); intro gb510 hg w6 hbox hb; have n0_ := kW HB hb; have n1_ := Aside0.mk (hbox); have n2_ := Aside0.mk ((by rw [hg]; exact (below_size (bS HB)) : w.heap.size ≤ gb510)); have n3_ := Aside0.mk ((by rw [hg]; exact (below_size (bS HB)) : w.heap.size ≤ gb510)); clear HB; have HB := n0_; have BK510 := n1_; have GW510 := n2_; have GE510 := n3_; clear n0_ n1_ n2_ n3_; clear hb hbox hg) | ((with_reducible refine gate_callee (f := 52) rfl ?_); refine goesL_ (some 9) rfl rfl Tryd.func52 (by kernel_rfl) rfl #[.int .i64 a0] rfl mS ?_; (with_reducible refine (congr_size.calls a0 t511 _ A3.out).mono ?_); rintro e w' ⟨rfl, ⟨nd, rfl⟩⟩; refine ⟨_, rfl, ?_⟩; (try (rw [drewN_self w6]; generalize hq_ : World.drewN w6 _ = w6; have n0_ : Aside0 (w6.heap[gb510]? = some (.cells #[.int .u64 0, .int .u64 0, .bool false] 74 (0, 0))) := ⟨by rw [← hq_]; exact (bkS BK510)⟩; have n1_ : Aside0 (Below w.heap.size w w6) := ⟨by rw [← hq_]; exact (bS HB)⟩; clear BK510 HB hq_; have BK510 := n0_; have HB := n1_; clear n0_ n1_))) | ((with_reducible refine gate_callee (f := 52) rfl ?_); refine goesL_ (some 11) rfl rfl Tryd.func52 (by kernel_rfl) rfl #[.int .i64 a1] rfl mS ?_; (with_reducible refine (congr_size.calls a1 t512 _ A4.out).mono ?_); rintro e w' ⟨rfl, ⟨nd, rfl⟩⟩; refine ⟨_, rfl, ?_⟩; (try (rw [drewN_self w6]; generalize hq_ : World.drewN w6 _ = w6; have n0_ : Aside0 (w6.heap[gb510]? = some (.cells #[.int .u64 0, .int .u64 0, .bool false] 74 (0, 0))) := ⟨by rw [← hq_]; exact (bkS BK510)⟩; have n1_ : Aside0 (Below w.heap.size w w6) := ⟨by rw [← hq_]; exact (bS HB)⟩; clear BK510 HB hq_; have BK510 := n0_; have HB := n1_; clear n0_ n1_))) | ((with_reducible refine gate_callee (f := 63) rfl ?_); refine goesL_ (some 12) rfl rfl Tryd.func63 (by kernel_rfl) rfl #[.int .u64 t511, .int .u64 t512] rfl mS ?_; (with_reducible refine (bits_Mul64.calls t511 t512 t513 t514 _ A5.out).mono ?_); rintro e w' ⟨rfl, ⟨nd, rfl⟩⟩; refine ⟨_, rfl, ?_⟩; (try (rw [drewN_self w6]; generalize hq_ : World.drewN w6 _ = w6; have n0_ : Aside0 (w6.heap[gb510]? = some (.cells #[.int .u64 0, .int .u64 0, .bool false] 74 (0, 0))) := ⟨by rw [← hq_]; exact (bkS BK510)⟩; have n1_ : Aside0 (Below w.heap.size w w6) := ⟨by rw [← hq_]; exact (bS HB)⟩; clear BK510 HB hq_; have BK510 := n0_; have HB := n1_; clear n0_ n1_)); have hcz7_0 := cz0 BK510; have hcz7_1 := cz1 BK510; have hcz7_2 := cz2 BK510; have hfz7_0 := fz BK510 0; have hfz7_1 := fz BK510 1; have hfz7_2 := fz BK510 2))
 refine bodyPost_ret (results_cell_row rfl _ _ gb510 74 #[.int .u64 t513, .int .u64 t514, .bool ((decide (a0 < 0)) != (decide (a1 < 0)))] (0, 0) _ rfl (by (with_reducible repeat (first | refine b1 ?_ _ | refine b2 ?_ | refine b3 ?_ _)); refine blk_put (cs := #[.int .u64 t513, .int .u64 t514, .bool false]) ?_ 2 _ rfl; (with_reducible repeat (first | refine b1 ?_ _ | refine b2 ?_ | refine b3 ?_ _)); refine blk_put (cs := #[.int .u64 t513, .int .u64 0, .bool false]) ?_ 1 _ rfl; (with_reducible repeat (first | refine b1 ?_ _ | refine b2 ?_ | refine b3 ?_ _)); refine blk_put (cs := #[.int .u64 0, .int .u64 0, .bool false]) ?_ 0 _ rfl; (with_reducible repeat (first | refine b1 ?_ _ | refine b2 ?_ | refine b3 ?_ _)); exact BK510.out) Tryd.underlying74 rfl (by kernel_rfl)) rfl ?_
 exact ⟨eS, bS HB⟩

mutual
def congr_Mul.j0 : Nat → Bool → Bool → Int → Int → Bool → Int → Int → Option (Bool × Int × Int)
 | 0, _, _, _, _, _, _, _ => none
 | k + 1, x13, x516000, x516001, x516002, x517000, x517001, x517002 => if x13 = true then ((congr_none.f).bind fun bt518 => (some (bt518.1, bt518.2.1, bt518.2.2))) else ((congr_size.f x517002).bind fun t521 => ((congr_gcd_uint64.f k (IntKind.u64.wrap ((IntKind.u64.wrap (x516001)) * (IntKind.u64.wrap (x517001)))) (IntKind.u64.wrap ((IntKind.u64.wrap (x516001)) * t521))).bind fun t522 => ((congr_size.f x516002).bind fun t523 => ((congr_gcd_uint64.f k t522 (IntKind.u64.wrap ((IntKind.u64.wrap (x517001)) * t523))).bind fun t524 => ((congr_times.f x516002 x517002).bind fun bt525 => (if t524 = 0 then (if bt525.1 = 0 then (congr_Mul.j1 k (decide (bt525.2.1 > 4611686018427387904)) bt525.1 bt525.2.1 bt525.2.2) else (congr_Mul.j1 k true bt525.1 bt525.2.1 bt525.2.2)) else ((congr_words_rest.f bt525.1 bt525.2.1 t524).bind fun t538 => (if bt525.2.2 = true then (if t538 > 0 then ((congr_of.f k t524 (IntKind.u64.wrap (t524 - t538))).bind fun bt539 => (some (bt539.1, bt539.2.1, bt539.2.2))) else ((congr_of.f k t524 t538).bind fun bt542 => (some (bt542.1, bt542.2.1, bt542.2.2)))) else ((congr_of.f k t524 t538).bind fun bt545 => (some (bt545.1, bt545.2.1, bt545.2.2)))))))))))
def congr_Mul.j1 : Nat → Bool → Int → Int → Bool → Option (Bool × Int × Int)
 | 0, _, _, _, _ => none
 | k + 1, x54, x529000, x529001, x529002 => if x54 = true then ((congr_none.f).bind fun bt529 => (some (bt529.1, bt529.2.1, bt529.2.2))) else (if x529002 = true then ((congr_constant.f (wrap64 (-(wrap64 (x529001))))).bind fun bt532 => (some (bt532.1, bt532.2.1, bt532.2.2))) else ((congr_constant.f (wrap64 (x529001))).bind fun bt535 => (some (bt535.1, bt535.2.1, bt535.2.2))))
end
def congr_Mul.f (k : Nat) (a0_0 : Bool) (a0_1 : Int) (a0_2 : Int) (a1_0 : Bool) (a1_1 : Int) (a1_2 : Int) : Option (Bool × Int × Int) := if a0_0 = true then (congr_Mul.j0 k true a0_0 a0_1 a0_2 a1_0 a1_1 a1_2) else (congr_Mul.j0 k a1_0 a0_0 a0_1 a0_2 a1_0 a1_1 a1_2)
set_option maxHeartbeats 8000000 in
set_option maxRecDepth 100000 in
theorem congr_Mul.calls (k : Nat) (a0_0 : Bool) (a0_1 : Int) (a0_2 : Int) (a1_0 : Bool) (a1_1 : Int) (a1_2 : Int) (r1 : Bool) (r2 : Int) (r3 : Int) (w : World) (h : congr_Mul.f k a0_0 a0_1 a0_2 a1_0 a1_1 a1_2 = some (r1, r2, r3)) :
  Calls Tryd.prog 39 #[.agg #[.bool a0_0, .int .i64 a0_1, .int .i64 a0_2], .agg #[.bool a1_0, .int .i64 a1_1, .int .i64 a1_2]] w fun e w' => e = .returned (.agg #[.bool r1, .int .i64 r2, .int .i64 r3]) ∧ Below w.heap.size w w' := by
 have hu23 := Tryd.underlying23
 have hu74 := Tryd.underlying74
 have hu67 := Tryd.underlying67
 have HB := Aside0.mk (Below.refl w.heap.size w)
 have H : (if a0_0 = true then (congr_Mul.j0 k true a0_0 a0_1 a0_2 a1_0 a1_1 a1_2) else (congr_Mul.j0 k a1_0 a0_0 a0_1 a0_2 a1_0 a1_1 a1_2)) = some (r1, r2, r3) := h
 clear h
 have HC3 := Aside0.mk H
 clear H
 go_enter Tryd.func39, Tryd.ntmps39
 go_upto_region 1 with (first | ((with_reducible refine gate_dst (N := 2) rfl ?_); refine box_event ?hg (N := 2) ?hd (cs := #[.bool a0_0, .int .i64 a0_1, .int .i64 a0_2]) (t := 23) ?hr ?_; (case hd => rfl); (case hg => rfl); (case hr => first | (go_simp; done) | (go_simp; rfl)); intro gb515 hg w4 hbox hb; have n0_ := kW HB hb; have n1_ := Aside0.mk (hbox); have n2_ := Aside0.mk ((by rw [hg]; exact (below_size (bS HB)) : w.heap.size ≤ gb515)); have n3_ := Aside0.mk ((by rw [hg]; exact (below_size (bS HB)) : w.heap.size ≤ gb515)); clear HB; have HB := n0_; have BK515 := n1_; have GW515 := n2_; have GE515 := n3_; clear n0_ n1_ n2_ n3_; clear hb hbox hg) | ((with_reducible refine gate_dst (N := 3) rfl ?_); refine box_event ?hg (N := 3) ?hd (cs := #[.bool a1_0, .int .i64 a1_1, .int .i64 a1_2]) (t := 23) ?hr ?_; (case hd => rfl); (case hg => rfl); (case hr => first | (go_simp; done) | (go_simp; rfl)); intro gb516 hg w5 hbox hb; have n0_ := kB BK515 hb; have n1_ := kW HB hb; have n2_ := Aside0.mk (hbox); have n3_ := Aside0.mk ((by rw [hg]; exact (below_size (bS HB)) : w.heap.size ≤ gb516)); have n4_ := Aside0.mk ((by rw [hg]; exact (below_size (bS HB)) : w.heap.size ≤ gb516)); have n5_ := Aside0.mk ((by rw [hg]; exact Nat.ne_of_lt (blk_lt (bkS BK515)) : gb515 ≠ gb516)); have n6_ := Aside0.mk ((by rw [hg]; exact Nat.ne_of_gt (blk_lt (bkS BK515)) : gb516 ≠ gb515)); clear BK515; clear HB; have BK515 := n0_; have HB := n1_; have BK516 := n2_; have GW516 := n3_; have GE516 := n4_; have NB515_516 := n5_; have NB516_515 := n6_; clear n0_ n1_ n2_ n3_ n4_ n5_ n6_; clear hb hbox hg) | ((with_reducible refine gate_dst (N := 4) rfl ?_); refine box_event ?hg (N := 4) ?hd (cs := #[.bool false, .int .i64 0, .int .i64 0]) (t := 23) ?hr ?_; (case hd => rfl); (case hg => rfl); (case hr => first | (go_simp; done) | (go_simp; rfl)); intro gb517 hg w6 hbox hb; have n0_ := kB BK515 hb; have n1_ := kB BK516 hb; have n2_ := kW HB hb; have n3_ := Aside0.mk (hbox); have n4_ := Aside0.mk ((by rw [hg]; exact (below_size (bS HB)) : w.heap.size ≤ gb517)); have n5_ := Aside0.mk ((by rw [hg]; exact (below_size (bS HB)) : w.heap.size ≤ gb517)); have n6_ := Aside0.mk ((by rw [hg]; exact Nat.ne_of_lt (blk_lt (bkS BK515)) : gb515 ≠ gb517)); have n7_ := Aside0.mk ((by rw [hg]; exact Nat.ne_of_gt (blk_lt (bkS BK515)) : gb517 ≠ gb515)); have n8_ := Aside0.mk ((by rw [hg]; exact Nat.ne_of_lt (blk_lt (bkS BK516)) : gb516 ≠ gb517)); have n9_ := Aside0.mk ((by rw [hg]; exact Nat.ne_of_gt (blk_lt (bkS BK516)) : gb517 ≠ gb516)); clear BK515; clear BK516; clear HB; have BK515 := n0_; have BK516 := n1_; have HB := n2_; have BK517 := n3_; have GW517 := n4_; have GE517 := n5_; have NB515_517 := n6_; have NB517_515 := n7_; have NB516_517 := n8_; have NB517_516 := n9_; clear n0_ n1_ n2_ n3_ n4_ n5_ n6_ n7_ n8_ n9_; clear hb hbox hg))
 repeat (go_quiet (first | ((with_reducible refine gate_dst (N := 2) rfl ?_); refine box_event ?hg (N := 2) ?hd (cs := #[.bool a0_0, .int .i64 a0_1, .int .i64 a0_2]) (t := 23) ?hr ?_; (case hd => rfl); (case hg => rfl); (case hr => first | (go_simp; done) | (go_simp; rfl)); intro gb515 hg w4 hbox hb; have n0_ := kW HB hb; have n1_ := Aside0.mk (hbox); have n2_ := Aside0.mk ((by rw [hg]; exact (below_size (bS HB)) : w.heap.size ≤ gb515)); have n3_ := Aside0.mk ((by rw [hg]; exact (below_size (bS HB)) : w.heap.size ≤ gb515)); clear HB; have HB := n0_; have BK515 := n1_; have GW515 := n2_; have GE515 := n3_; clear n0_ n1_ n2_ n3_; clear hb hbox hg) | ((with_reducible refine gate_dst (N := 3) rfl ?_); refine box_event ?hg (N := 3) ?hd (cs := #[.bool a1_0, .int .i64 a1_1, .int .i64 a1_2]) (t := 23) ?hr ?_; (case hd => rfl); (case hg => rfl); (case hr => first | (go_simp; done) | (go_simp; rfl)); intro gb516 hg w5 hbox hb; have n0_ := kB BK515 hb; have n1_ := kW HB hb; have n2_ := Aside0.mk (hbox); have n3_ := Aside0.mk ((by rw [hg]; exact (below_size (bS HB)) : w.heap.size ≤ gb516)); have n4_ := Aside0.mk ((by rw [hg]; exact (below_size (bS HB)) : w.heap.size ≤ gb516)); have n5_ := Aside0.mk ((by rw [hg]; exact Nat.ne_of_lt (blk_lt (bkS BK515)) : gb515 ≠ gb516)); have n6_ := Aside0.mk ((by rw [hg]; exact Nat.ne_of_gt (blk_lt (bkS BK515)) : gb516 ≠ gb515)); clear BK515; clear HB; have BK515 := n0_; have HB := n1_; have BK516 := n2_; have GW516 := n3_; have GE516 := n4_; have NB515_516 := n5_; have NB516_515 := n6_; clear n0_ n1_ n2_ n3_ n4_ n5_ n6_; clear hb hbox hg) | ((with_reducible refine gate_dst (N := 4) rfl ?_); refine box_event ?hg (N := 4) ?hd (cs := #[.bool false, .int .i64 0, .int .i64 0]) (t := 23) ?hr ?_; (case hd => rfl); (case hg => rfl); (case hr => first | (go_simp; done) | (go_simp; rfl)); intro gb517 hg w6 hbox hb; have n0_ := kB BK515 hb; have n1_ := kB BK516 hb; have n2_ := kW HB hb; have n3_ := Aside0.mk (hbox); have n4_ := Aside0.mk ((by rw [hg]; exact (below_size (bS HB)) : w.heap.size ≤ gb517)); have n5_ := Aside0.mk ((by rw [hg]; exact (below_size (bS HB)) : w.heap.size ≤ gb517)); have n6_ := Aside0.mk ((by rw [hg]; exact Nat.ne_of_lt (blk_lt (bkS BK515)) : gb515 ≠ gb517)); have n7_ := Aside0.mk ((by rw [hg]; exact Nat.ne_of_gt (blk_lt (bkS BK515)) : gb517 ≠ gb515)); have n8_ := Aside0.mk ((by rw [hg]; exact Nat.ne_of_lt (blk_lt (bkS BK516)) : gb516 ≠ gb517)); have n9_ := Aside0.mk ((by rw [hg]; exact Nat.ne_of_gt (blk_lt (bkS BK516)) : gb517 ≠ gb516)); clear BK515; clear BK516; clear HB; have BK515 := n0_; have BK516 := n1_; have HB := n2_; have BK517 := n3_; have GW517 := n4_; have GE517 := n5_; have NB515_517 := n6_; have NB517_515 := n7_; have NB516_517 := n8_; have NB517_516 := n9_; clear n0_ n1_ n2_ n3_ n4_ n5_ n6_ n7_ n8_ n9_; clear hb hbox hg)); go_upto_region 1 with (first | ((with_reducible refine gate_dst (N := 2) rfl ?_); refine box_event ?hg (N := 2) ?hd (cs := #[.bool a0_0, .int .i64 a0_1, .int .i64 a0_2]) (t := 23) ?hr ?_; (case hd => rfl); (case hg => rfl); (case hr => first | (go_simp; done) | (go_simp; rfl)); intro gb515 hg w4 hbox hb; have n0_ := kW HB hb; have n1_ := Aside0.mk (hbox); have n2_ := Aside0.mk ((by rw [hg]; exact (below_size (bS HB)) : w.heap.size ≤ gb515)); have n3_ := Aside0.mk ((by rw [hg]; exact (below_size (bS HB)) : w.heap.size ≤ gb515)); clear HB; have HB := n0_; have BK515 := n1_; have GW515 := n2_; have GE515 := n3_; clear n0_ n1_ n2_ n3_; clear hb hbox hg) | ((with_reducible refine gate_dst (N := 3) rfl ?_); refine box_event ?hg (N := 3) ?hd (cs := #[.bool a1_0, .int .i64 a1_1, .int .i64 a1_2]) (t := 23) ?hr ?_; (case hd => rfl); (case hg => rfl); (case hr => first | (go_simp; done) | (go_simp; rfl)); intro gb516 hg w5 hbox hb; have n0_ := kB BK515 hb; have n1_ := kW HB hb; have n2_ := Aside0.mk (hbox); have n3_ := Aside0.mk ((by rw [hg]; exact (below_size (bS HB)) : w.heap.size ≤ gb516)); have n4_ := Aside0.mk ((by rw [hg]; exact (below_size (bS HB)) : w.heap.size ≤ gb516)); have n5_ := Aside0.mk ((by rw [hg]; exact Nat.ne_of_lt (blk_lt (bkS BK515)) : gb515 ≠ gb516)); have n6_ := Aside0.mk ((by rw [hg]; exact Nat.ne_of_gt (blk_lt (bkS BK515)) : gb516 ≠ gb515)); clear BK515; clear HB; have BK515 := n0_; have HB := n1_; have BK516 := n2_; have GW516 := n3_; have GE516 := n4_; have NB515_516 := n5_; have NB516_515 := n6_; clear n0_ n1_ n2_ n3_ n4_ n5_ n6_; clear hb hbox hg) | ((with_reducible refine gate_dst (N := 4) rfl ?_); refine box_event ?hg (N := 4) ?hd (cs := #[.bool false, .int .i64 0, .int .i64 0]) (t := 23) ?hr ?_; (case hd => rfl); (case hg => rfl); (case hr => first | (go_simp; done) | (go_simp; rfl)); intro gb517 hg w6 hbox hb; have n0_ := kB BK515 hb; have n1_ := kB BK516 hb; have n2_ := kW HB hb; have n3_ := Aside0.mk (hbox); have n4_ := Aside0.mk ((by rw [hg]; exact (below_size (bS HB)) : w.heap.size ≤ gb517)); have n5_ := Aside0.mk ((by rw [hg]; exact (below_size (bS HB)) : w.heap.size ≤ gb517)); have n6_ := Aside0.mk ((by rw [hg]; exact Nat.ne_of_lt (blk_lt (bkS BK515)) : gb515 ≠ gb517)); have n7_ := Aside0.mk ((by rw [hg]; exact Nat.ne_of_gt (blk_lt (bkS BK515)) : gb517 ≠ gb515)); have n8_ := Aside0.mk ((by rw [hg]; exact Nat.ne_of_lt (blk_lt (bkS BK516)) : gb516 ≠ gb517)); have n9_ := Aside0.mk ((by rw [hg]; exact Nat.ne_of_gt (blk_lt (bkS BK516)) : gb517 ≠ gb516)); clear BK515; clear BK516; clear HB; have BK515 := n0_; have BK516 := n1_; have HB := n2_; have BK517 := n3_; have GW517 := n4_; have GE517 := n5_; have NB515_517 := n6_; have NB517_515 := n7_; have NB516_517 := n8_; have NB517_516 := n9_; clear n0_ n1_ n2_ n3_ n4_ n5_ n6_ n7_ n8_ n9_; clear hb hbox hg)))
 (try simp only [Act.put, lA, lB, lC])
 go_cut [13] (fun v13 wc => ∃ (kq : Nat) (x13_2 : Bool), v13 = .bool x13_2 ∧ Aside0 (congr_Mul.j0 kq x13_2 a0_0 a0_1 a0_2 a1_0 a1_1 a1_2 = some (r1, r2, r3)) ∧ Aside0 (kq ≤ k) ∧ Aside0 (wc.heap[gb515]? = some (.cells #[.bool a0_0, .int .i64 a0_1, .int .i64 a0_2] 23 (0, 0))) ∧ Aside0 (wc.heap[gb516]? = some (.cells #[.bool a1_0, .int .i64 a1_1, .int .i64 a1_2] 23 (0, 0))) ∧ Aside0 (wc.heap[gb517]? = some (.cells #[.bool false, .int .i64 0, .int .i64 0] 23 (0, 0))) ∧ Aside0 (Below w.heap.size w wc))
 case first =>
  have H := HC3.out
  clear HC3
  by_cases c7 : a0_0 = true
  ·
   subst c7
   have H1 : (congr_Mul.j0 k true true a0_1 a0_2 a1_0 a1_1 a1_2) = some (r1, r2, r3) := by rw [if_pos rfl] at H; exact H
   clear H
   have H := H1
   clear H1
   have H' := Aside0.mk H
   clear H
   have hnb8 := NB515_516.out
   have hnc8 := NB516_515.out
   have hnb9 := NB515_517.out
   have hnc9 := NB517_515.out
   have hcz10_0 := cz0 BK515
   have hcz10_1 := cz1 BK515
   have hcz10_2 := cz2 BK515
   have hfz10_0 := fz BK515 0
   have hfz10_1 := fz BK515 1
   have hfz10_2 := fz BK515 2
   go_wp2
   repeat (go_quiet (fail); try go_wp2)
   go_meet
   case rel => exact ⟨_, (true), (by first | rfl | (simp; done) | (simp [*]; done)), H', ⟨by first | omega | exact Nat.le_refl _⟩, ⟨bkS BK515⟩, ⟨bkS BK516⟩, ⟨bkS BK517⟩, ⟨bS HB⟩⟩
  ·
   replace c7 := Bool.eq_false_iff.mpr c7
   subst c7
   have H1 : (congr_Mul.j0 k a1_0 false a0_1 a0_2 a1_0 a1_1 a1_2) = some (r1, r2, r3) := by rw [if_neg (show ¬ (false = true) by decide)] at H; exact H
   clear H
   have H := H1
   clear H1
   have H' := Aside0.mk H
   clear H
   have hnb11 := NB515_516.out
   have hnc11 := NB516_515.out
   have hnb12 := NB515_517.out
   have hnc12 := NB517_515.out
   have hcz13_0 := cz0 BK515
   have hcz13_1 := cz1 BK515
   have hcz13_2 := cz2 BK515
   have hfz13_0 := fz BK515 0
   have hfz13_1 := fz BK515 1
   have hfz13_2 := fz BK515 2
   have hnb14 := NB516_517.out
   have hnc14 := NB517_516.out
   have hcz15_0 := cz0 BK516
   have hcz15_1 := cz1 BK516
   have hcz15_2 := cz2 BK516
   have hfz15_0 := fz BK516 0
   have hfz15_1 := fz BK516 1
   have hfz15_2 := fz BK516 2
   go_wp2
   repeat (go_quiet (fail); try go_wp2)
   go_meet
   case rel => exact ⟨_, (a1_0), (by first | rfl | (simp; done) | (simp [*]; done)), H', ⟨by first | omega | exact Nat.le_refl _⟩, ⟨bkS BK515⟩, ⟨bkS BK516⟩, ⟨bkS BK517⟩, ⟨bS HB⟩⟩
 case rest =>
  clear HC3
  try clear c1
  try clear p2
  try clear c3
  try clear c7
  try clear c8
  try clear c9
  try clear c11
  try clear c12
  try clear c14
  try clear hcz10_0
  try clear hcz10_1
  try clear hcz10_2
  try clear hcz13_0
  try clear hcz13_1
  try clear hcz13_2
  try clear hcz15_0
  try clear hcz15_1
  try clear hcz15_2
  try clear hfz10_0
  try clear hfz10_1
  try clear hfz10_2
  try clear hfz13_0
  try clear hfz13_1
  try clear hfz13_2
  try clear hfz15_0
  try clear hfz15_1
  try clear hfz15_2
  obtain ⟨kq, x13_2, rfl, HA, HJ2, BK515, BK516, BK517, HB⟩ := hcut
  cases kq with
  | zero => exact absurd HA.out (by simp [congr_Mul.j0])
  | succ kj2 =>
   have H := HA.out
   clear HA
   simp only [congr_Mul.j0] at H
   by_cases c16 : x13_2 = true
   ·
    subst c16
    have H1 : ((congr_none.f).bind fun bt518 => (some (bt518.1, bt518.2.1, bt518.2.2))) = some (r1, r2, r3) := by rw [if_pos rfl] at H; exact H
    clear H
    have H := H1
    clear H1
    replace H := Option.bind_eq_some_iff.mp H
    obtain ⟨⟨t518, t519, t520⟩, A170, H⟩ := H
    replace H : (some (t518, t519, t520)) = some (r1, r2, r3) := H
    have A17 := Aside0.mk A170
    clear A170
    simp only [Option.some.injEq, Prod.mk.injEq] at H
    obtain ⟨rfl, rfl, rfl⟩ := H
    go_wp2_with (first | (go_at_call 56; (with_reducible refine (congr_none.calls  t518 t519 t520 _ A17.out).mono ?_); rintro e w18 ⟨rfl, hb⟩; replace BK515 := kB BK515 hb; replace BK516 := kB BK516 hb; replace BK517 := kB BK517 hb; replace HB := kW HB hb; (try clear hb); (try clear hb2); (try clear hk); (try clear hi); have hnb19 := NB517_515.out; have hnc19 := NB515_517.out; have hnb20 := NB517_516.out; have hnc20 := NB516_517.out; have hcz21_0 := cz0 BK517; have hcz21_1 := cz1 BK517; have hcz21_2 := cz2 BK517; have hfz21_0 := fz BK517 0; have hfz21_1 := fz BK517 1; have hfz21_2 := fz BK517 2))
    repeat (go_quiet (first | (go_at_call 56; (with_reducible refine (congr_none.calls  t518 t519 t520 _ A17.out).mono ?_); rintro e w18 ⟨rfl, hb⟩; replace BK515 := kB BK515 hb; replace BK516 := kB BK516 hb; replace BK517 := kB BK517 hb; replace HB := kW HB hb; (try clear hb); (try clear hb2); (try clear hk); (try clear hi); have hnb19 := NB517_515.out; have hnc19 := NB515_517.out; have hnb20 := NB517_516.out; have hnc20 := NB516_517.out; have hcz21_0 := cz0 BK517; have hcz21_1 := cz1 BK517; have hcz21_2 := cz2 BK517; have hfz21_0 := fz BK517 0; have hfz21_1 := fz BK517 1; have hfz21_2 := fz BK517 2)); try go_wp2_with (first | (go_at_call 56; (with_reducible refine (congr_none.calls  t518 t519 t520 _ A17.out).mono ?_); rintro e w18 ⟨rfl, hb⟩; replace BK515 := kB BK515 hb; replace BK516 := kB BK516 hb; replace BK517 := kB BK517 hb; replace HB := kW HB hb; (try clear hb); (try clear hb2); (try clear hk); (try clear hi); have hnb19 := NB517_515.out; have hnc19 := NB515_517.out; have hnb20 := NB517_516.out; have hnc20 := NB516_517.out; have hcz21_0 := cz0 BK517; have hcz21_1 := cz1 BK517; have hcz21_2 := cz2 BK517; have hfz21_0 := fz BK517 0; have hfz21_1 := fz BK517 1; have hfz21_2 := fz BK517 2)))
    refine bodyPost_ret (results_cell_row rfl _ _ gb517 23 #[.bool t518, .int .i64 t519, .int .i64 t520] (0, 0) _ rfl (by (with_reducible repeat (first | refine b1 ?_ _ | refine b2 ?_ | refine b3 ?_ _)); refine blk_put (cs := #[.bool t518, .int .i64 t519, .int .i64 0]) ?_ 2 _ rfl; (with_reducible repeat (first | refine b1 ?_ _ | refine b2 ?_ | refine b3 ?_ _)); refine blk_put (cs := #[.bool t518, .int .i64 0, .int .i64 0]) ?_ 1 _ rfl; (with_reducible repeat (first | refine b1 ?_ _ | refine b2 ?_ | refine b3 ?_ _)); refine blk_put (cs := #[.bool false, .int .i64 0, .int .i64 0]) ?_ 0 _ rfl; (with_reducible repeat (first | refine b1 ?_ _ | refine b2 ?_ | refine b3 ?_ _)); exact BK517.out) Tryd.underlying23 rfl (by kernel_rfl)) rfl ?_
    exact ⟨eS, bS HB⟩
   ·
    replace c16 := Bool.eq_false_iff.mpr c16
    subst c16
    have H1 : ((congr_size.f a1_2).bind fun t521 => ((congr_gcd_uint64.f kj2 (IntKind.u64.wrap ((IntKind.u64.wrap (a0_1)) * (IntKind.u64.wrap (a1_1)))) (IntKind.u64.wrap ((IntKind.u64.wrap (a0_1)) * t521))).bind fun t522 => ((congr_size.f a0_2).bind fun t523 => ((congr_gcd_uint64.f kj2 t522 (IntKind.u64.wrap ((IntKind.u64.wrap (a1_1)) * t523))).bind fun t524 => ((congr_times.f a0_2 a1_2).bind fun bt525 => (if t524 = 0 then (if bt525.1 = 0 then (congr_Mul.j1 kj2 (decide (bt525.2.1 > 4611686018427387904)) bt525.1 bt525.2.1 bt525.2.2) else (congr_Mul.j1 kj2 true bt525.1 bt525.2.1 bt525.2.2)) else ((congr_words_rest.f bt525.1 bt525.2.1 t524).bind fun t538 => (if bt525.2.2 = true then (if t538 > 0 then ((congr_of.f kj2 t524 (IntKind.u64.wrap (t524 - t538))).bind fun bt539 => (some (bt539.1, bt539.2.1, bt539.2.2))) else ((congr_of.f kj2 t524 t538).bind fun bt542 => (some (bt542.1, bt542.2.1, bt542.2.2)))) else ((congr_of.f kj2 t524 t538).bind fun bt545 => (some (bt545.1, bt545.2.1, bt545.2.2))))))))))) = some (r1, r2, r3) := by rw [if_neg (show ¬ (false = true) by decide)] at H; exact H
    clear H
    have H := H1
    clear H1
    replace H := Option.bind_eq_some_iff.mp H
    obtain ⟨t521, A220, H⟩ := H
    replace H : ((congr_gcd_uint64.f kj2 (IntKind.u64.wrap ((IntKind.u64.wrap (a0_1)) * (IntKind.u64.wrap (a1_1)))) (IntKind.u64.wrap ((IntKind.u64.wrap (a0_1)) * t521))).bind fun t522 => ((congr_size.f a0_2).bind fun t523 => ((congr_gcd_uint64.f kj2 t522 (IntKind.u64.wrap ((IntKind.u64.wrap (a1_1)) * t523))).bind fun t524 => ((congr_times.f a0_2 a1_2).bind fun bt525 => (if t524 = 0 then (if bt525.1 = 0 then (congr_Mul.j1 kj2 (decide (bt525.2.1 > 4611686018427387904)) bt525.1 bt525.2.1 bt525.2.2) else (congr_Mul.j1 kj2 true bt525.1 bt525.2.1 bt525.2.2)) else ((congr_words_rest.f bt525.1 bt525.2.1 t524).bind fun t538 => (if bt525.2.2 = true then (if t538 > 0 then ((congr_of.f kj2 t524 (IntKind.u64.wrap (t524 - t538))).bind fun bt539 => (some (bt539.1, bt539.2.1, bt539.2.2))) else ((congr_of.f kj2 t524 t538).bind fun bt542 => (some (bt542.1, bt542.2.1, bt542.2.2)))) else ((congr_of.f kj2 t524 t538).bind fun bt545 => (some (bt545.1, bt545.2.1, bt545.2.2)))))))))) = some (r1, r2, r3) := H
    have A22 := Aside0.mk A220
    clear A220
    replace H := Option.bind_eq_some_iff.mp H
    obtain ⟨t522, A230, H⟩ := H
    replace H : ((congr_size.f a0_2).bind fun t523 => ((congr_gcd_uint64.f kj2 t522 (IntKind.u64.wrap ((IntKind.u64.wrap (a1_1)) * t523))).bind fun t524 => ((congr_times.f a0_2 a1_2).bind fun bt525 => (if t524 = 0 then (if bt525.1 = 0 then (congr_Mul.j1 kj2 (decide (bt525.2.1 > 4611686018427387904)) bt525.1 bt525.2.1 bt525.2.2) else (congr_Mul.j1 kj2 true bt525.1 bt525.2.1 bt525.2.2)) else ((congr_words_rest.f bt525.1 bt525.2.1 t524).bind fun t538 => (if bt525.2.2 = true then (if t538 > 0 then ((congr_of.f kj2 t524 (IntKind.u64.wrap (t524 - t538))).bind fun bt539 => (some (bt539.1, bt539.2.1, bt539.2.2))) else ((congr_of.f kj2 t524 t538).bind fun bt542 => (some (bt542.1, bt542.2.1, bt542.2.2)))) else ((congr_of.f kj2 t524 t538).bind fun bt545 => (some (bt545.1, bt545.2.1, bt545.2.2))))))))) = some (r1, r2, r3) := H
    have A23 := Aside0.mk A230
    clear A230
    replace H := Option.bind_eq_some_iff.mp H
    obtain ⟨t523, A240, H⟩ := H
    replace H : ((congr_gcd_uint64.f kj2 t522 (IntKind.u64.wrap ((IntKind.u64.wrap (a1_1)) * t523))).bind fun t524 => ((congr_times.f a0_2 a1_2).bind fun bt525 => (if t524 = 0 then (if bt525.1 = 0 then (congr_Mul.j1 kj2 (decide (bt525.2.1 > 4611686018427387904)) bt525.1 bt525.2.1 bt525.2.2) else (congr_Mul.j1 kj2 true bt525.1 bt525.2.1 bt525.2.2)) else ((congr_words_rest.f bt525.1 bt525.2.1 t524).bind fun t538 => (if bt525.2.2 = true then (if t538 > 0 then ((congr_of.f kj2 t524 (IntKind.u64.wrap (t524 - t538))).bind fun bt539 => (some (bt539.1, bt539.2.1, bt539.2.2))) else ((congr_of.f kj2 t524 t538).bind fun bt542 => (some (bt542.1, bt542.2.1, bt542.2.2)))) else ((congr_of.f kj2 t524 t538).bind fun bt545 => (some (bt545.1, bt545.2.1, bt545.2.2)))))))) = some (r1, r2, r3) := H
    have A24 := Aside0.mk A240
    clear A240
    replace H := Option.bind_eq_some_iff.mp H
    obtain ⟨t524, A250, H⟩ := H
    replace H : ((congr_times.f a0_2 a1_2).bind fun bt525 => (if t524 = 0 then (if bt525.1 = 0 then (congr_Mul.j1 kj2 (decide (bt525.2.1 > 4611686018427387904)) bt525.1 bt525.2.1 bt525.2.2) else (congr_Mul.j1 kj2 true bt525.1 bt525.2.1 bt525.2.2)) else ((congr_words_rest.f bt525.1 bt525.2.1 t524).bind fun t538 => (if bt525.2.2 = true then (if t538 > 0 then ((congr_of.f kj2 t524 (IntKind.u64.wrap (t524 - t538))).bind fun bt539 => (some (bt539.1, bt539.2.1, bt539.2.2))) else ((congr_of.f kj2 t524 t538).bind fun bt542 => (some (bt542.1, bt542.2.1, bt542.2.2)))) else ((congr_of.f kj2 t524 t538).bind fun bt545 => (some (bt545.1, bt545.2.1, bt545.2.2))))))) = some (r1, r2, r3) := H
    have A25 := Aside0.mk A250
    clear A250
    replace H := Option.bind_eq_some_iff.mp H
    obtain ⟨⟨t525, t526, t527⟩, A260, H⟩ := H
    replace H : (if t524 = 0 then (if t525 = 0 then (congr_Mul.j1 kj2 (decide (t526 > 4611686018427387904)) t525 t526 t527) else (congr_Mul.j1 kj2 true t525 t526 t527)) else ((congr_words_rest.f t525 t526 t524).bind fun t538 => (if t527 = true then (if t538 > 0 then ((congr_of.f kj2 t524 (IntKind.u64.wrap (t524 - t538))).bind fun bt539 => (some (bt539.1, bt539.2.1, bt539.2.2))) else ((congr_of.f kj2 t524 t538).bind fun bt542 => (some (bt542.1, bt542.2.1, bt542.2.2)))) else ((congr_of.f kj2 t524 t538).bind fun bt545 => (some (bt545.1, bt545.2.1, bt545.2.2)))))) = some (r1, r2, r3) := H
    have A26 := Aside0.mk A260
    clear A260
    by_cases c27 : t524 = 0
    ·
     rw [if_pos c27] at H
     have c27b0 : (t524 == 0) = true := beq_iff_eq.mpr c27
     have c27b1 : (t524 != 0) = false := bne_eq_false_iff_eq.mpr c27
     clear c27
     have HC28 := Aside0.mk H
     clear H
     have hnb29 := NB515_516.out
     have hnc29 := NB516_515.out
     have hnb30 := NB515_517.out
     have hnc30 := NB517_515.out
     have hcz31_0 : wc.cell? ⟨gb515, 0, none⟩ = some (.bool a0_0) := cz0 BK515
     have hcz31_1 : wc.cell? ⟨gb515, 1, none⟩ = some (.int .i64 a0_1) := cz1 BK515
     have hcz31_2 : wc.cell? ⟨gb515, 2, none⟩ = some (.int .i64 a0_2) := cz2 BK515
     have hfz31_0 := fz BK515 0
     have hfz31_1 := fz BK515 1
     have hfz31_2 := fz BK515 2
     have hnb32 := NB516_517.out
     have hnc32 := NB517_516.out
     have hcz33_0 : wc.cell? ⟨gb516, 0, none⟩ = some (.bool a1_0) := cz0 BK516
     have hcz33_1 : wc.cell? ⟨gb516, 1, none⟩ = some (.int .i64 a1_1) := cz1 BK516
     have hcz33_2 : wc.cell? ⟨gb516, 2, none⟩ = some (.int .i64 a1_2) := cz2 BK516
     have hfz33_0 := fz BK516 0
     have hfz33_1 := fz BK516 1
     have hfz33_2 := fz BK516 2
     go_upto_region 6 with (first | (go_at_call 52; (with_reducible refine (congr_size.calls a1_2 t521 _ A22.out).mono ?_); rintro e w' ⟨rfl, ⟨nd, rfl⟩⟩; (try first | exact ⟨rfl, _, World.drewN_drewN _ _ _⟩ | exact ⟨rfl, _, Eq.trans (World.drewN_drewN _ _ _) (congrArg (World.drewN _) (Nat.add_assoc _ _ _))⟩)) | (go_at_call 62; (with_reducible refine (congr_gcd_uint64.calls kj2 (IntKind.u64.wrap ((IntKind.u64.wrap (a0_1)) * (IntKind.u64.wrap (a1_1)))) (IntKind.u64.wrap ((IntKind.u64.wrap (a0_1)) * t521)) t522 _ A23.out).mono ?_); rintro e w' ⟨rfl, ⟨nd, rfl⟩⟩; (try first | exact ⟨rfl, _, World.drewN_drewN _ _ _⟩ | exact ⟨rfl, _, Eq.trans (World.drewN_drewN _ _ _) (congrArg (World.drewN _) (Nat.add_assoc _ _ _))⟩)) | (go_at_call 52; (with_reducible refine (congr_size.calls a0_2 t523 _ A24.out).mono ?_); rintro e w' ⟨rfl, ⟨nd, rfl⟩⟩; (try first | exact ⟨rfl, _, World.drewN_drewN _ _ _⟩ | exact ⟨rfl, _, Eq.trans (World.drewN_drewN _ _ _) (congrArg (World.drewN _) (Nat.add_assoc _ _ _))⟩)) | (go_at_call 62; (with_reducible refine (congr_gcd_uint64.calls kj2 t522 (IntKind.u64.wrap ((IntKind.u64.wrap (a1_1)) * t523)) t524 _ A25.out).mono ?_); rintro e w' ⟨rfl, ⟨nd, rfl⟩⟩; (try first | exact ⟨rfl, _, World.drewN_drewN _ _ _⟩ | exact ⟨rfl, _, Eq.trans (World.drewN_drewN _ _ _) (congrArg (World.drewN _) (Nat.add_assoc _ _ _))⟩)) | (go_at_call 83; (with_reducible refine (congr_times.calls a0_2 a1_2 t525 t526 t527 _ A26.out).mono ?_); rintro e w34 ⟨rfl, hb⟩; replace BK515 := kB BK515 hb; replace BK516 := kB BK516 hb; replace BK517 := kB BK517 hb; replace HB := kW HB hb; (try clear hb); (try clear hb2); (try clear hk); (try clear hi)) | ((with_reducible refine gate_dst (N := 6) rfl ?_); refine box_event ?hg (N := 6) ?hd (cs := #[.int .u64 0, .int .u64 0, .bool false]) (t := 74) ?hr ?_; (case hd => rfl); (case hg => rfl); (case hr => first | (go_simp; done) | (go_simp; rfl)); intro gb528 hg w35 hbox hb; have n0_ := kB BK515 hb; have n1_ := kB BK516 hb; have n2_ := kB BK517 hb; have n3_ := kW HB hb; have n4_ := Aside0.mk (hbox); have n5_ := Aside0.mk ((by rw [hg]; exact (below_size (bS HB)) : w.heap.size ≤ gb528)); have n6_ := Aside0.mk ((by rw [hg]; exact (below_size (bS HB)) : w.heap.size ≤ gb528)); have n7_ := Aside0.mk ((by rw [hg]; exact Nat.ne_of_lt (blk_lt (bkS BK515)) : gb515 ≠ gb528)); have n8_ := Aside0.mk ((by rw [hg]; exact Nat.ne_of_gt (blk_lt (bkS BK515)) : gb528 ≠ gb515)); have n9_ := Aside0.mk ((by rw [hg]; exact Nat.ne_of_lt (blk_lt (bkS BK516)) : gb516 ≠ gb528)); have n10_ := Aside0.mk ((by rw [hg]; exact Nat.ne_of_gt (blk_lt (bkS BK516)) : gb528 ≠ gb516)); have n11_ := Aside0.mk ((by rw [hg]; exact Nat.ne_of_lt (blk_lt (bkS BK517)) : gb517 ≠ gb528)); have n12_ := Aside0.mk ((by rw [hg]; exact Nat.ne_of_gt (blk_lt (bkS BK517)) : gb528 ≠ gb517)); clear BK515; clear BK516; clear BK517; clear HB; have BK515 := n0_; have BK516 := n1_; have BK517 := n2_; have HB := n3_; have BK528 := n4_; have GW528 := n5_; have GE528 := n6_; have NB515_528 := n7_; have NB528_515 := n8_; have NB516_528 := n9_; have NB528_516 := n10_; have NB517_528 := n11_; have NB528_517 := n12_; clear n0_ n1_ n2_ n3_ n4_ n5_ n6_ n7_ n8_ n9_ n10_ n11_ n12_; clear hb hbox hg; have hnb36 := NB528_515.out; have hnc36 := NB515_528.out; have hnb37 := NB528_516.out; have hnc37 := NB516_528.out; have hnb38 := NB528_517.out; have hnc38 := NB517_528.out; have hcz39_0 := cz0 BK528; have hcz39_1 := cz1 BK528; have hcz39_2 := cz2 BK528; have hfz39_0 := fz BK528 0; have hfz39_1 := fz BK528 1; have hfz39_2 := fz BK528 2))
     repeat (go_quiet (first | (go_at_call 52; (with_reducible refine (congr_size.calls a1_2 t521 _ A22.out).mono ?_); rintro e w' ⟨rfl, ⟨nd, rfl⟩⟩; (try first | exact ⟨rfl, _, World.drewN_drewN _ _ _⟩ | exact ⟨rfl, _, Eq.trans (World.drewN_drewN _ _ _) (congrArg (World.drewN _) (Nat.add_assoc _ _ _))⟩)) | (go_at_call 62; (with_reducible refine (congr_gcd_uint64.calls kj2 (IntKind.u64.wrap ((IntKind.u64.wrap (a0_1)) * (IntKind.u64.wrap (a1_1)))) (IntKind.u64.wrap ((IntKind.u64.wrap (a0_1)) * t521)) t522 _ A23.out).mono ?_); rintro e w' ⟨rfl, ⟨nd, rfl⟩⟩; (try first | exact ⟨rfl, _, World.drewN_drewN _ _ _⟩ | exact ⟨rfl, _, Eq.trans (World.drewN_drewN _ _ _) (congrArg (World.drewN _) (Nat.add_assoc _ _ _))⟩)) | (go_at_call 52; (with_reducible refine (congr_size.calls a0_2 t523 _ A24.out).mono ?_); rintro e w' ⟨rfl, ⟨nd, rfl⟩⟩; (try first | exact ⟨rfl, _, World.drewN_drewN _ _ _⟩ | exact ⟨rfl, _, Eq.trans (World.drewN_drewN _ _ _) (congrArg (World.drewN _) (Nat.add_assoc _ _ _))⟩)) | (go_at_call 62; (with_reducible refine (congr_gcd_uint64.calls kj2 t522 (IntKind.u64.wrap ((IntKind.u64.wrap (a1_1)) * t523)) t524 _ A25.out).mono ?_); rintro e w' ⟨rfl, ⟨nd, rfl⟩⟩; (try first | exact ⟨rfl, _, World.drewN_drewN _ _ _⟩ | exact ⟨rfl, _, Eq.trans (World.drewN_drewN _ _ _) (congrArg (World.drewN _) (Nat.add_assoc _ _ _))⟩)) | (go_at_call 83; (with_reducible refine (congr_times.calls a0_2 a1_2 t525 t526 t527 _ A26.out).mono ?_); rintro e w34 ⟨rfl, hb⟩; replace BK515 := kB BK515 hb; replace BK516 := kB BK516 hb; replace BK517 := kB BK517 hb; replace HB := kW HB hb; (try clear hb); (try clear hb2); (try clear hk); (try clear hi)) | ((with_reducible refine gate_dst (N := 6) rfl ?_); refine box_event ?hg (N := 6) ?hd (cs := #[.int .u64 0, .int .u64 0, .bool false]) (t := 74) ?hr ?_; (case hd => rfl); (case hg => rfl); (case hr => first | (go_simp; done) | (go_simp; rfl)); intro gb528 hg w35 hbox hb; have n0_ := kB BK515 hb; have n1_ := kB BK516 hb; have n2_ := kB BK517 hb; have n3_ := kW HB hb; have n4_ := Aside0.mk (hbox); have n5_ := Aside0.mk ((by rw [hg]; exact (below_size (bS HB)) : w.heap.size ≤ gb528)); have n6_ := Aside0.mk ((by rw [hg]; exact (below_size (bS HB)) : w.heap.size ≤ gb528)); have n7_ := Aside0.mk ((by rw [hg]; exact Nat.ne_of_lt (blk_lt (bkS BK515)) : gb515 ≠ gb528)); have n8_ := Aside0.mk ((by rw [hg]; exact Nat.ne_of_gt (blk_lt (bkS BK515)) : gb528 ≠ gb515)); have n9_ := Aside0.mk ((by rw [hg]; exact Nat.ne_of_lt (blk_lt (bkS BK516)) : gb516 ≠ gb528)); have n10_ := Aside0.mk ((by rw [hg]; exact Nat.ne_of_gt (blk_lt (bkS BK516)) : gb528 ≠ gb516)); have n11_ := Aside0.mk ((by rw [hg]; exact Nat.ne_of_lt (blk_lt (bkS BK517)) : gb517 ≠ gb528)); have n12_ := Aside0.mk ((by rw [hg]; exact Nat.ne_of_gt (blk_lt (bkS BK517)) : gb528 ≠ gb517)); clear BK515; clear BK516; clear BK517; clear HB; have BK515 := n0_; have BK516 := n1_; have BK517 := n2_; have HB := n3_; have BK528 := n4_; have GW528 := n5_; have GE528 := n6_; have NB515_528 := n7_; have NB528_515 := n8_; have NB516_528 := n9_; have NB528_516 := n10_; have NB517_528 := n11_; have NB528_517 := n12_; clear n0_ n1_ n2_ n3_ n4_ n5_ n6_ n7_ n8_ n9_ n10_ n11_ n12_; clear hb hbox hg; have hnb36 := NB528_515.out; have hnc36 := NB515_528.out; have hnb37 := NB528_516.out; have hnc37 := NB516_528.out; have hnb38 := NB528_517.out; have hnc38 := NB517_528.out; have hcz39_0 := cz0 BK528; have hcz39_1 := cz1 BK528; have hcz39_2 := cz2 BK528; have hfz39_0 := fz BK528 0; have hfz39_1 := fz BK528 1; have hfz39_2 := fz BK528 2)); go_upto_region 6 with (first | (go_at_call 52; (with_reducible refine (congr_size.calls a1_2 t521 _ A22.out).mono ?_); rintro e w' ⟨rfl, ⟨nd, rfl⟩⟩; (try first | exact ⟨rfl, _, World.drewN_drewN _ _ _⟩ | exact ⟨rfl, _, Eq.trans (World.drewN_drewN _ _ _) (congrArg (World.drewN _) (Nat.add_assoc _ _ _))⟩)) | (go_at_call 62; (with_reducible refine (congr_gcd_uint64.calls kj2 (IntKind.u64.wrap ((IntKind.u64.wrap (a0_1)) * (IntKind.u64.wrap (a1_1)))) (IntKind.u64.wrap ((IntKind.u64.wrap (a0_1)) * t521)) t522 _ A23.out).mono ?_); rintro e w' ⟨rfl, ⟨nd, rfl⟩⟩; (try first | exact ⟨rfl, _, World.drewN_drewN _ _ _⟩ | exact ⟨rfl, _, Eq.trans (World.drewN_drewN _ _ _) (congrArg (World.drewN _) (Nat.add_assoc _ _ _))⟩)) | (go_at_call 52; (with_reducible refine (congr_size.calls a0_2 t523 _ A24.out).mono ?_); rintro e w' ⟨rfl, ⟨nd, rfl⟩⟩; (try first | exact ⟨rfl, _, World.drewN_drewN _ _ _⟩ | exact ⟨rfl, _, Eq.trans (World.drewN_drewN _ _ _) (congrArg (World.drewN _) (Nat.add_assoc _ _ _))⟩)) | (go_at_call 62; (with_reducible refine (congr_gcd_uint64.calls kj2 t522 (IntKind.u64.wrap ((IntKind.u64.wrap (a1_1)) * t523)) t524 _ A25.out).mono ?_); rintro e w' ⟨rfl, ⟨nd, rfl⟩⟩; (try first | exact ⟨rfl, _, World.drewN_drewN _ _ _⟩ | exact ⟨rfl, _, Eq.trans (World.drewN_drewN _ _ _) (congrArg (World.drewN _) (Nat.add_assoc _ _ _))⟩)) | (go_at_call 83; (with_reducible refine (congr_times.calls a0_2 a1_2 t525 t526 t527 _ A26.out).mono ?_); rintro e w34 ⟨rfl, hb⟩; replace BK515 := kB BK515 hb; replace BK516 := kB BK516 hb; replace BK517 := kB BK517 hb; replace HB := kW HB hb; (try clear hb); (try clear hb2); (try clear hk); (try clear hi)) | ((with_reducible refine gate_dst (N := 6) rfl ?_); refine box_event ?hg (N := 6) ?hd (cs := #[.int .u64 0, .int .u64 0, .bool false]) (t := 74) ?hr ?_; (case hd => rfl); (case hg => rfl); (case hr => first | (go_simp; done) | (go_simp; rfl)); intro gb528 hg w35 hbox hb; have n0_ := kB BK515 hb; have n1_ := kB BK516 hb; have n2_ := kB BK517 hb; have n3_ := kW HB hb; have n4_ := Aside0.mk (hbox); have n5_ := Aside0.mk ((by rw [hg]; exact (below_size (bS HB)) : w.heap.size ≤ gb528)); have n6_ := Aside0.mk ((by rw [hg]; exact (below_size (bS HB)) : w.heap.size ≤ gb528)); have n7_ := Aside0.mk ((by rw [hg]; exact Nat.ne_of_lt (blk_lt (bkS BK515)) : gb515 ≠ gb528)); have n8_ := Aside0.mk ((by rw [hg]; exact Nat.ne_of_gt (blk_lt (bkS BK515)) : gb528 ≠ gb515)); have n9_ := Aside0.mk ((by rw [hg]; exact Nat.ne_of_lt (blk_lt (bkS BK516)) : gb516 ≠ gb528)); have n10_ := Aside0.mk ((by rw [hg]; exact Nat.ne_of_gt (blk_lt (bkS BK516)) : gb528 ≠ gb516)); have n11_ := Aside0.mk ((by rw [hg]; exact Nat.ne_of_lt (blk_lt (bkS BK517)) : gb517 ≠ gb528)); have n12_ := Aside0.mk ((by rw [hg]; exact Nat.ne_of_gt (blk_lt (bkS BK517)) : gb528 ≠ gb517)); clear BK515; clear BK516; clear BK517; clear HB; have BK515 := n0_; have BK516 := n1_; have BK517 := n2_; have HB := n3_; have BK528 := n4_; have GW528 := n5_; have GE528 := n6_; have NB515_528 := n7_; have NB528_515 := n8_; have NB516_528 := n9_; have NB528_516 := n10_; have NB517_528 := n11_; have NB528_517 := n12_; clear n0_ n1_ n2_ n3_ n4_ n5_ n6_ n7_ n8_ n9_ n10_ n11_ n12_; clear hb hbox hg; have hnb36 := NB528_515.out; have hnc36 := NB515_528.out; have hnb37 := NB528_516.out; have hnc37 := NB516_528.out; have hnb38 := NB528_517.out; have hnc38 := NB517_528.out; have hcz39_0 := cz0 BK528; have hcz39_1 := cz1 BK528; have hcz39_2 := cz2 BK528; have hfz39_0 := fz BK528 0; have hfz39_1 := fz BK528 1; have hfz39_2 := fz BK528 2)))
     (try simp only [Act.put, lA, lB, lC])
     go_cut [54] (fun v54 wc => ∃ (kq : Nat) (x54_27 : Bool), v54 = .bool x54_27 ∧ Aside0 (congr_Mul.j1 kq x54_27 t525 t526 t527 = some (r1, r2, r3)) ∧ Aside0 (kq ≤ kj2) ∧ Aside0 (wc.heap[gb515]? = some (.cells #[.bool a0_0, .int .i64 a0_1, .int .i64 a0_2] 23 (0, 0))) ∧ Aside0 (wc.heap[gb516]? = some (.cells #[.bool a1_0, .int .i64 a1_1, .int .i64 a1_2] 23 (0, 0))) ∧ Aside0 (wc.heap[gb517]? = some (.cells #[.bool false, .int .i64 0, .int .i64 0] 23 (0, 0))) ∧ Aside0 (wc.heap[gb528]? = some (.cells #[.int .u64 t525, .int .u64 t526, .bool t527] 74 (0, 0))) ∧ Aside0 (Below w.heap.size w wc))
     case first =>
      have H := HC28.out
      clear HC28
      by_cases c40 : t525 = 0
      ·
       rw [if_pos c40] at H
       have c40b0 : (t525 == 0) = true := beq_iff_eq.mpr c40
       have c40b1 : (t525 != 0) = false := bne_eq_false_iff_eq.mpr c40
       clear c40
       (first | rw [c40b0] | (simp only [i64_w, i32_w]; rw [c40b0]) | skip)
       have H' := Aside0.mk H
       clear H
       have hnb41 := NB528_515.out
       have hnc41 := NB515_528.out
       have hnb42 := NB528_516.out
       have hnc42 := NB516_528.out
       have hnb43 := NB528_517.out
       have hnc43 := NB517_528.out
       have hcz44_0 := cz0 BK528
       have hcz44_1 := cz1 BK528
       have hcz44_2 := cz2 BK528
       have hfz44_0 := fz BK528 0
       have hfz44_1 := fz BK528 1
       have hfz44_2 := fz BK528 2
       go_wp2
       repeat (go_quiet (fail); try go_wp2)
       go_meet
       case rel => exact ⟨_, (decide (t526 > 4611686018427387904)), (by first | rfl | (simp; done) | (simp [*]; done)), H', ⟨by have := HJ2.out; first | omega | exact Nat.le_refl _⟩, ⟨bkS BK515⟩, ⟨bkS BK516⟩, ⟨bkS BK517⟩, ⟨by (with_reducible repeat (first | refine b1 ?_ _ | refine b2 ?_ | refine b3 ?_ _)); refine blk_put (cs := #[.int .u64 t525, .int .u64 t526, .bool false]) ?_ 2 _ rfl; (with_reducible repeat (first | refine b1 ?_ _ | refine b2 ?_ | refine b3 ?_ _)); refine blk_put (cs := #[.int .u64 t525, .int .u64 0, .bool false]) ?_ 1 _ rfl; (with_reducible repeat (first | refine b1 ?_ _ | refine b2 ?_ | refine b3 ?_ _)); refine blk_put (cs := #[.int .u64 0, .int .u64 0, .bool false]) ?_ 0 _ rfl; (with_reducible repeat (first | refine b1 ?_ _ | refine b2 ?_ | refine b3 ?_ _)); exact BK528.out⟩, ⟨bS HB⟩⟩
      ·
       rw [if_neg c40] at H
       have c40b0 : (t525 == 0) = false := beq_eq_false_iff_ne.mpr c40
       have c40b1 : (t525 != 0) = true := bne_iff_ne.mpr c40
       (first | rw [c40b0] | (simp only [i64_w, i32_w]; rw [c40b0]) | skip)
       have H' := Aside0.mk H
       clear H
       have hnb45 := NB528_515.out
       have hnc45 := NB515_528.out
       have hnb46 := NB528_516.out
       have hnc46 := NB516_528.out
       have hnb47 := NB528_517.out
       have hnc47 := NB517_528.out
       have hcz48_0 := cz0 BK528
       have hcz48_1 := cz1 BK528
       have hcz48_2 := cz2 BK528
       have hfz48_0 := fz BK528 0
       have hfz48_1 := fz BK528 1
       have hfz48_2 := fz BK528 2
       go_wp2
       repeat (go_quiet (fail); try go_wp2)
       go_meet
       case rel => exact ⟨_, (true), (by first | rfl | (simp; done) | (simp [*]; done)), H', ⟨by have := HJ2.out; first | omega | exact Nat.le_refl _⟩, ⟨bkS BK515⟩, ⟨bkS BK516⟩, ⟨bkS BK517⟩, ⟨by (with_reducible repeat (first | refine b1 ?_ _ | refine b2 ?_ | refine b3 ?_ _)); refine blk_put (cs := #[.int .u64 t525, .int .u64 t526, .bool false]) ?_ 2 _ rfl; (with_reducible repeat (first | refine b1 ?_ _ | refine b2 ?_ | refine b3 ?_ _)); refine blk_put (cs := #[.int .u64 t525, .int .u64 0, .bool false]) ?_ 1 _ rfl; (with_reducible repeat (first | refine b1 ?_ _ | refine b2 ?_ | refine b3 ?_ _)); refine blk_put (cs := #[.int .u64 0, .int .u64 0, .bool false]) ?_ 0 _ rfl; (with_reducible repeat (first | refine b1 ?_ _ | refine b2 ?_ | refine b3 ?_ _)); exact BK528.out⟩, ⟨bS HB⟩⟩
     case rest =>
      clear HC28
      try clear c1
      try clear c2
      try clear p2
      try clear c3
      try clear c4
      try clear c7
      try clear c8
      try clear c9
      try clear c11
      try clear c12
      try clear c14
      try clear c16
      try clear c19
      try clear c20
      try clear c27
      try clear c27b0
      try clear c27b1
      try clear c29
      try clear c30
      try clear c32
      try clear c36
      try clear c37
      try clear c38
      try clear c39
      try clear c40
      try clear c40b0
      try clear c40b1
      try clear c41
      try clear c42
      try clear c43
      try clear c45
      try clear c46
      try clear c47
      try clear hcz10_0
      try clear hcz10_1
      try clear hcz10_2
      try clear hcz13_0
      try clear hcz13_1
      try clear hcz13_2
      try clear hcz15_0
      try clear hcz15_1
      try clear hcz15_2
      try clear hcz21_0
      try clear hcz21_1
      try clear hcz21_2
      try clear hcz31_0
      try clear hcz31_1
      try clear hcz31_2
      try clear hcz33_0
      try clear hcz33_1
      try clear hcz33_2
      try clear hcz39_0
      try clear hcz39_1
      try clear hcz39_2
      try clear hcz44_0
      try clear hcz44_1
      try clear hcz44_2
      try clear hcz48_0
      try clear hcz48_1
      try clear hcz48_2
      try clear hfz10_0
      try clear hfz10_1
      try clear hfz10_2
      try clear hfz13_0
      try clear hfz13_1
      try clear hfz13_2
      try clear hfz15_0
      try clear hfz15_1
      try clear hfz15_2
      try clear hfz21_0
      try clear hfz21_1
      try clear hfz21_2
      try clear hfz31_0
      try clear hfz31_1
      try clear hfz31_2
      try clear hfz33_0
      try clear hfz33_1
      try clear hfz33_2
      try clear hfz39_0
      try clear hfz39_1
      try clear hfz39_2
      try clear hfz44_0
      try clear hfz44_1
      try clear hfz44_2
      try clear hfz48_0
      try clear hfz48_1
      try clear hfz48_2
      try clear p2
      obtain ⟨kq, x54_27, rfl, HA, HJ27, BK515, BK516, BK517, BK528, HB⟩ := hcut
      cases kq with
      | zero => exact absurd HA.out (by simp [congr_Mul.j1])
      | succ kj27 =>
       have H := HA.out
       clear HA
       simp only [congr_Mul.j1] at H
       by_cases c49 : x54_27 = true
       ·
        subst c49
        have H1 : ((congr_none.f).bind fun bt529 => (some (bt529.1, bt529.2.1, bt529.2.2))) = some (r1, r2, r3) := by rw [if_pos rfl] at H; exact H
        clear H
        have H := H1
        clear H1
        replace H := Option.bind_eq_some_iff.mp H
        obtain ⟨⟨t529, t530, t531⟩, A500, H⟩ := H
        replace H : (some (t529, t530, t531)) = some (r1, r2, r3) := H
        have A50 := Aside0.mk A500
        clear A500
        simp only [Option.some.injEq, Prod.mk.injEq] at H
        obtain ⟨rfl, rfl, rfl⟩ := H
        go_wp2_with (first | (go_at_call 56; (with_reducible refine (congr_none.calls  t529 t530 t531 _ A50.out).mono ?_); rintro e w51 ⟨rfl, hb⟩; replace BK515 := kB BK515 hb; replace BK516 := kB BK516 hb; replace BK517 := kB BK517 hb; replace BK528 := kB BK528 hb; replace HB := kW HB hb; (try clear hb); (try clear hb2); (try clear hk); (try clear hi); have hnb52 := NB517_515.out; have hnc52 := NB515_517.out; have hnb53 := NB517_516.out; have hnc53 := NB516_517.out; have hnb54 := NB517_528.out; have hnc54 := NB528_517.out; have hcz55_0 := cz0 BK517; have hcz55_1 := cz1 BK517; have hcz55_2 := cz2 BK517; have hfz55_0 := fz BK517 0; have hfz55_1 := fz BK517 1; have hfz55_2 := fz BK517 2))
        repeat (go_quiet (first | (go_at_call 56; (with_reducible refine (congr_none.calls  t529 t530 t531 _ A50.out).mono ?_); rintro e w51 ⟨rfl, hb⟩; replace BK515 := kB BK515 hb; replace BK516 := kB BK516 hb; replace BK517 := kB BK517 hb; replace BK528 := kB BK528 hb; replace HB := kW HB hb; (try clear hb); (try clear hb2); (try clear hk); (try clear hi); have hnb52 := NB517_515.out; have hnc52 := NB515_517.out; have hnb53 := NB517_516.out; have hnc53 := NB516_517.out; have hnb54 := NB517_528.out; have hnc54 := NB528_517.out; have hcz55_0 := cz0 BK517; have hcz55_1 := cz1 BK517; have hcz55_2 := cz2 BK517; have hfz55_0 := fz BK517 0; have hfz55_1 := fz BK517 1; have hfz55_2 := fz BK517 2)); try go_wp2_with (first | (go_at_call 56; (with_reducible refine (congr_none.calls  t529 t530 t531 _ A50.out).mono ?_); rintro e w51 ⟨rfl, hb⟩; replace BK515 := kB BK515 hb; replace BK516 := kB BK516 hb; replace BK517 := kB BK517 hb; replace BK528 := kB BK528 hb; replace HB := kW HB hb; (try clear hb); (try clear hb2); (try clear hk); (try clear hi); have hnb52 := NB517_515.out; have hnc52 := NB515_517.out; have hnb53 := NB517_516.out; have hnc53 := NB516_517.out; have hnb54 := NB517_528.out; have hnc54 := NB528_517.out; have hcz55_0 := cz0 BK517; have hcz55_1 := cz1 BK517; have hcz55_2 := cz2 BK517; have hfz55_0 := fz BK517 0; have hfz55_1 := fz BK517 1; have hfz55_2 := fz BK517 2)))
        refine bodyPost_ret (results_cell_row rfl _ _ gb517 23 #[.bool t529, .int .i64 t530, .int .i64 t531] (0, 0) _ rfl (by (with_reducible repeat (first | refine b1 ?_ _ | refine b2 ?_ | refine b3 ?_ _)); refine blk_put (cs := #[.bool t529, .int .i64 t530, .int .i64 0]) ?_ 2 _ rfl; (with_reducible repeat (first | refine b1 ?_ _ | refine b2 ?_ | refine b3 ?_ _)); refine blk_put (cs := #[.bool t529, .int .i64 0, .int .i64 0]) ?_ 1 _ rfl; (with_reducible repeat (first | refine b1 ?_ _ | refine b2 ?_ | refine b3 ?_ _)); refine blk_put (cs := #[.bool false, .int .i64 0, .int .i64 0]) ?_ 0 _ rfl; (with_reducible repeat (first | refine b1 ?_ _ | refine b2 ?_ | refine b3 ?_ _)); exact BK517.out) Tryd.underlying23 rfl (by kernel_rfl)) rfl ?_
        exact ⟨eS, bS HB⟩
       ·
        replace c49 := Bool.eq_false_iff.mpr c49
        subst c49
        have H1 : (if t527 = true then ((congr_constant.f (wrap64 (-(wrap64 (t526))))).bind fun bt532 => (some (bt532.1, bt532.2.1, bt532.2.2))) else ((congr_constant.f (wrap64 (t526))).bind fun bt535 => (some (bt535.1, bt535.2.1, bt535.2.2)))) = some (r1, r2, r3) := by rw [if_neg (show ¬ (false = true) by decide)] at H; exact H
        clear H
        have H := H1
        clear H1
        by_cases c56 : t527 = true
        ·
         subst c56
         have H1 : ((congr_constant.f (wrap64 (-(wrap64 (t526))))).bind fun bt532 => (some (bt532.1, bt532.2.1, bt532.2.2))) = some (r1, r2, r3) := by rw [if_pos rfl] at H; exact H
         clear H
         have H := H1
         clear H1
         replace H := Option.bind_eq_some_iff.mp H
         obtain ⟨⟨t532, t533, t534⟩, A570, H⟩ := H
         replace H : (some (t532, t533, t534)) = some (r1, r2, r3) := H
         have A57 := Aside0.mk A570
         clear A570
         simp only [Option.some.injEq, Prod.mk.injEq] at H
         obtain ⟨rfl, rfl, rfl⟩ := H
         have hnb58 := NB528_515.out
         have hnc58 := NB515_528.out
         have hnb59 := NB528_516.out
         have hnc59 := NB516_528.out
         have hnb60 := NB528_517.out
         have hnc60 := NB517_528.out
         have hcz61_0 : wc.cell? ⟨gb528, 0, none⟩ = some (.int .u64 t525) := cz0 BK528
         have hcz61_1 : wc.cell? ⟨gb528, 1, none⟩ = some (.int .u64 t526) := cz1 BK528
         have hcz61_2 : wc.cell? ⟨gb528, 2, none⟩ = some (.bool true) := cz2 BK528
         have hfz61_0 := fz BK528 0
         have hfz61_1 := fz BK528 1
         have hfz61_2 := fz BK528 2
         go_wp2_with (first | (go_at_call 50; (with_reducible refine (congr_constant.calls (wrap64 (-(wrap64 (t526)))) t532 t533 t534 _ A57.out).mono ?_); rintro e w62 ⟨rfl, hb⟩; replace BK515 := kB BK515 hb; replace BK516 := kB BK516 hb; replace BK517 := kB BK517 hb; replace BK528 := kB BK528 hb; replace HB := kW HB hb; (try clear hb); (try clear hb2); (try clear hk); (try clear hi); have hnb63 := NB517_515.out; have hnc63 := NB515_517.out; have hnb64 := NB517_516.out; have hnc64 := NB516_517.out; have hcz65_0 := cz0 BK517; have hcz65_1 := cz1 BK517; have hcz65_2 := cz2 BK517; have hfz65_0 := fz BK517 0; have hfz65_1 := fz BK517 1; have hfz65_2 := fz BK517 2))
         repeat (go_quiet (first | (go_at_call 50; (with_reducible refine (congr_constant.calls (wrap64 (-(wrap64 (t526)))) t532 t533 t534 _ A57.out).mono ?_); rintro e w62 ⟨rfl, hb⟩; replace BK515 := kB BK515 hb; replace BK516 := kB BK516 hb; replace BK517 := kB BK517 hb; replace BK528 := kB BK528 hb; replace HB := kW HB hb; (try clear hb); (try clear hb2); (try clear hk); (try clear hi); have hnb63 := NB517_515.out; have hnc63 := NB515_517.out; have hnb64 := NB517_516.out; have hnc64 := NB516_517.out; have hcz65_0 := cz0 BK517; have hcz65_1 := cz1 BK517; have hcz65_2 := cz2 BK517; have hfz65_0 := fz BK517 0; have hfz65_1 := fz BK517 1; have hfz65_2 := fz BK517 2)); try go_wp2_with (first | (go_at_call 50; (with_reducible refine (congr_constant.calls (wrap64 (-(wrap64 (t526)))) t532 t533 t534 _ A57.out).mono ?_); rintro e w62 ⟨rfl, hb⟩; replace BK515 := kB BK515 hb; replace BK516 := kB BK516 hb; replace BK517 := kB BK517 hb; replace BK528 := kB BK528 hb; replace HB := kW HB hb; (try clear hb); (try clear hb2); (try clear hk); (try clear hi); have hnb63 := NB517_515.out; have hnc63 := NB515_517.out; have hnb64 := NB517_516.out; have hnc64 := NB516_517.out; have hcz65_0 := cz0 BK517; have hcz65_1 := cz1 BK517; have hcz65_2 := cz2 BK517; have hfz65_0 := fz BK517 0; have hfz65_1 := fz BK517 1; have hfz65_2 := fz BK517 2)))
         refine bodyPost_ret (results_cell_row rfl _ _ gb517 23 #[.bool t532, .int .i64 t533, .int .i64 t534] (0, 0) _ rfl (by (with_reducible repeat (first | refine b1 ?_ _ | refine b2 ?_ | refine b3 ?_ _)); refine blk_put (cs := #[.bool t532, .int .i64 t533, .int .i64 0]) ?_ 2 _ rfl; (with_reducible repeat (first | refine b1 ?_ _ | refine b2 ?_ | refine b3 ?_ _)); refine blk_put (cs := #[.bool t532, .int .i64 0, .int .i64 0]) ?_ 1 _ rfl; (with_reducible repeat (first | refine b1 ?_ _ | refine b2 ?_ | refine b3 ?_ _)); refine blk_put (cs := #[.bool false, .int .i64 0, .int .i64 0]) ?_ 0 _ rfl; (with_reducible repeat (first | refine b1 ?_ _ | refine b2 ?_ | refine b3 ?_ _)); exact BK517.out) Tryd.underlying23 rfl (by kernel_rfl)) rfl ?_
         exact ⟨eS, bS HB⟩
        ·
         replace c56 := Bool.eq_false_iff.mpr c56
         subst c56
         have H1 : ((congr_constant.f (wrap64 (t526))).bind fun bt535 => (some (bt535.1, bt535.2.1, bt535.2.2))) = some (r1, r2, r3) := by rw [if_neg (show ¬ (false = true) by decide)] at H; exact H
         clear H
         have H := H1
         clear H1
         replace H := Option.bind_eq_some_iff.mp H
         obtain ⟨⟨t535, t536, t537⟩, A660, H⟩ := H
         replace H : (some (t535, t536, t537)) = some (r1, r2, r3) := H
         have A66 := Aside0.mk A660
         clear A660
         simp only [Option.some.injEq, Prod.mk.injEq] at H
         obtain ⟨rfl, rfl, rfl⟩ := H
         have hnb67 := NB528_515.out
         have hnc67 := NB515_528.out
         have hnb68 := NB528_516.out
         have hnc68 := NB516_528.out
         have hnb69 := NB528_517.out
         have hnc69 := NB517_528.out
         have hcz70_0 : wc.cell? ⟨gb528, 0, none⟩ = some (.int .u64 t525) := cz0 BK528
         have hcz70_1 : wc.cell? ⟨gb528, 1, none⟩ = some (.int .u64 t526) := cz1 BK528
         have hcz70_2 : wc.cell? ⟨gb528, 2, none⟩ = some (.bool false) := cz2 BK528
         have hfz70_0 := fz BK528 0
         have hfz70_1 := fz BK528 1
         have hfz70_2 := fz BK528 2
         go_wp2_with (first | (go_at_call 50; (with_reducible refine (congr_constant.calls (wrap64 (t526)) t535 t536 t537 _ A66.out).mono ?_); rintro e w71 ⟨rfl, hb⟩; replace BK515 := kB BK515 hb; replace BK516 := kB BK516 hb; replace BK517 := kB BK517 hb; replace BK528 := kB BK528 hb; replace HB := kW HB hb; (try clear hb); (try clear hb2); (try clear hk); (try clear hi); have hnb72 := NB517_515.out; have hnc72 := NB515_517.out; have hnb73 := NB517_516.out; have hnc73 := NB516_517.out; have hcz74_0 := cz0 BK517; have hcz74_1 := cz1 BK517; have hcz74_2 := cz2 BK517; have hfz74_0 := fz BK517 0; have hfz74_1 := fz BK517 1; have hfz74_2 := fz BK517 2))
         repeat (go_quiet (first | (go_at_call 50; (with_reducible refine (congr_constant.calls (wrap64 (t526)) t535 t536 t537 _ A66.out).mono ?_); rintro e w71 ⟨rfl, hb⟩; replace BK515 := kB BK515 hb; replace BK516 := kB BK516 hb; replace BK517 := kB BK517 hb; replace BK528 := kB BK528 hb; replace HB := kW HB hb; (try clear hb); (try clear hb2); (try clear hk); (try clear hi); have hnb72 := NB517_515.out; have hnc72 := NB515_517.out; have hnb73 := NB517_516.out; have hnc73 := NB516_517.out; have hcz74_0 := cz0 BK517; have hcz74_1 := cz1 BK517; have hcz74_2 := cz2 BK517; have hfz74_0 := fz BK517 0; have hfz74_1 := fz BK517 1; have hfz74_2 := fz BK517 2)); try go_wp2_with (first | (go_at_call 50; (with_reducible refine (congr_constant.calls (wrap64 (t526)) t535 t536 t537 _ A66.out).mono ?_); rintro e w71 ⟨rfl, hb⟩; replace BK515 := kB BK515 hb; replace BK516 := kB BK516 hb; replace BK517 := kB BK517 hb; replace BK528 := kB BK528 hb; replace HB := kW HB hb; (try clear hb); (try clear hb2); (try clear hk); (try clear hi); have hnb72 := NB517_515.out; have hnc72 := NB515_517.out; have hnb73 := NB517_516.out; have hnc73 := NB516_517.out; have hcz74_0 := cz0 BK517; have hcz74_1 := cz1 BK517; have hcz74_2 := cz2 BK517; have hfz74_0 := fz BK517 0; have hfz74_1 := fz BK517 1; have hfz74_2 := fz BK517 2)))
         refine bodyPost_ret (results_cell_row rfl _ _ gb517 23 #[.bool t535, .int .i64 t536, .int .i64 t537] (0, 0) _ rfl (by (with_reducible repeat (first | refine b1 ?_ _ | refine b2 ?_ | refine b3 ?_ _)); refine blk_put (cs := #[.bool t535, .int .i64 t536, .int .i64 0]) ?_ 2 _ rfl; (with_reducible repeat (first | refine b1 ?_ _ | refine b2 ?_ | refine b3 ?_ _)); refine blk_put (cs := #[.bool t535, .int .i64 0, .int .i64 0]) ?_ 1 _ rfl; (with_reducible repeat (first | refine b1 ?_ _ | refine b2 ?_ | refine b3 ?_ _)); refine blk_put (cs := #[.bool false, .int .i64 0, .int .i64 0]) ?_ 0 _ rfl; (with_reducible repeat (first | refine b1 ?_ _ | refine b2 ?_ | refine b3 ?_ _)); exact BK517.out) Tryd.underlying23 rfl (by kernel_rfl)) rfl ?_
         exact ⟨eS, bS HB⟩
    ·
     rw [if_neg c27] at H
     have c27b0 : (t524 == 0) = false := beq_eq_false_iff_ne.mpr c27
     have c27b1 : (t524 != 0) = true := bne_iff_ne.mpr c27
     replace H := Option.bind_eq_some_iff.mp H
     obtain ⟨t538, A750, H⟩ := H
     replace H : (if t527 = true then (if t538 > 0 then ((congr_of.f kj2 t524 (IntKind.u64.wrap (t524 - t538))).bind fun bt539 => (some (bt539.1, bt539.2.1, bt539.2.2))) else ((congr_of.f kj2 t524 t538).bind fun bt542 => (some (bt542.1, bt542.2.1, bt542.2.2)))) else ((congr_of.f kj2 t524 t538).bind fun bt545 => (some (bt545.1, bt545.2.1, bt545.2.2)))) = some (r1, r2, r3) := H
     have A75 := Aside0.mk A750
     clear A750
     by_cases c76 : t527 = true
     ·
      subst c76
      have H1 : (if t538 > 0 then ((congr_of.f kj2 t524 (IntKind.u64.wrap (t524 - t538))).bind fun bt539 => (some (bt539.1, bt539.2.1, bt539.2.2))) else ((congr_of.f kj2 t524 t538).bind fun bt542 => (some (bt542.1, bt542.2.1, bt542.2.2)))) = some (r1, r2, r3) := by rw [if_pos rfl] at H; exact H
      clear H
      have H := H1
      clear H1
      by_cases c77 : t538 > 0
      ·
       rw [if_pos c77] at H
       have c77b0 : decide (0 < t538) = true := decide_eq_true c77
       clear c77
       replace H := Option.bind_eq_some_iff.mp H
       obtain ⟨⟨t539, t540, t541⟩, A780, H⟩ := H
       replace H : (some (t539, t540, t541)) = some (r1, r2, r3) := H
       have A78 := Aside0.mk A780
       clear A780
       simp only [Option.some.injEq, Prod.mk.injEq] at H
       obtain ⟨rfl, rfl, rfl⟩ := H
       have hnb79 := NB515_516.out
       have hnc79 := NB516_515.out
       have hnb80 := NB515_517.out
       have hnc80 := NB517_515.out
       have hcz81_0 : wc.cell? ⟨gb515, 0, none⟩ = some (.bool a0_0) := cz0 BK515
       have hcz81_1 : wc.cell? ⟨gb515, 1, none⟩ = some (.int .i64 a0_1) := cz1 BK515
       have hcz81_2 : wc.cell? ⟨gb515, 2, none⟩ = some (.int .i64 a0_2) := cz2 BK515
       have hfz81_0 := fz BK515 0
       have hfz81_1 := fz BK515 1
       have hfz81_2 := fz BK515 2
       have hnb82 := NB516_517.out
       have hnc82 := NB517_516.out
       have hcz83_0 : wc.cell? ⟨gb516, 0, none⟩ = some (.bool a1_0) := cz0 BK516
       have hcz83_1 : wc.cell? ⟨gb516, 1, none⟩ = some (.int .i64 a1_1) := cz1 BK516
       have hcz83_2 : wc.cell? ⟨gb516, 2, none⟩ = some (.int .i64 a1_2) := cz2 BK516
       have hfz83_0 := fz BK516 0
       have hfz83_1 := fz BK516 1
       have hfz83_2 := fz BK516 2
       go_wp2_with (first | (go_at_call 52; (with_reducible refine (congr_size.calls a1_2 t521 _ A22.out).mono ?_); rintro e w' ⟨rfl, ⟨nd, rfl⟩⟩; (try first | exact ⟨rfl, _, World.drewN_drewN _ _ _⟩ | exact ⟨rfl, _, Eq.trans (World.drewN_drewN _ _ _) (congrArg (World.drewN _) (Nat.add_assoc _ _ _))⟩)) | (go_at_call 62; (with_reducible refine (congr_gcd_uint64.calls kj2 (IntKind.u64.wrap ((IntKind.u64.wrap (a0_1)) * (IntKind.u64.wrap (a1_1)))) (IntKind.u64.wrap ((IntKind.u64.wrap (a0_1)) * t521)) t522 _ A23.out).mono ?_); rintro e w' ⟨rfl, ⟨nd, rfl⟩⟩; (try first | exact ⟨rfl, _, World.drewN_drewN _ _ _⟩ | exact ⟨rfl, _, Eq.trans (World.drewN_drewN _ _ _) (congrArg (World.drewN _) (Nat.add_assoc _ _ _))⟩)) | (go_at_call 52; (with_reducible refine (congr_size.calls a0_2 t523 _ A24.out).mono ?_); rintro e w' ⟨rfl, ⟨nd, rfl⟩⟩; (try first | exact ⟨rfl, _, World.drewN_drewN _ _ _⟩ | exact ⟨rfl, _, Eq.trans (World.drewN_drewN _ _ _) (congrArg (World.drewN _) (Nat.add_assoc _ _ _))⟩)) | (go_at_call 62; (with_reducible refine (congr_gcd_uint64.calls kj2 t522 (IntKind.u64.wrap ((IntKind.u64.wrap (a1_1)) * t523)) t524 _ A25.out).mono ?_); rintro e w' ⟨rfl, ⟨nd, rfl⟩⟩; (try first | exact ⟨rfl, _, World.drewN_drewN _ _ _⟩ | exact ⟨rfl, _, Eq.trans (World.drewN_drewN _ _ _) (congrArg (World.drewN _) (Nat.add_assoc _ _ _))⟩)) | (go_at_call 83; (with_reducible refine (congr_times.calls a0_2 a1_2 t525 t526 true _ A26.out).mono ?_); rintro e w84 ⟨rfl, hb⟩; replace BK515 := kB BK515 hb; replace BK516 := kB BK516 hb; replace BK517 := kB BK517 hb; replace HB := kW HB hb; (try clear hb); (try clear hb2); (try clear hk); (try clear hi)) | ((with_reducible refine gate_dst (N := 6) rfl ?_); refine box_event ?hg (N := 6) ?hd (cs := #[.int .u64 0, .int .u64 0, .bool false]) (t := 74) ?hr ?_; (case hd => rfl); (case hg => rfl); (case hr => first | (go_simp; done) | (go_simp; rfl)); intro gb528 hg w85 hbox hb; have n0_ := kB BK515 hb; have n1_ := kB BK516 hb; have n2_ := kB BK517 hb; have n3_ := kW HB hb; have n4_ := Aside0.mk (hbox); have n5_ := Aside0.mk ((by rw [hg]; exact (below_size (bS HB)) : w.heap.size ≤ gb528)); have n6_ := Aside0.mk ((by rw [hg]; exact (below_size (bS HB)) : w.heap.size ≤ gb528)); have n7_ := Aside0.mk ((by rw [hg]; exact Nat.ne_of_lt (blk_lt (bkS BK515)) : gb515 ≠ gb528)); have n8_ := Aside0.mk ((by rw [hg]; exact Nat.ne_of_gt (blk_lt (bkS BK515)) : gb528 ≠ gb515)); have n9_ := Aside0.mk ((by rw [hg]; exact Nat.ne_of_lt (blk_lt (bkS BK516)) : gb516 ≠ gb528)); have n10_ := Aside0.mk ((by rw [hg]; exact Nat.ne_of_gt (blk_lt (bkS BK516)) : gb528 ≠ gb516)); have n11_ := Aside0.mk ((by rw [hg]; exact Nat.ne_of_lt (blk_lt (bkS BK517)) : gb517 ≠ gb528)); have n12_ := Aside0.mk ((by rw [hg]; exact Nat.ne_of_gt (blk_lt (bkS BK517)) : gb528 ≠ gb517)); clear BK515; clear BK516; clear BK517; clear HB; have BK515 := n0_; have BK516 := n1_; have BK517 := n2_; have HB := n3_; have BK528 := n4_; have GW528 := n5_; have GE528 := n6_; have NB515_528 := n7_; have NB528_515 := n8_; have NB516_528 := n9_; have NB528_516 := n10_; have NB517_528 := n11_; have NB528_517 := n12_; clear n0_ n1_ n2_ n3_ n4_ n5_ n6_ n7_ n8_ n9_ n10_ n11_ n12_; clear hb hbox hg; have hnb86 := NB528_515.out; have hnc86 := NB515_528.out; have hnb87 := NB528_516.out; have hnc87 := NB516_528.out; have hnb88 := NB528_517.out; have hnc88 := NB517_528.out; have hcz89_0 := cz0 BK528; have hcz89_1 := cz1 BK528; have hcz89_2 := cz2 BK528; have hfz89_0 := fz BK528 0; have hfz89_1 := fz BK528 1; have hfz89_2 := fz BK528 2) | (go_at_call 65; (with_reducible refine (congr_words_rest.calls t525 t526 t524 t538 _ A75.out).mono ?_); rintro e w90 ⟨rfl, hb⟩; have n0_ := kB BK515 hb; have n1_ := kB BK516 hb; have n2_ := kB BK517 hb; have n3_ := Aside0.mk (blk_below (g := gb528) (o := .cells #[.int .u64 t525, .int .u64 t526, .bool true] 74 (0, 0)) (by (with_reducible repeat (first | refine b1 ?_ _ | refine b2 ?_ | refine b3 ?_ _)); refine blk_put (cs := #[.int .u64 t525, .int .u64 t526, .bool false]) ?_ 2 _ rfl; (with_reducible repeat (first | refine b1 ?_ _ | refine b2 ?_ | refine b3 ?_ _)); refine blk_put (cs := #[.int .u64 t525, .int .u64 0, .bool false]) ?_ 1 _ rfl; (with_reducible repeat (first | refine b1 ?_ _ | refine b2 ?_ | refine b3 ?_ _)); refine blk_put (cs := #[.int .u64 0, .int .u64 0, .bool false]) ?_ 0 _ rfl; (with_reducible repeat (first | refine b1 ?_ _ | refine b2 ?_ | refine b3 ?_ _)); exact BK528.out) hb); have n4_ := kW HB hb; clear BK515; clear BK516; clear BK517; clear BK528; clear HB; have BK515 := n0_; have BK516 := n1_; have BK517 := n2_; have BK528 := n3_; have HB := n4_; clear n0_ n1_ n2_ n3_ n4_; (try clear hb); (try clear hb2); (try clear hk); (try clear hi); have hcz91_0 := cz0 BK528; have hcz91_1 := cz1 BK528; have hcz91_2 := cz2 BK528; have hfz91_0 := fz BK528 0; have hfz91_1 := fz BK528 1; have hfz91_2 := fz BK528 2) | (go_at_call 51; (with_reducible refine (congr_of.calls kj2 t524 (IntKind.u64.wrap (t524 - t538)) t539 t540 t541 _ A78.out).mono ?_); rintro e w92 ⟨rfl, hb⟩; replace BK515 := kB BK515 hb; replace BK516 := kB BK516 hb; replace BK517 := kB BK517 hb; replace BK528 := kB BK528 hb; replace HB := kW HB hb; (try clear hb); (try clear hb2); (try clear hk); (try clear hi); have hcz93_0 := cz0 BK517; have hcz93_1 := cz1 BK517; have hcz93_2 := cz2 BK517; have hfz93_0 := fz BK517 0; have hfz93_1 := fz BK517 1; have hfz93_2 := fz BK517 2))
       repeat (go_quiet (first | (go_at_call 52; (with_reducible refine (congr_size.calls a1_2 t521 _ A22.out).mono ?_); rintro e w' ⟨rfl, ⟨nd, rfl⟩⟩; (try first | exact ⟨rfl, _, World.drewN_drewN _ _ _⟩ | exact ⟨rfl, _, Eq.trans (World.drewN_drewN _ _ _) (congrArg (World.drewN _) (Nat.add_assoc _ _ _))⟩)) | (go_at_call 62; (with_reducible refine (congr_gcd_uint64.calls kj2 (IntKind.u64.wrap ((IntKind.u64.wrap (a0_1)) * (IntKind.u64.wrap (a1_1)))) (IntKind.u64.wrap ((IntKind.u64.wrap (a0_1)) * t521)) t522 _ A23.out).mono ?_); rintro e w' ⟨rfl, ⟨nd, rfl⟩⟩; (try first | exact ⟨rfl, _, World.drewN_drewN _ _ _⟩ | exact ⟨rfl, _, Eq.trans (World.drewN_drewN _ _ _) (congrArg (World.drewN _) (Nat.add_assoc _ _ _))⟩)) | (go_at_call 52; (with_reducible refine (congr_size.calls a0_2 t523 _ A24.out).mono ?_); rintro e w' ⟨rfl, ⟨nd, rfl⟩⟩; (try first | exact ⟨rfl, _, World.drewN_drewN _ _ _⟩ | exact ⟨rfl, _, Eq.trans (World.drewN_drewN _ _ _) (congrArg (World.drewN _) (Nat.add_assoc _ _ _))⟩)) | (go_at_call 62; (with_reducible refine (congr_gcd_uint64.calls kj2 t522 (IntKind.u64.wrap ((IntKind.u64.wrap (a1_1)) * t523)) t524 _ A25.out).mono ?_); rintro e w' ⟨rfl, ⟨nd, rfl⟩⟩; (try first | exact ⟨rfl, _, World.drewN_drewN _ _ _⟩ | exact ⟨rfl, _, Eq.trans (World.drewN_drewN _ _ _) (congrArg (World.drewN _) (Nat.add_assoc _ _ _))⟩)) | (go_at_call 83; (with_reducible refine (congr_times.calls a0_2 a1_2 t525 t526 true _ A26.out).mono ?_); rintro e w84 ⟨rfl, hb⟩; replace BK515 := kB BK515 hb; replace BK516 := kB BK516 hb; replace BK517 := kB BK517 hb; replace HB := kW HB hb; (try clear hb); (try clear hb2); (try clear hk); (try clear hi)) | ((with_reducible refine gate_dst (N := 6) rfl ?_); refine box_event ?hg (N := 6) ?hd (cs := #[.int .u64 0, .int .u64 0, .bool false]) (t := 74) ?hr ?_; (case hd => rfl); (case hg => rfl); (case hr => first | (go_simp; done) | (go_simp; rfl)); intro gb528 hg w85 hbox hb; have n0_ := kB BK515 hb; have n1_ := kB BK516 hb; have n2_ := kB BK517 hb; have n3_ := kW HB hb; have n4_ := Aside0.mk (hbox); have n5_ := Aside0.mk ((by rw [hg]; exact (below_size (bS HB)) : w.heap.size ≤ gb528)); have n6_ := Aside0.mk ((by rw [hg]; exact (below_size (bS HB)) : w.heap.size ≤ gb528)); have n7_ := Aside0.mk ((by rw [hg]; exact Nat.ne_of_lt (blk_lt (bkS BK515)) : gb515 ≠ gb528)); have n8_ := Aside0.mk ((by rw [hg]; exact Nat.ne_of_gt (blk_lt (bkS BK515)) : gb528 ≠ gb515)); have n9_ := Aside0.mk ((by rw [hg]; exact Nat.ne_of_lt (blk_lt (bkS BK516)) : gb516 ≠ gb528)); have n10_ := Aside0.mk ((by rw [hg]; exact Nat.ne_of_gt (blk_lt (bkS BK516)) : gb528 ≠ gb516)); have n11_ := Aside0.mk ((by rw [hg]; exact Nat.ne_of_lt (blk_lt (bkS BK517)) : gb517 ≠ gb528)); have n12_ := Aside0.mk ((by rw [hg]; exact Nat.ne_of_gt (blk_lt (bkS BK517)) : gb528 ≠ gb517)); clear BK515; clear BK516; clear BK517; clear HB; have BK515 := n0_; have BK516 := n1_; have BK517 := n2_; have HB := n3_; have BK528 := n4_; have GW528 := n5_; have GE528 := n6_; have NB515_528 := n7_; have NB528_515 := n8_; have NB516_528 := n9_; have NB528_516 := n10_; have NB517_528 := n11_; have NB528_517 := n12_; clear n0_ n1_ n2_ n3_ n4_ n5_ n6_ n7_ n8_ n9_ n10_ n11_ n12_; clear hb hbox hg; have hnb86 := NB528_515.out; have hnc86 := NB515_528.out; have hnb87 := NB528_516.out; have hnc87 := NB516_528.out; have hnb88 := NB528_517.out; have hnc88 := NB517_528.out; have hcz89_0 := cz0 BK528; have hcz89_1 := cz1 BK528; have hcz89_2 := cz2 BK528; have hfz89_0 := fz BK528 0; have hfz89_1 := fz BK528 1; have hfz89_2 := fz BK528 2) | (go_at_call 65; (with_reducible refine (congr_words_rest.calls t525 t526 t524 t538 _ A75.out).mono ?_); rintro e w90 ⟨rfl, hb⟩; have n0_ := kB BK515 hb; have n1_ := kB BK516 hb; have n2_ := kB BK517 hb; have n3_ := Aside0.mk (blk_below (g := gb528) (o := .cells #[.int .u64 t525, .int .u64 t526, .bool true] 74 (0, 0)) (by (with_reducible repeat (first | refine b1 ?_ _ | refine b2 ?_ | refine b3 ?_ _)); refine blk_put (cs := #[.int .u64 t525, .int .u64 t526, .bool false]) ?_ 2 _ rfl; (with_reducible repeat (first | refine b1 ?_ _ | refine b2 ?_ | refine b3 ?_ _)); refine blk_put (cs := #[.int .u64 t525, .int .u64 0, .bool false]) ?_ 1 _ rfl; (with_reducible repeat (first | refine b1 ?_ _ | refine b2 ?_ | refine b3 ?_ _)); refine blk_put (cs := #[.int .u64 0, .int .u64 0, .bool false]) ?_ 0 _ rfl; (with_reducible repeat (first | refine b1 ?_ _ | refine b2 ?_ | refine b3 ?_ _)); exact BK528.out) hb); have n4_ := kW HB hb; clear BK515; clear BK516; clear BK517; clear BK528; clear HB; have BK515 := n0_; have BK516 := n1_; have BK517 := n2_; have BK528 := n3_; have HB := n4_; clear n0_ n1_ n2_ n3_ n4_; (try clear hb); (try clear hb2); (try clear hk); (try clear hi); have hcz91_0 := cz0 BK528; have hcz91_1 := cz1 BK528; have hcz91_2 := cz2 BK528; have hfz91_0 := fz BK528 0; have hfz91_1 := fz BK528 1; have hfz91_2 := fz BK528 2) | (go_at_call 51; (with_reducible refine (congr_of.calls kj2 t524 (IntKind.u64.wrap (t524 - t538)) t539 t540 t541 _ A78.out).mono ?_); rintro e w92 ⟨rfl, hb⟩; replace BK515 := kB BK515 hb; replace BK516 := kB BK516 hb; replace BK517 := kB BK517 hb; replace BK528 := kB BK528 hb; replace HB := kW HB hb; (try clear hb); (try clear hb2); (try clear hk); (try clear hi); have hcz93_0 := cz0 BK517; have hcz93_1 := cz1 BK517; have hcz93_2 := cz2 BK517; have hfz93_0 := fz BK517 0; have hfz93_1 := fz BK517 1; have hfz93_2 := fz BK517 2)); try go_wp2_with (first | (go_at_call 52; (with_reducible refine (congr_size.calls a1_2 t521 _ A22.out).mono ?_); rintro e w' ⟨rfl, ⟨nd, rfl⟩⟩; (try first | exact ⟨rfl, _, World.drewN_drewN _ _ _⟩ | exact ⟨rfl, _, Eq.trans (World.drewN_drewN _ _ _) (congrArg (World.drewN _) (Nat.add_assoc _ _ _))⟩)) | (go_at_call 62; (with_reducible refine (congr_gcd_uint64.calls kj2 (IntKind.u64.wrap ((IntKind.u64.wrap (a0_1)) * (IntKind.u64.wrap (a1_1)))) (IntKind.u64.wrap ((IntKind.u64.wrap (a0_1)) * t521)) t522 _ A23.out).mono ?_); rintro e w' ⟨rfl, ⟨nd, rfl⟩⟩; (try first | exact ⟨rfl, _, World.drewN_drewN _ _ _⟩ | exact ⟨rfl, _, Eq.trans (World.drewN_drewN _ _ _) (congrArg (World.drewN _) (Nat.add_assoc _ _ _))⟩)) | (go_at_call 52; (with_reducible refine (congr_size.calls a0_2 t523 _ A24.out).mono ?_); rintro e w' ⟨rfl, ⟨nd, rfl⟩⟩; (try first | exact ⟨rfl, _, World.drewN_drewN _ _ _⟩ | exact ⟨rfl, _, Eq.trans (World.drewN_drewN _ _ _) (congrArg (World.drewN _) (Nat.add_assoc _ _ _))⟩)) | (go_at_call 62; (with_reducible refine (congr_gcd_uint64.calls kj2 t522 (IntKind.u64.wrap ((IntKind.u64.wrap (a1_1)) * t523)) t524 _ A25.out).mono ?_); rintro e w' ⟨rfl, ⟨nd, rfl⟩⟩; (try first | exact ⟨rfl, _, World.drewN_drewN _ _ _⟩ | exact ⟨rfl, _, Eq.trans (World.drewN_drewN _ _ _) (congrArg (World.drewN _) (Nat.add_assoc _ _ _))⟩)) | (go_at_call 83; (with_reducible refine (congr_times.calls a0_2 a1_2 t525 t526 true _ A26.out).mono ?_); rintro e w84 ⟨rfl, hb⟩; replace BK515 := kB BK515 hb; replace BK516 := kB BK516 hb; replace BK517 := kB BK517 hb; replace HB := kW HB hb; (try clear hb); (try clear hb2); (try clear hk); (try clear hi)) | ((with_reducible refine gate_dst (N := 6) rfl ?_); refine box_event ?hg (N := 6) ?hd (cs := #[.int .u64 0, .int .u64 0, .bool false]) (t := 74) ?hr ?_; (case hd => rfl); (case hg => rfl); (case hr => first | (go_simp; done) | (go_simp; rfl)); intro gb528 hg w85 hbox hb; have n0_ := kB BK515 hb; have n1_ := kB BK516 hb; have n2_ := kB BK517 hb; have n3_ := kW HB hb; have n4_ := Aside0.mk (hbox); have n5_ := Aside0.mk ((by rw [hg]; exact (below_size (bS HB)) : w.heap.size ≤ gb528)); have n6_ := Aside0.mk ((by rw [hg]; exact (below_size (bS HB)) : w.heap.size ≤ gb528)); have n7_ := Aside0.mk ((by rw [hg]; exact Nat.ne_of_lt (blk_lt (bkS BK515)) : gb515 ≠ gb528)); have n8_ := Aside0.mk ((by rw [hg]; exact Nat.ne_of_gt (blk_lt (bkS BK515)) : gb528 ≠ gb515)); have n9_ := Aside0.mk ((by rw [hg]; exact Nat.ne_of_lt (blk_lt (bkS BK516)) : gb516 ≠ gb528)); have n10_ := Aside0.mk ((by rw [hg]; exact Nat.ne_of_gt (blk_lt (bkS BK516)) : gb528 ≠ gb516)); have n11_ := Aside0.mk ((by rw [hg]; exact Nat.ne_of_lt (blk_lt (bkS BK517)) : gb517 ≠ gb528)); have n12_ := Aside0.mk ((by rw [hg]; exact Nat.ne_of_gt (blk_lt (bkS BK517)) : gb528 ≠ gb517)); clear BK515; clear BK516; clear BK517; clear HB; have BK515 := n0_; have BK516 := n1_; have BK517 := n2_; have HB := n3_; have BK528 := n4_; have GW528 := n5_; have GE528 := n6_; have NB515_528 := n7_; have NB528_515 := n8_; have NB516_528 := n9_; have NB528_516 := n10_; have NB517_528 := n11_; have NB528_517 := n12_; clear n0_ n1_ n2_ n3_ n4_ n5_ n6_ n7_ n8_ n9_ n10_ n11_ n12_; clear hb hbox hg; have hnb86 := NB528_515.out; have hnc86 := NB515_528.out; have hnb87 := NB528_516.out; have hnc87 := NB516_528.out; have hnb88 := NB528_517.out; have hnc88 := NB517_528.out; have hcz89_0 := cz0 BK528; have hcz89_1 := cz1 BK528; have hcz89_2 := cz2 BK528; have hfz89_0 := fz BK528 0; have hfz89_1 := fz BK528 1; have hfz89_2 := fz BK528 2) | (go_at_call 65; (with_reducible refine (congr_words_rest.calls t525 t526 t524 t538 _ A75.out).mono ?_); rintro e w90 ⟨rfl, hb⟩; have n0_ := kB BK515 hb; have n1_ := kB BK516 hb; have n2_ := kB BK517 hb; have n3_ := Aside0.mk (blk_below (g := gb528) (o := .cells #[.int .u64 t525, .int .u64 t526, .bool true] 74 (0, 0)) (by (with_reducible repeat (first | refine b1 ?_ _ | refine b2 ?_ | refine b3 ?_ _)); refine blk_put (cs := #[.int .u64 t525, .int .u64 t526, .bool false]) ?_ 2 _ rfl; (with_reducible repeat (first | refine b1 ?_ _ | refine b2 ?_ | refine b3 ?_ _)); refine blk_put (cs := #[.int .u64 t525, .int .u64 0, .bool false]) ?_ 1 _ rfl; (with_reducible repeat (first | refine b1 ?_ _ | refine b2 ?_ | refine b3 ?_ _)); refine blk_put (cs := #[.int .u64 0, .int .u64 0, .bool false]) ?_ 0 _ rfl; (with_reducible repeat (first | refine b1 ?_ _ | refine b2 ?_ | refine b3 ?_ _)); exact BK528.out) hb); have n4_ := kW HB hb; clear BK515; clear BK516; clear BK517; clear BK528; clear HB; have BK515 := n0_; have BK516 := n1_; have BK517 := n2_; have BK528 := n3_; have HB := n4_; clear n0_ n1_ n2_ n3_ n4_; (try clear hb); (try clear hb2); (try clear hk); (try clear hi); have hcz91_0 := cz0 BK528; have hcz91_1 := cz1 BK528; have hcz91_2 := cz2 BK528; have hfz91_0 := fz BK528 0; have hfz91_1 := fz BK528 1; have hfz91_2 := fz BK528 2) | (go_at_call 51; (with_reducible refine (congr_of.calls kj2 t524 (IntKind.u64.wrap (t524 - t538)) t539 t540 t541 _ A78.out).mono ?_); rintro e w92 ⟨rfl, hb⟩; replace BK515 := kB BK515 hb; replace BK516 := kB BK516 hb; replace BK517 := kB BK517 hb; replace BK528 := kB BK528 hb; replace HB := kW HB hb; (try clear hb); (try clear hb2); (try clear hk); (try clear hi); have hcz93_0 := cz0 BK517; have hcz93_1 := cz1 BK517; have hcz93_2 := cz2 BK517; have hfz93_0 := fz BK517 0; have hfz93_1 := fz BK517 1; have hfz93_2 := fz BK517 2)))
       refine bodyPost_ret (results_cell_row rfl _ _ gb517 23 #[.bool t539, .int .i64 t540, .int .i64 t541] (0, 0) _ rfl (by (with_reducible repeat (first | refine b1 ?_ _ | refine b2 ?_ | refine b3 ?_ _)); refine blk_put (cs := #[.bool t539, .int .i64 t540, .int .i64 0]) ?_ 2 _ rfl; (with_reducible repeat (first | refine b1 ?_ _ | refine b2 ?_ | refine b3 ?_ _)); refine blk_put (cs := #[.bool t539, .int .i64 0, .int .i64 0]) ?_ 1 _ rfl; (with_reducible repeat (first | refine b1 ?_ _ | refine b2 ?_ | refine b3 ?_ _)); refine blk_put (cs := #[.bool false, .int .i64 0, .int .i64 0]) ?_ 0 _ rfl; (with_reducible repeat (first | refine b1 ?_ _ | refine b2 ?_ | refine b3 ?_ _)); exact BK517.out) Tryd.underlying23 rfl (by kernel_rfl)) rfl ?_
       exact ⟨eS, bS HB⟩
      ·
       rw [if_neg c77] at H
       have c77b0 : decide (0 < t538) = false := decide_eq_false c77
       clear c77
       replace H := Option.bind_eq_some_iff.mp H
       obtain ⟨⟨t542, t543, t544⟩, A940, H⟩ := H
       replace H : (some (t542, t543, t544)) = some (r1, r2, r3) := H
       have A94 := Aside0.mk A940
       clear A940
       simp only [Option.some.injEq, Prod.mk.injEq] at H
       obtain ⟨rfl, rfl, rfl⟩ := H
       have hnb95 := NB515_516.out
       have hnc95 := NB516_515.out
       have hnb96 := NB515_517.out
       have hnc96 := NB517_515.out
       have hcz97_0 : wc.cell? ⟨gb515, 0, none⟩ = some (.bool a0_0) := cz0 BK515
       have hcz97_1 : wc.cell? ⟨gb515, 1, none⟩ = some (.int .i64 a0_1) := cz1 BK515
       have hcz97_2 : wc.cell? ⟨gb515, 2, none⟩ = some (.int .i64 a0_2) := cz2 BK515
       have hfz97_0 := fz BK515 0
       have hfz97_1 := fz BK515 1
       have hfz97_2 := fz BK515 2
       have hnb98 := NB516_517.out
       have hnc98 := NB517_516.out
       have hcz99_0 : wc.cell? ⟨gb516, 0, none⟩ = some (.bool a1_0) := cz0 BK516
       have hcz99_1 : wc.cell? ⟨gb516, 1, none⟩ = some (.int .i64 a1_1) := cz1 BK516
       have hcz99_2 : wc.cell? ⟨gb516, 2, none⟩ = some (.int .i64 a1_2) := cz2 BK516
       have hfz99_0 := fz BK516 0
       have hfz99_1 := fz BK516 1
       have hfz99_2 := fz BK516 2
       go_wp2_with (first | (go_at_call 52; (with_reducible refine (congr_size.calls a1_2 t521 _ A22.out).mono ?_); rintro e w' ⟨rfl, ⟨nd, rfl⟩⟩; (try first | exact ⟨rfl, _, World.drewN_drewN _ _ _⟩ | exact ⟨rfl, _, Eq.trans (World.drewN_drewN _ _ _) (congrArg (World.drewN _) (Nat.add_assoc _ _ _))⟩)) | (go_at_call 62; (with_reducible refine (congr_gcd_uint64.calls kj2 (IntKind.u64.wrap ((IntKind.u64.wrap (a0_1)) * (IntKind.u64.wrap (a1_1)))) (IntKind.u64.wrap ((IntKind.u64.wrap (a0_1)) * t521)) t522 _ A23.out).mono ?_); rintro e w' ⟨rfl, ⟨nd, rfl⟩⟩; (try first | exact ⟨rfl, _, World.drewN_drewN _ _ _⟩ | exact ⟨rfl, _, Eq.trans (World.drewN_drewN _ _ _) (congrArg (World.drewN _) (Nat.add_assoc _ _ _))⟩)) | (go_at_call 52; (with_reducible refine (congr_size.calls a0_2 t523 _ A24.out).mono ?_); rintro e w' ⟨rfl, ⟨nd, rfl⟩⟩; (try first | exact ⟨rfl, _, World.drewN_drewN _ _ _⟩ | exact ⟨rfl, _, Eq.trans (World.drewN_drewN _ _ _) (congrArg (World.drewN _) (Nat.add_assoc _ _ _))⟩)) | (go_at_call 62; (with_reducible refine (congr_gcd_uint64.calls kj2 t522 (IntKind.u64.wrap ((IntKind.u64.wrap (a1_1)) * t523)) t524 _ A25.out).mono ?_); rintro e w' ⟨rfl, ⟨nd, rfl⟩⟩; (try first | exact ⟨rfl, _, World.drewN_drewN _ _ _⟩ | exact ⟨rfl, _, Eq.trans (World.drewN_drewN _ _ _) (congrArg (World.drewN _) (Nat.add_assoc _ _ _))⟩)) | (go_at_call 83; (with_reducible refine (congr_times.calls a0_2 a1_2 t525 t526 true _ A26.out).mono ?_); rintro e w100 ⟨rfl, hb⟩; replace BK515 := kB BK515 hb; replace BK516 := kB BK516 hb; replace BK517 := kB BK517 hb; replace HB := kW HB hb; (try clear hb); (try clear hb2); (try clear hk); (try clear hi)) | ((with_reducible refine gate_dst (N := 6) rfl ?_); refine box_event ?hg (N := 6) ?hd (cs := #[.int .u64 0, .int .u64 0, .bool false]) (t := 74) ?hr ?_; (case hd => rfl); (case hg => rfl); (case hr => first | (go_simp; done) | (go_simp; rfl)); intro gb528 hg w101 hbox hb; have n0_ := kB BK515 hb; have n1_ := kB BK516 hb; have n2_ := kB BK517 hb; have n3_ := kW HB hb; have n4_ := Aside0.mk (hbox); have n5_ := Aside0.mk ((by rw [hg]; exact (below_size (bS HB)) : w.heap.size ≤ gb528)); have n6_ := Aside0.mk ((by rw [hg]; exact (below_size (bS HB)) : w.heap.size ≤ gb528)); have n7_ := Aside0.mk ((by rw [hg]; exact Nat.ne_of_lt (blk_lt (bkS BK515)) : gb515 ≠ gb528)); have n8_ := Aside0.mk ((by rw [hg]; exact Nat.ne_of_gt (blk_lt (bkS BK515)) : gb528 ≠ gb515)); have n9_ := Aside0.mk ((by rw [hg]; exact Nat.ne_of_lt (blk_lt (bkS BK516)) : gb516 ≠ gb528)); have n10_ := Aside0.mk ((by rw [hg]; exact Nat.ne_of_gt (blk_lt (bkS BK516)) : gb528 ≠ gb516)); have n11_ := Aside0.mk ((by rw [hg]; exact Nat.ne_of_lt (blk_lt (bkS BK517)) : gb517 ≠ gb528)); have n12_ := Aside0.mk ((by rw [hg]; exact Nat.ne_of_gt (blk_lt (bkS BK517)) : gb528 ≠ gb517)); clear BK515; clear BK516; clear BK517; clear HB; have BK515 := n0_; have BK516 := n1_; have BK517 := n2_; have HB := n3_; have BK528 := n4_; have GW528 := n5_; have GE528 := n6_; have NB515_528 := n7_; have NB528_515 := n8_; have NB516_528 := n9_; have NB528_516 := n10_; have NB517_528 := n11_; have NB528_517 := n12_; clear n0_ n1_ n2_ n3_ n4_ n5_ n6_ n7_ n8_ n9_ n10_ n11_ n12_; clear hb hbox hg; have hnb102 := NB528_515.out; have hnc102 := NB515_528.out; have hnb103 := NB528_516.out; have hnc103 := NB516_528.out; have hnb104 := NB528_517.out; have hnc104 := NB517_528.out; have hcz105_0 := cz0 BK528; have hcz105_1 := cz1 BK528; have hcz105_2 := cz2 BK528; have hfz105_0 := fz BK528 0; have hfz105_1 := fz BK528 1; have hfz105_2 := fz BK528 2) | (go_at_call 65; (with_reducible refine (congr_words_rest.calls t525 t526 t524 t538 _ A75.out).mono ?_); rintro e w106 ⟨rfl, hb⟩; have n0_ := kB BK515 hb; have n1_ := kB BK516 hb; have n2_ := kB BK517 hb; have n3_ := Aside0.mk (blk_below (g := gb528) (o := .cells #[.int .u64 t525, .int .u64 t526, .bool true] 74 (0, 0)) (by (with_reducible repeat (first | refine b1 ?_ _ | refine b2 ?_ | refine b3 ?_ _)); refine blk_put (cs := #[.int .u64 t525, .int .u64 t526, .bool false]) ?_ 2 _ rfl; (with_reducible repeat (first | refine b1 ?_ _ | refine b2 ?_ | refine b3 ?_ _)); refine blk_put (cs := #[.int .u64 t525, .int .u64 0, .bool false]) ?_ 1 _ rfl; (with_reducible repeat (first | refine b1 ?_ _ | refine b2 ?_ | refine b3 ?_ _)); refine blk_put (cs := #[.int .u64 0, .int .u64 0, .bool false]) ?_ 0 _ rfl; (with_reducible repeat (first | refine b1 ?_ _ | refine b2 ?_ | refine b3 ?_ _)); exact BK528.out) hb); have n4_ := kW HB hb; clear BK515; clear BK516; clear BK517; clear BK528; clear HB; have BK515 := n0_; have BK516 := n1_; have BK517 := n2_; have BK528 := n3_; have HB := n4_; clear n0_ n1_ n2_ n3_ n4_; (try clear hb); (try clear hb2); (try clear hk); (try clear hi); have hcz107_0 := cz0 BK528; have hcz107_1 := cz1 BK528; have hcz107_2 := cz2 BK528; have hfz107_0 := fz BK528 0; have hfz107_1 := fz BK528 1; have hfz107_2 := fz BK528 2) | (go_at_call 51; (with_reducible refine (congr_of.calls kj2 t524 t538 t542 t543 t544 _ A94.out).mono ?_); rintro e w108 ⟨rfl, hb⟩; replace BK515 := kB BK515 hb; replace BK516 := kB BK516 hb; replace BK517 := kB BK517 hb; replace BK528 := kB BK528 hb; replace HB := kW HB hb; (try clear hb); (try clear hb2); (try clear hk); (try clear hi); have hcz109_0 := cz0 BK517; have hcz109_1 := cz1 BK517; have hcz109_2 := cz2 BK517; have hfz109_0 := fz BK517 0; have hfz109_1 := fz BK517 1; have hfz109_2 := fz BK517 2))
       repeat (go_quiet (first | (go_at_call 52; (with_reducible refine (congr_size.calls a1_2 t521 _ A22.out).mono ?_); rintro e w' ⟨rfl, ⟨nd, rfl⟩⟩; (try first | exact ⟨rfl, _, World.drewN_drewN _ _ _⟩ | exact ⟨rfl, _, Eq.trans (World.drewN_drewN _ _ _) (congrArg (World.drewN _) (Nat.add_assoc _ _ _))⟩)) | (go_at_call 62; (with_reducible refine (congr_gcd_uint64.calls kj2 (IntKind.u64.wrap ((IntKind.u64.wrap (a0_1)) * (IntKind.u64.wrap (a1_1)))) (IntKind.u64.wrap ((IntKind.u64.wrap (a0_1)) * t521)) t522 _ A23.out).mono ?_); rintro e w' ⟨rfl, ⟨nd, rfl⟩⟩; (try first | exact ⟨rfl, _, World.drewN_drewN _ _ _⟩ | exact ⟨rfl, _, Eq.trans (World.drewN_drewN _ _ _) (congrArg (World.drewN _) (Nat.add_assoc _ _ _))⟩)) | (go_at_call 52; (with_reducible refine (congr_size.calls a0_2 t523 _ A24.out).mono ?_); rintro e w' ⟨rfl, ⟨nd, rfl⟩⟩; (try first | exact ⟨rfl, _, World.drewN_drewN _ _ _⟩ | exact ⟨rfl, _, Eq.trans (World.drewN_drewN _ _ _) (congrArg (World.drewN _) (Nat.add_assoc _ _ _))⟩)) | (go_at_call 62; (with_reducible refine (congr_gcd_uint64.calls kj2 t522 (IntKind.u64.wrap ((IntKind.u64.wrap (a1_1)) * t523)) t524 _ A25.out).mono ?_); rintro e w' ⟨rfl, ⟨nd, rfl⟩⟩; (try first | exact ⟨rfl, _, World.drewN_drewN _ _ _⟩ | exact ⟨rfl, _, Eq.trans (World.drewN_drewN _ _ _) (congrArg (World.drewN _) (Nat.add_assoc _ _ _))⟩)) | (go_at_call 83; (with_reducible refine (congr_times.calls a0_2 a1_2 t525 t526 true _ A26.out).mono ?_); rintro e w100 ⟨rfl, hb⟩; replace BK515 := kB BK515 hb; replace BK516 := kB BK516 hb; replace BK517 := kB BK517 hb; replace HB := kW HB hb; (try clear hb); (try clear hb2); (try clear hk); (try clear hi)) | ((with_reducible refine gate_dst (N := 6) rfl ?_); refine box_event ?hg (N := 6) ?hd (cs := #[.int .u64 0, .int .u64 0, .bool false]) (t := 74) ?hr ?_; (case hd => rfl); (case hg => rfl); (case hr => first | (go_simp; done) | (go_simp; rfl)); intro gb528 hg w101 hbox hb; have n0_ := kB BK515 hb; have n1_ := kB BK516 hb; have n2_ := kB BK517 hb; have n3_ := kW HB hb; have n4_ := Aside0.mk (hbox); have n5_ := Aside0.mk ((by rw [hg]; exact (below_size (bS HB)) : w.heap.size ≤ gb528)); have n6_ := Aside0.mk ((by rw [hg]; exact (below_size (bS HB)) : w.heap.size ≤ gb528)); have n7_ := Aside0.mk ((by rw [hg]; exact Nat.ne_of_lt (blk_lt (bkS BK515)) : gb515 ≠ gb528)); have n8_ := Aside0.mk ((by rw [hg]; exact Nat.ne_of_gt (blk_lt (bkS BK515)) : gb528 ≠ gb515)); have n9_ := Aside0.mk ((by rw [hg]; exact Nat.ne_of_lt (blk_lt (bkS BK516)) : gb516 ≠ gb528)); have n10_ := Aside0.mk ((by rw [hg]; exact Nat.ne_of_gt (blk_lt (bkS BK516)) : gb528 ≠ gb516)); have n11_ := Aside0.mk ((by rw [hg]; exact Nat.ne_of_lt (blk_lt (bkS BK517)) : gb517 ≠ gb528)); have n12_ := Aside0.mk ((by rw [hg]; exact Nat.ne_of_gt (blk_lt (bkS BK517)) : gb528 ≠ gb517)); clear BK515; clear BK516; clear BK517; clear HB; have BK515 := n0_; have BK516 := n1_; have BK517 := n2_; have HB := n3_; have BK528 := n4_; have GW528 := n5_; have GE528 := n6_; have NB515_528 := n7_; have NB528_515 := n8_; have NB516_528 := n9_; have NB528_516 := n10_; have NB517_528 := n11_; have NB528_517 := n12_; clear n0_ n1_ n2_ n3_ n4_ n5_ n6_ n7_ n8_ n9_ n10_ n11_ n12_; clear hb hbox hg; have hnb102 := NB528_515.out; have hnc102 := NB515_528.out; have hnb103 := NB528_516.out; have hnc103 := NB516_528.out; have hnb104 := NB528_517.out; have hnc104 := NB517_528.out; have hcz105_0 := cz0 BK528; have hcz105_1 := cz1 BK528; have hcz105_2 := cz2 BK528; have hfz105_0 := fz BK528 0; have hfz105_1 := fz BK528 1; have hfz105_2 := fz BK528 2) | (go_at_call 65; (with_reducible refine (congr_words_rest.calls t525 t526 t524 t538 _ A75.out).mono ?_); rintro e w106 ⟨rfl, hb⟩; have n0_ := kB BK515 hb; have n1_ := kB BK516 hb; have n2_ := kB BK517 hb; have n3_ := Aside0.mk (blk_below (g := gb528) (o := .cells #[.int .u64 t525, .int .u64 t526, .bool true] 74 (0, 0)) (by (with_reducible repeat (first | refine b1 ?_ _ | refine b2 ?_ | refine b3 ?_ _)); refine blk_put (cs := #[.int .u64 t525, .int .u64 t526, .bool false]) ?_ 2 _ rfl; (with_reducible repeat (first | refine b1 ?_ _ | refine b2 ?_ | refine b3 ?_ _)); refine blk_put (cs := #[.int .u64 t525, .int .u64 0, .bool false]) ?_ 1 _ rfl; (with_reducible repeat (first | refine b1 ?_ _ | refine b2 ?_ | refine b3 ?_ _)); refine blk_put (cs := #[.int .u64 0, .int .u64 0, .bool false]) ?_ 0 _ rfl; (with_reducible repeat (first | refine b1 ?_ _ | refine b2 ?_ | refine b3 ?_ _)); exact BK528.out) hb); have n4_ := kW HB hb; clear BK515; clear BK516; clear BK517; clear BK528; clear HB; have BK515 := n0_; have BK516 := n1_; have BK517 := n2_; have BK528 := n3_; have HB := n4_; clear n0_ n1_ n2_ n3_ n4_; (try clear hb); (try clear hb2); (try clear hk); (try clear hi); have hcz107_0 := cz0 BK528; have hcz107_1 := cz1 BK528; have hcz107_2 := cz2 BK528; have hfz107_0 := fz BK528 0; have hfz107_1 := fz BK528 1; have hfz107_2 := fz BK528 2) | (go_at_call 51; (with_reducible refine (congr_of.calls kj2 t524 t538 t542 t543 t544 _ A94.out).mono ?_); rintro e w108 ⟨rfl, hb⟩; replace BK515 := kB BK515 hb; replace BK516 := kB BK516 hb; replace BK517 := kB BK517 hb; replace BK528 := kB BK528 hb; replace HB := kW HB hb; (try clear hb); (try clear hb2); (try clear hk); (try clear hi); have hcz109_0 := cz0 BK517; have hcz109_1 := cz1 BK517; have hcz109_2 := cz2 BK517; have hfz109_0 := fz BK517 0; have hfz109_1 := fz BK517 1; have hfz109_2 := fz BK517 2)); try go_wp2_with (first | (go_at_call 52; (with_reducible refine (congr_size.calls a1_2 t521 _ A22.out).mono ?_); rintro e w' ⟨rfl, ⟨nd, rfl⟩⟩; (try first | exact ⟨rfl, _, World.drewN_drewN _ _ _⟩ | exact ⟨rfl, _, Eq.trans (World.drewN_drewN _ _ _) (congrArg (World.drewN _) (Nat.add_assoc _ _ _))⟩)) | (go_at_call 62; (with_reducible refine (congr_gcd_uint64.calls kj2 (IntKind.u64.wrap ((IntKind.u64.wrap (a0_1)) * (IntKind.u64.wrap (a1_1)))) (IntKind.u64.wrap ((IntKind.u64.wrap (a0_1)) * t521)) t522 _ A23.out).mono ?_); rintro e w' ⟨rfl, ⟨nd, rfl⟩⟩; (try first | exact ⟨rfl, _, World.drewN_drewN _ _ _⟩ | exact ⟨rfl, _, Eq.trans (World.drewN_drewN _ _ _) (congrArg (World.drewN _) (Nat.add_assoc _ _ _))⟩)) | (go_at_call 52; (with_reducible refine (congr_size.calls a0_2 t523 _ A24.out).mono ?_); rintro e w' ⟨rfl, ⟨nd, rfl⟩⟩; (try first | exact ⟨rfl, _, World.drewN_drewN _ _ _⟩ | exact ⟨rfl, _, Eq.trans (World.drewN_drewN _ _ _) (congrArg (World.drewN _) (Nat.add_assoc _ _ _))⟩)) | (go_at_call 62; (with_reducible refine (congr_gcd_uint64.calls kj2 t522 (IntKind.u64.wrap ((IntKind.u64.wrap (a1_1)) * t523)) t524 _ A25.out).mono ?_); rintro e w' ⟨rfl, ⟨nd, rfl⟩⟩; (try first | exact ⟨rfl, _, World.drewN_drewN _ _ _⟩ | exact ⟨rfl, _, Eq.trans (World.drewN_drewN _ _ _) (congrArg (World.drewN _) (Nat.add_assoc _ _ _))⟩)) | (go_at_call 83; (with_reducible refine (congr_times.calls a0_2 a1_2 t525 t526 true _ A26.out).mono ?_); rintro e w100 ⟨rfl, hb⟩; replace BK515 := kB BK515 hb; replace BK516 := kB BK516 hb; replace BK517 := kB BK517 hb; replace HB := kW HB hb; (try clear hb); (try clear hb2); (try clear hk); (try clear hi)) | ((with_reducible refine gate_dst (N := 6) rfl ?_); refine box_event ?hg (N := 6) ?hd (cs := #[.int .u64 0, .int .u64 0, .bool false]) (t := 74) ?hr ?_; (case hd => rfl); (case hg => rfl); (case hr => first | (go_simp; done) | (go_simp; rfl)); intro gb528 hg w101 hbox hb; have n0_ := kB BK515 hb; have n1_ := kB BK516 hb; have n2_ := kB BK517 hb; have n3_ := kW HB hb; have n4_ := Aside0.mk (hbox); have n5_ := Aside0.mk ((by rw [hg]; exact (below_size (bS HB)) : w.heap.size ≤ gb528)); have n6_ := Aside0.mk ((by rw [hg]; exact (below_size (bS HB)) : w.heap.size ≤ gb528)); have n7_ := Aside0.mk ((by rw [hg]; exact Nat.ne_of_lt (blk_lt (bkS BK515)) : gb515 ≠ gb528)); have n8_ := Aside0.mk ((by rw [hg]; exact Nat.ne_of_gt (blk_lt (bkS BK515)) : gb528 ≠ gb515)); have n9_ := Aside0.mk ((by rw [hg]; exact Nat.ne_of_lt (blk_lt (bkS BK516)) : gb516 ≠ gb528)); have n10_ := Aside0.mk ((by rw [hg]; exact Nat.ne_of_gt (blk_lt (bkS BK516)) : gb528 ≠ gb516)); have n11_ := Aside0.mk ((by rw [hg]; exact Nat.ne_of_lt (blk_lt (bkS BK517)) : gb517 ≠ gb528)); have n12_ := Aside0.mk ((by rw [hg]; exact Nat.ne_of_gt (blk_lt (bkS BK517)) : gb528 ≠ gb517)); clear BK515; clear BK516; clear BK517; clear HB; have BK515 := n0_; have BK516 := n1_; have BK517 := n2_; have HB := n3_; have BK528 := n4_; have GW528 := n5_; have GE528 := n6_; have NB515_528 := n7_; have NB528_515 := n8_; have NB516_528 := n9_; have NB528_516 := n10_; have NB517_528 := n11_; have NB528_517 := n12_; clear n0_ n1_ n2_ n3_ n4_ n5_ n6_ n7_ n8_ n9_ n10_ n11_ n12_; clear hb hbox hg; have hnb102 := NB528_515.out; have hnc102 := NB515_528.out; have hnb103 := NB528_516.out; have hnc103 := NB516_528.out; have hnb104 := NB528_517.out; have hnc104 := NB517_528.out; have hcz105_0 := cz0 BK528; have hcz105_1 := cz1 BK528; have hcz105_2 := cz2 BK528; have hfz105_0 := fz BK528 0; have hfz105_1 := fz BK528 1; have hfz105_2 := fz BK528 2) | (go_at_call 65; (with_reducible refine (congr_words_rest.calls t525 t526 t524 t538 _ A75.out).mono ?_); rintro e w106 ⟨rfl, hb⟩; have n0_ := kB BK515 hb; have n1_ := kB BK516 hb; have n2_ := kB BK517 hb; have n3_ := Aside0.mk (blk_below (g := gb528) (o := .cells #[.int .u64 t525, .int .u64 t526, .bool true] 74 (0, 0)) (by (with_reducible repeat (first | refine b1 ?_ _ | refine b2 ?_ | refine b3 ?_ _)); refine blk_put (cs := #[.int .u64 t525, .int .u64 t526, .bool false]) ?_ 2 _ rfl; (with_reducible repeat (first | refine b1 ?_ _ | refine b2 ?_ | refine b3 ?_ _)); refine blk_put (cs := #[.int .u64 t525, .int .u64 0, .bool false]) ?_ 1 _ rfl; (with_reducible repeat (first | refine b1 ?_ _ | refine b2 ?_ | refine b3 ?_ _)); refine blk_put (cs := #[.int .u64 0, .int .u64 0, .bool false]) ?_ 0 _ rfl; (with_reducible repeat (first | refine b1 ?_ _ | refine b2 ?_ | refine b3 ?_ _)); exact BK528.out) hb); have n4_ := kW HB hb; clear BK515; clear BK516; clear BK517; clear BK528; clear HB; have BK515 := n0_; have BK516 := n1_; have BK517 := n2_; have BK528 := n3_; have HB := n4_; clear n0_ n1_ n2_ n3_ n4_; (try clear hb); (try clear hb2); (try clear hk); (try clear hi); have hcz107_0 := cz0 BK528; have hcz107_1 := cz1 BK528; have hcz107_2 := cz2 BK528; have hfz107_0 := fz BK528 0; have hfz107_1 := fz BK528 1; have hfz107_2 := fz BK528 2) | (go_at_call 51; (with_reducible refine (congr_of.calls kj2 t524 t538 t542 t543 t544 _ A94.out).mono ?_); rintro e w108 ⟨rfl, hb⟩; replace BK515 := kB BK515 hb; replace BK516 := kB BK516 hb; replace BK517 := kB BK517 hb; replace BK528 := kB BK528 hb; replace HB := kW HB hb; (try clear hb); (try clear hb2); (try clear hk); (try clear hi); have hcz109_0 := cz0 BK517; have hcz109_1 := cz1 BK517; have hcz109_2 := cz2 BK517; have hfz109_0 := fz BK517 0; have hfz109_1 := fz BK517 1; have hfz109_2 := fz BK517 2)))
       refine bodyPost_ret (results_cell_row rfl _ _ gb517 23 #[.bool t542, .int .i64 t543, .int .i64 t544] (0, 0) _ rfl (by (with_reducible repeat (first | refine b1 ?_ _ | refine b2 ?_ | refine b3 ?_ _)); refine blk_put (cs := #[.bool t542, .int .i64 t543, .int .i64 0]) ?_ 2 _ rfl; (with_reducible repeat (first | refine b1 ?_ _ | refine b2 ?_ | refine b3 ?_ _)); refine blk_put (cs := #[.bool t542, .int .i64 0, .int .i64 0]) ?_ 1 _ rfl; (with_reducible repeat (first | refine b1 ?_ _ | refine b2 ?_ | refine b3 ?_ _)); refine blk_put (cs := #[.bool false, .int .i64 0, .int .i64 0]) ?_ 0 _ rfl; (with_reducible repeat (first | refine b1 ?_ _ | refine b2 ?_ | refine b3 ?_ _)); exact BK517.out) Tryd.underlying23 rfl (by kernel_rfl)) rfl ?_
       exact ⟨eS, bS HB⟩
     ·
      replace c76 := Bool.eq_false_iff.mpr c76
      subst c76
      have H1 : ((congr_of.f kj2 t524 t538).bind fun bt545 => (some (bt545.1, bt545.2.1, bt545.2.2))) = some (r1, r2, r3) := by rw [if_neg (show ¬ (false = true) by decide)] at H; exact H
      clear H
      have H := H1
      clear H1
      replace H := Option.bind_eq_some_iff.mp H
      obtain ⟨⟨t545, t546, t547⟩, A1100, H⟩ := H
      replace H : (some (t545, t546, t547)) = some (r1, r2, r3) := H
      have A110 := Aside0.mk A1100
      clear A1100
      simp only [Option.some.injEq, Prod.mk.injEq] at H
      obtain ⟨rfl, rfl, rfl⟩ := H
      have hnb111 := NB515_516.out
      have hnc111 := NB516_515.out
      have hnb112 := NB515_517.out
      have hnc112 := NB517_515.out
      have hcz113_0 : wc.cell? ⟨gb515, 0, none⟩ = some (.bool a0_0) := cz0 BK515
      have hcz113_1 : wc.cell? ⟨gb515, 1, none⟩ = some (.int .i64 a0_1) := cz1 BK515
      have hcz113_2 : wc.cell? ⟨gb515, 2, none⟩ = some (.int .i64 a0_2) := cz2 BK515
      have hfz113_0 := fz BK515 0
      have hfz113_1 := fz BK515 1
      have hfz113_2 := fz BK515 2
      have hnb114 := NB516_517.out
      have hnc114 := NB517_516.out
      have hcz115_0 : wc.cell? ⟨gb516, 0, none⟩ = some (.bool a1_0) := cz0 BK516
      have hcz115_1 : wc.cell? ⟨gb516, 1, none⟩ = some (.int .i64 a1_1) := cz1 BK516
      have hcz115_2 : wc.cell? ⟨gb516, 2, none⟩ = some (.int .i64 a1_2) := cz2 BK516
      have hfz115_0 := fz BK516 0
      have hfz115_1 := fz BK516 1
      have hfz115_2 := fz BK516 2
      go_wp2_with (first | (go_at_call 52; (with_reducible refine (congr_size.calls a1_2 t521 _ A22.out).mono ?_); rintro e w' ⟨rfl, ⟨nd, rfl⟩⟩; (try first | exact ⟨rfl, _, World.drewN_drewN _ _ _⟩ | exact ⟨rfl, _, Eq.trans (World.drewN_drewN _ _ _) (congrArg (World.drewN _) (Nat.add_assoc _ _ _))⟩)) | (go_at_call 62; (with_reducible refine (congr_gcd_uint64.calls kj2 (IntKind.u64.wrap ((IntKind.u64.wrap (a0_1)) * (IntKind.u64.wrap (a1_1)))) (IntKind.u64.wrap ((IntKind.u64.wrap (a0_1)) * t521)) t522 _ A23.out).mono ?_); rintro e w' ⟨rfl, ⟨nd, rfl⟩⟩; (try first | exact ⟨rfl, _, World.drewN_drewN _ _ _⟩ | exact ⟨rfl, _, Eq.trans (World.drewN_drewN _ _ _) (congrArg (World.drewN _) (Nat.add_assoc _ _ _))⟩)) | (go_at_call 52; (with_reducible refine (congr_size.calls a0_2 t523 _ A24.out).mono ?_); rintro e w' ⟨rfl, ⟨nd, rfl⟩⟩; (try first | exact ⟨rfl, _, World.drewN_drewN _ _ _⟩ | exact ⟨rfl, _, Eq.trans (World.drewN_drewN _ _ _) (congrArg (World.drewN _) (Nat.add_assoc _ _ _))⟩)) | (go_at_call 62; (with_reducible refine (congr_gcd_uint64.calls kj2 t522 (IntKind.u64.wrap ((IntKind.u64.wrap (a1_1)) * t523)) t524 _ A25.out).mono ?_); rintro e w' ⟨rfl, ⟨nd, rfl⟩⟩; (try first | exact ⟨rfl, _, World.drewN_drewN _ _ _⟩ | exact ⟨rfl, _, Eq.trans (World.drewN_drewN _ _ _) (congrArg (World.drewN _) (Nat.add_assoc _ _ _))⟩)) | (go_at_call 83; (with_reducible refine (congr_times.calls a0_2 a1_2 t525 t526 false _ A26.out).mono ?_); rintro e w116 ⟨rfl, hb⟩; replace BK515 := kB BK515 hb; replace BK516 := kB BK516 hb; replace BK517 := kB BK517 hb; replace HB := kW HB hb; (try clear hb); (try clear hb2); (try clear hk); (try clear hi)) | ((with_reducible refine gate_dst (N := 6) rfl ?_); refine box_event ?hg (N := 6) ?hd (cs := #[.int .u64 0, .int .u64 0, .bool false]) (t := 74) ?hr ?_; (case hd => rfl); (case hg => rfl); (case hr => first | (go_simp; done) | (go_simp; rfl)); intro gb528 hg w117 hbox hb; have n0_ := kB BK515 hb; have n1_ := kB BK516 hb; have n2_ := kB BK517 hb; have n3_ := kW HB hb; have n4_ := Aside0.mk (hbox); have n5_ := Aside0.mk ((by rw [hg]; exact (below_size (bS HB)) : w.heap.size ≤ gb528)); have n6_ := Aside0.mk ((by rw [hg]; exact (below_size (bS HB)) : w.heap.size ≤ gb528)); have n7_ := Aside0.mk ((by rw [hg]; exact Nat.ne_of_lt (blk_lt (bkS BK515)) : gb515 ≠ gb528)); have n8_ := Aside0.mk ((by rw [hg]; exact Nat.ne_of_gt (blk_lt (bkS BK515)) : gb528 ≠ gb515)); have n9_ := Aside0.mk ((by rw [hg]; exact Nat.ne_of_lt (blk_lt (bkS BK516)) : gb516 ≠ gb528)); have n10_ := Aside0.mk ((by rw [hg]; exact Nat.ne_of_gt (blk_lt (bkS BK516)) : gb528 ≠ gb516)); have n11_ := Aside0.mk ((by rw [hg]; exact Nat.ne_of_lt (blk_lt (bkS BK517)) : gb517 ≠ gb528)); have n12_ := Aside0.mk ((by rw [hg]; exact Nat.ne_of_gt (blk_lt (bkS BK517)) : gb528 ≠ gb517)); clear BK515; clear BK516; clear BK517; clear HB; have BK515 := n0_; have BK516 := n1_; have BK517 := n2_; have HB := n3_; have BK528 := n4_; have GW528 := n5_; have GE528 := n6_; have NB515_528 := n7_; have NB528_515 := n8_; have NB516_528 := n9_; have NB528_516 := n10_; have NB517_528 := n11_; have NB528_517 := n12_; clear n0_ n1_ n2_ n3_ n4_ n5_ n6_ n7_ n8_ n9_ n10_ n11_ n12_; clear hb hbox hg; have hnb118 := NB528_515.out; have hnc118 := NB515_528.out; have hnb119 := NB528_516.out; have hnc119 := NB516_528.out; have hnb120 := NB528_517.out; have hnc120 := NB517_528.out; have hcz121_0 := cz0 BK528; have hcz121_1 := cz1 BK528; have hcz121_2 := cz2 BK528; have hfz121_0 := fz BK528 0; have hfz121_1 := fz BK528 1; have hfz121_2 := fz BK528 2) | (go_at_call 65; (with_reducible refine (congr_words_rest.calls t525 t526 t524 t538 _ A75.out).mono ?_); rintro e w122 ⟨rfl, hb⟩; have n0_ := kB BK515 hb; have n1_ := kB BK516 hb; have n2_ := kB BK517 hb; have n3_ := Aside0.mk (blk_below (g := gb528) (o := .cells #[.int .u64 t525, .int .u64 t526, .bool false] 74 (0, 0)) (by (with_reducible repeat (first | refine b1 ?_ _ | refine b2 ?_ | refine b3 ?_ _)); refine blk_put (cs := #[.int .u64 t525, .int .u64 t526, .bool false]) ?_ 2 _ rfl; (with_reducible repeat (first | refine b1 ?_ _ | refine b2 ?_ | refine b3 ?_ _)); refine blk_put (cs := #[.int .u64 t525, .int .u64 0, .bool false]) ?_ 1 _ rfl; (with_reducible repeat (first | refine b1 ?_ _ | refine b2 ?_ | refine b3 ?_ _)); refine blk_put (cs := #[.int .u64 0, .int .u64 0, .bool false]) ?_ 0 _ rfl; (with_reducible repeat (first | refine b1 ?_ _ | refine b2 ?_ | refine b3 ?_ _)); exact BK528.out) hb); have n4_ := kW HB hb; clear BK515; clear BK516; clear BK517; clear BK528; clear HB; have BK515 := n0_; have BK516 := n1_; have BK517 := n2_; have BK528 := n3_; have HB := n4_; clear n0_ n1_ n2_ n3_ n4_; (try clear hb); (try clear hb2); (try clear hk); (try clear hi); have hcz123_0 := cz0 BK528; have hcz123_1 := cz1 BK528; have hcz123_2 := cz2 BK528; have hfz123_0 := fz BK528 0; have hfz123_1 := fz BK528 1; have hfz123_2 := fz BK528 2) | (go_at_call 51; (with_reducible refine (congr_of.calls kj2 t524 t538 t545 t546 t547 _ A110.out).mono ?_); rintro e w124 ⟨rfl, hb⟩; replace BK515 := kB BK515 hb; replace BK516 := kB BK516 hb; replace BK517 := kB BK517 hb; replace BK528 := kB BK528 hb; replace HB := kW HB hb; (try clear hb); (try clear hb2); (try clear hk); (try clear hi); have hcz125_0 := cz0 BK517; have hcz125_1 := cz1 BK517; have hcz125_2 := cz2 BK517; have hfz125_0 := fz BK517 0; have hfz125_1 := fz BK517 1; have hfz125_2 := fz BK517 2))
      repeat (go_quiet (first | (go_at_call 52; (with_reducible refine (congr_size.calls a1_2 t521 _ A22.out).mono ?_); rintro e w' ⟨rfl, ⟨nd, rfl⟩⟩; (try first | exact ⟨rfl, _, World.drewN_drewN _ _ _⟩ | exact ⟨rfl, _, Eq.trans (World.drewN_drewN _ _ _) (congrArg (World.drewN _) (Nat.add_assoc _ _ _))⟩)) | (go_at_call 62; (with_reducible refine (congr_gcd_uint64.calls kj2 (IntKind.u64.wrap ((IntKind.u64.wrap (a0_1)) * (IntKind.u64.wrap (a1_1)))) (IntKind.u64.wrap ((IntKind.u64.wrap (a0_1)) * t521)) t522 _ A23.out).mono ?_); rintro e w' ⟨rfl, ⟨nd, rfl⟩⟩; (try first | exact ⟨rfl, _, World.drewN_drewN _ _ _⟩ | exact ⟨rfl, _, Eq.trans (World.drewN_drewN _ _ _) (congrArg (World.drewN _) (Nat.add_assoc _ _ _))⟩)) | (go_at_call 52; (with_reducible refine (congr_size.calls a0_2 t523 _ A24.out).mono ?_); rintro e w' ⟨rfl, ⟨nd, rfl⟩⟩; (try first | exact ⟨rfl, _, World.drewN_drewN _ _ _⟩ | exact ⟨rfl, _, Eq.trans (World.drewN_drewN _ _ _) (congrArg (World.drewN _) (Nat.add_assoc _ _ _))⟩)) | (go_at_call 62; (with_reducible refine (congr_gcd_uint64.calls kj2 t522 (IntKind.u64.wrap ((IntKind.u64.wrap (a1_1)) * t523)) t524 _ A25.out).mono ?_); rintro e w' ⟨rfl, ⟨nd, rfl⟩⟩; (try first | exact ⟨rfl, _, World.drewN_drewN _ _ _⟩ | exact ⟨rfl, _, Eq.trans (World.drewN_drewN _ _ _) (congrArg (World.drewN _) (Nat.add_assoc _ _ _))⟩)) | (go_at_call 83; (with_reducible refine (congr_times.calls a0_2 a1_2 t525 t526 false _ A26.out).mono ?_); rintro e w116 ⟨rfl, hb⟩; replace BK515 := kB BK515 hb; replace BK516 := kB BK516 hb; replace BK517 := kB BK517 hb; replace HB := kW HB hb; (try clear hb); (try clear hb2); (try clear hk); (try clear hi)) | ((with_reducible refine gate_dst (N := 6) rfl ?_); refine box_event ?hg (N := 6) ?hd (cs := #[.int .u64 0, .int .u64 0, .bool false]) (t := 74) ?hr ?_; (case hd => rfl); (case hg => rfl); (case hr => first | (go_simp; done) | (go_simp; rfl)); intro gb528 hg w117 hbox hb; have n0_ := kB BK515 hb; have n1_ := kB BK516 hb; have n2_ := kB BK517 hb; have n3_ := kW HB hb; have n4_ := Aside0.mk (hbox); have n5_ := Aside0.mk ((by rw [hg]; exact (below_size (bS HB)) : w.heap.size ≤ gb528)); have n6_ := Aside0.mk ((by rw [hg]; exact (below_size (bS HB)) : w.heap.size ≤ gb528)); have n7_ := Aside0.mk ((by rw [hg]; exact Nat.ne_of_lt (blk_lt (bkS BK515)) : gb515 ≠ gb528)); have n8_ := Aside0.mk ((by rw [hg]; exact Nat.ne_of_gt (blk_lt (bkS BK515)) : gb528 ≠ gb515)); have n9_ := Aside0.mk ((by rw [hg]; exact Nat.ne_of_lt (blk_lt (bkS BK516)) : gb516 ≠ gb528)); have n10_ := Aside0.mk ((by rw [hg]; exact Nat.ne_of_gt (blk_lt (bkS BK516)) : gb528 ≠ gb516)); have n11_ := Aside0.mk ((by rw [hg]; exact Nat.ne_of_lt (blk_lt (bkS BK517)) : gb517 ≠ gb528)); have n12_ := Aside0.mk ((by rw [hg]; exact Nat.ne_of_gt (blk_lt (bkS BK517)) : gb528 ≠ gb517)); clear BK515; clear BK516; clear BK517; clear HB; have BK515 := n0_; have BK516 := n1_; have BK517 := n2_; have HB := n3_; have BK528 := n4_; have GW528 := n5_; have GE528 := n6_; have NB515_528 := n7_; have NB528_515 := n8_; have NB516_528 := n9_; have NB528_516 := n10_; have NB517_528 := n11_; have NB528_517 := n12_; clear n0_ n1_ n2_ n3_ n4_ n5_ n6_ n7_ n8_ n9_ n10_ n11_ n12_; clear hb hbox hg; have hnb118 := NB528_515.out; have hnc118 := NB515_528.out; have hnb119 := NB528_516.out; have hnc119 := NB516_528.out; have hnb120 := NB528_517.out; have hnc120 := NB517_528.out; have hcz121_0 := cz0 BK528; have hcz121_1 := cz1 BK528; have hcz121_2 := cz2 BK528; have hfz121_0 := fz BK528 0; have hfz121_1 := fz BK528 1; have hfz121_2 := fz BK528 2) | (go_at_call 65; (with_reducible refine (congr_words_rest.calls t525 t526 t524 t538 _ A75.out).mono ?_); rintro e w122 ⟨rfl, hb⟩; have n0_ := kB BK515 hb; have n1_ := kB BK516 hb; have n2_ := kB BK517 hb; have n3_ := Aside0.mk (blk_below (g := gb528) (o := .cells #[.int .u64 t525, .int .u64 t526, .bool false] 74 (0, 0)) (by (with_reducible repeat (first | refine b1 ?_ _ | refine b2 ?_ | refine b3 ?_ _)); refine blk_put (cs := #[.int .u64 t525, .int .u64 t526, .bool false]) ?_ 2 _ rfl; (with_reducible repeat (first | refine b1 ?_ _ | refine b2 ?_ | refine b3 ?_ _)); refine blk_put (cs := #[.int .u64 t525, .int .u64 0, .bool false]) ?_ 1 _ rfl; (with_reducible repeat (first | refine b1 ?_ _ | refine b2 ?_ | refine b3 ?_ _)); refine blk_put (cs := #[.int .u64 0, .int .u64 0, .bool false]) ?_ 0 _ rfl; (with_reducible repeat (first | refine b1 ?_ _ | refine b2 ?_ | refine b3 ?_ _)); exact BK528.out) hb); have n4_ := kW HB hb; clear BK515; clear BK516; clear BK517; clear BK528; clear HB; have BK515 := n0_; have BK516 := n1_; have BK517 := n2_; have BK528 := n3_; have HB := n4_; clear n0_ n1_ n2_ n3_ n4_; (try clear hb); (try clear hb2); (try clear hk); (try clear hi); have hcz123_0 := cz0 BK528; have hcz123_1 := cz1 BK528; have hcz123_2 := cz2 BK528; have hfz123_0 := fz BK528 0; have hfz123_1 := fz BK528 1; have hfz123_2 := fz BK528 2) | (go_at_call 51; (with_reducible refine (congr_of.calls kj2 t524 t538 t545 t546 t547 _ A110.out).mono ?_); rintro e w124 ⟨rfl, hb⟩; replace BK515 := kB BK515 hb; replace BK516 := kB BK516 hb; replace BK517 := kB BK517 hb; replace BK528 := kB BK528 hb; replace HB := kW HB hb; (try clear hb); (try clear hb2); (try clear hk); (try clear hi); have hcz125_0 := cz0 BK517; have hcz125_1 := cz1 BK517; have hcz125_2 := cz2 BK517; have hfz125_0 := fz BK517 0; have hfz125_1 := fz BK517 1; have hfz125_2 := fz BK517 2)); try go_wp2_with (first | (go_at_call 52; (with_reducible refine (congr_size.calls a1_2 t521 _ A22.out).mono ?_); rintro e w' ⟨rfl, ⟨nd, rfl⟩⟩; (try first | exact ⟨rfl, _, World.drewN_drewN _ _ _⟩ | exact ⟨rfl, _, Eq.trans (World.drewN_drewN _ _ _) (congrArg (World.drewN _) (Nat.add_assoc _ _ _))⟩)) | (go_at_call 62; (with_reducible refine (congr_gcd_uint64.calls kj2 (IntKind.u64.wrap ((IntKind.u64.wrap (a0_1)) * (IntKind.u64.wrap (a1_1)))) (IntKind.u64.wrap ((IntKind.u64.wrap (a0_1)) * t521)) t522 _ A23.out).mono ?_); rintro e w' ⟨rfl, ⟨nd, rfl⟩⟩; (try first | exact ⟨rfl, _, World.drewN_drewN _ _ _⟩ | exact ⟨rfl, _, Eq.trans (World.drewN_drewN _ _ _) (congrArg (World.drewN _) (Nat.add_assoc _ _ _))⟩)) | (go_at_call 52; (with_reducible refine (congr_size.calls a0_2 t523 _ A24.out).mono ?_); rintro e w' ⟨rfl, ⟨nd, rfl⟩⟩; (try first | exact ⟨rfl, _, World.drewN_drewN _ _ _⟩ | exact ⟨rfl, _, Eq.trans (World.drewN_drewN _ _ _) (congrArg (World.drewN _) (Nat.add_assoc _ _ _))⟩)) | (go_at_call 62; (with_reducible refine (congr_gcd_uint64.calls kj2 t522 (IntKind.u64.wrap ((IntKind.u64.wrap (a1_1)) * t523)) t524 _ A25.out).mono ?_); rintro e w' ⟨rfl, ⟨nd, rfl⟩⟩; (try first | exact ⟨rfl, _, World.drewN_drewN _ _ _⟩ | exact ⟨rfl, _, Eq.trans (World.drewN_drewN _ _ _) (congrArg (World.drewN _) (Nat.add_assoc _ _ _))⟩)) | (go_at_call 83; (with_reducible refine (congr_times.calls a0_2 a1_2 t525 t526 false _ A26.out).mono ?_); rintro e w116 ⟨rfl, hb⟩; replace BK515 := kB BK515 hb; replace BK516 := kB BK516 hb; replace BK517 := kB BK517 hb; replace HB := kW HB hb; (try clear hb); (try clear hb2); (try clear hk); (try clear hi)) | ((with_reducible refine gate_dst (N := 6) rfl ?_); refine box_event ?hg (N := 6) ?hd (cs := #[.int .u64 0, .int .u64 0, .bool false]) (t := 74) ?hr ?_; (case hd => rfl); (case hg => rfl); (case hr => first | (go_simp; done) | (go_simp; rfl)); intro gb528 hg w117 hbox hb; have n0_ := kB BK515 hb; have n1_ := kB BK516 hb; have n2_ := kB BK517 hb; have n3_ := kW HB hb; have n4_ := Aside0.mk (hbox); have n5_ := Aside0.mk ((by rw [hg]; exact (below_size (bS HB)) : w.heap.size ≤ gb528)); have n6_ := Aside0.mk ((by rw [hg]; exact (below_size (bS HB)) : w.heap.size ≤ gb528)); have n7_ := Aside0.mk ((by rw [hg]; exact Nat.ne_of_lt (blk_lt (bkS BK515)) : gb515 ≠ gb528)); have n8_ := Aside0.mk ((by rw [hg]; exact Nat.ne_of_gt (blk_lt (bkS BK515)) : gb528 ≠ gb515)); have n9_ := Aside0.mk ((by rw [hg]; exact Nat.ne_of_lt (blk_lt (bkS BK516)) : gb516 ≠ gb528)); have n10_ := Aside0.mk ((by rw [hg]; exact Nat.ne_of_gt (blk_lt (bkS BK516)) : gb528 ≠ gb516)); have n11_ := Aside0.mk ((by rw [hg]; exact Nat.ne_of_lt (blk_lt (bkS BK517)) : gb517 ≠ gb528)); have n12_ := Aside0.mk ((by rw [hg]; exact Nat.ne_of_gt (blk_lt (bkS BK517)) : gb528 ≠ gb517)); clear BK515; clear BK516; clear BK517; clear HB; have BK515 := n0_; have BK516 := n1_; have BK517 := n2_; have HB := n3_; have BK528 := n4_; have GW528 := n5_; have GE528 := n6_; have NB515_528 := n7_; have NB528_515 := n8_; have NB516_528 := n9_; have NB528_516 := n10_; have NB517_528 := n11_; have NB528_517 := n12_; clear n0_ n1_ n2_ n3_ n4_ n5_ n6_ n7_ n8_ n9_ n10_ n11_ n12_; clear hb hbox hg; have hnb118 := NB528_515.out; have hnc118 := NB515_528.out; have hnb119 := NB528_516.out; have hnc119 := NB516_528.out; have hnb120 := NB528_517.out; have hnc120 := NB517_528.out; have hcz121_0 := cz0 BK528; have hcz121_1 := cz1 BK528; have hcz121_2 := cz2 BK528; have hfz121_0 := fz BK528 0; have hfz121_1 := fz BK528 1; have hfz121_2 := fz BK528 2) | (go_at_call 65; (with_reducible refine (congr_words_rest.calls t525 t526 t524 t538 _ A75.out).mono ?_); rintro e w122 ⟨rfl, hb⟩; have n0_ := kB BK515 hb; have n1_ := kB BK516 hb; have n2_ := kB BK517 hb; have n3_ := Aside0.mk (blk_below (g := gb528) (o := .cells #[.int .u64 t525, .int .u64 t526, .bool false] 74 (0, 0)) (by (with_reducible repeat (first | refine b1 ?_ _ | refine b2 ?_ | refine b3 ?_ _)); refine blk_put (cs := #[.int .u64 t525, .int .u64 t526, .bool false]) ?_ 2 _ rfl; (with_reducible repeat (first | refine b1 ?_ _ | refine b2 ?_ | refine b3 ?_ _)); refine blk_put (cs := #[.int .u64 t525, .int .u64 0, .bool false]) ?_ 1 _ rfl; (with_reducible repeat (first | refine b1 ?_ _ | refine b2 ?_ | refine b3 ?_ _)); refine blk_put (cs := #[.int .u64 0, .int .u64 0, .bool false]) ?_ 0 _ rfl; (with_reducible repeat (first | refine b1 ?_ _ | refine b2 ?_ | refine b3 ?_ _)); exact BK528.out) hb); have n4_ := kW HB hb; clear BK515; clear BK516; clear BK517; clear BK528; clear HB; have BK515 := n0_; have BK516 := n1_; have BK517 := n2_; have BK528 := n3_; have HB := n4_; clear n0_ n1_ n2_ n3_ n4_; (try clear hb); (try clear hb2); (try clear hk); (try clear hi); have hcz123_0 := cz0 BK528; have hcz123_1 := cz1 BK528; have hcz123_2 := cz2 BK528; have hfz123_0 := fz BK528 0; have hfz123_1 := fz BK528 1; have hfz123_2 := fz BK528 2) | (go_at_call 51; (with_reducible refine (congr_of.calls kj2 t524 t538 t545 t546 t547 _ A110.out).mono ?_); rintro e w124 ⟨rfl, hb⟩; replace BK515 := kB BK515 hb; replace BK516 := kB BK516 hb; replace BK517 := kB BK517 hb; replace BK528 := kB BK528 hb; replace HB := kW HB hb; (try clear hb); (try clear hb2); (try clear hk); (try clear hi); have hcz125_0 := cz0 BK517; have hcz125_1 := cz1 BK517; have hcz125_2 := cz2 BK517; have hfz125_0 := fz BK517 0; have hfz125_1 := fz BK517 1; have hfz125_2 := fz BK517 2)))
      refine bodyPost_ret (results_cell_row rfl _ _ gb517 23 #[.bool t545, .int .i64 t546, .int .i64 t547] (0, 0) _ rfl (by (with_reducible repeat (first | refine b1 ?_ _ | refine b2 ?_ | refine b3 ?_ _)); refine blk_put (cs := #[.bool t545, .int .i64 t546, .int .i64 0]) ?_ 2 _ rfl; (with_reducible repeat (first | refine b1 ?_ _ | refine b2 ?_ | refine b3 ?_ _)); refine blk_put (cs := #[.bool t545, .int .i64 0, .int .i64 0]) ?_ 1 _ rfl; (with_reducible repeat (first | refine b1 ?_ _ | refine b2 ?_ | refine b3 ?_ _)); refine blk_put (cs := #[.bool false, .int .i64 0, .int .i64 0]) ?_ 0 _ rfl; (with_reducible repeat (first | refine b1 ?_ _ | refine b2 ?_ | refine b3 ?_ _)); exact BK517.out) Tryd.underlying23 rfl (by kernel_rfl)) rfl ?_
      exact ⟨eS, bS HB⟩

end Go.Proofs.YtfmmjekhknaniaaDoor.Pr

namespace Go.Proofs.YtfmmjekhknaniaaDoor.Core
open Go.RowKit Go.Proofs.YtfmmjekhknaniaaDoor.Pr Go.Proofs.YtfmmjekhknaniaaDoor.Given Go.Proofs.YtfmmjekhknaniaaDoorW.PrintWords

theorem wraps_u64 (n : Int) (h₀ : 0 ≤ n) (h₁ : n < 2 ^ 64) : IntKind.u64.wrap n = n := by rw [IntKind.wrap_u64]; omega
theorem mask32 {x : Int} (h₀ : 0 ≤ x) (h₁ : x ≤ 18446744073709551615) : Go.bits .and .u64 x 4294967295 = x % 4294967296 :=
  bits_mask .u64 64 (by decide) wraps_u64 32 (by decide) x h₀ (by omega)

theorem mul64_f {a b : Int} (ha : 0 ≤ a) (ha' : a ≤ 18446744073709551615) (hb : 0 ≤ b) (hb' : b ≤ 18446744073709551615) (h : a * b ≤ 18446744073709551615) :
    bits_Mul64.f a b = some (0, a * b) := by
  have hab := Int.mul_nonneg ha hb
  unfold bits_Mul64.f
  rw [mask32 ha ha', mask32 hb hb', u64_id (n := a * b) hab h]
  have ex : a = a / 4294967296 * 4294967296 + a % 4294967296 := by omega
  have ey : b = b / 4294967296 * 4294967296 + b % 4294967296 := by omega
  have p1 : 0 ≤ a / 4294967296 := by omega
  have p2 : 0 ≤ b / 4294967296 := by omega
  have p3 : 0 ≤ a % 4294967296 ∧ a % 4294967296 ≤ 4294967295 := by omega
  have p4 : 0 ≤ b % 4294967296 ∧ b % 4294967296 ≤ 4294967295 := by omega
  have p5 : a / 4294967296 ≤ 4294967295 := by omega
  have p6 : b / 4294967296 ≤ 4294967295 := by omega
  generalize a / 4294967296 = x1 at *
  generalize b / 4294967296 = y1 at *
  generalize a % 4294967296 = x0 at *
  generalize b % 4294967296 = y0 at *
  have hz : a * b = x1 * y1 * 18446744073709551616 + (x1 * y0 + x0 * y1) * 4294967296 + x0 * y0 := by rw [ex, ey]; grind
  have q11 := Int.mul_nonneg p1 p2
  have q10 := Int.mul_nonneg p1 p4.1
  have q01 := Int.mul_nonneg p3.1 p2
  have q00 := Int.mul_nonneg p3.1 p4.1
  have r00 : x0 * y0 ≤ 4294967295 * 4294967295 := Int.mul_le_mul p3.2 p4.2 p4.1 (by omega)
  generalize x1 * y1 = m11 at *
  generalize x1 * y0 = m10 at *
  generalize x0 * y1 = m01 at *
  generalize x0 * y0 = m00 at *
  rw [u64_id (n := m11) (by omega) (by omega), u64_id (n := m00) (by omega) (by omega), u64_id (n := m10) (by omega) (by omega), u64_id (n := m01) (by omega) (by omega)]
  rw [u64_id (n := m10 + m00 / 4294967296) (by omega) (by omega)]
  rw [mask32 (by omega) (by omega), u64_id (n := (m10 + m00 / 4294967296) % 4294967296 + m01) (by omega) (by omega)]
  rw [u64_id (n := m11 + (m10 + m00 / 4294967296) / 4294967296) (by omega) (by omega), u64_id (by omega) (by omega)]
  congr 2
  omega

theorem ab_mul (x y : Int) : ab x * ab y = ab (x * y) := by
  unfold ab
  by_cases h1 : x < 0
  · by_cases h2 : y < 0
    · have := Int.mul_pos_of_neg_of_neg h1 h2
      rw [if_pos h1, if_pos h2, if_neg (by omega), Int.neg_mul_neg]
    · rw [if_pos h1, if_neg h2]
      by_cases h3 : y = 0
      · subst h3; simp
      · have := Int.mul_neg_of_neg_of_pos h1 (show 0 < y by omega)
        rw [if_pos this, Int.neg_mul]
  · by_cases h2 : y < 0
    · rw [if_neg h1, if_pos h2]
      by_cases h3 : x = 0
      · subst h3; simp
      · have := Int.mul_neg_of_pos_of_neg (show 0 < x by omega) h2
        rw [if_pos this, Int.mul_neg]
    · have := Int.mul_nonneg (show 0 ≤ x by omega) (show 0 ≤ y by omega)
      rw [if_neg h1, if_neg h2, if_neg (by omega)]

theorem prod_le {x y : Int} (h0 : 0 ≤ x) (h1 : x ≤ 4294967295) (h2 : 0 ≤ y) (h3 : y ≤ 4294967295) : 0 ≤ x * y ∧ x * y ≤ 18446744065119617025 := by
  refine ⟨Int.mul_nonneg h0 h2, ?_⟩
  have := Int.mul_le_mul h1 h3 h2 (show (0 : Int) ≤ 4294967295 by omega)
  omega

theorem signs_mul (x y : Int) (hp : x * y ≠ 0) : (decide (x < 0) != decide (y < 0)) = decide (x * y < 0) := by
  have hx : x ≠ 0 := fun e => hp (by rw [e, Int.zero_mul])
  have hy : y ≠ 0 := fun e => hp (by rw [e, Int.mul_zero])
  by_cases h1 : x < 0
  · by_cases h2 : y < 0
    · have := Int.mul_pos_of_neg_of_neg h1 h2
      simp [h1, h2]; omega
    · have := Int.mul_neg_of_neg_of_pos h1 (show 0 < y by omega)
      simp [h1, h2, this]
  · by_cases h2 : y < 0
    · have := Int.mul_neg_of_pos_of_neg (show 0 < x by omega) h2
      simp [h1, h2, this]
    · have := Int.mul_nonneg (show 0 ≤ x by omega) (show 0 ≤ y by omega)
      simp [h1, h2]; omega

theorem times_f {x y : Int} (hx : -4294967295 ≤ x ∧ x ≤ 4294967295) (hy : -4294967295 ≤ y ∧ y ≤ 4294967295) :
    congr_times.f x y = some (0, ab x * ab y, decide (x < 0) != decide (y < 0)) := by
  have h1 : 0 ≤ ab x ∧ ab x ≤ 4294967295 := ⟨ab_nonneg x, ab_le hx.1 hx.2⟩
  have h2 : 0 ≤ ab y ∧ ab y ≤ 4294967295 := ⟨ab_nonneg y, ab_le hy.1 hy.2⟩
  have h3 := prod_le h1.1 h1.2 h2.1 h2.2
  unfold congr_times.f
  rw [size_f (by omega) (by omega)]
  simp only [Option.bind_some]
  rw [size_f (by omega) (by omega)]
  simp only [Option.bind_some]
  rw [mul64_f h1.1 (by omega) h2.1 (by omega) (by omega)]; rfl

theorem Mul_f {a b : Cg} (ha : Fit a) (hb : Fit b) : Ev (fun k => congr_Mul.f k a.1 a.2.1 a.2.2 b.1 b.2.1 b.2.2) (mulS a b) := by
  have ma := fit_mod ha
  have mb := fit_mod hb
  have p1 := prod_le (x := a.2.1) (y := b.2.1) (by omega) (by omega) (by omega) (by omega)
  have p2 := prod_le (x := a.2.1) (y := ab b.2.2) (by omega) (by omega) (ab_nonneg _) (ab_le (by omega) (by omega))
  have p3 := prod_le (x := b.2.1) (y := ab a.2.2) (by omega) (by omega) (ab_nonneg _) (ab_le (by omega) (by omega))
  have p4 := prod_le (x := ab a.2.2) (y := ab b.2.2) (ab_nonneg _) (ab_le (by omega) (by omega)) (ab_nonneg _) (ab_le (by omega) (by omega))
  obtain ⟨K, hK⟩ := gcd_f p1.1 p2.1
  obtain ⟨L, hL⟩ := gcd_f (G_nonneg (a.2.1 * b.2.1) (a.2.1 * ab b.2.2)) p3.1
  refine ⟨K + L + 5, fun k hk => ?_⟩
  obtain ⟨j, rfl⟩ : ∃ j, k = j + 4 := ⟨k - 4, by omega⟩
  dsimp only at hK hL ⊢
  unfold congr_Mul.f mulS
  by_cases h1 : a.1 = true
  · rw [if_pos h1, if_pos h1]; simp [congr_Mul.j0, congr_none.f]
  rw [if_neg h1, if_neg h1]
  simp only [congr_Mul.j0]
  by_cases h2 : b.1 = true
  · rw [if_pos h2, if_pos h2]; rfl
  rw [if_neg h2, if_neg h2, size_f (x := b.2.2) (by omega) (by omega), size_f (x := a.2.2) (by omega) (by omega), times_f (by omega) (by omega),
    u64_id (n := a.2.1) (by omega) (by omega), u64_id (n := b.2.1) (by omega) (by omega)]
  simp only [Option.bind_some]
  rw [u64_id (n := a.2.1 * b.2.1) (by omega) (by omega), u64_id (n := a.2.1 * ab b.2.2) (by omega) (by omega), u64_id (n := b.2.1 * ab a.2.2) (by omega) (by omega), hK _ (by omega)]
  simp only [Option.bind_some]
  rw [hL _ (by omega)]
  simp only [Option.bind_some]
  have hg0 : 0 ≤ mulG a b := mulG_nonneg a b
  have hg1 : mulG a b ≤ 18446744073709551615 := G_le (G_nonneg _ _) p3.1 (G_le p1.1 p2.1 (by omega) (by omega)) (by omega)
  rw [show G (G (a.2.1 * b.2.1) (a.2.1 * ab b.2.2)) (b.2.1 * ab a.2.2) = mulG a b from rfl]
  have em : ab a.2.2 * ab b.2.2 = ab (a.2.2 * b.2.2) := ab_mul _ _
  by_cases h3 : mulG a b = 0
  · rw [if_pos h3, if_pos trivial, h3]
    simp only [congr_Mul.j1]
    by_cases h4 : ab a.2.2 * ab b.2.2 > 4611686018427387904
    · rw [show decide (ab a.2.2 * ab b.2.2 > 4611686018427387904) = true by simp [h4], if_pos rfl]
      simp only [congr_none.f, Option.bind_some]
      unfold norm
      rw [if_pos rfl, if_neg]
      intro hi
      unfold In32 at hi
      have := ab_le (x := a.2.2 * b.2.2) (m := 4294967296) (by omega) (by omega)
      omega
    · rw [show decide (ab a.2.2 * ab b.2.2 > 4611686018427387904) = false by simp [h4], if_neg (by simp), w64_id (n := ab a.2.2 * ab b.2.2) (by omega) (by omega)]
      by_cases h5 : a.2.2 * b.2.2 = 0
      · have h6 : ab a.2.2 * ab b.2.2 = 0 := by rw [em, h5]; rfl
        rw [h6, h5]
        split
        · rw [constant_f, show wrap64 (-0) = 0 from by unfold wrap64; omega]; rfl
        · rw [constant_f]; rfl
      · rw [signs_mul _ _ h5]
        by_cases h6 : a.2.2 * b.2.2 < 0
        · have e : ab (a.2.2 * b.2.2) = -(a.2.2 * b.2.2) := by unfold ab; rw [if_pos h6]
          rw [show decide (a.2.2 * b.2.2 < 0) = true by simp [h6], if_pos rfl, em, e]
          rw [em, e] at h4
          rw [w64_id (by omega) (by omega), constant_f, Int.neg_neg]; rfl
        · have e : ab (a.2.2 * b.2.2) = a.2.2 * b.2.2 := by unfold ab; rw [if_neg h6]
          rw [show decide (a.2.2 * b.2.2 < 0) = false by simp [h6], if_neg (by simp), em, e, constant_f]; rfl
  · rw [if_neg h3]
    have hf : congr_words_rest.f 0 (ab a.2.2 * ab b.2.2) (mulG a b) = some (ab a.2.2 * ab b.2.2 % mulG a b) := by
      unfold congr_words_rest.f; rw [if_pos (by omega)]
    rw [hf]
    simp only [Option.bind_some]
    have e0 := Int.emod_nonneg (ab a.2.2 * ab b.2.2) h3
    have e1 := Int.emod_lt_of_pos (ab a.2.2 * ab b.2.2) (show 0 < mulG a b by omega)
    have e2 := emod_dvd_sub (mulG a b) (ab a.2.2 * ab b.2.2)
    have done : ∀ (r : Int), 0 ≤ r → r < mulG a b → mulG a b ∣ r - a.2.2 * b.2.2 → congr_of.f (j + 3) (mulG a b) r = some (norm (mulG a b) (a.2.2 * b.2.2)) := fun r h0 h1 hd => by
      rw [of_f (by omega) hg1 h0 h1, norm_congr hg0 hd]
    by_cases h5 : a.2.2 * b.2.2 = 0
    · have h6 : ab a.2.2 * ab b.2.2 = 0 := by rw [em, h5]; rfl
      rw [h6, Int.zero_emod]
      have dd := done 0 (by omega) (by omega) (by rw [h5]; simp)
      split
      · rw [if_neg (by omega), dd]; rfl
      · rw [dd]; rfl
    · rw [signs_mul _ _ h5]
      by_cases h6 : a.2.2 * b.2.2 < 0
      · have e : ab (a.2.2 * b.2.2) = -(a.2.2 * b.2.2) := by unfold ab; rw [if_pos h6]
        rw [show decide (a.2.2 * b.2.2 < 0) = true by simp [h6], if_pos rfl]
        rw [em, e] at e0 e1 e2 ⊢
        by_cases h7 : -(a.2.2 * b.2.2) % mulG a b > 0
        · rw [if_pos h7, u64_id (by omega) (by omega), done _ (by omega) (by omega) ?_]; rfl
          have := Int.dvd_add (Int.dvd_refl (mulG a b)) e2
          rwa [show mulG a b + (-(a.2.2 * b.2.2) - -(a.2.2 * b.2.2) % mulG a b) = mulG a b - -(a.2.2 * b.2.2) % mulG a b - a.2.2 * b.2.2 by omega] at this
        · rw [if_neg h7, done _ (by omega) (by omega) ?_]; rfl
          rw [show -(a.2.2 * b.2.2) % mulG a b = 0 by omega] at e2 ⊢
          rwa [show -(a.2.2 * b.2.2) - 0 = 0 - a.2.2 * b.2.2 by omega] at e2
      · have e : ab (a.2.2 * b.2.2) = a.2.2 * b.2.2 := by unfold ab; rw [if_neg h6]
        rw [show decide (a.2.2 * b.2.2 < 0) = false by simp [h6], if_neg (by simp)]
        rw [em, e] at e0 e1 e2 ⊢
        rw [done _ (by omega) (by omega) (dvd_sub_comm' e2)]; rfl

/-- what holds at each step: X and Y are x and y without their signs, which are not the same. -/
structure Steps (n a x y r s X Y : Int) : Prop where
  n1 : 0 < n
  n2 : n ≤ 4294967295
  r0 : 0 ≤ r
  r1 : r ≤ 4294967295
  s0 : 0 ≤ s
  s1 : s ≤ 4294967295
  sg : (X = x ∧ Y = -y) ∨ (X = -x ∧ Y = y)
  X0 : 0 ≤ X
  X1 : X ≤ n
  Y0 : 0 ≤ Y
  Y1 : Y ≤ n
  sum : X * s + Y * r = n
  d1 : n ∣ x * a - r
  d2 : n ∣ y * a - s
  g : G r s = 1

theorem Steps.next {n a x y r s X Y : Int} (h : Steps n a x y r s X Y) (hs : s ≠ 0) :
    Steps n a y (x - r / s * y) s (r % s) Y (X + r / s * Y) ∧ 0 ≤ r / s ∧ r / s ≤ r ∧ r / s * Y ≤ n ∧ r - r / s * s = r % s := by
  have hs0 : 0 < s := by have := h.s0; omega
  have q0 : 0 ≤ r / s := Int.ediv_nonneg h.r0 h.s0
  have q1 : r / s ≤ r := Int.ediv_le_self _ h.r0
  have e := Int.mul_ediv_add_emod r s
  have m0 := Int.emod_nonneg r hs
  have m1 := Int.emod_lt_of_pos r hs0
  have qY := Int.mul_nonneg q0 h.Y0
  have er : r - r / s * s = r % s := by rw [Int.mul_comm]; omega
  have sum' : Y * (r % s) + (X + r / s * Y) * s = n := by
    rw [← er, ← h.sum]; grind
  have hY' : X + r / s * Y ≤ n := by
    have h1 : (X + r / s * Y) * 1 ≤ (X + r / s * Y) * s := Int.mul_le_mul_of_nonneg_left (by omega) (by have := h.X0; omega)
    have h2 := Int.mul_nonneg h.Y0 m0
    omega
  refine ⟨⟨h.n1, h.n2, h.s0, h.s1, m0, by have := h.s1; omega, ?_, h.Y0, h.Y1, by have := h.X0; omega, hY', sum', h.d2, ?_, ?_⟩, q0, q1, by have := h.X0; omega, er⟩
  · rcases h.sg with ⟨a1, a2⟩ | ⟨a1, a2⟩
    · right
      refine ⟨a2, ?_⟩
      rw [a1, a2, Int.mul_neg]; omega
    · left
      refine ⟨a2, ?_⟩
      rw [a1, a2]; omega
  · have := Int.dvd_sub h.d1 (Int.dvd_trans h.d2 (Int.dvd_mul_left (r / s) _))
    rwa [show x * a - r - r / s * (y * a - s) = (x - r / s * y) * a - r % s by rw [← er]; grind] at this
  · rw [G_step]; exact h.g

theorem inv_l0 : ∀ (m : Nat) (n a x y r s X Y : Int), Steps n a x y r s X Y → s ≤ m → ∃ z, n ∣ z * a - 1 ∧ ∀ k, congr_inverse.l0 (k + m + 1) n x y r s = some (z % n)
  | m, n, a, x, y, r, s, X, Y, h, hm => by
    have hn1 := h.n1
    have hn2 := h.n2
    have hX0 := h.X0
    have hX1 := h.X1
    have hsg := h.sg
    by_cases hs : s = 0
    · subst hs
      refine ⟨x, ?_, fun k => ?_⟩
      · have hg := h.g
        rw [G_zero _ h.r0] at hg
        have := h.d1
        rwa [hg] at this
      · simp only [congr_inverse.l0, if_true]
        rw [rest_f (by omega) (by omega) hn1 (by omega)]; rfl
    · obtain ⟨h', q0, q1, q2, er⟩ := h.next hs
      have hr0 := h.r0
      have hr1 := h.r1
      have hs0 := h.s0
      have hs1 := h.s1
      have hY1 := h.Y1
      have hY0 := h.Y0
      obtain ⟨m, rfl⟩ : ∃ j, m = j + 1 := ⟨m - 1, by omega⟩
      have es := Int.emod_lt_of_pos r (show 0 < s by omega)
      have es' := Int.emod_nonneg r hs
      obtain ⟨z, hz, hk⟩ := inv_l0 m n a y (x - r / s * y) s (r % s) Y (X + r / s * Y) h' (by omega)
      refine ⟨z, hz, fun k => ?_⟩
      have e0 : congr_inverse.l0 (k + (m + 1) + 1) n x y r s = if s = 0 then ((congr_rest.f x n).bind fun t => some t) else (congr_inverse.l0 (k + m + 1) n y (wrap64 (x - (wrap64 ((wrap64 (Int.tdiv r s)) * y)))) s (wrap64 (r - (wrap64 ((wrap64 (Int.tdiv r s)) * s))))) := rfl
      have eq : -n ≤ r / s * y ∧ r / s * y ≤ n := by
        have q3 := Int.mul_nonneg q0 hY0
        rcases hsg with ⟨_, a2⟩ | ⟨_, a2⟩
        · rw [a2, Int.mul_neg] at q2 q3
          omega
        · rw [a2] at q2 q3
          omega
      rw [e0, if_neg hs, Int.tdiv_eq_ediv_of_nonneg hr0, w64_id (n := r / s) (by omega) (by omega), w64_id (n := r / s * y) (by omega) (by omega), w64_id (n := x - r / s * y) (by omega) (by omega), w64_id (n := r / s * s) (by omega) (by omega), er, w64_id (n := r % s) (by omega) (by omega)]
      exact hk k
  termination_by m => m

theorem rinv_l0 : ∀ (m : Nat) (n a x y r s X Y : Int), Steps n a x y r s X Y → s ≤ m → ∃ z, n ∣ z * a - 1 ∧ 0 ≤ z ∧ z ≤ n ∧ ∀ k, gimbalref31_inverse.l0 (k + m + 1) n r s x y = some z
  | m, n, a, x, y, r, s, X, Y, h, hm => by
    have hn1 := h.n1
    have hn2 := h.n2
    have hX0 := h.X0
    have hX1 := h.X1
    have hsg := h.sg
    by_cases hs : s = 0
    · subst hs
      have hg := h.g
      rw [G_zero _ h.r0] at hg
      have hd := h.d1
      rw [hg] at hd
      by_cases hx : x < 0
      · refine ⟨x + n, ?_, by omega, by omega, fun k => ?_⟩
        · have := Int.dvd_add hd (Int.dvd_mul_right n a)
          rwa [show x * a - 1 + n * a = (x + n) * a - 1 by grind] at this
        · simp only [gimbalref31_inverse.l0, if_true]
          rw [if_pos hx, w64_id (n := n) (by omega) (by omega), w64_id (by omega) (by omega), u64_id (by omega) (by omega)]
      · refine ⟨x, hd, by omega, by omega, fun k => ?_⟩
        simp only [gimbalref31_inverse.l0, if_true]
        rw [if_neg hx, u64_id (by omega) (by omega)]
    · obtain ⟨h', q0, q1, q2, er⟩ := h.next hs
      have hr0 := h.r0
      have hr1 := h.r1
      have hs0 := h.s0
      have hs1 := h.s1
      have hY1 := h.Y1
      have hY0 := h.Y0
      obtain ⟨m, rfl⟩ : ∃ j, m = j + 1 := ⟨m - 1, by omega⟩
      have es := Int.emod_lt_of_pos r (show 0 < s by omega)
      have es' := Int.emod_nonneg r hs
      obtain ⟨z, hz, hz0, hz1, hk⟩ := rinv_l0 m n a y (x - r / s * y) s (r % s) Y (X + r / s * Y) h' (by omega)
      refine ⟨z, hz, hz0, hz1, fun k => ?_⟩
      have e0 : gimbalref31_inverse.l0 (k + (m + 1) + 1) n r s x y = if s = 0 then (if x < 0 then (some (IntKind.u64.wrap (wrap64 (x + (wrap64 n))))) else (some (IntKind.u64.wrap x))) else (gimbalref31_inverse.l0 (k + m + 1) n s (wrap64 (r - (wrap64 ((wrap64 (Int.tdiv r s)) * s)))) y (wrap64 (x - (wrap64 ((wrap64 (Int.tdiv r s)) * y))))) := rfl
      have eq : -n ≤ r / s * y ∧ r / s * y ≤ n := by
        have q3 := Int.mul_nonneg q0 hY0
        rcases hsg with ⟨_, a2⟩ | ⟨_, a2⟩
        · rw [a2, Int.mul_neg] at q2 q3
          omega
        · rw [a2] at q2 q3
          omega
      rw [e0, if_neg hs, Int.tdiv_eq_ediv_of_nonneg hr0, w64_id (n := r / s) (by omega) (by omega), w64_id (n := r / s * y) (by omega) (by omega), w64_id (n := x - r / s * y) (by omega) (by omega), w64_id (n := r / s * s) (by omega) (by omega), er, w64_id (n := r % s) (by omega) (by omega)]
      exact hk k
  termination_by m => m

theorem inverse_f {a n : Int} (h0 : 0 ≤ a) (h1 : a < n) (h2 : n ≤ 4294967295) (hg : G a n = 1) : ∃ z, n ∣ z * a - 1 ∧ Ev (fun k => congr_inverse.f k a n) (z % n) := by
  have st : Steps n a 1 0 a n 1 0 := ⟨by omega, h2, h0, by omega, by omega, h2, Or.inl ⟨rfl, rfl⟩, by omega, by omega, by omega, by omega, by omega, by simp, by simp, hg⟩
  obtain ⟨z, hz, hk⟩ := inv_l0 n.toNat n a 1 0 a n 1 0 st (by omega)
  refine ⟨z, hz, ev_of (n.toNat + 1) fun k => ?_⟩
  show congr_inverse.l0 (k + n.toNat + 1) n 1 0 (wrap64 a) (wrap64 n) = _
  rw [w64_id (by omega) (by omega), w64_id (by omega) (by omega)]
  exact hk k

theorem G_comm (a b : Int) : G a b = G b a := by unfold G; rw [Int.gcd_comm]

theorem rinverse_f {a n : Int} (h0 : 0 ≤ a) (h1 : a < n) (h2 : n ≤ 4294967295) (hg : G a n = 1) : ∃ z, n ∣ z * a - 1 ∧ 0 ≤ z ∧ z ≤ n ∧ Ev (fun k => gimbalref31_inverse.f k a n) z := by
  have st : Steps n a 0 1 n a 0 1 := ⟨by omega, h2, by omega, h2, h0, by omega, Or.inr ⟨rfl, rfl⟩, by omega, by omega, by omega, by omega, by omega, by simp, by simp, by rw [G_comm]; exact hg⟩
  obtain ⟨z, hz, hz0, hz1, hk⟩ := rinv_l0 a.toNat n a 0 1 n a 0 1 st (by omega)
  refine ⟨z, hz, hz0, hz1, ev_of (a.toNat + 1) fun k => ?_⟩
  show gimbalref31_inverse.l0 (k + a.toNat + 1) n (wrap64 n) (wrap64 a) 0 1 = _
  rw [w64_id (by omega) (by omega), w64_id (by omega) (by omega)]
  exact hk k

theorem cop {m n d m' n' : Int} (hd : d = G m n) (hd0 : 0 < d) (hm : m = d * m') (hn : n = d * n') : G m' n' = 1 := by
  have h1 : d * G m' n' ∣ d := by
    rw (occs := [2]) [hd]
    rw [dvd_G]
    exact ⟨by rw [hm]; exact Int.mul_dvd_mul_left d (G_dvd_l _ _), by rw [hn]; exact Int.mul_dvd_mul_left d (G_dvd_r _ _)⟩
  have h2 : G m' n' ∣ 1 := by
    obtain ⟨q, hq⟩ := h1
    refine ⟨q, ?_⟩
    have : d * 1 = d * (G m' n' * q) := by rw [← Int.mul_assoc]; omega
    exact Int.eq_of_mul_eq_mul_left (by omega) this
  have h3 := Int.le_of_dvd (by omega) h2
  have h4 := G_nonneg m' n'
  have h5 : G m' n' ≠ 0 := fun e => by rw [e, Int.zero_dvd] at h2; omega
  omega

theorem dvd_of_cop {n m u : Int} (h : n ∣ m * u) (hg : G m n = 1) : n ∣ u := by
  rw [← Int.natAbs_dvd_natAbs] at h ⊢
  rw [Int.natAbs_mul] at h
  have hc : Nat.Coprime n.natAbs m.natAbs := by
    unfold G Int.gcd at hg
    rw [Nat.Coprime, Nat.gcd_comm]; omega
  exact hc.dvd_of_dvd_mul_left h

/-- a number of both: of both just the numbers that are its least common multiple apart. -/
theorem meet_norm {a b : Cg} (na : a.1 = false) (nb : b.1 = false) {d m' n' v : Int} (ha : 0 < a.2.1) (hb : 0 < b.2.1) (hd : d = G a.2.1 b.2.1) (hm : a.2.1 = d * m') (hn : b.2.1 = d * n')
    (h1 : a.2.1 ∣ v - a.2.2) (h2 : b.2.1 ∣ v - b.2.2) : IsMeet a b (norm (a.2.1 * n') v) := by
  have hd0 : 0 < d := by
    have := G_nonneg a.2.1 b.2.1
    have : d ≠ 0 := fun e => by rw [e] at hm; omega
    omega
  have hn0 : 0 ≤ n' := by
    by_cases h : 0 ≤ n'
    · exact h
    · have := Int.mul_neg_of_pos_of_neg hd0 (show n' < 0 by omega); omega
  have hg := cop hd hd0 hm hn
  have hL : 0 ≤ a.2.1 * n' := Int.mul_nonneg (by omega) hn0
  refine ⟨fit_norm hL, fun x => ?_⟩
  rw [mem_norm hL]
  unfold Mem
  constructor
  · rintro ⟨i, h⟩
    have e : b.2.1 * m' = a.2.1 * n' := by rw [hn, hm]; grind
    refine ⟨⟨na, i, dvd_sub_trans (Int.dvd_trans (Int.dvd_mul_right _ _) h) h1⟩, ⟨nb, i, dvd_sub_trans (Int.dvd_trans ?_ h) h2⟩⟩
    rw [← e]; exact Int.dvd_mul_right _ _
  · rintro ⟨⟨_, i, k1⟩, ⟨_, _, k2⟩⟩
    refine ⟨i, ?_⟩
    have w1 := dvd_sub_trans k1 (dvd_sub_comm' h1)
    have w2 := dvd_sub_trans k2 (dvd_sub_comm' h2)
    obtain ⟨u, hu⟩ := w1
    rw [hu] at w2 ⊢
    refine Int.mul_dvd_mul_left _ ?_
    rw [hn, hm, Int.mul_assoc] at w2
    have w3 : n' ∣ m' * u := Int.dvd_of_mul_dvd_mul_left (by omega) w2
    exact dvd_of_cop w3 hg

theorem meet_none {a b : Cg} (h : ∀ x, ¬ (a.2.1 ∣ x - a.2.2 ∧ b.2.1 ∣ x - b.2.2)) : IsMeet a b (true, 0, 0) :=
  ⟨fit_none, fun x => ⟨(fun hx => by cases hx.1), fun ⟨h1, h2⟩ => absurd ⟨h1.2.2, h2.2.2⟩ (h x)⟩⟩
theorem meet_none_l {a b : Cg} (h : a.1 = true ∨ b.1 = true) : IsMeet a b (true, 0, 0) :=
  ⟨fit_none, fun x => ⟨(fun hx => by cases hx.1), fun ⟨h1, h2⟩ => by
    rcases h with h | h
    · rw [h1.1] at h; cases h
    · rw [h2.1] at h; cases h⟩⟩
theorem meet_const {a b : Cg} (ha : Fit a) (h0 : a.2.1 = 0) : IsMeet a b (if memB b a.2.2 = true then a else (true, 0, 0)) := by
  have hr := fit_rem ha
  have only : ∀ x, Mem a x → x = a.2.2 := fun x hx => by
    have := hx.2.2
    rw [h0, Int.zero_dvd] at this
    omega
  by_cases h : memB b a.2.2 = true
  · rw [if_pos h]
    refine ⟨ha, fun x => ⟨fun hx => ⟨hx, ?_⟩, fun hx => hx.1⟩⟩
    rw [only x hx]; exact memB_iff.mp h
  · rw [if_neg h]
    refine ⟨fit_none, fun x => ⟨(fun hx => by cases hx.1), fun ⟨h1, h2⟩ => ?_⟩⟩
    rw [only x h1] at h2
    exact absurd (memB_iff.mpr h2) h

/-- the number that the steps find. -/
theorem found {m n d m' n' ra rb e k z : Int} (hm : m = d * m') (hn : n = d * n') (he : rb - ra = d * e) (hz : n' ∣ z * (m' % n') - 1) (hk : n' ∣ k - e * z) : n ∣ m * k + ra - rb := by
  have h1 : n' ∣ m' * k - e := by
    obtain ⟨p, hp⟩ := hk
    obtain ⟨q, hq⟩ := hz
    obtain ⟨t, ht⟩ := emod_dvd_sub n' m'
    have ek : k = n' * p + e * z := by omega
    have em : m' % n' = m' - n' * t := by omega
    rw [em] at hq
    refine ⟨m' * p + e * q + e * z * t, ?_⟩
    have : e * (z * (m' - n' * t) - 1) = e * (n' * q) := by rw [hq]
    rw [ek]; grind
  obtain ⟨u, hu⟩ := h1
  refine ⟨u, ?_⟩
  rw [hm, hn]
  have : d * (m' * k - e) = d * (n' * u) := by rw [hu]
  grind

theorem apart_none {a b : Cg} (h : ¬ G a.2.1 b.2.1 ∣ a.2.2 - b.2.2) : ∀ x, ¬ (a.2.1 ∣ x - a.2.2 ∧ b.2.1 ∣ x - b.2.2) := fun _ ⟨h1, h2⟩ =>
  h (dvd_sub_trans (dvd_sub_comm' (Int.dvd_trans (G_dvd_l _ _) h1)) (Int.dvd_trans (G_dvd_r _ _) h2))

theorem Meet_f {a b : Cg} (ha : Fit a) (hb : Fit b) : ∃ r, IsMeet a b r ∧ Ev (fun k => congr_Meet.f k a.1 a.2.1 a.2.2 b.1 b.2.1 b.2.2) r := by
  have ma := fit_mod ha
  have mb := fit_mod hb
  have fa := fit_rem ha
  have fb := fit_rem hb
  by_cases h1 : a.1 = true
  · refine ⟨_, meet_none_l (Or.inl h1), ev_of 9 fun k => ?_⟩
    simp [congr_Meet.f, congr_Meet.j0, congr_none.f, h1]
  by_cases h2 : b.1 = true
  · refine ⟨_, meet_none_l (Or.inr h2), ev_of 9 fun k => ?_⟩
    simp [congr_Meet.f, congr_Meet.j0, congr_none.f, h1, h2]
  have na := bfalse h1
  have nb := bfalse h2
  by_cases h3 : a.2.1 = 0
  · refine ⟨_, meet_const ha h3, ev_of 12 fun k => ?_⟩
    simp only [congr_Meet.f, congr_Meet.j0, congr_Meet.j1, congr_Meet.j2]
    rw [if_neg h1, if_neg h2, if_pos h3, if_pos trivial, if_pos h3, Has_f hb (by unfold I64; omega)]
    simp only [Option.bind_some]
    split <;> rfl
  by_cases h4 : b.2.1 = 0
  · refine ⟨_, (meet_const hb h4).comm, ev_of 12 fun k => ?_⟩
    simp only [congr_Meet.f, congr_Meet.j0, congr_Meet.j1, congr_Meet.j2]
    rw [if_neg h1, if_neg h2, if_neg h3, show (b.2.1 == 0) = true by simp [h4], if_pos rfl, if_neg h3, Has_f ha (by unfold I64; omega)]
    simp only [Option.bind_some]
    split <;> rfl
  have a0 : 0 < a.2.1 := by omega
  have b0 : 0 < b.2.1 := by omega
  obtain ⟨K, hK⟩ := gcd_f (a := a.2.1) (b := b.2.1) (by omega) (by omega)
  have hd0 : 0 < G a.2.1 b.2.1 := by
    have := G_nonneg a.2.1 b.2.1
    have : G a.2.1 b.2.1 ≠ 0 := fun e => by have h := G_dvd_l a.2.1 b.2.1; rw [e, Int.zero_dvd] at h; omega
    omega
  obtain ⟨m', hm⟩ := G_dvd_l a.2.1 b.2.1
  obtain ⟨n', hn⟩ := G_dvd_r a.2.1 b.2.1
  have hdle : G a.2.1 b.2.1 ≤ 4294967295 := G_le (by omega) (by omega) (by omega) (by omega)
  have hdd := @rfl _ (G a.2.1 b.2.1)
  have hcop := cop (m' := m') (n' := n') hdd hd0 hm hn
  have hap := apart_none (a := a) (b := b)
  have hmn := fun (v : Int) (k1 : a.2.1 ∣ v - a.2.2) (k2 : b.2.1 ∣ v - b.2.2) => meet_norm na nb a0 b0 hdd hm hn k1 k2
  clear hdd
  dsimp only at hK
  -- the part that both ways share
  have pre : ∀ j, K + 12 ≤ j → congr_Meet.f j a.1 a.2.1 a.2.2 b.1 b.2.1 b.2.2 = congr_Meet.j1 (j - 1) false a.1 a.2.1 a.2.2 b.1 b.2.1 b.2.2 := fun j hj => by
    obtain ⟨i, rfl⟩ : ∃ i, j = i + 1 := ⟨j - 1, by omega⟩
    simp only [congr_Meet.f, congr_Meet.j0]
    rw [if_neg h1, if_neg h2, if_neg h3, show (b.2.1 == 0) = false by simp [h4]]; rfl
  generalize hdG : G a.2.1 b.2.1 = d at *
  have m0 : 0 < m' := by
    rcases Int.lt_trichotomy m' 0 with h | h | h
    · have := Int.mul_neg_of_pos_of_neg hd0 h; omega
    · rw [h] at hm; omega
    · exact h
  have n0 : 0 < n' := by
    rcases Int.lt_trichotomy n' 0 with h | h | h
    · have := Int.mul_neg_of_pos_of_neg hd0 h; omega
    · rw [h] at hn; omega
    · exact h
  have m1 : m' ≤ a.2.1 := by
    have : 1 * m' ≤ d * m' := Int.mul_le_mul_of_nonneg_right (by omega) (by omega)
    omega
  have n1 : n' ≤ b.2.1 := by
    have : 1 * n' ≤ d * n' := Int.mul_le_mul_of_nonneg_right (by omega) (by omega)
    omega
  have qm : a.2.1.tdiv d = m' := by rw [hm, Int.mul_tdiv_cancel_left _ (by omega)]
  have qn : b.2.1.tdiv d = n' := by rw [hn, Int.mul_tdiv_cancel_left _ (by omega)]
  have pL := prod_le (x := a.2.1) (y := n') (by omega) (by omega) (by omega) (by omega)
  have tm : Int.tmod (ab (a.2.2 - b.2.2)) d = ab (a.2.2 - b.2.2) % d := Int.tmod_eq_emod_of_nonneg (ab_nonneg _)
  by_cases h5 : d ∣ a.2.2 - b.2.2
  · obtain ⟨e, he⟩ := dvd_sub_comm' h5
    have qe : (b.2.2 - a.2.2).tdiv d = e := by rw [he, Int.mul_tdiv_cancel_left _ (by omega)]
    have er := tdiv_range (x := b.2.2 - a.2.2) (d := d) (m := 9223372036854775807) (by omega) (by omega)
    rw [qe] at er
    have t0 : ab (a.2.2 - b.2.2) % d = 0 := emod_zero_iff.mpr (dvd_ab.mpr h5)
    by_cases h6 : n' > 1
    · have mm0 := Int.emod_nonneg m' (show n' ≠ 0 by omega)
      have mm1 := Int.emod_lt_of_pos m' n0
      obtain ⟨z, hz, L, hL⟩ := inverse_f mm0 mm1 (by omega) (by rw [G_comm, G_step, hcop])
      dsimp only at hL
      have z0 := Int.emod_nonneg z (show n' ≠ 0 by omega)
      have z1 := Int.emod_lt_of_pos z n0
      have e0 := Int.emod_nonneg e (show n' ≠ 0 by omega)
      have e1 := Int.emod_lt_of_pos e n0
      have pz := prod_le (x := e % n') (y := z % n') e0 (by omega) z0 (by omega)
      have k0 := Int.emod_nonneg (e % n' * (z % n')) (show n' ≠ 0 by omega)
      have k1 := Int.emod_lt_of_pos (e % n' * (z % n')) n0
      have kd := emod_dvd_sub n' (e % n' * (z % n'))
      generalize hk : e % n' * (z % n') % n' = k at *
      have pk : a.2.1 * k + a.2.1 ≤ a.2.1 * n' := by
        have : a.2.1 * (k + 1) ≤ a.2.1 * n' := Int.mul_le_mul_of_nonneg_left (by omega) (by omega)
        rw [Int.mul_add] at this; omega
      have pk0 := Int.mul_nonneg (show 0 ≤ a.2.1 by omega) k0
      have kez : n' ∣ k - e * z := by
        obtain ⟨p, hp⟩ := emod_dvd_sub n' e
        obtain ⟨q, hq⟩ := emod_dvd_sub n' z
        obtain ⟨t, ht⟩ := kd
        refine ⟨-t - e * q - z * p + n' * p * q, ?_⟩
        have ee : e % n' = e - n' * p := by omega
        have ez : z % n' = z - n' * q := by omega
        rw [ee, ez] at ht
        grind
      refine ⟨norm (a.2.1 * n') (a.2.1 * k + a.2.2), hmn _ ?_ (found hm hn he hz kez), K + L + 20, fun j hj => ?_⟩
      · rw [show a.2.1 * k + a.2.2 - a.2.2 = a.2.1 * k by omega]; exact Int.dvd_mul_right _ _
      dsimp only
      rw [pre j (by omega)]
      obtain ⟨i, rfl⟩ : ∃ i, j = i + 3 := ⟨j - 3, by omega⟩
      show congr_Meet.j1 (i + 1 + 1) _ _ _ _ _ _ _ = _
      simp only [congr_Meet.j1, Bool.false_eq_true, if_false]
      rw [u64_id (n := a.2.1) (by omega) (by omega), u64_id (n := b.2.1) (by omega) (by omega), hK _ (by omega)]
      simp only [Option.bind_some]
      rw [w64_id (n := a.2.2 - b.2.2) (by omega) (by omega), w64_id (n := b.2.2 - a.2.2) (by omega) (by omega), w64_id (n := d) (by omega) (by omega), size_f (by omega) (by omega)]
      simp only [Option.bind_some]
      rw [if_neg (show ¬ d = 0 by omega), tm, if_pos t0, qn, qm, u64_id (n := n') (by omega) (by omega), u64_id (n := m') (by omega) (by omega), if_pos h6, if_neg (show ¬ d = 0 by omega), qe, w64_id (n := e) (by omega) (by omega), rest_f (by omega) (by omega) n0 (by omega)]
      simp only [Option.bind_some]
      rw [if_neg (show ¬ n' = 0 by omega), Int.tmod_eq_emod_of_nonneg (show 0 ≤ m' by omega), hL _ (by omega)]
      simp only [Option.bind_some]
      rw [mul64_f e0 (by omega) z0 (by omega) (by omega)]
      simp only [Option.bind_some]
      rw [show congr_words_rest.f 0 (e % n' * (z % n')) n' = some k by unfold congr_words_rest.f; rw [if_pos (by omega), hk]]
      simp only [Option.bind_some]
      rw [u64_id (n := a.2.1 * n') (by omega) (by omega), u64_id (n := a.2.1 * k) (by omega) (by omega), u64_id (n := a.2.2) (by omega) (by omega), u64_id (n := a.2.1 * k + a.2.2) (by omega) (by omega),
        of_f (by omega) (by omega) (by omega) (by omega)]; rfl
    · have hn1 : n' = 1 := by omega
      subst hn1
      refine ⟨norm (a.2.1 * 1) (a.2.1 * 0 + a.2.2), hmn _ ?_ (found hm hn he (z := 0) (by exact Int.one_dvd _) (Int.one_dvd _)), K + 20, fun j hj => ?_⟩
      · rw [show a.2.1 * 0 + a.2.2 - a.2.2 = 0 by omega]; exact Int.dvd_zero _
      dsimp only
      rw [pre j (by omega)]
      obtain ⟨i, rfl⟩ : ∃ i, j = i + 3 := ⟨j - 3, by omega⟩
      show congr_Meet.j1 (i + 1 + 1) _ _ _ _ _ _ _ = _
      simp only [congr_Meet.j1, Bool.false_eq_true, if_false]
      rw [u64_id (n := a.2.1) (by omega) (by omega), u64_id (n := b.2.1) (by omega) (by omega), hK _ (by omega)]
      simp only [Option.bind_some]
      rw [w64_id (n := a.2.2 - b.2.2) (by omega) (by omega), size_f (by omega) (by omega)]
      simp only [Option.bind_some]
      rw [if_neg (show ¬ d = 0 by omega), tm, if_pos t0, qn, u64_id (n := 1) (by omega) (by omega), if_neg h6]
      rw [u64_id (n := a.2.1 * 1) (by omega) (by omega), u64_id (n := a.2.1 * 0) (by omega) (by omega), u64_id (n := a.2.2) (by omega) (by omega), u64_id (n := a.2.1 * 0 + a.2.2) (by omega) (by omega),
        of_f (by omega) (by omega) (by omega) (by omega)]; rfl
  · refine ⟨_, meet_none (hap h5), K + 20, fun j hj => ?_⟩
    dsimp only
    rw [pre j (by omega)]
    obtain ⟨i, rfl⟩ : ∃ i, j = i + 3 := ⟨j - 3, by omega⟩
    show congr_Meet.j1 (i + 1 + 1) _ _ _ _ _ _ _ = _
    simp only [congr_Meet.j1, Bool.false_eq_true, if_false]
    rw [u64_id (n := a.2.1) (by omega) (by omega), u64_id (n := b.2.1) (by omega) (by omega), hK _ (by omega)]
    simp only [Option.bind_some]
    rw [w64_id (n := a.2.2 - b.2.2) (by omega) (by omega), size_f (by omega) (by omega)]
    simp only [Option.bind_some]
    rw [if_neg (show ¬ d = 0 by omega), tm, if_neg (fun e => h5 (dvd_ab.mp (emod_zero_iff.mp e)))]; rfl

theorem tmod_fix {e n : Int} (hn : 0 < n) : (if Int.tmod e n < 0 then Int.tmod e n + n else Int.tmod e n) = e % n := by
  have hd := tmod_dvd (g := n) (x := e) (Int.dvd_refl n)
  have h1 : (Int.tmod e n).natAbs < n.natAbs := by rw [Int.natAbs_tmod]; exact Nat.mod_lt _ (by omega)
  symm
  by_cases h : Int.tmod e n < 0
  · rw [if_pos h]
    refine emod_unique (by omega) (by omega) ?_
    have := Int.dvd_sub (dvd_sub_comm' hd) (Int.dvd_refl n)
    rwa [show e - e.tmod n - n = e - (e.tmod n + n) by omega] at this
  · rw [if_neg h]
    exact emod_unique (by omega) (by omega) (dvd_sub_comm' hd)

theorem rMeet_j1 {a b : Cg} (ha : Fit a) (hb : Fit b) (na : a.1 = false) (nb : b.1 = false) (hle : b.2.1 ≤ a.2.1) :
    ∃ r, IsMeet a b r ∧ Ev (fun k => gimbalref31_Meet.j1 k a.1 a.2.1 a.2.2 b.1 b.2.1 b.2.2) r := by
  have ma := fit_mod ha
  have mb := fit_mod hb
  have fa := fit_rem ha
  have fb := fit_rem hb
  by_cases h4 : b.2.1 = 0
  · refine ⟨_, (meet_const hb h4).comm, ev_of 9 fun k => ?_⟩
    simp only [gimbalref31_Meet.j1]
    rw [if_pos h4, rHas_f ha (by unfold I64; omega)]
    simp only [Option.bind_some]
    split <;> rfl
  have b0 : 0 < b.2.1 := by omega
  have a0 : 0 < a.2.1 := by omega
  obtain ⟨K, hK⟩ := rgcd_f (a := a.2.1) (b := b.2.1) (by omega) (by omega)
  have hd0 : 0 < G a.2.1 b.2.1 := by
    have := G_nonneg a.2.1 b.2.1
    have : G a.2.1 b.2.1 ≠ 0 := fun e => by have h := G_dvd_l a.2.1 b.2.1; rw [e, Int.zero_dvd] at h; omega
    omega
  obtain ⟨m', hm⟩ := G_dvd_l a.2.1 b.2.1
  obtain ⟨n', hn⟩ := G_dvd_r a.2.1 b.2.1
  have hdle : G a.2.1 b.2.1 ≤ 4294967295 := G_le (by omega) (by omega) (by omega) (by omega)
  have hdd := @rfl _ (G a.2.1 b.2.1)
  have hcop := cop (m' := m') (n' := n') hdd hd0 hm hn
  have hap := apart_none (a := a) (b := b)
  have hmn := fun (v : Int) (k1 : a.2.1 ∣ v - a.2.2) (k2 : b.2.1 ∣ v - b.2.2) => meet_norm na nb a0 b0 hdd hm hn k1 k2
  clear hdd
  dsimp only at hK
  generalize hdG : G a.2.1 b.2.1 = d at *
  have m0 : 0 < m' := by
    rcases Int.lt_trichotomy m' 0 with h | h | h
    · have := Int.mul_neg_of_pos_of_neg hd0 h; omega
    · rw [h] at hm; omega
    · exact h
  have n0 : 0 < n' := by
    rcases Int.lt_trichotomy n' 0 with h | h | h
    · have := Int.mul_neg_of_pos_of_neg hd0 h; omega
    · rw [h] at hn; omega
    · exact h
  have m1 : m' ≤ a.2.1 := by
    have : 1 * m' ≤ d * m' := Int.mul_le_mul_of_nonneg_right (by omega) (by omega)
    omega
  have n1 : n' ≤ b.2.1 := by
    have : 1 * n' ≤ d * n' := Int.mul_le_mul_of_nonneg_right (by omega) (by omega)
    omega
  have qm : a.2.1.tdiv d = m' := by rw [hm, Int.mul_tdiv_cancel_left _ (by omega)]
  have qn : b.2.1.tdiv d = n' := by rw [hn, Int.mul_tdiv_cancel_left _ (by omega)]
  have pL := prod_le (x := a.2.1) (y := n') (by omega) (by omega) (by omega) (by omega)
  have eL : m' * b.2.1 = a.2.1 * n' := by rw [hn, hm]; grind
  have tm : Int.tmod (ab (a.2.2 - b.2.2)) d = ab (a.2.2 - b.2.2) % d := Int.tmod_eq_emod_of_nonneg (ab_nonneg _)
  -- from the number of steps on
  have fin : ∀ (t : Int) (j : Nat), 0 ≤ t → a.2.1 * t + a.2.1 ≤ a.2.1 * n' → gimbalref31_Meet.j3 (j + 9) d t a.1 a.2.1 a.2.2 b.1 b.2.1 b.2.2 = some (norm (a.2.1 * n') (a.2.1 * t + a.2.2)) := fun t j ht hle => by
    have pk0 := Int.mul_nonneg (show 0 ≤ a.2.1 by omega) ht
    simp only [gimbalref31_Meet.j3]
    rw [rsize_f (x := a.2.1) (by omega) (by omega), rsize_f (x := b.2.1) (by omega) (by omega), rsize_f (x := a.2.2) (by omega) (by omega), ab_of_nonneg (x := a.2.1) (by omega), ab_of_nonneg (x := b.2.1) (by omega), ab_of_nonneg (x := a.2.2) (by omega)]
    simp only [Option.bind_some]
    rw [if_neg (show ¬ d = 0 by omega), qm, u64_id (n := m') (by omega) (by omega), eL, u64_id (n := a.2.1 * n') (by omega) (by omega), u64_id (n := a.2.1 * t) (by omega) (by omega), u64_id (n := a.2.2 + a.2.1 * t) (by omega) (by omega),
      class_f false (by omega) (by omega) (by omega) (by omega), Int.add_comm]
    simp
  by_cases h5 : d ∣ a.2.2 - b.2.2
  · obtain ⟨e, he⟩ := dvd_sub_comm' h5
    have qe : (b.2.2 - a.2.2).tdiv d = e := by rw [he, Int.mul_tdiv_cancel_left _ (by omega)]
    have er := tdiv_range (x := b.2.2 - a.2.2) (d := d) (m := 9223372036854775807) (by omega) (by omega)
    rw [qe] at er
    have t0 : ab (a.2.2 - b.2.2) % d = 0 := emod_zero_iff.mpr (dvd_ab.mpr h5)
    have e0 := Int.emod_nonneg e (show n' ≠ 0 by omega)
    have e1 := Int.emod_lt_of_pos e n0
    have mm0 := Int.emod_nonneg m' (show n' ≠ 0 by omega)
    have mm1 := Int.emod_lt_of_pos m' n0
    -- as far as the number that is wanted
    have want : ∀ j, K ≤ j → gimbalref31_Meet.j1 (j + 1) a.1 a.2.1 a.2.2 b.1 b.2.1 b.2.2 = gimbalref31_Meet.j2 j d n' (m' % n') (e % n') a.1 a.2.1 a.2.2 b.1 b.2.1 b.2.2 := fun j hj => by
      simp only [gimbalref31_Meet.j1]
      rw [if_neg h4, rsize_f (x := a.2.1) (by omega) (by omega), rsize_f (x := b.2.1) (by omega) (by omega), ab_of_nonneg (x := a.2.1) (by omega), ab_of_nonneg (x := b.2.1) (by omega)]
      simp only [Option.bind_some]
      rw [hK _ hj]
      simp only [Option.bind_some]
      rw [w64_id (n := a.2.2 - b.2.2) (by omega) (by omega), w64_id (n := b.2.2 - a.2.2) (by omega) (by omega), w64_id (n := d) (by omega) (by omega), rsize_f (by omega) (by omega)]
      simp only [Option.bind_some]
      rw [if_neg (show ¬ d = 0 by omega), tm, if_pos t0, qn, qm, u64_id (n := n') (by omega) (by omega), u64_id (n := m') (by omega) (by omega), w64_id (n := n') (by omega) (by omega), if_neg (show ¬ n' = 0 by omega), if_neg (show ¬ d = 0 by omega), if_neg (show ¬ n' = 0 by omega), qe, w64_id (n := e) (by omega) (by omega),
        Int.tmod_eq_emod_of_nonneg (show 0 ≤ m' by omega)]
      have f := tmod_fix (e := e) n0
      by_cases hw : Int.tmod e n' < 0
      · rw [if_pos hw] at f ⊢
        rw [f, w64_id (by omega) (by omega)]
      · rw [if_neg hw] at f ⊢
        rw [f]
    by_cases h6 : n' > 1
    · obtain ⟨z, hz, z0, z1, L, hL⟩ := rinverse_f mm0 mm1 (by omega) (by rw [G_comm, G_step, hcop])
      dsimp only at hL
      have pz := prod_le (x := e % n') (y := z) e0 (by omega) z0 (by omega)
      have k0 := Int.emod_nonneg (e % n' * z) (show n' ≠ 0 by omega)
      have k1 := Int.emod_lt_of_pos (e % n' * z) n0
      have kd := emod_dvd_sub n' (e % n' * z)
      generalize hk : e % n' * z % n' = k at *
      have pk : a.2.1 * k + a.2.1 ≤ a.2.1 * n' := by
        have : a.2.1 * (k + 1) ≤ a.2.1 * n' := Int.mul_le_mul_of_nonneg_left (by omega) (by omega)
        rw [Int.mul_add] at this; omega
      have kez : n' ∣ k - e * z := by
        obtain ⟨p, hp⟩ := emod_dvd_sub n' e
        obtain ⟨t, ht⟩ := kd
        refine ⟨-t - z * p, ?_⟩
        have ee : e % n' = e - n' * p := by omega
        rw [ee] at ht
        grind
      refine ⟨norm (a.2.1 * n') (a.2.1 * k + a.2.2), hmn _ ?_ (found hm hn he hz kez), K + L + 20, fun j hj => ?_⟩
      · rw [show a.2.1 * k + a.2.2 - a.2.2 = a.2.1 * k by omega]; exact Int.dvd_mul_right _ _
      obtain ⟨i, rfl⟩ : ∃ i, j = i + 9 + 1 + 1 := ⟨j - 11, by omega⟩
      dsimp only
      rw [want _ (by omega)]
      simp only [gimbalref31_Meet.j2]
      rw [if_pos h6, hL _ (by omega)]
      simp only [Option.bind_some]
      unfold gimbalref31_times.f
      rw [u64_id (n := e % n') (by omega) (by omega), if_neg (show ¬ n' = 0 by omega), u64_id (n := e % n' * z) (by omega) (by omega), Int.tmod_eq_emod_of_nonneg (by omega), hk]
      simp only [Option.bind_some]
      exact fin k i k0 pk
    · have hn1 : n' = 1 := by omega
      subst hn1
      refine ⟨norm (a.2.1 * 1) (a.2.1 * 0 + a.2.2), hmn _ ?_ (found hm hn he (z := 0) (by exact Int.one_dvd _) (Int.one_dvd _)), K + 20, fun j hj => ?_⟩
      · rw [show a.2.1 * 0 + a.2.2 - a.2.2 = 0 by omega]; exact Int.dvd_zero _
      obtain ⟨i, rfl⟩ : ∃ i, j = i + 9 + 1 + 1 := ⟨j - 11, by omega⟩
      dsimp only
      rw [want _ (by omega)]
      simp only [gimbalref31_Meet.j2]
      rw [if_neg h6]
      exact fin 0 i (by omega) (by omega)
  · refine ⟨_, meet_none (hap h5), K + 20, fun j hj => ?_⟩
    obtain ⟨i, rfl⟩ : ∃ i, j = i + 1 := ⟨j - 1, by omega⟩
    simp only [gimbalref31_Meet.j1]
    rw [if_neg h4, rsize_f (x := a.2.1) (by omega) (by omega), rsize_f (x := b.2.1) (by omega) (by omega), ab_of_nonneg (x := a.2.1) (by omega), ab_of_nonneg (x := b.2.1) (by omega)]
    simp only [Option.bind_some]
    rw [hK _ (by omega)]
    simp only [Option.bind_some]
    rw [w64_id (n := a.2.2 - b.2.2) (by omega) (by omega), rsize_f (by omega) (by omega)]
    simp only [Option.bind_some]
    rw [if_neg (show ¬ d = 0 by omega), tm, if_neg (fun e => h5 (dvd_ab.mp (emod_zero_iff.mp e)))]; rfl

theorem rMeet_f {a b : Cg} (ha : Fit a) (hb : Fit b) : ∃ r, IsMeet a b r ∧ Ev (fun k => gimbalref31_Meet.f k a.1 a.2.1 a.2.2 b.1 b.2.1 b.2.2) r := by
  by_cases h1 : a.1 = true
  · refine ⟨_, meet_none_l (Or.inl h1), ev_of 9 fun k => ?_⟩
    simp [gimbalref31_Meet.f, gimbalref31_Meet.j0, gimbalref31_None.f, h1]
  by_cases h2 : b.1 = true
  · refine ⟨_, meet_none_l (Or.inr h2), ev_of 9 fun k => ?_⟩
    simp [gimbalref31_Meet.f, gimbalref31_Meet.j0, gimbalref31_None.f, h1, h2]
  by_cases h3 : a.2.1 < b.2.1
  · obtain ⟨r, hr, K, hK⟩ := rMeet_j1 hb ha (bfalse h2) (bfalse h1) (by omega)
    refine ⟨r, hr.comm, K + 2, fun k hk => ?_⟩
    obtain ⟨i, rfl⟩ : ∃ i, k = i + 1 := ⟨k - 1, by omega⟩
    dsimp only at hK ⊢
    simp only [gimbalref31_Meet.f, gimbalref31_Meet.j0]
    rw [if_neg h1, if_neg h2, if_pos h3, hK _ (by omega)]
  · obtain ⟨r, hr, K, hK⟩ := rMeet_j1 ha hb (bfalse h1) (bfalse h2) (by omega)
    refine ⟨r, hr, K + 2, fun k hk => ?_⟩
    obtain ⟨i, rfl⟩ : ∃ i, k = i + 1 := ⟨k - 1, by omega⟩
    dsimp only at hK ⊢
    simp only [gimbalref31_Meet.f, gimbalref31_Meet.j0]
    rw [if_neg h1, if_neg h2, if_neg h3, hK _ (by omega)]

abbrev Iv := Int × Int
def Holds (op x y : Int) : Prop := if op = 14 then x = y else if op = 15 then x ≠ y else if op = 16 then x < y else if op = 17 then x ≤ y else if op = 18 then y < x else y ≤ x
instance (op x y : Int) : Decidable (Holds op x y) := by unfold Holds; infer_instance
/-- does a sound interval have a number? -/
def hasI (i : Iv) (x : Int) : Prop := i.1 ≤ i.2 ∧ (i.1 = -4611686018427387904 ∨ i.1 ≤ x) ∧ (i.2 = 4611686018427387904 ∨ x ≤ i.2)
instance (i : Iv) (x : Int) : Decidable (hasI i x) := by unfold hasI; infer_instance
end Go.Proofs.YtfmmjekhknaniaaDoor.Core

namespace Go.Proofs.YtfmmjekhknaniaaDoor.Given
open Go.RowKit Go.Proofs.YtfmmjekhknaniaaDoor.Pr Go.Proofs.YtfmmjekhknaniaaDoor.Core
attribute [local go_sem high] eqA23

theorem of811 (w : World) : Calls Tryd.prog 10 #[.int .i64 8, .int .i64 11] w fun e w' => e = .returned (.agg #[.bool false, .int .i64 8, .int .i64 3]) ∧ Below w.heap.size w w' :=
  congr_Of.calls 1 8 11 false 8 3 w (by rw [Of_f (by omega) (by omega) (by omega) (by omega) 0]; decide +kernel)
theorem has833 (w : World) : Calls Tryd.prog 14 #[.agg #[.bool false, .int .i64 8, .int .i64 3], .int .i64 (-5)] w fun e w' => e = .returned (.bool true) ∧ Below w.heap.size w w' :=
  congr_Has.calls 8 false 8 3 (-5) true w (by decide +kernel)

def gimballaw31_awake.f : Option Bool := some true
set_option maxRecDepth 100000 in
theorem gimballaw31_awake.calls (r : Bool) (w : World) (h : gimballaw31_awake.f = some r) :
    Calls Tryd.prog 18 #[] w fun e w' => e = .returned (.bool r) ∧ Below w.heap.size w w' := by
  obtain rfl : true = r := Option.some.inj h
  clear h
  have hb0 := Below.refl w.heap.size w
  go_enter Tryd.func18, Tryd.ntmps18
  go_wp2_with (first | (go_at_call 10; with_reducible refine (of811 _).mono ?_; rintro e w' ⟨rfl, hb⟩; replace hb0 := hb0.trans (hb.mono hb0.size); clear hb) | (go_at_call 14; with_reducible refine (has833 _).mono ?_; rintro e w' ⟨rfl, hb⟩; replace hb0 := hb0.trans (hb.mono hb0.size); clear hb) | (go_at_call 16; with_reducible refine (congr_Text.calls false 8 3 _ _ rfl).mono ?_; rintro e w' ⟨rfl, hb⟩; replace hb0 := hb0.trans (hb.mono hb0.size); clear hb))
  go_ret
  exact ⟨rfl, hb0⟩
end Go.Proofs.YtfmmjekhknaniaaDoor.Given

namespace Go.Proofs.YtfmmjekhknaniaaDoor.Lr
open Go.ChangeShapes Go.WideShapes Go.ChangeAt Go.RowKit Go.Deep Go.Proofs.YtfmmjekhknaniaaDoor.Core Go.Proofs.YtfmmjekhknaniaaDoor.Pr Go.Proofs.YtfmmjekhknaniaaDoor.Given Go.Proofs.YtfmmjekhknaniaaDoorW.PrintWords
set_option maxRecDepth 100000

theorem fitB_false {c : Cg} (h : ¬ Fit c) : fitB c = false := by
  cases hb : fitB c with
  | false => rfl
  | true => exact absurd (fitB_iff.mp hb) h
theorem fit_t {c : Cg} (h : Fit c) (h1 : I64 c.2.1) (h2 : I64 c.2.2) (w : World) : Calls Tryd.prog 13 #[.agg #[.bool c.1, .int .i64 c.2.1, .int .i64 c.2.2]] w fun e w' => e = .returned (.bool true) ∧ Below w.heap.size w w' :=
  gimbalref31_Fit.calls 8 _ _ _ _ w (by rw [rFit_f c h1 h2 0, fitB_iff.mpr h])
theorem fit_n {c : Cg} (h : ¬ Fit c) (h1 : I64 c.2.1) (h2 : I64 c.2.2) (w : World) : Calls Tryd.prog 13 #[.agg #[.bool c.1, .int .i64 c.2.1, .int .i64 c.2.2]] w fun e w' => e = .returned (.bool false) ∧ Below w.heap.size w w' :=
  gimbalref31_Fit.calls 8 _ _ _ _ w (by rw [rFit_f c h1 h2 0, fitB_false h])
theorem aw (w : World) : Calls Tryd.prog 18 #[] w fun e w' => e = .returned (.bool true) ∧ Below w.heap.size w w' := gimballaw31_awake.calls true w rfl

end Go.Proofs.YtfmmjekhknaniaaDoor.Lr

namespace Go.Proofs.YtfmmjekhknaniaaDoor.Lk
open Go.RowKit Go.Proofs.YtfmmjekhknaniaaDoorW.PrintWords
set_option linter.unusedSimpArgs false

theorem eqA23 (d : Nat) (w : World) (x0 y0 : Bool) (x1 y1 : Int) (x2 y2 : Int) :
    (Op.equalIn (d + 2) 23 (.agg #[.bool x0, .int .i64 x1, .int .i64 x2]) (.agg #[.bool y0, .int .i64 y1, .int .i64 y2])).run Tryd.prog w = .ok (x0 == y0 && (x1 == y1 && (x2 == y2))) w := by
  refine eqA_of Tryd.underlying23 (by kernel_rfl) ?_
  refine eqf_cons (by rfl) (by go_simp; rfl) (by go_simp; rfl) (by go_simp) ?_
  refine eqf_cons (by rfl) (by go_simp; rfl) (by go_simp; rfl) (by go_simp) ?_
  exact eqf_last (by rfl) (by go_simp; rfl) (by go_simp; rfl) (by go_simp)
theorem eqS23 (d : Nat) (w : World) (x0 : Bool) (x1 x2 : Int) :
    (Op.equalIn (d + 2) 23 (.agg #[.bool x0, .int .i64 x1, .int .i64 x2]) (.agg #[.bool x0, .int .i64 x1, .int .i64 x2])).run Tryd.prog w = .ok true w := by
  rw [eqA23]; simp
theorem eqA38 (d : Nat) (w : World) (x0 y0 : Int) (x1 y1 : Int) :
    (Op.equalIn (d + 2) 38 (.agg #[.int .i64 x0, .int .i64 x1]) (.agg #[.int .i64 y0, .int .i64 y1])).run Tryd.prog w = .ok (x0 == y0 && (x1 == y1)) w := by
  refine eqA_of Tryd.underlying38 (by kernel_rfl) ?_
  refine eqf_cons (by rfl) (by go_simp; rfl) (by go_simp; rfl) (by go_simp) ?_
  exact eqf_last (by rfl) (by go_simp; rfl) (by go_simp; rfl) (by go_simp)
theorem eqS38 (d : Nat) (w : World) (x0 x1 : Int) :
    (Op.equalIn (d + 2) 38 (.agg #[.int .i64 x0, .int .i64 x1]) (.agg #[.int .i64 x0, .int .i64 x1])).run Tryd.prog w = .ok true w := by
  rw [eqA38]; simp

/-- The world W is w with more in it, and these cells of W hold these values. -/
def Held (w : World) (L : List (Nat × Nat × Value)) (W : World) : Prop :=
  Below w.heap.size w W ∧ ∀ x ∈ L, x.1 < W.heap.size ∧ W.cell? ⟨x.1, x.2.1, none⟩ = some x.2.2
theorem Held.keep {w W W' : World} {L : List (Nat × Nat × Value)} (hb : Below W.heap.size W W') (h : Held w L W) : Held w L W' :=
  ⟨h.1.trans (hb.mono h.1.size), fun x hx => ⟨Nat.lt_of_lt_of_le (h.2 x hx).1 hb.size, by rw [hb.cell (p := ⟨x.1, x.2.1, none⟩) (h.2 x hx).1]; exact (h.2 x hx).2⟩⟩
theorem Held.drew {w W : World} {L : List (Nat × Nat × Value)} (h : Held w L W) : Held w L W.drew := ⟨h.1.drew, h.2⟩
theorem Held.open {w W : World} {L : List (Nat × Nat × Value)} (h : Held w L W) : Below w.heap.size w W ∧ ∀ x ∈ L, x.1 < W.heap.size ∧ W.cell? ⟨x.1, x.2.1, none⟩ = some x.2.2 := h
end Go.Proofs.YtfmmjekhknaniaaDoor.Lk

