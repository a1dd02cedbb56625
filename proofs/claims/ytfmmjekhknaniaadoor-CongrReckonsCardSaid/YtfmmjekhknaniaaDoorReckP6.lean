/- This claim's own texts, joined, with only what the claim uses: Hx62, Hx63, FnC, Hx18, Hx19, Hx20, Hx28, Hx29. -/
import Derived.Test.YtfmmjekhknaniaaDoorReckP4
import Derived.Test.YtfmmjekhknaniaaDoorReckP5
namespace Go.Proofs.YtfmmjekhknaniaaDoor.Pr
open Go.RowKit Go.Proofs.YtfmmjekhknaniaaDoor.Given Go.Proofs.YtfmmjekhknaniaaDoorW.PrintWords Go.Proofs.YtfmmjekhknaniaaDoorW.PrintLast Go.Proofs.YtfmmjekhknaniaaDoorW.PrintMore
attribute [local go_sem] max2_int min2_int max_two min_two max_three min_three max_four min_four   -- for this text's walks alone
set_option linter.unusedVariables false
set_option linter.unusedSimpArgs false

attribute [local go_sem high] eqA23
mutual
def congr_Mod.j1 : Nat → Bool → Int → Int → Bool → Int → Int → Option (Bool × Int × Int)
 | 0, _, _, _, _, _, _ => none
 | k + 1, x585000, x585001, x585002, x586000, x586001, x586002 => (congr_gcd_uint64.f k (IntKind.u64.wrap (x585001)) (IntKind.u64.wrap (x586001))).bind fun t593 => ((congr_size.f x586002).bind fun t594 => ((congr_gcd_uint64.f k t593 t594).bind fun t595 => ((congr_by.f k t595 x585002).bind fun bt596 => (some (bt596.1, bt596.2.1, bt596.2.2)))))
def congr_Mod.j0 : Nat → Bool → Bool → Int → Int → Bool → Int → Int → Option (Bool × Int × Int)
 | 0, _, _, _, _, _, _, _ => none
 | k + 1, x5, x585000, x585001, x585002, x586000, x586001, x586002 => if x5 = true then ((congr_none.f).bind fun bt587 => (some (bt587.1, bt587.2.1, bt587.2.2))) else (if x585001 = 0 then (if x586001 = 0 then (if x586002 = 0 then (none) else ((congr_constant.f (Int.tmod x585002 x586002)).bind fun bt590 => (some (bt590.1, bt590.2.1, bt590.2.2)))) else (congr_Mod.j1 k x585000 x585001 x585002 x586000 x586001 x586002)) else (congr_Mod.j1 k x585000 x585001 x585002 x586000 x586001 x586002))
end
def congr_Mod.f (k : Nat) (a0_0 : Bool) (a0_1 : Int) (a0_2 : Int) (a1_0 : Bool) (a1_1 : Int) (a1_2 : Int) : Option (Bool × Int × Int) := if a0_0 = true then (congr_Mod.j0 k true a0_0 a0_1 a0_2 a1_0 a1_1 a1_2) else (if a1_0 = true then (congr_Mod.j0 k true a0_0 a0_1 a0_2 a1_0 a1_1 a1_2) else (congr_Mod.j0 k (!a1_0 && (a1_1 == 0 && (a1_2 == 0))) a0_0 a0_1 a0_2 a1_0 a1_1 a1_2))
def congr_Mod.T5 : Bool × List (List Nat × List Nat) := (true, [([], []), ([0], [0]), ([1], [1]), ([], []), ([3], [3]), ([4], [4]), ([2, 5], [2, 5]), ([], []), ([7], [7]), ([8, 6], [8]), ([6, 9, 9], [6, 9]), ([], []), ([11], [11]), ([10, 12, 10], [10, 12]), ([13, 13, 0, 1, 2, 3, 4, 5, 6, 7, 8, 9, 10, 11, 12, 13], [13])])
def congr_Mod.B5 : List Nat := [0, 1, 3, 0, 8, 24, 63, 0, 128, 511, 1023, 0, 2048, 8191, 16383]
theorem congr_Mod.tab5 : rtab .any (opsOf Tryd.f43 5) = congr_Mod.T5 := by kernel_rfl
theorem congr_Mod.bits5 : waitsOk congr_Mod.T5.2 congr_Mod.B5 = true := by kernel_rfl
set_option maxHeartbeats 8000000 in
set_option maxRecDepth 100000 in
theorem congr_Mod.calls (k : Nat) (a0_0 : Bool) (a0_1 : Int) (a0_2 : Int) (a1_0 : Bool) (a1_1 : Int) (a1_2 : Int) (r1 : Bool) (r2 : Int) (r3 : Int) (w : World) (h : congr_Mod.f k a0_0 a0_1 a0_2 a1_0 a1_1 a1_2 = some (r1, r2, r3)) :
  Calls Tryd.prog 43 #[.agg #[.bool a0_0, .int .i64 a0_1, .int .i64 a0_2], .agg #[.bool a1_0, .int .i64 a1_1, .int .i64 a1_2]] w fun e w' => e = .returned (.agg #[.bool r1, .int .i64 r2, .int .i64 r3]) ∧ Below w.heap.size w w' := by
 have hu23 := Tryd.underlying23
 have HB := Aside0.mk (Below.refl w.heap.size w)
 have H : (if a0_0 = true then (congr_Mod.j0 k true a0_0 a0_1 a0_2 a1_0 a1_1 a1_2) else (if a1_0 = true then (congr_Mod.j0 k true a0_0 a0_1 a0_2 a1_0 a1_1 a1_2) else (congr_Mod.j0 k (!a1_0 && (a1_1 == 0 && (a1_2 == 0))) a0_0 a0_1 a0_2 a1_0 a1_1 a1_2))) = some (r1, r2, r3) := h
 clear h
 have HC3 := Aside0.mk H
 clear H
 go_enter Tryd.func43, Tryd.ntmps43
 go_upto_block 0 with (first | ((with_reducible refine gate_dst (N := 2) rfl ?_); refine box_event ?hg (N := 2) ?hd (cs := #[.bool a0_0, .int .i64 a0_1, .int .i64 a0_2]) (t := 23) ?hr ?_; (case hd => rfl); (case hg => rfl); (case hr => first | (go_simp; done) | (go_simp; rfl)); intro gb584 hg w4 hbox hb; have n0_ := kW HB hb; have n1_ := Aside0.mk (hbox); have n2_ := Aside0.mk ((by rw [hg]; exact (below_size (bS HB)) : w.heap.size ≤ gb584)); have n3_ := Aside0.mk ((by rw [hg]; exact (below_size (bS HB)) : w.heap.size ≤ gb584)); clear HB; have HB := n0_; have BK584 := n1_; have GW584 := n2_; have GE584 := n3_; clear n0_ n1_ n2_ n3_; clear hb hbox hg) | ((with_reducible refine gate_dst (N := 3) rfl ?_); refine box_event ?hg (N := 3) ?hd (cs := #[.bool a1_0, .int .i64 a1_1, .int .i64 a1_2]) (t := 23) ?hr ?_; (case hd => rfl); (case hg => rfl); (case hr => first | (go_simp; done) | (go_simp; rfl)); intro gb585 hg w5 hbox hb; have n0_ := kB BK584 hb; have n1_ := kW HB hb; have n2_ := Aside0.mk (hbox); have n3_ := Aside0.mk ((by rw [hg]; exact (below_size (bS HB)) : w.heap.size ≤ gb585)); have n4_ := Aside0.mk ((by rw [hg]; exact (below_size (bS HB)) : w.heap.size ≤ gb585)); have n5_ := Aside0.mk ((by rw [hg]; exact Nat.ne_of_lt (blk_lt (bkS BK584)) : gb584 ≠ gb585)); have n6_ := Aside0.mk ((by rw [hg]; exact Nat.ne_of_gt (blk_lt (bkS BK584)) : gb585 ≠ gb584)); clear BK584; clear HB; have BK584 := n0_; have HB := n1_; have BK585 := n2_; have GW585 := n3_; have GE585 := n4_; have NB584_585 := n5_; have NB585_584 := n6_; clear n0_ n1_ n2_ n3_ n4_ n5_ n6_; clear hb hbox hg) | ((with_reducible refine gate_dst (N := 4) rfl ?_); refine box_event ?hg (N := 4) ?hd (cs := #[.bool false, .int .i64 0, .int .i64 0]) (t := 23) ?hr ?_; (case hd => rfl); (case hg => rfl); (case hr => first | (go_simp; done) | (go_simp; rfl)); intro gb586 hg w6 hbox hb; have n0_ := kB BK584 hb; have n1_ := kB BK585 hb; have n2_ := kW HB hb; have n3_ := Aside0.mk (hbox); have n4_ := Aside0.mk ((by rw [hg]; exact (below_size (bS HB)) : w.heap.size ≤ gb586)); have n5_ := Aside0.mk ((by rw [hg]; exact (below_size (bS HB)) : w.heap.size ≤ gb586)); have n6_ := Aside0.mk ((by rw [hg]; exact Nat.ne_of_lt (blk_lt (bkS BK584)) : gb584 ≠ gb586)); have n7_ := Aside0.mk ((by rw [hg]; exact Nat.ne_of_gt (blk_lt (bkS BK584)) : gb586 ≠ gb584)); have n8_ := Aside0.mk ((by rw [hg]; exact Nat.ne_of_lt (blk_lt (bkS BK585)) : gb585 ≠ gb586)); have n9_ := Aside0.mk ((by rw [hg]; exact Nat.ne_of_gt (blk_lt (bkS BK585)) : gb586 ≠ gb585)); clear BK584; clear BK585; clear HB; have BK584 := n0_; have BK585 := n1_; have HB := n2_; have BK586 := n3_; have GW586 := n4_; have GE586 := n5_; have NB584_586 := n6_; have NB586_584 := n7_; have NB585_586 := n8_; have NB586_585 := n9_; clear n0_ n1_ n2_ n3_ n4_ n5_ n6_ n7_ n8_ n9_; clear hb hbox hg))
 (try simp only [Act.put, lA, lB, lC])
 go_cut [] (fun wc => ∃ (kq : Nat) (x587000_2 : Bool) (x587001_2 : Int) (x587002_2 : Int), Aside0 (congr_Mod.j1 kq a0_0 a0_1 a0_2 a1_0 a1_1 a1_2 = some (r1, r2, r3)) ∧ Aside0 (kq ≤ k) ∧ Aside0 (wc.heap[gb584]? = some (.cells #[.bool a0_0, .int .i64 a0_1, .int .i64 a0_2] 23 (0, 0))) ∧ Aside0 (wc.heap[gb585]? = some (.cells #[.bool a1_0, .int .i64 a1_1, .int .i64 a1_2] 23 (0, 0))) ∧ Aside0 (wc.heap[gb586]? = some (.cells #[.bool x587000_2, .int .i64 x587001_2, .int .i64 x587002_2] 23 (0, 0))) ∧ Aside0 (Below w.heap.size w wc))
 case first =>
  have H := HC3.out
  clear HC3
  have HC7 := Aside0.mk H
  clear H
  go_upto_region 1 with (fail)
  go_cut [5] (fun v5 wc => ∃ (kq : Nat) (x5_6 : Bool), v5 = .bool x5_6 ∧ Aside0 (congr_Mod.j0 kq x5_6 a0_0 a0_1 a0_2 a1_0 a1_1 a1_2 = some (r1, r2, r3)) ∧ Aside0 (kq ≤ k) ∧ Aside0 (wc.heap[gb584]? = some (.cells #[.bool a0_0, .int .i64 a0_1, .int .i64 a0_2] 23 (0, 0))) ∧ Aside0 (wc.heap[gb585]? = some (.cells #[.bool a1_0, .int .i64 a1_1, .int .i64 a1_2] 23 (0, 0))) ∧ Aside0 (wc.heap[gb586]? = some (.cells #[.bool false, .int .i64 0, .int .i64 0] 23 (0, 0))) ∧ Aside0 (Below w.heap.size w wc))
  case first =>
   have H := HC7.out
   clear HC7
   by_cases c8 : a0_0 = true
   ·
    subst c8
    have H1 : (congr_Mod.j0 k true true a0_1 a0_2 a1_0 a1_1 a1_2) = some (r1, r2, r3) := by rw [if_pos rfl] at H; exact H
    clear H
    have H := H1
    clear H1
    have H' := Aside0.mk H
    clear H
    have hnb9 := NB584_585.out
    have hnc9 := NB585_584.out
    have hnb10 := NB584_586.out
    have hnc10 := NB586_584.out
    have hcz11_0 := cz0 BK584
    have hcz11_1 := cz1 BK584
    have hcz11_2 := cz2 BK584
    have hfz11_0 := fz BK584 0
    have hfz11_1 := fz BK584 1
    have hfz11_2 := fz BK584 2
    go_wp2
    go_meet
    case rel => exact ⟨_, (true), (by first | rfl | (simp; done) | (simp [*]; done)), H', ⟨by first | omega | exact Nat.le_refl _⟩, ⟨bkS BK584⟩, ⟨bkS BK585⟩, ⟨bkS BK586⟩, ⟨bS HB⟩⟩
   ·
    replace c8 := Bool.eq_false_iff.mpr c8
    subst c8
    have H1 : (if a1_0 = true then (congr_Mod.j0 k true false a0_1 a0_2 a1_0 a1_1 a1_2) else (congr_Mod.j0 k (!a1_0 && (a1_1 == 0 && (a1_2 == 0))) false a0_1 a0_2 a1_0 a1_1 a1_2)) = some (r1, r2, r3) := by rw [if_neg (show ¬ (false = true) by decide)] at H; exact H
    clear H
    have H := H1
    clear H1
    by_cases c12 : a1_0 = true
    ·
     subst c12
     have H1 : (congr_Mod.j0 k true false a0_1 a0_2 true a1_1 a1_2) = some (r1, r2, r3) := by rw [if_pos rfl] at H; exact H
     clear H
     have H := H1
     clear H1
     have H' := Aside0.mk H
     clear H
     have hnb13 := NB584_585.out
     have hnc13 := NB585_584.out
     have hnb14 := NB584_586.out
     have hnc14 := NB586_584.out
     have hcz15_0 := cz0 BK584
     have hcz15_1 := cz1 BK584
     have hcz15_2 := cz2 BK584
     have hfz15_0 := fz BK584 0
     have hfz15_1 := fz BK584 1
     have hfz15_2 := fz BK584 2
     have hnb16 := NB585_586.out
     have hnc16 := NB586_585.out
     have hcz17_0 := cz0 BK585
     have hcz17_1 := cz1 BK585
     have hcz17_2 := cz2 BK585
     have hfz17_0 := fz BK585 0
     have hfz17_1 := fz BK585 1
     have hfz17_2 := fz BK585 2
     go_wp2
     go_meet
     case rel => exact ⟨_, (true), (by first | rfl | (simp; done) | (simp [*]; done)), H', ⟨by first | omega | exact Nat.le_refl _⟩, ⟨bkS BK584⟩, ⟨bkS BK585⟩, ⟨bkS BK586⟩, ⟨bS HB⟩⟩
    ·
     replace c12 := Bool.eq_false_iff.mpr c12
     subst c12
     have H1 : (congr_Mod.j0 k (!false && (a1_1 == 0 && (a1_2 == 0))) false a0_1 a0_2 false a1_1 a1_2) = some (r1, r2, r3) := by rw [if_neg (show ¬ (false = true) by decide)] at H; exact H
     clear H
     have H := H1
     clear H1
     have H' := Aside0.mk H
     clear H
     have hnb18 := NB584_585.out
     have hnc18 := NB585_584.out
     have hnb19 := NB584_586.out
     have hnc19 := NB586_584.out
     have hcz20_0 := cz0 BK584
     have hcz20_1 := cz1 BK584
     have hcz20_2 := cz2 BK584
     have hfz20_0 := fz BK584 0
     have hfz20_1 := fz BK584 1
     have hfz20_2 := fz BK584 2
     have hnb21 := NB585_586.out
     have hnc21 := NB586_585.out
     have hcz22_0 := cz0 BK585
     have hcz22_1 := cz1 BK585
     have hcz22_2 := cz2 BK585
     have hfz22_0 := fz BK585 0
     have hfz22_1 := fz BK585 1
     have hfz22_2 := fz BK585 2
     go_wp2
     go_meet
     case rel => exact ⟨_, ((!false && (a1_1 == 0 && (a1_2 == 0)))), (by first | rfl | (simp; done) | (simp [*]; done)), H', ⟨by first | omega | exact Nat.le_refl _⟩, ⟨bkS BK584⟩, ⟨bkS BK585⟩, ⟨bkS BK586⟩, ⟨bS HB⟩⟩
  case rest =>
   clear HC7
   try clear c1
   try clear c2
   try clear p2
   try clear c4
   try clear c8
   try clear c9
   try clear c10
   try clear c12
   try clear c13
   try clear c14
   try clear c16
   try clear c18
   try clear c19
   try clear c21
   try clear hcz11_0
   try clear hcz11_1
   try clear hcz11_2
   try clear hcz15_0
   try clear hcz15_1
   try clear hcz15_2
   try clear hcz17_0
   try clear hcz17_1
   try clear hcz17_2
   try clear hcz20_0
   try clear hcz20_1
   try clear hcz20_2
   try clear hcz22_0
   try clear hcz22_1
   try clear hcz22_2
   try clear hfz11_0
   try clear hfz11_1
   try clear hfz11_2
   try clear hfz15_0
   try clear hfz15_1
   try clear hfz15_2
   try clear hfz17_0
   try clear hfz17_1
   try clear hfz17_2
   try clear hfz20_0
   try clear hfz20_1
   try clear hfz20_2
   try clear hfz22_0
   try clear hfz22_1
   try clear hfz22_2
   obtain ⟨kq, x5_6, rfl, HA, HJ6, BK584, BK585, BK586, HB⟩ := hcut
   cases kq with
   | zero => exact absurd HA.out (by simp [congr_Mod.j0])
   | succ kj6 =>
    have H := HA.out
    clear HA
    simp only [congr_Mod.j0] at H
    by_cases c23 : x5_6 = true
    ·
     subst c23
     have H1 : ((congr_none.f).bind fun bt587 => (some (bt587.1, bt587.2.1, bt587.2.2))) = some (r1, r2, r3) := by rw [if_pos rfl] at H; exact H
     clear H
     have H := H1
     clear H1
     replace H := Option.bind_eq_some_iff.mp H
     obtain ⟨⟨t587, t588, t589⟩, A240, H⟩ := H
     replace H : (some (t587, t588, t589)) = some (r1, r2, r3) := H
     have A24 := Aside0.mk A240
     clear A240
     simp only [Option.some.injEq, Prod.mk.injEq] at H
     obtain ⟨rfl, rfl, rfl⟩ := H
     go_wp2_with (first | ((with_reducible refine gate_callee (f := 56) rfl ?_); refine goesL_ (some 17) rfl rfl Tryd.func56 (by kernel_rfl) rfl #[] rfl mS ?_; (with_reducible refine (congr_none.calls  t587 t588 t589 _ A24.out).mono ?_); rintro e w25 ⟨rfl, hb⟩; refine ⟨_, rfl, ?_⟩; replace BK584 := kB BK584 hb; replace BK585 := kB BK585 hb; replace BK586 := kB BK586 hb; replace HB := kW HB hb; (try clear hb); (try clear hb2); (try clear hk); (try clear hi); have hnb26 := NB586_584.out; have hnc26 := NB584_586.out; have hnb27 := NB586_585.out; have hnc27 := NB585_586.out; have hcz28_0 := cz0 BK586; have hcz28_1 := cz1 BK586; have hcz28_2 := cz2 BK586; have hfz28_0 := fz BK586 0; have hfz28_1 := fz BK586 1; have hfz28_2 := fz BK586 2))
     refine bodyPost_ret (results_cell_row rfl _ _ gb586 23 #[.bool t587, .int .i64 t588, .int .i64 t589] (0, 0) _ rfl (by (with_reducible repeat (first | refine b1 ?_ _ | refine b2 ?_ | refine b3 ?_ _)); refine blk_put (cs := #[.bool t587, .int .i64 t588, .int .i64 0]) ?_ 2 _ rfl; (with_reducible repeat (first | refine b1 ?_ _ | refine b2 ?_ | refine b3 ?_ _)); refine blk_put (cs := #[.bool t587, .int .i64 0, .int .i64 0]) ?_ 1 _ rfl; (with_reducible repeat (first | refine b1 ?_ _ | refine b2 ?_ | refine b3 ?_ _)); refine blk_put (cs := #[.bool false, .int .i64 0, .int .i64 0]) ?_ 0 _ rfl; (with_reducible repeat (first | refine b1 ?_ _ | refine b2 ?_ | refine b3 ?_ _)); exact BK586.out) Tryd.underlying23 rfl (by kernel_rfl)) rfl ?_
     exact ⟨eS, bS HB⟩
    ·
     replace c23 := Bool.eq_false_iff.mpr c23
     subst c23
     have H1 : (if a0_1 = 0 then (if a1_1 = 0 then (if a1_2 = 0 then (none) else ((congr_constant.f (Int.tmod a0_2 a1_2)).bind fun bt590 => (some (bt590.1, bt590.2.1, bt590.2.2)))) else (congr_Mod.j1 kj6 a0_0 a0_1 a0_2 a1_0 a1_1 a1_2)) else (congr_Mod.j1 kj6 a0_0 a0_1 a0_2 a1_0 a1_1 a1_2)) = some (r1, r2, r3) := by rw [if_neg (show ¬ (false = true) by decide)] at H; exact H
     clear H
     have H := H1
     clear H1
     by_cases c29 : a0_1 = 0
     ·
      rw [if_pos c29] at H
      have c29b0 : (a0_1 == 0) = true := beq_iff_eq.mpr c29
      have c29b1 : (a0_1 != 0) = false := bne_eq_false_iff_eq.mpr c29
      clear c29
      by_cases c30 : a1_1 = 0
      ·
       rw [if_pos c30] at H
       have c30b0 : (a1_1 == 0) = true := beq_iff_eq.mpr c30
       have c30b1 : (a1_1 != 0) = false := bne_eq_false_iff_eq.mpr c30
       clear c30
       by_cases c31 : a1_2 = 0
       ·
        rw [if_pos c31] at H
        exact absurd H (by simp)
       ·
        rw [if_neg c31] at H
        have c31b0 : (a1_2 == 0) = false := beq_eq_false_iff_ne.mpr c31
        have c31b1 : (a1_2 != 0) = true := bne_iff_ne.mpr c31
        replace H := Option.bind_eq_some_iff.mp H
        obtain ⟨⟨t590, t591, t592⟩, A320, H⟩ := H
        replace H : (some (t590, t591, t592)) = some (r1, r2, r3) := H
        have A32 := Aside0.mk A320
        clear A320
        simp only [Option.some.injEq, Prod.mk.injEq] at H
        obtain ⟨rfl, rfl, rfl⟩ := H
        have hnb33 := NB584_585.out
        have hnc33 := NB585_584.out
        have hnb34 := NB584_586.out
        have hnc34 := NB586_584.out
        have hcz35_0 : wc.cell? ⟨gb584, 0, none⟩ = some (.bool a0_0) := cz0 BK584
        have hcz35_1 : wc.cell? ⟨gb584, 1, none⟩ = some (.int .i64 a0_1) := cz1 BK584
        have hcz35_2 : wc.cell? ⟨gb584, 2, none⟩ = some (.int .i64 a0_2) := cz2 BK584
        have hfz35_0 := fz BK584 0
        have hfz35_1 := fz BK584 1
        have hfz35_2 := fz BK584 2
        have hnb36 := NB585_586.out
        have hnc36 := NB586_585.out
        have hcz37_0 : wc.cell? ⟨gb585, 0, none⟩ = some (.bool a1_0) := cz0 BK585
        have hcz37_1 : wc.cell? ⟨gb585, 1, none⟩ = some (.int .i64 a1_1) := cz1 BK585
        have hcz37_2 : wc.cell? ⟨gb585, 2, none⟩ = some (.int .i64 a1_2) := cz2 BK585
        have hfz37_0 := fz BK585 0
        have hfz37_1 := fz BK585 1
        have hfz37_2 := fz BK585 2
        go_wp2_with (first | ((with_reducible refine gate_callee (f := 50) rfl ?_); refine goesL_ (some 32) rfl rfl Tryd.func50 (by kernel_rfl) rfl #[.int .i64 (Int.tmod a0_2 a1_2)] rfl mS ?_; (with_reducible refine (congr_constant.calls (Int.tmod a0_2 a1_2) t590 t591 t592 _ A32.out).mono ?_); rintro e w38 ⟨rfl, hb⟩; refine ⟨_, rfl, ?_⟩; replace BK584 := kB BK584 hb; replace BK585 := kB BK585 hb; replace BK586 := kB BK586 hb; replace HB := kW HB hb; (try clear hb); (try clear hb2); (try clear hk); (try clear hi); have hcz39_0 := cz0 BK586; have hcz39_1 := cz1 BK586; have hcz39_2 := cz2 BK586; have hfz39_0 := fz BK586 0; have hfz39_1 := fz BK586 1; have hfz39_2 := fz BK586 2))
        refine bodyPost_ret (results_cell_row rfl _ _ gb586 23 #[.bool t590, .int .i64 t591, .int .i64 t592] (0, 0) _ rfl (by (with_reducible repeat (first | refine b1 ?_ _ | refine b2 ?_ | refine b3 ?_ _)); refine blk_put (cs := #[.bool t590, .int .i64 t591, .int .i64 0]) ?_ 2 _ rfl; (with_reducible repeat (first | refine b1 ?_ _ | refine b2 ?_ | refine b3 ?_ _)); refine blk_put (cs := #[.bool t590, .int .i64 0, .int .i64 0]) ?_ 1 _ rfl; (with_reducible repeat (first | refine b1 ?_ _ | refine b2 ?_ | refine b3 ?_ _)); refine blk_put (cs := #[.bool false, .int .i64 0, .int .i64 0]) ?_ 0 _ rfl; (with_reducible repeat (first | refine b1 ?_ _ | refine b2 ?_ | refine b3 ?_ _)); exact BK586.out) Tryd.underlying23 rfl (by kernel_rfl)) rfl ?_
        exact ⟨eS, bS HB⟩
      ·
       rw [if_neg c30] at H
       have c30b0 : (a1_1 == 0) = false := beq_eq_false_iff_ne.mpr c30
       have c30b1 : (a1_1 != 0) = true := bne_iff_ne.mpr c30
       have H' := Aside0.mk H
       clear H
       have hnb40 := NB584_585.out
       have hnc40 := NB585_584.out
       have hnb41 := NB584_586.out
       have hnc41 := NB586_584.out
       have hcz42_0 : wc.cell? ⟨gb584, 0, none⟩ = some (.bool a0_0) := cz0 BK584
       have hcz42_1 : wc.cell? ⟨gb584, 1, none⟩ = some (.int .i64 a0_1) := cz1 BK584
       have hcz42_2 : wc.cell? ⟨gb584, 2, none⟩ = some (.int .i64 a0_2) := cz2 BK584
       have hfz42_0 := fz BK584 0
       have hfz42_1 := fz BK584 1
       have hfz42_2 := fz BK584 2
       have hnb43 := NB585_586.out
       have hnc43 := NB586_585.out
       have hcz44_0 : wc.cell? ⟨gb585, 0, none⟩ = some (.bool a1_0) := cz0 BK585
       have hcz44_1 : wc.cell? ⟨gb585, 1, none⟩ = some (.int .i64 a1_1) := cz1 BK585
       have hcz44_2 : wc.cell? ⟨gb585, 2, none⟩ = some (.int .i64 a1_2) := cz2 BK585
       have hfz44_0 := fz BK585 0
       have hfz44_1 := fz BK585 1
       have hfz44_2 := fz BK585 2
       go_wp2
       go_meet
       case rel => exact ⟨_, (false), (0), (0), H', ⟨by have := HJ6.out; first | omega | exact Nat.le_refl _⟩, ⟨bkS BK584⟩, ⟨bkS BK585⟩, ⟨bkS BK586⟩, ⟨bS HB⟩⟩
     ·
      rw [if_neg c29] at H
      have c29b0 : (a0_1 == 0) = false := beq_eq_false_iff_ne.mpr c29
      have c29b1 : (a0_1 != 0) = true := bne_iff_ne.mpr c29
      have H' := Aside0.mk H
      clear H
      have hnb45 := NB584_585.out
      have hnc45 := NB585_584.out
      have hnb46 := NB584_586.out
      have hnc46 := NB586_584.out
      have hcz47_0 : wc.cell? ⟨gb584, 0, none⟩ = some (.bool a0_0) := cz0 BK584
      have hcz47_1 : wc.cell? ⟨gb584, 1, none⟩ = some (.int .i64 a0_1) := cz1 BK584
      have hcz47_2 : wc.cell? ⟨gb584, 2, none⟩ = some (.int .i64 a0_2) := cz2 BK584
      have hfz47_0 := fz BK584 0
      have hfz47_1 := fz BK584 1
      have hfz47_2 := fz BK584 2
      go_wp2
      go_meet
      case rel => exact ⟨_, (false), (0), (0), H', ⟨by have := HJ6.out; first | omega | exact Nat.le_refl _⟩, ⟨bkS BK584⟩, ⟨bkS BK585⟩, ⟨bkS BK586⟩, ⟨bS HB⟩⟩
 case rest =>
  clear HC3
  try clear c1
  try clear c2
  try clear p2
  try clear c3
  try clear c4
  try clear c5
  try clear c8
  try clear c9
  try clear c10
  try clear c12
  try clear c13
  try clear c14
  try clear c16
  try clear c18
  try clear c19
  try clear c21
  try clear c23
  try clear c26
  try clear c27
  try clear c29
  try clear c29b0
  try clear c29b1
  try clear c30
  try clear c30b0
  try clear c30b1
  try clear c31
  try clear c31b0
  try clear c31b1
  try clear c33
  try clear c34
  try clear c36
  try clear c40
  try clear c41
  try clear c43
  try clear c45
  try clear c46
  try clear hcz11_0
  try clear hcz11_1
  try clear hcz11_2
  try clear hcz15_0
  try clear hcz15_1
  try clear hcz15_2
  try clear hcz17_0
  try clear hcz17_1
  try clear hcz17_2
  try clear hcz20_0
  try clear hcz20_1
  try clear hcz20_2
  try clear hcz22_0
  try clear hcz22_1
  try clear hcz22_2
  try clear hcz28_0
  try clear hcz28_1
  try clear hcz28_2
  try clear hcz35_0
  try clear hcz35_1
  try clear hcz35_2
  try clear hcz37_0
  try clear hcz37_1
  try clear hcz37_2
  try clear hcz39_0
  try clear hcz39_1
  try clear hcz39_2
  try clear hcz42_0
  try clear hcz42_1
  try clear hcz42_2
  try clear hcz44_0
  try clear hcz44_1
  try clear hcz44_2
  try clear hcz47_0
  try clear hcz47_1
  try clear hcz47_2
  try clear hfz11_0
  try clear hfz11_1
  try clear hfz11_2
  try clear hfz15_0
  try clear hfz15_1
  try clear hfz15_2
  try clear hfz17_0
  try clear hfz17_1
  try clear hfz17_2
  try clear hfz20_0
  try clear hfz20_1
  try clear hfz20_2
  try clear hfz22_0
  try clear hfz22_1
  try clear hfz22_2
  try clear hfz28_0
  try clear hfz28_1
  try clear hfz28_2
  try clear hfz35_0
  try clear hfz35_1
  try clear hfz35_2
  try clear hfz37_0
  try clear hfz37_1
  try clear hfz37_2
  try clear hfz39_0
  try clear hfz39_1
  try clear hfz39_2
  try clear hfz42_0
  try clear hfz42_1
  try clear hfz42_2
  try clear hfz44_0
  try clear hfz44_1
  try clear hfz44_2
  try clear hfz47_0
  try clear hfz47_1
  try clear hfz47_2
  try clear p2
  obtain ⟨kq, x587000_2, x587001_2, x587002_2, HA, HJ2, BK584, BK585, BK586, HB⟩ := hcut
  cases kq with
  | zero => exact absurd HA.out (by simp [congr_Mod.j1])
  | succ kj2 =>
   have H := HA.out
   clear HA
   simp only [congr_Mod.j1] at H
   replace H := Option.bind_eq_some_iff.mp H
   obtain ⟨t593, A480, H⟩ := H
   replace H : ((congr_size.f a1_2).bind fun t594 => ((congr_gcd_uint64.f kj2 t593 t594).bind fun t595 => ((congr_by.f kj2 t595 a0_2).bind fun bt596 => (some (bt596.1, bt596.2.1, bt596.2.2))))) = some (r1, r2, r3) := H
   have A48 := Aside0.mk A480
   clear A480
   replace H := Option.bind_eq_some_iff.mp H
   obtain ⟨t594, A490, H⟩ := H
   replace H : ((congr_gcd_uint64.f kj2 t593 t594).bind fun t595 => ((congr_by.f kj2 t595 a0_2).bind fun bt596 => (some (bt596.1, bt596.2.1, bt596.2.2)))) = some (r1, r2, r3) := H
   have A49 := Aside0.mk A490
   clear A490
   replace H := Option.bind_eq_some_iff.mp H
   obtain ⟨t595, A500, H⟩ := H
   replace H : ((congr_by.f kj2 t595 a0_2).bind fun bt596 => (some (bt596.1, bt596.2.1, bt596.2.2))) = some (r1, r2, r3) := H
   have A50 := Aside0.mk A500
   clear A500
   replace H := Option.bind_eq_some_iff.mp H
   obtain ⟨⟨t596, t597, t598⟩, A510, H⟩ := H
   replace H : (some (t596, t597, t598)) = some (r1, r2, r3) := H
   have A51 := Aside0.mk A510
   clear A510
   simp only [Option.some.injEq, Prod.mk.injEq] at H
   obtain ⟨rfl, rfl, rfl⟩ := H
   try go_wp2
   replace BK584 := Aside0.mk (blk_drew BK584.out)
   replace BK585 := Aside0.mk (blk_drew BK585.out)
   replace BK586 := Aside0.mk (blk_drew BK586.out)
   replace HB := Aside0.mk (below_drew1 HB.out)
   refine start_ (n := 15) (S := fun w' => w'.cell? ⟨gb584, 0, none⟩ = some (.bool a0_0) ∧ w'.cell? ⟨gb584, 1, none⟩ = some (.int .i64 a0_1) ∧ w'.cell? ⟨gb584, 2, none⟩ = some (.int .i64 a0_2) ∧ w'.cell? ⟨gb585, 0, none⟩ = some (.bool a1_0) ∧ w'.cell? ⟨gb585, 1, none⟩ = some (.int .i64 a1_1) ∧ w'.cell? ⟨gb585, 2, none⟩ = some (.int .i64 a1_2)) (ds := []) #[false, false, false, false, false, false, false, false, false, false, false, false, false, false, false] (by kernel_rfl) rfl rfl ⟨cz0 BK584, cz1 BK584, cz2 BK584, cz0 BK585, cz1 BK585, cz2 BK585⟩ (fun hHeld => ?_); refine with_tabW congr_Mod.tab5 congr_Mod.bits5 (fun HT_ HW_ => ?_)
   generalize wc.drew = w52 at BK584 BK585 BK586 HB hHeld ⊢
   refine pure_ (i := 0) (N := some 33) (v := ?_) (a' := ?_) #[true, false, false, false, false, false, false, false, false, false, false, false, false, false, false] rfl rfl (any_of HT_.out (by kernel_rfl)) (fun _ _ _ h => h) (Or.inl ⟨by rfl, ?_⟩) ?_ ?_
   rotate_left
   ·
    intro w'
    go_simp
    with_reducible rfl
   rotate_left
   ·
    simp only [Act.put, lA, lB, lC, i64_w, i32_w]
    rfl
   refine pure_ (i := 3) (N := some 36) (v := ?_) (a' := ?_) #[true, false, false, true, false, false, false, false, false, false, false, false, false, false, false] rfl rfl (any_of HT_.out (by kernel_rfl)) (fun _ _ _ h => h) (Or.inl ⟨by rfl, ?_⟩) ?_ ?_
   rotate_left
   ·
    intro w'
    go_simp
    with_reducible rfl
   rotate_left
   ·
    simp only [Act.put, lA, lB, lC, i64_w, i32_w]
    rfl
   refine pure_ (i := 7) (N := some 40) (v := ?_) (a' := ?_) #[true, false, false, true, false, false, false, true, false, false, false, false, false, false, false] rfl rfl (any_of HT_.out (by kernel_rfl)) (fun _ _ _ h => h) (Or.inl ⟨by rfl, ?_⟩) ?_ ?_
   rotate_left
   ·
    intro w'
    go_simp
    with_reducible rfl
   rotate_left
   ·
    simp only [Act.put, lA, lB, lC, i64_w, i32_w]
    rfl
   refine pure_ (i := 11) (N := some 44) (v := ?_) (a' := ?_) #[true, false, false, true, false, false, false, true, false, false, false, true, false, false, false] rfl rfl (any_of HT_.out (by kernel_rfl)) (fun _ _ _ h => h) (Or.inl ⟨by rfl, ?_⟩) ?_ ?_
   rotate_left
   ·
    intro w'
    go_simp
    with_reducible rfl
   rotate_left
   ·
    simp only [Act.put, lA, lB, lC, i64_w, i32_w]
    rfl
   refine take_ (i := 1) (N := some 34) (v := ?_) (a' := ?_) #[true, true, false, true, false, false, false, true, false, false, false, true, false, false, false] rfl rfl (take_ofW HT_.out HW_.out (by kernel_rfl)) (fun _ _ _ h => h) (Or.inl ⟨by rfl, ?_⟩) hHeld ?_ ?_
   rotate_left
   ·
    rintro w' ⟨s0, s1, s2, s3, s4, s5⟩
    go_simp
    with_reducible rfl
   rotate_left
   ·
    simp only [Act.put, lA, lB, lC, i64_w, i32_w]
    rfl
   refine pure_ (i := 2) (N := some 35) (v := ?_) (a' := ?_) #[true, true, true, true, false, false, false, true, false, false, false, true, false, false, false] rfl rfl (any_of HT_.out (by kernel_rfl)) (fun _ _ _ h => h) (Or.inl ⟨by rfl, ?_⟩) ?_ ?_
   rotate_left
   ·
    intro w'
    go_simp
    with_reducible rfl
   rotate_left
   ·
    simp only [Act.put, lA, lB, lC, i64_w, i32_w]
    rfl
   refine take_ (i := 4) (N := some 37) (v := ?_) (a' := ?_) #[true, true, true, true, true, false, false, true, false, false, false, true, false, false, false] rfl rfl (take_ofW HT_.out HW_.out (by kernel_rfl)) (fun _ _ _ h => h) (Or.inl ⟨by rfl, ?_⟩) hHeld ?_ ?_
   rotate_left
   ·
    rintro w' ⟨s0, s1, s2, s3, s4, s5⟩
    go_simp
    with_reducible rfl
   rotate_left
   ·
    simp only [Act.put, lA, lB, lC, i64_w, i32_w]
    rfl
   refine pure_ (i := 5) (N := some 38) (v := ?_) (a' := ?_) #[true, true, true, true, true, true, false, true, false, false, false, true, false, false, false] rfl rfl (any_of HT_.out (by kernel_rfl)) (fun _ _ _ h => h) (Or.inl ⟨by rfl, ?_⟩) ?_ ?_
   rotate_left
   ·
    intro w'
    go_simp
    with_reducible rfl
   rotate_left
   ·
    simp only [Act.put, lA, lB, lC, i64_w, i32_w]
    rfl
   refine take_ (i := 8) (N := some 41) (v := ?_) (a' := ?_) #[true, true, true, true, true, true, false, true, true, false, false, true, false, false, false] rfl rfl (take_ofW HT_.out HW_.out (by kernel_rfl)) (fun _ _ _ h => h) (Or.inl ⟨by rfl, ?_⟩) hHeld ?_ ?_
   rotate_left
   ·
    rintro w' ⟨s0, s1, s2, s3, s4, s5⟩
    go_simp
    with_reducible rfl
   rotate_left
   ·
    simp only [Act.put, lA, lB, lC, i64_w, i32_w]
    rfl
   refine take_ (i := 12) (N := some 45) (v := ?_) (a' := ?_) #[true, true, true, true, true, true, false, true, true, false, false, true, true, false, false] rfl rfl (take_ofW HT_.out HW_.out (by kernel_rfl)) (fun _ _ _ h => h) (Or.inl ⟨by rfl, ?_⟩) hHeld ?_ ?_
   rotate_left
   ·
    rintro w' ⟨s0, s1, s2, s3, s4, s5⟩
    go_simp
    with_reducible rfl
   rotate_left
   ·
    simp only [Act.put, lA, lB, lC, i64_w, i32_w]
    rfl
   refine one_ (i := 6) (N := some 39) #[true, true, true, true, true, true, true, true, true, false, false, true, true, false, false] rfl rfl (one_of HT_.out (by kernel_rfl)) (by decide) (fun K hK => ?_)
   refine goes_ Tryd.func62 (by kernel_rfl) rfl #[.int .u64 (IntKind.u64.wrap (a0_1)), .int .u64 (IntKind.u64.wrap (a1_1))] (by rfl) rfl rfl mS ?_
   with_reducible refine (congr_gcd_uint64.calls kj2 (IntKind.u64.wrap (a0_1)) (IntKind.u64.wrap (a1_1)) t593 _ A48.out).mono ?_
   rintro e w' ⟨rfl, ⟨nd, rfl⟩⟩
   refine ⟨_, rfl, ?_⟩
   refine hK.out _ _ ⟨cz0 BK584, cz1 BK584, cz2 BK584, cz0 BK585, cz1 BK585, cz2 BK585⟩ (fun hHeld => ?_)
   clear hK K
   refine norm_ (a' := ?_) ?_ ?_
   rotate_left
   ·
    show Act.put _ (some 39) _ = _
    simp only [Act.put, lA, lB, lC, i64_w, i32_w]
    rfl
   refine one_ (i := 9) (N := some 42) #[true, true, true, true, true, true, true, true, true, true, false, true, true, false, false] rfl rfl (one_of HT_.out (by kernel_rfl)) (by decide) (fun K hK => ?_)
   refine goes_ Tryd.func52 (by kernel_rfl) rfl #[.int .i64 a1_2] (by rfl) rfl rfl mS ?_
   with_reducible refine (congr_size.calls a1_2 t594 _ A49.out).mono ?_
   rintro e w' ⟨rfl, ⟨nd, rfl⟩⟩
   refine ⟨_, rfl, ?_⟩
   refine hK.out _ _ ⟨cz0 BK584, cz1 BK584, cz2 BK584, cz0 BK585, cz1 BK585, cz2 BK585⟩ (fun hHeld => ?_)
   clear hK K
   refine norm_ (a' := ?_) ?_ ?_
   rotate_left
   ·
    show Act.put _ (some 42) _ = _
    simp only [Act.put, lA, lB, lC, i64_w, i32_w]
    rfl
   refine one_ (i := 10) (N := some 43) #[true, true, true, true, true, true, true, true, true, true, true, true, true, false, false] rfl rfl (one_of HT_.out (by kernel_rfl)) (by decide) (fun K hK => ?_)
   refine goes_ Tryd.func62 (by kernel_rfl) rfl #[.int .u64 t593, .int .u64 t594] (by rfl) rfl rfl mS ?_
   with_reducible refine (congr_gcd_uint64.calls kj2 t593 t594 t595 _ A50.out).mono ?_
   rintro e w' ⟨rfl, ⟨nd, rfl⟩⟩
   refine ⟨_, rfl, ?_⟩
   refine hK.out _ _ ⟨cz0 BK584, cz1 BK584, cz2 BK584, cz0 BK585, cz1 BK585, cz2 BK585⟩ (fun hHeld => ?_)
   clear hK K
   refine norm_ (a' := ?_) ?_ ?_
   rotate_left
   ·
    show Act.put _ (some 43) _ = _
    simp only [Act.put, lA, lB, lC, i64_w, i32_w]
    rfl
   refine one_ (i := 13) (N := some 46) #[true, true, true, true, true, true, true, true, true, true, true, true, true, true, false] rfl rfl (one_of HT_.out (by kernel_rfl)) (by decide) (fun K hK => ?_)
   refine goes_ Tryd.func60 (by kernel_rfl) rfl #[.int .u64 t595, .int .i64 a0_2] (by rfl) rfl rfl mS ?_
   with_reducible refine (congr_by.calls kj2 t595 a0_2 t596 t597 t598 _ A51.out).mono ?_
   rintro e w53 ⟨rfl, hb⟩
   refine ⟨_, rfl, ?_⟩
   replace BK584 := kB BK584 hb
   replace BK585 := kB BK585 hb
   replace BK586 := kB BK586 hb
   replace HB := kW HB hb
   (try clear hb)
   (try clear hb2)
   (try clear hk)
   (try clear hi)
   refine hK.out _ _ ⟨cz0 BK584, cz1 BK584, cz2 BK584, cz0 BK585, cz1 BK585, cz2 BK585⟩ (fun hHeld => ?_)
   clear hK K
   refine norm_ (a' := ?_) ?_ ?_
   rotate_left
   ·
    show Act.put _ (some 46) _ = _
    simp only [Act.put, lA, lB, lC, i64_w, i32_w]
    rfl
   refine one_ (i := 14) (N := none) #[true, true, true, true, true, true, true, true, true, true, true, true, true, true, true] rfl rfl (one_of HT_.out (by kernel_rfl)) (by decide) (fun K hK => ?_)
   have hs54 : w53.cell? ⟨gb586, 0, none⟩ = some (.bool x587000_2) := cz0 BK586
   have hfs54 := fz BK586 0
   have hns54_0 := NB584_586.out
   have hns54_1 := NB585_586.out
   have hms54_0 := NB586_584.out
   have hms54_1 := NB586_585.out
   have hs55 : w53.cell? ⟨gb586, 1, none⟩ = some (.int .i64 x587001_2) := cz1 BK586
   have hfs55 := fz BK586 1
   have hns55_0 := NB584_586.out
   have hns55_1 := NB585_586.out
   have hms55_0 := NB586_584.out
   have hms55_1 := NB586_585.out
   have hs56 : w53.cell? ⟨gb586, 2, none⟩ = some (.int .i64 x587002_2) := cz2 BK586
   have hfs56 := fz BK586 2
   have hns56_0 := NB584_586.out
   have hns56_1 := NB585_586.out
   have hms56_0 := NB586_584.out
   have hms56_1 := NB586_585.out
   refine skip_ (w1 := ?_) (by rfl) rfl ?_ ?_
   rotate_left
   ·
    go_simp
    rfl
   refine hK.out _ _ ⟨((cell_far (p := ⟨gb586, _, none⟩) NB584_586.out _).trans (((cell_far (p := ⟨gb586, _, none⟩) NB584_586.out _).trans (((cell_far (p := ⟨gb586, _, none⟩) NB584_586.out _).trans (hHeld.1)))))), ((cell_far (p := ⟨gb586, _, none⟩) NB584_586.out _).trans (((cell_far (p := ⟨gb586, _, none⟩) NB584_586.out _).trans (((cell_far (p := ⟨gb586, _, none⟩) NB584_586.out _).trans (hHeld.2.1)))))), ((cell_far (p := ⟨gb586, _, none⟩) NB584_586.out _).trans (((cell_far (p := ⟨gb586, _, none⟩) NB584_586.out _).trans (((cell_far (p := ⟨gb586, _, none⟩) NB584_586.out _).trans (hHeld.2.2.1)))))), ((cell_far (p := ⟨gb586, _, none⟩) NB585_586.out _).trans (((cell_far (p := ⟨gb586, _, none⟩) NB585_586.out _).trans (((cell_far (p := ⟨gb586, _, none⟩) NB585_586.out _).trans (hHeld.2.2.2.1)))))), ((cell_far (p := ⟨gb586, _, none⟩) NB585_586.out _).trans (((cell_far (p := ⟨gb586, _, none⟩) NB585_586.out _).trans (((cell_far (p := ⟨gb586, _, none⟩) NB585_586.out _).trans (hHeld.2.2.2.2.1)))))), ((cell_far (p := ⟨gb586, _, none⟩) NB585_586.out _).trans (((cell_far (p := ⟨gb586, _, none⟩) NB585_586.out _).trans (((cell_far (p := ⟨gb586, _, none⟩) NB585_586.out _).trans (hHeld.2.2.2.2.2))))))⟩ (fun hHeld => ?_)
   clear hK K
   refine done_ (done_of HT_.out (by kernel_rfl)) ?_
   try go_wp2
   refine bodyPost_ret (results_cell_row rfl _ _ gb586 23 #[.bool t596, .int .i64 t597, .int .i64 t598] (0, 0) _ rfl (by (with_reducible repeat (first | refine b1 ?_ _ | refine b2 ?_ | refine b3 ?_ _)); refine blk_put (cs := #[.bool t596, .int .i64 t597, .int .i64 x587002_2]) ?_ 2 _ rfl; (with_reducible repeat (first | refine b1 ?_ _ | refine b2 ?_ | refine b3 ?_ _)); refine blk_put (cs := #[.bool t596, .int .i64 x587001_2, .int .i64 x587002_2]) ?_ 1 _ rfl; (with_reducible repeat (first | refine b1 ?_ _ | refine b2 ?_ | refine b3 ?_ _)); refine blk_put (cs := #[.bool x587000_2, .int .i64 x587001_2, .int .i64 x587002_2]) ?_ 0 _ rfl; (with_reducible repeat (first | refine b1 ?_ _ | refine b2 ?_ | refine b3 ?_ _)); exact BK586.out) Tryd.underlying23 rfl (by kernel_rfl)) rfl ?_
   exact ⟨eS, bS HB⟩

mutual
def gimbalref31_Mod.j0 : Nat → Bool → Bool → Int → Int → Bool → Int → Int → Option (Bool × Int × Int)
 | 0, _, _, _, _, _, _, _ => none
 | k + 1, x17, x600000, x600001, x600002, x601000, x601001, x601002 => if x17 = true then ((gimbalref31_None.f).bind fun bt603 => (some (bt603.1, bt603.2.1, bt603.2.2))) else (if x600001 = 0 then (gimbalref31_Mod.j1 k (x601001 == 0) x600000 x600001 x600002 x601000 x601001 x601002) else (gimbalref31_Mod.j1 k false x600000 x600001 x600002 x601000 x601001 x601002))
def gimbalref31_Mod.j1 : Nat → Bool → Bool → Int → Int → Bool → Int → Int → Option (Bool × Int × Int)
 | 0, _, _, _, _, _, _, _ => none
 | k + 1, x26, x600000, x600001, x600002, x601000, x601001, x601002 => if x26 = true then (if x601002 = 0 then (none) else ((gimbalref31_Of.f k 0 (Int.tmod x600002 x601002)).bind fun bt606 => (some (bt606.1, bt606.2.1, bt606.2.2)))) else ((gimbalref31_size.f x600001).bind fun t609 => ((gimbalref31_size.f x601001).bind fun t610 => ((gimbalref31_size.f x601002).bind fun t611 => ((gimbalref31_gcd.f k t610 t611).bind fun t612 => ((gimbalref31_gcd.f k t609 t612).bind fun t613 => ((gimbalref31_of.f k t613 x600002).bind fun bt614 => (some (bt614.1, bt614.2.1, bt614.2.2))))))))
end
def gimbalref31_Mod.f (k : Nat) (a0_0 : Bool) (a0_1 : Int) (a0_2 : Int) (a1_0 : Bool) (a1_1 : Int) (a1_2 : Int) : Option (Bool × Int × Int) := if a0_0 = true then (gimbalref31_Mod.j0 k true a0_0 a0_1 a0_2 a1_0 a1_1 a1_2) else (if a1_0 = true then (gimbalref31_Mod.j0 k true a0_0 a0_1 a0_2 a1_0 a1_1 a1_2) else (gimbalref31_Mod.j0 k (!a1_0 && (a1_1 == 0 && (a1_2 == 0))) a0_0 a0_1 a0_2 a1_0 a1_1 a1_2))
def gimbalref31_Mod.T6 : Bool × List (List Nat × List Nat) := (true, [([], []), ([0], [0]), ([1], [1]), ([], []), ([3], [3]), ([4, 2], [4]), ([], []), ([6], [6]), ([7, 5], [7]), ([5, 8, 8], [5, 8]), ([2, 9, 9], [2, 9]), ([], []), ([11], [11]), ([10, 12, 10], [10, 12]), ([13, 13, 0, 1, 2, 3, 4, 5, 6, 7, 8, 9, 10, 11, 12, 13], [13])])
def gimbalref31_Mod.B6 : List Nat := [0, 1, 3, 0, 8, 31, 0, 64, 255, 511, 1023, 0, 2048, 8191, 16383]
theorem gimbalref31_Mod.tab6 : rtab .any (opsOf Tryd.f44 6) = gimbalref31_Mod.T6 := by kernel_rfl
theorem gimbalref31_Mod.bits6 : waitsOk gimbalref31_Mod.T6.2 gimbalref31_Mod.B6 = true := by kernel_rfl
set_option maxHeartbeats 8000000 in
set_option maxRecDepth 100000 in
theorem gimbalref31_Mod.calls (k : Nat) (a0_0 : Bool) (a0_1 : Int) (a0_2 : Int) (a1_0 : Bool) (a1_1 : Int) (a1_2 : Int) (r1 : Bool) (r2 : Int) (r3 : Int) (w : World) (h : gimbalref31_Mod.f k a0_0 a0_1 a0_2 a1_0 a1_1 a1_2 = some (r1, r2, r3)) :
  Calls Tryd.prog 44 #[.agg #[.bool a0_0, .int .i64 a0_1, .int .i64 a0_2], .agg #[.bool a1_0, .int .i64 a1_1, .int .i64 a1_2]] w fun e w' => e = .returned (.agg #[.bool r1, .int .i64 r2, .int .i64 r3]) ∧ Below w.heap.size w w' := by
 have hu23 := Tryd.underlying23
 have HB := Aside0.mk (Below.refl w.heap.size w)
 have H : (if a0_0 = true then (gimbalref31_Mod.j0 k true a0_0 a0_1 a0_2 a1_0 a1_1 a1_2) else (if a1_0 = true then (gimbalref31_Mod.j0 k true a0_0 a0_1 a0_2 a1_0 a1_1 a1_2) else (gimbalref31_Mod.j0 k (!a1_0 && (a1_1 == 0 && (a1_2 == 0))) a0_0 a0_1 a0_2 a1_0 a1_1 a1_2))) = some (r1, r2, r3) := h
 clear h
 have HC3 := Aside0.mk H
 clear H
 go_enter Tryd.func44, Tryd.ntmps44
 go_upto_region 2 with (first | ((with_reducible refine gate_dst (N := 2) rfl ?_); refine box_event ?hg (N := 2) ?hd (cs := #[.bool a0_0, .int .i64 a0_1, .int .i64 a0_2]) (t := 23) ?hr ?_; (case hd => rfl); (case hg => rfl); (case hr => first | (go_simp; done) | (go_simp; rfl)); intro gb599 hg w4 hbox hb; have n0_ := kW HB hb; have n1_ := Aside0.mk (hbox); have n2_ := Aside0.mk ((by rw [hg]; exact (below_size (bS HB)) : w.heap.size ≤ gb599)); have n3_ := Aside0.mk ((by rw [hg]; exact (below_size (bS HB)) : w.heap.size ≤ gb599)); clear HB; have HB := n0_; have BK599 := n1_; have GW599 := n2_; have GE599 := n3_; clear n0_ n1_ n2_ n3_; clear hb hbox hg) | ((with_reducible refine gate_dst (N := 3) rfl ?_); refine box_event ?hg (N := 3) ?hd (cs := #[.bool a1_0, .int .i64 a1_1, .int .i64 a1_2]) (t := 23) ?hr ?_; (case hd => rfl); (case hg => rfl); (case hr => first | (go_simp; done) | (go_simp; rfl)); intro gb600 hg w5 hbox hb; have n0_ := kB BK599 hb; have n1_ := kW HB hb; have n2_ := Aside0.mk (hbox); have n3_ := Aside0.mk ((by rw [hg]; exact (below_size (bS HB)) : w.heap.size ≤ gb600)); have n4_ := Aside0.mk ((by rw [hg]; exact (below_size (bS HB)) : w.heap.size ≤ gb600)); have n5_ := Aside0.mk ((by rw [hg]; exact Nat.ne_of_lt (blk_lt (bkS BK599)) : gb599 ≠ gb600)); have n6_ := Aside0.mk ((by rw [hg]; exact Nat.ne_of_gt (blk_lt (bkS BK599)) : gb600 ≠ gb599)); clear BK599; clear HB; have BK599 := n0_; have HB := n1_; have BK600 := n2_; have GW600 := n3_; have GE600 := n4_; have NB599_600 := n5_; have NB600_599 := n6_; clear n0_ n1_ n2_ n3_ n4_ n5_ n6_; clear hb hbox hg) | ((with_reducible refine gate_dst (N := 4) rfl ?_); refine box_event ?hg (N := 4) ?hd (cs := #[.bool false, .int .i64 0, .int .i64 0]) (t := 23) ?hr ?_; (case hd => rfl); (case hg => rfl); (case hr => first | (go_simp; done) | (go_simp; rfl)); intro gb601 hg w6 hbox hb; have n0_ := kB BK599 hb; have n1_ := kB BK600 hb; have n2_ := kW HB hb; have n3_ := Aside0.mk (hbox); have n4_ := Aside0.mk ((by rw [hg]; exact (below_size (bS HB)) : w.heap.size ≤ gb601)); have n5_ := Aside0.mk ((by rw [hg]; exact (below_size (bS HB)) : w.heap.size ≤ gb601)); have n6_ := Aside0.mk ((by rw [hg]; exact Nat.ne_of_lt (blk_lt (bkS BK599)) : gb599 ≠ gb601)); have n7_ := Aside0.mk ((by rw [hg]; exact Nat.ne_of_gt (blk_lt (bkS BK599)) : gb601 ≠ gb599)); have n8_ := Aside0.mk ((by rw [hg]; exact Nat.ne_of_lt (blk_lt (bkS BK600)) : gb600 ≠ gb601)); have n9_ := Aside0.mk ((by rw [hg]; exact Nat.ne_of_gt (blk_lt (bkS BK600)) : gb601 ≠ gb600)); clear BK599; clear BK600; clear HB; have BK599 := n0_; have BK600 := n1_; have HB := n2_; have BK601 := n3_; have GW601 := n4_; have GE601 := n5_; have NB599_601 := n6_; have NB601_599 := n7_; have NB600_601 := n8_; have NB601_600 := n9_; clear n0_ n1_ n2_ n3_ n4_ n5_ n6_ n7_ n8_ n9_; clear hb hbox hg) | ((with_reducible refine gate_dst (N := 5) rfl ?_); refine box_event ?hg (N := 5) ?hd (cs := #[.bool false, .int .i64 0, .int .i64 0]) (t := 23) ?hr ?_; (case hd => rfl); (case hg => rfl); (case hr => first | (go_simp; done) | (go_simp; rfl)); intro gb602 hg w7 hbox hb; have n0_ := kB BK599 hb; have n1_ := kB BK600 hb; have n2_ := kB BK601 hb; have n3_ := kW HB hb; have n4_ := Aside0.mk (hbox); have n5_ := Aside0.mk ((by rw [hg]; exact (below_size (bS HB)) : w.heap.size ≤ gb602)); have n6_ := Aside0.mk ((by rw [hg]; exact (below_size (bS HB)) : w.heap.size ≤ gb602)); have n7_ := Aside0.mk ((by rw [hg]; exact Nat.ne_of_lt (blk_lt (bkS BK599)) : gb599 ≠ gb602)); have n8_ := Aside0.mk ((by rw [hg]; exact Nat.ne_of_gt (blk_lt (bkS BK599)) : gb602 ≠ gb599)); have n9_ := Aside0.mk ((by rw [hg]; exact Nat.ne_of_lt (blk_lt (bkS BK600)) : gb600 ≠ gb602)); have n10_ := Aside0.mk ((by rw [hg]; exact Nat.ne_of_gt (blk_lt (bkS BK600)) : gb602 ≠ gb600)); have n11_ := Aside0.mk ((by rw [hg]; exact Nat.ne_of_lt (blk_lt (bkS BK601)) : gb601 ≠ gb602)); have n12_ := Aside0.mk ((by rw [hg]; exact Nat.ne_of_gt (blk_lt (bkS BK601)) : gb602 ≠ gb601)); clear BK599; clear BK600; clear BK601; clear HB; have BK599 := n0_; have BK600 := n1_; have BK601 := n2_; have HB := n3_; have BK602 := n4_; have GW602 := n5_; have GE602 := n6_; have NB599_602 := n7_; have NB602_599 := n8_; have NB600_602 := n9_; have NB602_600 := n10_; have NB601_602 := n11_; have NB602_601 := n12_; clear n0_ n1_ n2_ n3_ n4_ n5_ n6_ n7_ n8_ n9_ n10_ n11_ n12_; clear hb hbox hg; have hnb8 := NB602_599.out; have hnc8 := NB599_602.out; have hnb9 := NB602_600.out; have hnc9 := NB600_602.out; have hnb10 := NB602_601.out; have hnc10 := NB601_602.out; have hcz11_0 := cz0 BK602; have hcz11_1 := cz1 BK602; have hcz11_2 := cz2 BK602; have hfz11_0 := fz BK602 0; have hfz11_1 := fz BK602 1; have hfz11_2 := fz BK602 2))
 (try simp only [Act.put, lA, lB, lC])
 go_cut [17] (fun v17 wc => ∃ (kq : Nat) (x17_2 : Bool), v17 = .bool x17_2 ∧ Aside0 (gimbalref31_Mod.j0 kq x17_2 a0_0 a0_1 a0_2 a1_0 a1_1 a1_2 = some (r1, r2, r3)) ∧ Aside0 (kq ≤ k) ∧ Aside0 (wc.heap[gb599]? = some (.cells #[.bool a0_0, .int .i64 a0_1, .int .i64 a0_2] 23 (0, 0))) ∧ Aside0 (wc.heap[gb600]? = some (.cells #[.bool a1_0, .int .i64 a1_1, .int .i64 a1_2] 23 (0, 0))) ∧ Aside0 (wc.heap[gb601]? = some (.cells #[.bool false, .int .i64 0, .int .i64 0] 23 (0, 0))) ∧ Aside0 (wc.heap[gb602]? = some (.cells #[.bool false, .int .i64 0, .int .i64 0] 23 (0, 0))) ∧ Aside0 (Below w.heap.size w wc))
 case first =>
  have H := HC3.out
  clear HC3
  by_cases c12 : a0_0 = true
  ·
   subst c12
   have H1 : (gimbalref31_Mod.j0 k true true a0_1 a0_2 a1_0 a1_1 a1_2) = some (r1, r2, r3) := by rw [if_pos rfl] at H; exact H
   clear H
   have H := H1
   clear H1
   have H' := Aside0.mk H
   clear H
   have hnb13 := NB599_600.out
   have hnc13 := NB600_599.out
   have hnb14 := NB599_601.out
   have hnc14 := NB601_599.out
   have hnb15 := NB599_602.out
   have hnc15 := NB602_599.out
   have hcz16_0 := cz0 BK599
   have hcz16_1 := cz1 BK599
   have hcz16_2 := cz2 BK599
   have hfz16_0 := fz BK599 0
   have hfz16_1 := fz BK599 1
   have hfz16_2 := fz BK599 2
   go_wp2
   go_meet
   case rel => exact ⟨_, (true), (by first | rfl | (simp; done) | (simp [*]; done)), H', ⟨by first | omega | exact Nat.le_refl _⟩, ⟨bkS BK599⟩, ⟨bkS BK600⟩, ⟨bkS BK601⟩, ⟨by (with_reducible repeat (first | refine b1 ?_ _ | refine b2 ?_ | refine b3 ?_ _)); refine blk_put (cs := #[.bool false, .int .i64 0, .int .i64 0]) ?_ 2 _ rfl; (with_reducible repeat (first | refine b1 ?_ _ | refine b2 ?_ | refine b3 ?_ _)); refine blk_put (cs := #[.bool false, .int .i64 0, .int .i64 0]) ?_ 1 _ rfl; (with_reducible repeat (first | refine b1 ?_ _ | refine b2 ?_ | refine b3 ?_ _)); refine blk_put (cs := #[.bool false, .int .i64 0, .int .i64 0]) ?_ 0 _ rfl; (with_reducible repeat (first | refine b1 ?_ _ | refine b2 ?_ | refine b3 ?_ _)); exact BK602.out⟩, ⟨bS HB⟩⟩
  ·
   replace c12 := Bool.eq_false_iff.mpr c12
   subst c12
   have H1 : (if a1_0 = true then (gimbalref31_Mod.j0 k true false a0_1 a0_2 a1_0 a1_1 a1_2) else (gimbalref31_Mod.j0 k (!a1_0 && (a1_1 == 0 && (a1_2 == 0))) false a0_1 a0_2 a1_0 a1_1 a1_2)) = some (r1, r2, r3) := by rw [if_neg (show ¬ (false = true) by decide)] at H; exact H
   clear H
   have H := H1
   clear H1
   by_cases c17 : a1_0 = true
   ·
    subst c17
    have H1 : (gimbalref31_Mod.j0 k true false a0_1 a0_2 true a1_1 a1_2) = some (r1, r2, r3) := by rw [if_pos rfl] at H; exact H
    clear H
    have H := H1
    clear H1
    have H' := Aside0.mk H
    clear H
    have hnb18 := NB599_600.out
    have hnc18 := NB600_599.out
    have hnb19 := NB599_601.out
    have hnc19 := NB601_599.out
    have hnb20 := NB599_602.out
    have hnc20 := NB602_599.out
    have hcz21_0 := cz0 BK599
    have hcz21_1 := cz1 BK599
    have hcz21_2 := cz2 BK599
    have hfz21_0 := fz BK599 0
    have hfz21_1 := fz BK599 1
    have hfz21_2 := fz BK599 2
    have hnb22 := NB600_601.out
    have hnc22 := NB601_600.out
    have hnb23 := NB600_602.out
    have hnc23 := NB602_600.out
    have hcz24_0 := cz0 BK600
    have hcz24_1 := cz1 BK600
    have hcz24_2 := cz2 BK600
    have hfz24_0 := fz BK600 0
    have hfz24_1 := fz BK600 1
    have hfz24_2 := fz BK600 2
    go_wp2
    go_meet
    case rel => exact ⟨_, (true), (by first | rfl | (simp; done) | (simp [*]; done)), H', ⟨by first | omega | exact Nat.le_refl _⟩, ⟨bkS BK599⟩, ⟨bkS BK600⟩, ⟨bkS BK601⟩, ⟨by (with_reducible repeat (first | refine b1 ?_ _ | refine b2 ?_ | refine b3 ?_ _)); refine blk_put (cs := #[.bool false, .int .i64 0, .int .i64 0]) ?_ 2 _ rfl; (with_reducible repeat (first | refine b1 ?_ _ | refine b2 ?_ | refine b3 ?_ _)); refine blk_put (cs := #[.bool false, .int .i64 0, .int .i64 0]) ?_ 1 _ rfl; (with_reducible repeat (first | refine b1 ?_ _ | refine b2 ?_ | refine b3 ?_ _)); refine blk_put (cs := #[.bool false, .int .i64 0, .int .i64 0]) ?_ 0 _ rfl; (with_reducible repeat (first | refine b1 ?_ _ | refine b2 ?_ | refine b3 ?_ _)); exact BK602.out⟩, ⟨bS HB⟩⟩
   ·
    replace c17 := Bool.eq_false_iff.mpr c17
    subst c17
    have H1 : (gimbalref31_Mod.j0 k (!false && (a1_1 == 0 && (a1_2 == 0))) false a0_1 a0_2 false a1_1 a1_2) = some (r1, r2, r3) := by rw [if_neg (show ¬ (false = true) by decide)] at H; exact H
    clear H
    have H := H1
    clear H1
    have H' := Aside0.mk H
    clear H
    have hnb25 := NB599_600.out
    have hnc25 := NB600_599.out
    have hnb26 := NB599_601.out
    have hnc26 := NB601_599.out
    have hnb27 := NB599_602.out
    have hnc27 := NB602_599.out
    have hcz28_0 := cz0 BK599
    have hcz28_1 := cz1 BK599
    have hcz28_2 := cz2 BK599
    have hfz28_0 := fz BK599 0
    have hfz28_1 := fz BK599 1
    have hfz28_2 := fz BK599 2
    have hnb29 := NB600_601.out
    have hnc29 := NB601_600.out
    have hnb30 := NB600_602.out
    have hnc30 := NB602_600.out
    have hcz31_0 := cz0 BK600
    have hcz31_1 := cz1 BK600
    have hcz31_2 := cz2 BK600
    have hfz31_0 := fz BK600 0
    have hfz31_1 := fz BK600 1
    have hfz31_2 := fz BK600 2
    have hnb32 := NB602_601.out
    have hnc32 := NB601_602.out
    have hcz33_0 := cz0 BK602
    have hcz33_1 := cz1 BK602
    have hcz33_2 := cz2 BK602
    have hfz33_0 := fz BK602 0
    have hfz33_1 := fz BK602 1
    have hfz33_2 := fz BK602 2
    go_wp2
    go_meet
    case rel => exact ⟨_, ((!false && (a1_1 == 0 && (a1_2 == 0)))), (by first | rfl | (simp; done) | (simp [*]; done)), H', ⟨by first | omega | exact Nat.le_refl _⟩, ⟨bkS BK599⟩, ⟨bkS BK600⟩, ⟨bkS BK601⟩, ⟨by (with_reducible repeat (first | refine b1 ?_ _ | refine b2 ?_ | refine b3 ?_ _)); refine blk_put (cs := #[.bool false, .int .i64 0, .int .i64 0]) ?_ 2 _ rfl; (with_reducible repeat (first | refine b1 ?_ _ | refine b2 ?_ | refine b3 ?_ _)); refine blk_put (cs := #[.bool false, .int .i64 0, .int .i64 0]) ?_ 1 _ rfl; (with_reducible repeat (first | refine b1 ?_ _ | refine b2 ?_ | refine b3 ?_ _)); refine blk_put (cs := #[.bool false, .int .i64 0, .int .i64 0]) ?_ 0 _ rfl; (with_reducible repeat (first | refine b1 ?_ _ | refine b2 ?_ | refine b3 ?_ _)); exact BK602.out⟩, ⟨bS HB⟩⟩
 case rest =>
  clear HC3
  try clear c1
  try clear c2
  try clear p2
  try clear c3
  try clear c4
  try clear c8
  try clear c9
  try clear c10
  try clear c12
  try clear c13
  try clear c14
  try clear c15
  try clear c17
  try clear c18
  try clear c19
  try clear c20
  try clear c22
  try clear c23
  try clear c25
  try clear c26
  try clear c27
  try clear c29
  try clear c30
  try clear c32
  try clear hcz11_0
  try clear hcz11_1
  try clear hcz11_2
  try clear hcz16_0
  try clear hcz16_1
  try clear hcz16_2
  try clear hcz21_0
  try clear hcz21_1
  try clear hcz21_2
  try clear hcz24_0
  try clear hcz24_1
  try clear hcz24_2
  try clear hcz28_0
  try clear hcz28_1
  try clear hcz28_2
  try clear hcz31_0
  try clear hcz31_1
  try clear hcz31_2
  try clear hcz33_0
  try clear hcz33_1
  try clear hcz33_2
  try clear hfz11_0
  try clear hfz11_1
  try clear hfz11_2
  try clear hfz16_0
  try clear hfz16_1
  try clear hfz16_2
  try clear hfz21_0
  try clear hfz21_1
  try clear hfz21_2
  try clear hfz24_0
  try clear hfz24_1
  try clear hfz24_2
  try clear hfz28_0
  try clear hfz28_1
  try clear hfz28_2
  try clear hfz31_0
  try clear hfz31_1
  try clear hfz31_2
  try clear hfz33_0
  try clear hfz33_1
  try clear hfz33_2
  obtain ⟨kq, x17_2, rfl, HA, HJ2, BK599, BK600, BK601, BK602, HB⟩ := hcut
  cases kq with
  | zero => exact absurd HA.out (by simp [gimbalref31_Mod.j0])
  | succ kj2 =>
   have H := HA.out
   clear HA
   simp only [gimbalref31_Mod.j0] at H
   by_cases c34 : x17_2 = true
   ·
    subst c34
    have H1 : ((gimbalref31_None.f).bind fun bt603 => (some (bt603.1, bt603.2.1, bt603.2.2))) = some (r1, r2, r3) := by rw [if_pos rfl] at H; exact H
    clear H
    have H := H1
    clear H1
    replace H := Option.bind_eq_some_iff.mp H
    obtain ⟨⟨t603, t604, t605⟩, A350, H⟩ := H
    replace H : (some (t603, t604, t605)) = some (r1, r2, r3) := H
    have A35 := Aside0.mk A350
    clear A350
    simp only [Option.some.injEq, Prod.mk.injEq] at H
    obtain ⟨rfl, rfl, rfl⟩ := H
    go_wp2_with (first | ((with_reducible refine gate_callee (f := 69) rfl ?_); refine goesL_ (some 18) rfl rfl Tryd.func69 (by kernel_rfl) rfl #[] rfl mS ?_; (with_reducible refine (gimbalref31_None.calls  t603 t604 t605 _ A35.out).mono ?_); rintro e w36 ⟨rfl, hb⟩; refine ⟨_, rfl, ?_⟩; replace BK599 := kB BK599 hb; replace BK600 := kB BK600 hb; replace BK601 := kB BK601 hb; replace BK602 := kB BK602 hb; replace HB := kW HB hb; (try clear hb); (try clear hb2); (try clear hk); (try clear hi); have hnb37 := NB601_599.out; have hnc37 := NB599_601.out; have hnb38 := NB601_600.out; have hnc38 := NB600_601.out; have hnb39 := NB601_602.out; have hnc39 := NB602_601.out; have hcz40_0 := cz0 BK601; have hcz40_1 := cz1 BK601; have hcz40_2 := cz2 BK601; have hfz40_0 := fz BK601 0; have hfz40_1 := fz BK601 1; have hfz40_2 := fz BK601 2))
    refine bodyPost_ret (results_cell_row rfl _ _ gb601 23 #[.bool t603, .int .i64 t604, .int .i64 t605] (0, 0) _ rfl (by (with_reducible repeat (first | refine b1 ?_ _ | refine b2 ?_ | refine b3 ?_ _)); refine blk_put (cs := #[.bool t603, .int .i64 t604, .int .i64 0]) ?_ 2 _ rfl; (with_reducible repeat (first | refine b1 ?_ _ | refine b2 ?_ | refine b3 ?_ _)); refine blk_put (cs := #[.bool t603, .int .i64 0, .int .i64 0]) ?_ 1 _ rfl; (with_reducible repeat (first | refine b1 ?_ _ | refine b2 ?_ | refine b3 ?_ _)); refine blk_put (cs := #[.bool false, .int .i64 0, .int .i64 0]) ?_ 0 _ rfl; (with_reducible repeat (first | refine b1 ?_ _ | refine b2 ?_ | refine b3 ?_ _)); exact BK601.out) Tryd.underlying23 rfl (by kernel_rfl)) rfl ?_
    exact ⟨eS, bS HB⟩
   ·
    replace c34 := Bool.eq_false_iff.mpr c34
    subst c34
    have H1 : (if a0_1 = 0 then (gimbalref31_Mod.j1 kj2 (a1_1 == 0) a0_0 a0_1 a0_2 a1_0 a1_1 a1_2) else (gimbalref31_Mod.j1 kj2 false a0_0 a0_1 a0_2 a1_0 a1_1 a1_2)) = some (r1, r2, r3) := by rw [if_neg (show ¬ (false = true) by decide)] at H; exact H
    clear H
    have H := H1
    clear H1
    have HC41 := Aside0.mk H
    clear H
    go_upto_region 4 with (fail)
    go_cut [26] (fun v26 wc => ∃ (kq : Nat) (x26_40 : Bool), v26 = .bool x26_40 ∧ Aside0 (gimbalref31_Mod.j1 kq x26_40 a0_0 a0_1 a0_2 a1_0 a1_1 a1_2 = some (r1, r2, r3)) ∧ Aside0 (kq ≤ kj2) ∧ Aside0 (wc.heap[gb599]? = some (.cells #[.bool a0_0, .int .i64 a0_1, .int .i64 a0_2] 23 (0, 0))) ∧ Aside0 (wc.heap[gb600]? = some (.cells #[.bool a1_0, .int .i64 a1_1, .int .i64 a1_2] 23 (0, 0))) ∧ Aside0 (wc.heap[gb601]? = some (.cells #[.bool false, .int .i64 0, .int .i64 0] 23 (0, 0))) ∧ Aside0 (wc.heap[gb602]? = some (.cells #[.bool false, .int .i64 0, .int .i64 0] 23 (0, 0))) ∧ Aside0 (Below w.heap.size w wc))
    case first =>
     have H := HC41.out
     clear HC41
     by_cases c42 : a0_1 = 0
     ·
      rw [if_pos c42] at H
      have c42b0 : (a0_1 == 0) = true := beq_iff_eq.mpr c42
      have c42b1 : (a0_1 != 0) = false := bne_eq_false_iff_eq.mpr c42
      clear c42
      (first | rw [c42b0] | (simp only [i64_w, i32_w]; rw [c42b0]) | skip)
      have H' := Aside0.mk H
      clear H
      have hnb43 := NB599_600.out
      have hnc43 := NB600_599.out
      have hnb44 := NB599_601.out
      have hnc44 := NB601_599.out
      have hnb45 := NB599_602.out
      have hnc45 := NB602_599.out
      have hcz46_0 : wc.cell? ⟨gb599, 0, none⟩ = some (.bool a0_0) := cz0 BK599
      have hcz46_1 : wc.cell? ⟨gb599, 1, none⟩ = some (.int .i64 a0_1) := cz1 BK599
      have hcz46_2 : wc.cell? ⟨gb599, 2, none⟩ = some (.int .i64 a0_2) := cz2 BK599
      have hfz46_0 := fz BK599 0
      have hfz46_1 := fz BK599 1
      have hfz46_2 := fz BK599 2
      have hnb47 := NB600_601.out
      have hnc47 := NB601_600.out
      have hnb48 := NB600_602.out
      have hnc48 := NB602_600.out
      have hcz49_0 : wc.cell? ⟨gb600, 0, none⟩ = some (.bool a1_0) := cz0 BK600
      have hcz49_1 : wc.cell? ⟨gb600, 1, none⟩ = some (.int .i64 a1_1) := cz1 BK600
      have hcz49_2 : wc.cell? ⟨gb600, 2, none⟩ = some (.int .i64 a1_2) := cz2 BK600
      have hfz49_0 := fz BK600 0
      have hfz49_1 := fz BK600 1
      have hfz49_2 := fz BK600 2
      go_wp2
      go_meet
      case rel => exact ⟨_, ((a1_1 == 0)), (by first | rfl | (simp; done) | (simp [*]; done)), H', ⟨by have := HJ2.out; first | omega | exact Nat.le_refl _⟩, ⟨bkS BK599⟩, ⟨bkS BK600⟩, ⟨bkS BK601⟩, ⟨bkS BK602⟩, ⟨bS HB⟩⟩
     ·
      rw [if_neg c42] at H
      have c42b0 : (a0_1 == 0) = false := beq_eq_false_iff_ne.mpr c42
      have c42b1 : (a0_1 != 0) = true := bne_iff_ne.mpr c42
      (first | rw [c42b0] | (simp only [i64_w, i32_w]; rw [c42b0]) | skip)
      have H' := Aside0.mk H
      clear H
      have hnb50 := NB599_600.out
      have hnc50 := NB600_599.out
      have hnb51 := NB599_601.out
      have hnc51 := NB601_599.out
      have hnb52 := NB599_602.out
      have hnc52 := NB602_599.out
      have hcz53_0 : wc.cell? ⟨gb599, 0, none⟩ = some (.bool a0_0) := cz0 BK599
      have hcz53_1 : wc.cell? ⟨gb599, 1, none⟩ = some (.int .i64 a0_1) := cz1 BK599
      have hcz53_2 : wc.cell? ⟨gb599, 2, none⟩ = some (.int .i64 a0_2) := cz2 BK599
      have hfz53_0 := fz BK599 0
      have hfz53_1 := fz BK599 1
      have hfz53_2 := fz BK599 2
      go_wp2
      go_meet
      case rel => exact ⟨_, (false), (by first | rfl | (simp; done) | (simp [*]; done)), H', ⟨by have := HJ2.out; first | omega | exact Nat.le_refl _⟩, ⟨bkS BK599⟩, ⟨bkS BK600⟩, ⟨bkS BK601⟩, ⟨bkS BK602⟩, ⟨bS HB⟩⟩
    case rest =>
     clear HC41
     try clear c1
     try clear c2
     try clear p2
     try clear c3
     try clear c4
     try clear c5
     try clear c6
     try clear c8
     try clear c9
     try clear c10
     try clear c12
     try clear c13
     try clear c14
     try clear c15
     try clear c17
     try clear c18
     try clear c19
     try clear c20
     try clear c22
     try clear c23
     try clear c25
     try clear c26
     try clear c27
     try clear c29
     try clear c30
     try clear c32
     try clear c34
     try clear c37
     try clear c38
     try clear c39
     try clear c42
     try clear c42b0
     try clear c42b1
     try clear c43
     try clear c44
     try clear c45
     try clear c47
     try clear c48
     try clear c50
     try clear c51
     try clear c52
     try clear hcz11_0
     try clear hcz11_1
     try clear hcz11_2
     try clear hcz16_0
     try clear hcz16_1
     try clear hcz16_2
     try clear hcz21_0
     try clear hcz21_1
     try clear hcz21_2
     try clear hcz24_0
     try clear hcz24_1
     try clear hcz24_2
     try clear hcz28_0
     try clear hcz28_1
     try clear hcz28_2
     try clear hcz31_0
     try clear hcz31_1
     try clear hcz31_2
     try clear hcz33_0
     try clear hcz33_1
     try clear hcz33_2
     try clear hcz40_0
     try clear hcz40_1
     try clear hcz40_2
     try clear hcz46_0
     try clear hcz46_1
     try clear hcz46_2
     try clear hcz49_0
     try clear hcz49_1
     try clear hcz49_2
     try clear hcz53_0
     try clear hcz53_1
     try clear hcz53_2
     try clear hfz11_0
     try clear hfz11_1
     try clear hfz11_2
     try clear hfz16_0
     try clear hfz16_1
     try clear hfz16_2
     try clear hfz21_0
     try clear hfz21_1
     try clear hfz21_2
     try clear hfz24_0
     try clear hfz24_1
     try clear hfz24_2
     try clear hfz28_0
     try clear hfz28_1
     try clear hfz28_2
     try clear hfz31_0
     try clear hfz31_1
     try clear hfz31_2
     try clear hfz33_0
     try clear hfz33_1
     try clear hfz33_2
     try clear hfz40_0
     try clear hfz40_1
     try clear hfz40_2
     try clear hfz46_0
     try clear hfz46_1
     try clear hfz46_2
     try clear hfz49_0
     try clear hfz49_1
     try clear hfz49_2
     try clear hfz53_0
     try clear hfz53_1
     try clear hfz53_2
     try clear p2
     obtain ⟨kq, x26_40, rfl, HA, HJ40, BK599, BK600, BK601, BK602, HB⟩ := hcut
     cases kq with
     | zero => exact absurd HA.out (by simp [gimbalref31_Mod.j1])
     | succ kj40 =>
      have H := HA.out
      clear HA
      simp only [gimbalref31_Mod.j1] at H
      by_cases c54 : x26_40 = true
      ·
       subst c54
       have H1 : (if a1_2 = 0 then (none) else ((gimbalref31_Of.f kj40 0 (Int.tmod a0_2 a1_2)).bind fun bt606 => (some (bt606.1, bt606.2.1, bt606.2.2)))) = some (r1, r2, r3) := by rw [if_pos rfl] at H; exact H
       clear H
       have H := H1
       clear H1
       by_cases c55 : a1_2 = 0
       ·
        rw [if_pos c55] at H
        exact absurd H (by simp)
       ·
        rw [if_neg c55] at H
        have c55b0 : (a1_2 == 0) = false := beq_eq_false_iff_ne.mpr c55
        have c55b1 : (a1_2 != 0) = true := bne_iff_ne.mpr c55
        replace H := Option.bind_eq_some_iff.mp H
        obtain ⟨⟨t606, t607, t608⟩, A560, H⟩ := H
        replace H : (some (t606, t607, t608)) = some (r1, r2, r3) := H
        have A56 := Aside0.mk A560
        clear A560
        simp only [Option.some.injEq, Prod.mk.injEq] at H
        obtain ⟨rfl, rfl, rfl⟩ := H
        have hnb57 := NB599_600.out
        have hnc57 := NB600_599.out
        have hnb58 := NB599_601.out
        have hnc58 := NB601_599.out
        have hnb59 := NB599_602.out
        have hnc59 := NB602_599.out
        have hcz60_0 : wc.cell? ⟨gb599, 0, none⟩ = some (.bool a0_0) := cz0 BK599
        have hcz60_1 : wc.cell? ⟨gb599, 1, none⟩ = some (.int .i64 a0_1) := cz1 BK599
        have hcz60_2 : wc.cell? ⟨gb599, 2, none⟩ = some (.int .i64 a0_2) := cz2 BK599
        have hfz60_0 := fz BK599 0
        have hfz60_1 := fz BK599 1
        have hfz60_2 := fz BK599 2
        have hnb61 := NB600_601.out
        have hnc61 := NB601_600.out
        have hnb62 := NB600_602.out
        have hnc62 := NB602_600.out
        have hcz63_0 : wc.cell? ⟨gb600, 0, none⟩ = some (.bool a1_0) := cz0 BK600
        have hcz63_1 : wc.cell? ⟨gb600, 1, none⟩ = some (.int .i64 a1_1) := cz1 BK600
        have hcz63_2 : wc.cell? ⟨gb600, 2, none⟩ = some (.int .i64 a1_2) := cz2 BK600
        have hfz63_0 := fz BK600 0
        have hfz63_1 := fz BK600 1
        have hfz63_2 := fz BK600 2
        go_wp2_with (first | ((with_reducible refine gate_callee (f := 11) rfl ?_); refine goesL_ (some 32) rfl rfl Tryd.func11 (by kernel_rfl) rfl #[.int .i64 0, .int .i64 (Int.tmod a0_2 a1_2)] rfl mS ?_; (with_reducible refine (gimbalref31_Of.calls kj40 0 (Int.tmod a0_2 a1_2) t606 t607 t608 _ A56.out).mono ?_); rintro e w64 ⟨rfl, hb⟩; refine ⟨_, rfl, ?_⟩; replace BK599 := kB BK599 hb; replace BK600 := kB BK600 hb; replace BK601 := kB BK601 hb; replace BK602 := kB BK602 hb; replace HB := kW HB hb; (try clear hb); (try clear hb2); (try clear hk); (try clear hi); have hnb65 := NB601_602.out; have hnc65 := NB602_601.out; have hcz66_0 := cz0 BK601; have hcz66_1 := cz1 BK601; have hcz66_2 := cz2 BK601; have hfz66_0 := fz BK601 0; have hfz66_1 := fz BK601 1; have hfz66_2 := fz BK601 2))
        refine bodyPost_ret (results_cell_row rfl _ _ gb601 23 #[.bool t606, .int .i64 t607, .int .i64 t608] (0, 0) _ rfl (by (with_reducible repeat (first | refine b1 ?_ _ | refine b2 ?_ | refine b3 ?_ _)); refine blk_put (cs := #[.bool t606, .int .i64 t607, .int .i64 0]) ?_ 2 _ rfl; (with_reducible repeat (first | refine b1 ?_ _ | refine b2 ?_ | refine b3 ?_ _)); refine blk_put (cs := #[.bool t606, .int .i64 0, .int .i64 0]) ?_ 1 _ rfl; (with_reducible repeat (first | refine b1 ?_ _ | refine b2 ?_ | refine b3 ?_ _)); refine blk_put (cs := #[.bool false, .int .i64 0, .int .i64 0]) ?_ 0 _ rfl; (with_reducible repeat (first | refine b1 ?_ _ | refine b2 ?_ | refine b3 ?_ _)); exact BK601.out) Tryd.underlying23 rfl (by kernel_rfl)) rfl ?_
        exact ⟨eS, bS HB⟩
      ·
       replace c54 := Bool.eq_false_iff.mpr c54
       subst c54
       have H1 : ((gimbalref31_size.f a0_1).bind fun t609 => ((gimbalref31_size.f a1_1).bind fun t610 => ((gimbalref31_size.f a1_2).bind fun t611 => ((gimbalref31_gcd.f kj40 t610 t611).bind fun t612 => ((gimbalref31_gcd.f kj40 t609 t612).bind fun t613 => ((gimbalref31_of.f kj40 t613 a0_2).bind fun bt614 => (some (bt614.1, bt614.2.1, bt614.2.2)))))))) = some (r1, r2, r3) := by rw [if_neg (show ¬ (false = true) by decide)] at H; exact H
       clear H
       have H := H1
       clear H1
       replace H := Option.bind_eq_some_iff.mp H
       obtain ⟨t609, A670, H⟩ := H
       replace H : ((gimbalref31_size.f a1_1).bind fun t610 => ((gimbalref31_size.f a1_2).bind fun t611 => ((gimbalref31_gcd.f kj40 t610 t611).bind fun t612 => ((gimbalref31_gcd.f kj40 t609 t612).bind fun t613 => ((gimbalref31_of.f kj40 t613 a0_2).bind fun bt614 => (some (bt614.1, bt614.2.1, bt614.2.2))))))) = some (r1, r2, r3) := H
       have A67 := Aside0.mk A670
       clear A670
       replace H := Option.bind_eq_some_iff.mp H
       obtain ⟨t610, A680, H⟩ := H
       replace H : ((gimbalref31_size.f a1_2).bind fun t611 => ((gimbalref31_gcd.f kj40 t610 t611).bind fun t612 => ((gimbalref31_gcd.f kj40 t609 t612).bind fun t613 => ((gimbalref31_of.f kj40 t613 a0_2).bind fun bt614 => (some (bt614.1, bt614.2.1, bt614.2.2)))))) = some (r1, r2, r3) := H
       have A68 := Aside0.mk A680
       clear A680
       replace H := Option.bind_eq_some_iff.mp H
       obtain ⟨t611, A690, H⟩ := H
       replace H : ((gimbalref31_gcd.f kj40 t610 t611).bind fun t612 => ((gimbalref31_gcd.f kj40 t609 t612).bind fun t613 => ((gimbalref31_of.f kj40 t613 a0_2).bind fun bt614 => (some (bt614.1, bt614.2.1, bt614.2.2))))) = some (r1, r2, r3) := H
       have A69 := Aside0.mk A690
       clear A690
       replace H := Option.bind_eq_some_iff.mp H
       obtain ⟨t612, A700, H⟩ := H
       replace H : ((gimbalref31_gcd.f kj40 t609 t612).bind fun t613 => ((gimbalref31_of.f kj40 t613 a0_2).bind fun bt614 => (some (bt614.1, bt614.2.1, bt614.2.2)))) = some (r1, r2, r3) := H
       have A70 := Aside0.mk A700
       clear A700
       replace H := Option.bind_eq_some_iff.mp H
       obtain ⟨t613, A710, H⟩ := H
       replace H : ((gimbalref31_of.f kj40 t613 a0_2).bind fun bt614 => (some (bt614.1, bt614.2.1, bt614.2.2))) = some (r1, r2, r3) := H
       have A71 := Aside0.mk A710
       clear A710
       replace H := Option.bind_eq_some_iff.mp H
       obtain ⟨⟨t614, t615, t616⟩, A720, H⟩ := H
       replace H : (some (t614, t615, t616)) = some (r1, r2, r3) := H
       have A72 := Aside0.mk A720
       clear A720
       simp only [Option.some.injEq, Prod.mk.injEq] at H
       obtain ⟨rfl, rfl, rfl⟩ := H
       try go_wp2
       replace BK599 := Aside0.mk (blk_drew BK599.out)
       replace BK600 := Aside0.mk (blk_drew BK600.out)
       replace BK601 := Aside0.mk (blk_drew BK601.out)
       replace BK602 := Aside0.mk (blk_drew BK602.out)
       replace HB := Aside0.mk (below_drew1 HB.out)
       refine start_ (n := 15) (S := fun w' => w'.cell? ⟨gb599, 0, none⟩ = some (.bool a0_0) ∧ w'.cell? ⟨gb599, 1, none⟩ = some (.int .i64 a0_1) ∧ w'.cell? ⟨gb599, 2, none⟩ = some (.int .i64 a0_2) ∧ w'.cell? ⟨gb600, 0, none⟩ = some (.bool a1_0) ∧ w'.cell? ⟨gb600, 1, none⟩ = some (.int .i64 a1_1) ∧ w'.cell? ⟨gb600, 2, none⟩ = some (.int .i64 a1_2)) (ds := []) #[false, false, false, false, false, false, false, false, false, false, false, false, false, false, false] (by kernel_rfl) rfl rfl ⟨cz0 BK599, cz1 BK599, cz2 BK599, cz0 BK600, cz1 BK600, cz2 BK600⟩ (fun hHeld => ?_); refine with_tabW gimbalref31_Mod.tab6 gimbalref31_Mod.bits6 (fun HT_ HW_ => ?_)
       generalize wc.drew = w73 at BK599 BK600 BK601 BK602 HB hHeld ⊢
       refine pure_ (i := 0) (N := some 33) (v := ?_) (a' := ?_) #[true, false, false, false, false, false, false, false, false, false, false, false, false, false, false] rfl rfl (any_of HT_.out (by kernel_rfl)) (fun _ _ _ h => h) (Or.inl ⟨by rfl, ?_⟩) ?_ ?_
       rotate_left
       ·
        intro w'
        go_simp
        with_reducible rfl
       rotate_left
       ·
        simp only [Act.put, lA, lB, lC, i64_w, i32_w]
        rfl
       refine pure_ (i := 3) (N := some 36) (v := ?_) (a' := ?_) #[true, false, false, true, false, false, false, false, false, false, false, false, false, false, false] rfl rfl (any_of HT_.out (by kernel_rfl)) (fun _ _ _ h => h) (Or.inl ⟨by rfl, ?_⟩) ?_ ?_
       rotate_left
       ·
        intro w'
        go_simp
        with_reducible rfl
       rotate_left
       ·
        simp only [Act.put, lA, lB, lC, i64_w, i32_w]
        rfl
       refine pure_ (i := 6) (N := some 39) (v := ?_) (a' := ?_) #[true, false, false, true, false, false, true, false, false, false, false, false, false, false, false] rfl rfl (any_of HT_.out (by kernel_rfl)) (fun _ _ _ h => h) (Or.inl ⟨by rfl, ?_⟩) ?_ ?_
       rotate_left
       ·
        intro w'
        go_simp
        with_reducible rfl
       rotate_left
       ·
        simp only [Act.put, lA, lB, lC, i64_w, i32_w]
        rfl
       refine pure_ (i := 11) (N := some 44) (v := ?_) (a' := ?_) #[true, false, false, true, false, false, true, false, false, false, false, true, false, false, false] rfl rfl (any_of HT_.out (by kernel_rfl)) (fun _ _ _ h => h) (Or.inl ⟨by rfl, ?_⟩) ?_ ?_
       rotate_left
       ·
        intro w'
        go_simp
        with_reducible rfl
       rotate_left
       ·
        simp only [Act.put, lA, lB, lC, i64_w, i32_w]
        rfl
       refine take_ (i := 1) (N := some 34) (v := ?_) (a' := ?_) #[true, true, false, true, false, false, true, false, false, false, false, true, false, false, false] rfl rfl (take_ofW HT_.out HW_.out (by kernel_rfl)) (fun _ _ _ h => h) (Or.inl ⟨by rfl, ?_⟩) hHeld ?_ ?_
       rotate_left
       ·
        rintro w' ⟨s0, s1, s2, s3, s4, s5⟩
        go_simp
        with_reducible rfl
       rotate_left
       ·
        simp only [Act.put, lA, lB, lC, i64_w, i32_w]
        rfl
       refine take_ (i := 4) (N := some 37) (v := ?_) (a' := ?_) #[true, true, false, true, true, false, true, false, false, false, false, true, false, false, false] rfl rfl (take_ofW HT_.out HW_.out (by kernel_rfl)) (fun _ _ _ h => h) (Or.inl ⟨by rfl, ?_⟩) hHeld ?_ ?_
       rotate_left
       ·
        rintro w' ⟨s0, s1, s2, s3, s4, s5⟩
        go_simp
        with_reducible rfl
       rotate_left
       ·
        simp only [Act.put, lA, lB, lC, i64_w, i32_w]
        rfl
       refine take_ (i := 7) (N := some 40) (v := ?_) (a' := ?_) #[true, true, false, true, true, false, true, true, false, false, false, true, false, false, false] rfl rfl (take_ofW HT_.out HW_.out (by kernel_rfl)) (fun _ _ _ h => h) (Or.inl ⟨by rfl, ?_⟩) hHeld ?_ ?_
       rotate_left
       ·
        rintro w' ⟨s0, s1, s2, s3, s4, s5⟩
        go_simp
        with_reducible rfl
       rotate_left
       ·
        simp only [Act.put, lA, lB, lC, i64_w, i32_w]
        rfl
       refine take_ (i := 12) (N := some 45) (v := ?_) (a' := ?_) #[true, true, false, true, true, false, true, true, false, false, false, true, true, false, false] rfl rfl (take_ofW HT_.out HW_.out (by kernel_rfl)) (fun _ _ _ h => h) (Or.inl ⟨by rfl, ?_⟩) hHeld ?_ ?_
       rotate_left
       ·
        rintro w' ⟨s0, s1, s2, s3, s4, s5⟩
        go_simp
        with_reducible rfl
       rotate_left
       ·
        simp only [Act.put, lA, lB, lC, i64_w, i32_w]
        rfl
       refine one_ (i := 2) (N := some 35) #[true, true, true, true, true, false, true, true, false, false, false, true, true, false, false] rfl rfl (one_of HT_.out (by kernel_rfl)) (by decide) (fun K hK => ?_)
       refine goes_ Tryd.func55 (by kernel_rfl) rfl #[.int .i64 a0_1] (by rfl) rfl rfl mS ?_
       with_reducible refine (gimbalref31_size.calls a0_1 t609 _ A67.out).mono ?_
       rintro e w' ⟨rfl, ⟨nd, rfl⟩⟩
       refine ⟨_, rfl, ?_⟩
       refine hK.out _ _ ⟨cz0 BK599, cz1 BK599, cz2 BK599, cz0 BK600, cz1 BK600, cz2 BK600⟩ (fun hHeld => ?_)
       clear hK K
       refine norm_ (a' := ?_) ?_ ?_
       rotate_left
       ·
        show Act.put _ (some 35) _ = _
        simp only [Act.put, lA, lB, lC, i64_w, i32_w]
        rfl
       refine one_ (i := 5) (N := some 38) #[true, true, true, true, true, true, true, true, false, false, false, true, true, false, false] rfl rfl (one_of HT_.out (by kernel_rfl)) (by decide) (fun K hK => ?_)
       refine goes_ Tryd.func55 (by kernel_rfl) rfl #[.int .i64 a1_1] (by rfl) rfl rfl mS ?_
       with_reducible refine (gimbalref31_size.calls a1_1 t610 _ A68.out).mono ?_
       rintro e w' ⟨rfl, ⟨nd, rfl⟩⟩
       refine ⟨_, rfl, ?_⟩
       refine hK.out _ _ ⟨cz0 BK599, cz1 BK599, cz2 BK599, cz0 BK600, cz1 BK600, cz2 BK600⟩ (fun hHeld => ?_)
       clear hK K
       refine norm_ (a' := ?_) ?_ ?_
       rotate_left
       ·
        show Act.put _ (some 38) _ = _
        simp only [Act.put, lA, lB, lC, i64_w, i32_w]
        rfl
       refine one_ (i := 8) (N := some 41) #[true, true, true, true, true, true, true, true, true, false, false, true, true, false, false] rfl rfl (one_of HT_.out (by kernel_rfl)) (by decide) (fun K hK => ?_)
       refine goes_ Tryd.func55 (by kernel_rfl) rfl #[.int .i64 a1_2] (by rfl) rfl rfl mS ?_
       with_reducible refine (gimbalref31_size.calls a1_2 t611 _ A69.out).mono ?_
       rintro e w' ⟨rfl, ⟨nd, rfl⟩⟩
       refine ⟨_, rfl, ?_⟩
       refine hK.out _ _ ⟨cz0 BK599, cz1 BK599, cz2 BK599, cz0 BK600, cz1 BK600, cz2 BK600⟩ (fun hHeld => ?_)
       clear hK K
       refine norm_ (a' := ?_) ?_ ?_
       rotate_left
       ·
        show Act.put _ (some 41) _ = _
        simp only [Act.put, lA, lB, lC, i64_w, i32_w]
        rfl
       refine one_ (i := 9) (N := some 42) #[true, true, true, true, true, true, true, true, true, true, false, true, true, false, false] rfl rfl (one_of HT_.out (by kernel_rfl)) (by decide) (fun K hK => ?_)
       refine goes_ Tryd.func80 (by kernel_rfl) rfl #[.int .u64 t610, .int .u64 t611] (by rfl) rfl rfl mS ?_
       with_reducible refine (gimbalref31_gcd.calls kj40 t610 t611 t612 _ A70.out).mono ?_
       rintro e w' ⟨rfl, ⟨nd, rfl⟩⟩
       refine ⟨_, rfl, ?_⟩
       refine hK.out _ _ ⟨cz0 BK599, cz1 BK599, cz2 BK599, cz0 BK600, cz1 BK600, cz2 BK600⟩ (fun hHeld => ?_)
       clear hK K
       refine norm_ (a' := ?_) ?_ ?_
       rotate_left
       ·
        show Act.put _ (some 42) _ = _
        simp only [Act.put, lA, lB, lC, i64_w, i32_w]
        rfl
       refine one_ (i := 10) (N := some 43) #[true, true, true, true, true, true, true, true, true, true, true, true, true, false, false] rfl rfl (one_of HT_.out (by kernel_rfl)) (by decide) (fun K hK => ?_)
       refine goes_ Tryd.func80 (by kernel_rfl) rfl #[.int .u64 t609, .int .u64 t612] (by rfl) rfl rfl mS ?_
       with_reducible refine (gimbalref31_gcd.calls kj40 t609 t612 t613 _ A71.out).mono ?_
       rintro e w' ⟨rfl, ⟨nd, rfl⟩⟩
       refine ⟨_, rfl, ?_⟩
       refine hK.out _ _ ⟨cz0 BK599, cz1 BK599, cz2 BK599, cz0 BK600, cz1 BK600, cz2 BK600⟩ (fun hHeld => ?_)
       clear hK K
       refine norm_ (a' := ?_) ?_ ?_
       rotate_left
       ·
        show Act.put _ (some 43) _ = _
        simp only [Act.put, lA, lB, lC, i64_w, i32_w]
        rfl
       refine one_ (i := 13) (N := some 46) #[true, true, true, true, true, true, true, true, true, true, true, true, true, true, false] rfl rfl (one_of HT_.out (by kernel_rfl)) (by decide) (fun K hK => ?_)
       refine goes_ Tryd.func79 (by kernel_rfl) rfl #[.int .u64 t613, .int .i64 a0_2] (by rfl) rfl rfl mS ?_
       with_reducible refine (gimbalref31_of.calls kj40 t613 a0_2 t614 t615 t616 _ A72.out).mono ?_
       rintro e w74 ⟨rfl, hb⟩
       refine ⟨_, rfl, ?_⟩
       replace BK599 := kB BK599 hb
       replace BK600 := kB BK600 hb
       replace BK601 := kB BK601 hb
       replace BK602 := kB BK602 hb
       replace HB := kW HB hb
       (try clear hb)
       (try clear hb2)
       (try clear hk)
       (try clear hi)
       refine hK.out _ _ ⟨cz0 BK599, cz1 BK599, cz2 BK599, cz0 BK600, cz1 BK600, cz2 BK600⟩ (fun hHeld => ?_)
       clear hK K
       refine norm_ (a' := ?_) ?_ ?_
       rotate_left
       ·
        show Act.put _ (some 46) _ = _
        simp only [Act.put, lA, lB, lC, i64_w, i32_w]
        rfl
       refine one_ (i := 14) (N := none) #[true, true, true, true, true, true, true, true, true, true, true, true, true, true, true] rfl rfl (one_of HT_.out (by kernel_rfl)) (by decide) (fun K hK => ?_)
       have hs75 : w74.cell? ⟨gb601, 0, none⟩ = some (.bool false) := cz0 BK601
       have hfs75 := fz BK601 0
       have hns75_0 := NB599_601.out
       have hns75_1 := NB600_601.out
       have hns75_3 := NB602_601.out
       have hms75_0 := NB601_599.out
       have hms75_1 := NB601_600.out
       have hms75_3 := NB601_602.out
       have hs76 : w74.cell? ⟨gb601, 1, none⟩ = some (.int .i64 0) := cz1 BK601
       have hfs76 := fz BK601 1
       have hns76_0 := NB599_601.out
       have hns76_1 := NB600_601.out
       have hns76_3 := NB602_601.out
       have hms76_0 := NB601_599.out
       have hms76_1 := NB601_600.out
       have hms76_3 := NB601_602.out
       have hs77 : w74.cell? ⟨gb601, 2, none⟩ = some (.int .i64 0) := cz2 BK601
       have hfs77 := fz BK601 2
       have hns77_0 := NB599_601.out
       have hns77_1 := NB600_601.out
       have hns77_3 := NB602_601.out
       have hms77_0 := NB601_599.out
       have hms77_1 := NB601_600.out
       have hms77_3 := NB601_602.out
       refine skip_ (w1 := ?_) (by rfl) rfl ?_ ?_
       rotate_left
       ·
        go_simp
        rfl
       refine hK.out _ _ ⟨((cell_far (p := ⟨gb601, _, none⟩) NB599_601.out _).trans (((cell_far (p := ⟨gb601, _, none⟩) NB599_601.out _).trans (((cell_far (p := ⟨gb601, _, none⟩) NB599_601.out _).trans (hHeld.1)))))), ((cell_far (p := ⟨gb601, _, none⟩) NB599_601.out _).trans (((cell_far (p := ⟨gb601, _, none⟩) NB599_601.out _).trans (((cell_far (p := ⟨gb601, _, none⟩) NB599_601.out _).trans (hHeld.2.1)))))), ((cell_far (p := ⟨gb601, _, none⟩) NB599_601.out _).trans (((cell_far (p := ⟨gb601, _, none⟩) NB599_601.out _).trans (((cell_far (p := ⟨gb601, _, none⟩) NB599_601.out _).trans (hHeld.2.2.1)))))), ((cell_far (p := ⟨gb601, _, none⟩) NB600_601.out _).trans (((cell_far (p := ⟨gb601, _, none⟩) NB600_601.out _).trans (((cell_far (p := ⟨gb601, _, none⟩) NB600_601.out _).trans (hHeld.2.2.2.1)))))), ((cell_far (p := ⟨gb601, _, none⟩) NB600_601.out _).trans (((cell_far (p := ⟨gb601, _, none⟩) NB600_601.out _).trans (((cell_far (p := ⟨gb601, _, none⟩) NB600_601.out _).trans (hHeld.2.2.2.2.1)))))), ((cell_far (p := ⟨gb601, _, none⟩) NB600_601.out _).trans (((cell_far (p := ⟨gb601, _, none⟩) NB600_601.out _).trans (((cell_far (p := ⟨gb601, _, none⟩) NB600_601.out _).trans (hHeld.2.2.2.2.2))))))⟩ (fun hHeld => ?_)
       clear hK K
       refine done_ (done_of HT_.out (by kernel_rfl)) ?_
       try go_wp2
       refine bodyPost_ret (results_cell_row rfl _ _ gb601 23 #[.bool t614, .int .i64 t615, .int .i64 t616] (0, 0) _ rfl (by (with_reducible repeat (first | refine b1 ?_ _ | refine b2 ?_ | refine b3 ?_ _)); refine blk_put (cs := #[.bool t614, .int .i64 t615, .int .i64 0]) ?_ 2 _ rfl; (with_reducible repeat (first | refine b1 ?_ _ | refine b2 ?_ | refine b3 ?_ _)); refine blk_put (cs := #[.bool t614, .int .i64 0, .int .i64 0]) ?_ 1 _ rfl; (with_reducible repeat (first | refine b1 ?_ _ | refine b2 ?_ | refine b3 ?_ _)); refine blk_put (cs := #[.bool false, .int .i64 0, .int .i64 0]) ?_ 0 _ rfl; (with_reducible repeat (first | refine b1 ?_ _ | refine b2 ?_ | refine b3 ?_ _)); exact BK601.out) Tryd.underlying23 rfl (by kernel_rfl)) rfl ?_
       exact ⟨eS, bS HB⟩

end Go.Proofs.YtfmmjekhknaniaaDoor.Pr

namespace Go.Proofs.YtfmmjekhknaniaaDoor.Core
open Go.RowKit Go.Proofs.YtfmmjekhknaniaaDoor.Pr Go.Proofs.YtfmmjekhknaniaaDoorW.PrintWords

theorem Leq_f {a b : Cg} (ha : Fit a) (hb : Fit b) : Ev (fun k => congr_Leq.f k a.1 a.2.1 a.2.2 b.1 b.2.1 b.2.2) (leqB a b) := by
  unfold congr_Leq.f
  by_cases h1 : a.1 = true
  · simp only [if_pos h1]
    rw [show leqB a b = true from leqB_iff.mpr (Sub.none _ h1)]; exact Ev.now _
  · simp only [if_neg h1]
    by_cases h2 : b.1 = true
    · simp only [if_pos h2]
      have : leqB a b = false := by
        cases hb' : leqB a b
        · rfl
        · have := none_of_sub ha (leqB_iff.mp hb') h2
          rw [this] at h1; exact absurd rfl h1
      rw [this]; exact Ev.now _
    · simp only [if_neg h2]
      refine Ev.bind (Join_f ha hb) ?_
      have : ((joinS a b).1 == b.1 && ((joinS a b).2.1 == b.2.1 && ((joinS a b).2.2 == b.2.2))) = leqB a b :=
        beq_bool (by rw [eq3, leqB_iff]; exact join_eq_iff ha hb)
      rw [this]; exact Ev.now _

theorem rof_f {g r : Int} (h0 : 0 ≤ g) (h1 : g ≤ 18446744073709551615) (h2 : -9223372036854775808 ≤ r) (h3 : r ≤ 9223372036854775807) (k : Nat) :
    gimbalref31_of.f (k + 8) g r = some (norm g r) := by
  unfold gimbalref31_of.f
  rw [rsize_f h2 h3]
  simp only [Option.bind_some]
  rw [class_ab h0 h1 h2 h3]; rfl

theorem rJoin_f {a b : Cg} (ha : Fit a) (hb : Fit b) : Ev (fun k => gimbalref31_Join.f k a.1 a.2.1 a.2.2 b.1 b.2.1 b.2.2) (joinS a b) := by
  have ma := fit_mod ha
  have mb := fit_mod hb
  unfold gimbalref31_Join.f joinS
  by_cases h1 : a.1 = true
  · simp only [if_pos h1]; exact Ev.now _
  · simp only [if_neg h1]
    by_cases h2 : b.1 = true
    · simp only [if_pos h2]; exact Ev.now _
    · simp only [if_neg h2]
      rw [rsize_f (x := a.2.1) (by omega) (by omega), rsize_f (x := b.2.1) (by omega) (by omega), w64_id (n := a.2.2 - b.2.2) (by omega) (by omega), rsize_f (x := a.2.2 - b.2.2) (by omega) (by omega), ab_of_nonneg (x := a.2.1) (by omega), ab_of_nonneg (x := b.2.1) (by omega)]
      simp only [Option.bind_some]
      refine Ev.bind (rgcd_f (by omega) (by omega)) ?_
      have := rgcd_f (G_nonneg a.2.1 b.2.1) (ab_nonneg (a.2.2 - b.2.2))
      rw [G_ab] at this
      refine Ev.bind this ?_
      exact Ev.bind (ev_of 8 (rof_f (G_nonneg _ _) (apart_le ha hb) (by omega) (by omega))) (Ev.now _)

theorem leqB_const {a b : Cg} (ha : Fit a) (hn : a.1 = false) (h0 : a.2.1 = 0) : leqB a b = memB b a.2.2 := by
  have hr := fit_rem ha
  refine beq_bool ?_
  rw [leqB_iff, memB_iff]
  constructor
  · intro h
    exact h _ ⟨hn, by unfold In32; omega, by rw [Int.sub_self]; exact Int.dvd_zero _⟩
  · intro h x hx
    have := hx.2.2
    rw [h0, Int.zero_dvd] at this
    rwa [show x = a.2.2 by omega]

theorem rLeq_f {a b : Cg} (ha : Fit a) (hb : Fit b) : Ev (fun k => gimbalref31_Leq.f k a.1 a.2.1 a.2.2 b.1 b.2.1 b.2.2) (leqB a b) := by
  have ma := fit_mod ha
  have mb := fit_mod hb
  refine ev_of 9 fun k => ?_
  unfold gimbalref31_Leq.f
  by_cases h1 : a.1 = true
  · rw [if_pos h1, show leqB a b = true from leqB_iff.mpr (Sub.none _ h1)]
    simp [gimbalref31_Leq.j0, h1]
  · rw [if_neg h1]
    by_cases h2 : b.1 = true
    · have : leqB a b = false := by
        cases hb' : leqB a b
        · rfl
        · have := none_of_sub ha (leqB_iff.mp hb') h2
          rw [this] at h1; exact absurd rfl h1
      rw [this]
      simp [gimbalref31_Leq.j0, h1, h2]
    · simp only [gimbalref31_Leq.j0]
      rw [if_neg h2]
      by_cases h3 : a.2.1 = 0
      · rw [if_pos h3, leqB_const ha (bfalse h1) h3, rHas_f hb (by unfold I64; omega)]; rfl
      · rw [if_neg h3]
        by_cases h4 : b.2.1 = 0
        · rw [if_pos h4]
          congr 1
          refine beq_bool ?_
          rw [leqB_iff]
          simp only [Bool.false_eq_true, false_iff]
          intro h
          obtain ⟨_, c1, _⟩ := sub_dvd ha (bfalse h1) h
          rw [h4, Int.zero_dvd] at c1
          exact h3 c1
        · rw [if_neg h4, w64_id (by omega) (by omega)]
          by_cases h5 : Int.tmod a.2.1 b.2.1 = 0
          · rw [if_pos h5]
            congr 1
            refine beq_bool ?_
            rw [leqB_iff, beq_iff_eq, tmod_zero_iff]
            rw [tmod_zero_iff] at h5
            exact ⟨fun h => sub_of (bfalse h2) h5 h, fun h => (sub_dvd ha (bfalse h1) h).2.2⟩
          · rw [if_neg h5]
            congr 1
            refine beq_bool ?_
            rw [leqB_iff]
            simp only [Bool.false_eq_true, false_iff]
            intro h
            exact h5 (tmod_zero_iff.mpr (sub_dvd ha (bfalse h1) h).2.1)

theorem Neg_f {a : Cg} (ha : Fit a) (k : Nat) : congr_Neg.f (k + 1) a.1 a.2.1 a.2.2 = some (negS a) := by
  have ma := fit_mod ha
  unfold congr_Neg.f negS
  by_cases h1 : a.1 = true
  · rw [if_pos h1, if_pos h1, eta3, fit_of_none ha h1]
  · rw [if_neg h1, if_neg h1, u64_id (by omega) (by omega), w64_id (by omega) (by omega), by_f (by omega) (by omega) (by omega) (by omega)]; rfl
theorem rNeg_f {a : Cg} (ha : Fit a) (k : Nat) : gimbalref31_Neg.f (k + 8) a.1 a.2.1 a.2.2 = some (negS a) := by
  have ma := fit_mod ha
  unfold gimbalref31_Neg.f negS
  by_cases h1 : a.1 = true
  · rw [if_pos h1, if_pos h1]; rfl
  · rw [if_neg h1, if_neg h1, rsize_f (by omega) (by omega), w64_id (by omega) (by omega)]
    simp only [Option.bind_some]
    rw [ab_of_nonneg (by omega), rof_f (by omega) (by omega) (by omega) (by omega)]; rfl

theorem addsub_j {m n : Int} (hm : 0 ≤ m ∧ m ≤ 4294967295) (hn : 0 ≤ n ∧ n ≤ 4294967295) : G m n ≤ 18446744073709551615 :=
  G_le hm.1 hn.1 (by omega) (by omega)

theorem Add_f {a b : Cg} (ha : Fit a) (hb : Fit b) : Ev (fun k => congr_Add.f k a.1 a.2.1 a.2.2 b.1 b.2.1 b.2.2) (addS a b) := by
  have ma := fit_mod ha
  have mb := fit_mod hb
  obtain ⟨K, hK⟩ := gcd_f (a := a.2.1) (b := b.2.1) (by omega) (by omega)
  refine ⟨K + 5, fun k hk => ?_⟩
  obtain ⟨j, rfl⟩ : ∃ j, k = j + 2 := ⟨k - 2, by omega⟩
  dsimp only at hK ⊢
  unfold congr_Add.f addS
  by_cases h1 : a.1 = true
  · rw [if_pos h1, if_pos h1]; simp [congr_Add.j0, congr_none.f]
  · rw [if_neg h1, if_neg h1]
    simp only [congr_Add.j0]
    by_cases h2 : b.1 = true
    · rw [if_pos h2, if_pos h2]; rfl
    · rw [if_neg h2, if_neg h2, u64_id (n := a.2.1) (by omega) (by omega), u64_id (n := b.2.1) (by omega) (by omega), w64_id (by omega) (by omega), hK _ (by omega)]
      simp only [Option.bind_some]
      rw [by_f (G_nonneg _ _) (addsub_j (by omega) (by omega)) (by omega) (by omega)]; rfl
theorem rAdd_f {a b : Cg} (ha : Fit a) (hb : Fit b) : Ev (fun k => gimbalref31_Add.f k a.1 a.2.1 a.2.2 b.1 b.2.1 b.2.2) (addS a b) := by
  have ma := fit_mod ha
  have mb := fit_mod hb
  obtain ⟨K, hK⟩ := rgcd_f (a := a.2.1) (b := b.2.1) (by omega) (by omega)
  refine ⟨K + 9, fun k hk => ?_⟩
  obtain ⟨j, rfl⟩ : ∃ j, k = j + 9 := ⟨k - 9, by omega⟩
  dsimp only at hK ⊢
  unfold gimbalref31_Add.f addS
  by_cases h1 : a.1 = true
  · rw [if_pos h1, if_pos h1]; simp [gimbalref31_Add.j0, gimbalref31_None.f]
  · rw [if_neg h1, if_neg h1]
    simp only [gimbalref31_Add.j0]
    by_cases h2 : b.1 = true
    · rw [if_pos h2, if_pos h2]; rfl
    · rw [if_neg h2, if_neg h2, rsize_f (x := a.2.1) (by omega) (by omega), rsize_f (x := b.2.1) (by omega) (by omega), w64_id (by omega) (by omega), ab_of_nonneg (x := a.2.1) (by omega), ab_of_nonneg (x := b.2.1) (by omega)]
      simp only [Option.bind_some]
      rw [hK _ (by omega)]
      simp only [Option.bind_some]
      rw [rof_f (G_nonneg _ _) (addsub_j (by omega) (by omega)) (by omega) (by omega)]; rfl
theorem Sub_f {a b : Cg} (ha : Fit a) (hb : Fit b) : Ev (fun k => congr_Sub.f k a.1 a.2.1 a.2.2 b.1 b.2.1 b.2.2) (subS a b) := by
  have ma := fit_mod ha
  have mb := fit_mod hb
  obtain ⟨K, hK⟩ := gcd_f (a := a.2.1) (b := b.2.1) (by omega) (by omega)
  refine ⟨K + 5, fun k hk => ?_⟩
  obtain ⟨j, rfl⟩ : ∃ j, k = j + 2 := ⟨k - 2, by omega⟩
  dsimp only at hK ⊢
  unfold congr_Sub.f subS
  by_cases h1 : a.1 = true
  · rw [if_pos h1, if_pos h1]; simp [congr_Sub.j0, congr_none.f]
  · rw [if_neg h1, if_neg h1]
    simp only [congr_Sub.j0]
    by_cases h2 : b.1 = true
    · rw [if_pos h2, if_pos h2]; rfl
    · rw [if_neg h2, if_neg h2, u64_id (n := a.2.1) (by omega) (by omega), u64_id (n := b.2.1) (by omega) (by omega), w64_id (by omega) (by omega), hK _ (by omega)]
      simp only [Option.bind_some]
      rw [by_f (G_nonneg _ _) (addsub_j (by omega) (by omega)) (by omega) (by omega)]; rfl
theorem rSub_f {a b : Cg} (ha : Fit a) (hb : Fit b) : Ev (fun k => gimbalref31_Sub.f k a.1 a.2.1 a.2.2 b.1 b.2.1 b.2.2) (subS a b) := by
  have ma := fit_mod ha
  have mb := fit_mod hb
  obtain ⟨K, hK⟩ := rgcd_f (a := a.2.1) (b := b.2.1) (by omega) (by omega)
  refine ⟨K + 9, fun k hk => ?_⟩
  obtain ⟨j, rfl⟩ : ∃ j, k = j + 9 := ⟨k - 9, by omega⟩
  dsimp only at hK ⊢
  unfold gimbalref31_Sub.f subS
  by_cases h1 : a.1 = true
  · rw [if_pos h1, if_pos h1]; simp [gimbalref31_Sub.j0, gimbalref31_None.f]
  · rw [if_neg h1, if_neg h1]
    simp only [gimbalref31_Sub.j0]
    by_cases h2 : b.1 = true
    · rw [if_pos h2, if_pos h2]; rfl
    · rw [if_neg h2, if_neg h2, rsize_f (x := a.2.1) (by omega) (by omega), rsize_f (x := b.2.1) (by omega) (by omega), w64_id (by omega) (by omega), ab_of_nonneg (x := a.2.1) (by omega), ab_of_nonneg (x := b.2.1) (by omega)]
      simp only [Option.bind_some]
      rw [hK _ (by omega)]
      simp only [Option.bind_some]
      rw [rof_f (G_nonneg _ _) (addsub_j (by omega) (by omega)) (by omega) (by omega)]; rfl

theorem zero_beq (b : Cg) : (!b.1 && (b.2.1 == 0 && (b.2.2 == 0))) = true ↔ b.1 = false ∧ b.2.1 = 0 ∧ b.2.2 = 0 := by simp

theorem tdiv_range {x d m : Int} (h : -m ≤ x) (h' : x ≤ m) : -m ≤ Int.tdiv x d ∧ Int.tdiv x d ≤ m := by
  have e : (Int.tdiv x d).natAbs ≤ x.natAbs := by rw [Int.natAbs_tdiv]; exact Nat.div_le_self _ _
  omega

theorem Div_f {a b : Cg} (ha : Fit a) (hb : Fit b) (k : Nat) : congr_Div.f (k + 9) a.1 a.2.1 a.2.2 b.1 b.2.1 b.2.2 = some (divS a b) := by
  have ma := fit_mod ha
  have mb := fit_mod hb
  unfold congr_Div.f divS
  by_cases h1 : a.1 = true
  · rw [if_pos h1, if_pos h1]; simp [congr_Div.j0, congr_none.f]
  rw [if_neg h1, if_neg h1]
  by_cases h2 : b.1 = true
  · rw [if_pos h2, if_pos h2]; simp [congr_Div.j0, congr_none.f]
  rw [if_neg h2, if_neg h2]
  by_cases h3 : b.2.1 = 0 ∧ b.2.2 = 0
  · rw [if_pos h3, (zero_beq b).mpr ⟨bfalse h2, h3⟩]; simp [congr_Div.j0, congr_none.f]
  rw [if_neg h3]
  have hz : (!b.1 && (b.2.1 == 0 && (b.2.2 == 0))) = false := by
    cases hq : (!b.1 && (b.2.1 == 0 && (b.2.2 == 0)))
    · rfl
    · exact absurd ((zero_beq b).mp hq).2 h3
  rw [hz]
  simp only [congr_Div.j0, Bool.false_eq_true, if_false]
  by_cases h4 : b.2.1 = 0
  · have hd : b.2.2 ≠ 0 := fun e => h3 ⟨h4, e⟩
    have t1 := tdiv_range (x := a.2.2) (d := b.2.2) (m := 4294967295) (by omega) (by omega)
    have t2 := tdiv_range (x := a.2.1) (d := b.2.2) (m := 4294967295) (by omega) (by omega)
    rw [if_pos h4, if_neg (show ¬ (b.2.1 ≠ 0) by omega)]
    by_cases h5 : a.2.1 = 0
    · rw [if_pos h5, if_neg hd, if_pos (Or.inl h5), w64_id (by omega) (by omega), constant_f, h5, Int.zero_tdiv]; rfl
    · rw [if_neg h5, if_neg hd]
      by_cases h6 : Int.tmod a.2.1 b.2.2 = 0
      · rw [if_pos h6]
        simp only [congr_Div.j1]
        rw [tmod_zero_iff] at h6
        by_cases h7 : Int.tmod a.2.2 b.2.2 = 0
        · rw [show (Int.tmod a.2.2 b.2.2 == 0) = true by simp [h7], if_pos rfl, if_neg hd, w64_id (by omega) (by omega), w64_id (by omega) (by omega), Of_f (by omega) (by omega) (by omega) (by omega)]
          rw [tmod_zero_iff] at h7
          rw [if_pos (Or.inr ⟨h6, h7⟩)]; rfl
        · rw [show (Int.tmod a.2.2 b.2.2 == 0) = false by simp [h7], if_neg (by simp)]
          rw [tmod_zero_iff] at h7
          rw [if_neg (by rintro (e | e); exact h5 e; exact h7 e.2)]; rfl
      · rw [if_neg h6]
        rw [tmod_zero_iff] at h6
        simp only [congr_Div.j1, Bool.false_eq_true, if_false]
        rw [if_neg (by rintro (e | e); exact h5 e; exact h6 e.1)]; rfl
  · rw [if_neg h4, if_pos h4]; rfl

theorem rDiv_f {a b : Cg} (ha : Fit a) (hb : Fit b) (k : Nat) : gimbalref31_Div.f (k + 10) a.1 a.2.1 a.2.2 b.1 b.2.1 b.2.2 = some (divS a b) := by
  have ma := fit_mod ha
  have mb := fit_mod hb
  unfold gimbalref31_Div.f divS
  by_cases h1 : a.1 = true
  · rw [if_pos h1, if_pos h1]; simp [gimbalref31_Div.j0, gimbalref31_None.f]
  rw [if_neg h1, if_neg h1]
  by_cases h2 : b.1 = true
  · rw [if_pos h2, if_pos h2]; simp [gimbalref31_Div.j0, gimbalref31_None.f]
  rw [if_neg h2, if_neg h2]
  by_cases h3 : b.2.1 = 0 ∧ b.2.2 = 0
  · rw [if_pos h3, (zero_beq b).mpr ⟨bfalse h2, h3⟩]; simp [gimbalref31_Div.j0, gimbalref31_None.f]
  rw [if_neg h3]
  have hz : (!b.1 && (b.2.1 == 0 && (b.2.2 == 0))) = false := by
    cases hq : (!b.1 && (b.2.1 == 0 && (b.2.2 == 0)))
    · rfl
    · exact absurd ((zero_beq b).mp hq).2 h3
  rw [hz]
  simp only [gimbalref31_Div.j0, Bool.false_eq_true, if_false]
  by_cases h4 : b.2.1 = 0
  · have hd : b.2.2 ≠ 0 := fun e => h3 ⟨h4, e⟩
    have t1 := tdiv_range (x := a.2.2) (d := b.2.2) (m := 4294967295) (by omega) (by omega)
    have t2 := tdiv_range (x := a.2.1) (d := b.2.2) (m := 4294967295) (by omega) (by omega)
    rw [if_pos h4, if_neg (show ¬ (b.2.1 ≠ 0) by omega)]
    by_cases h5 : a.2.1 = 0
    · rw [if_pos h5, if_pos (Or.inl h5)]
      simp only [gimbalref31_Div.j1, if_true]
      rw [if_neg hd, w64_id (by omega) (by omega), w64_id (by omega) (by omega), rOf_f (by omega) (by omega) (by omega) (by omega)]; rfl
    · rw [if_neg h5, if_neg hd]
      by_cases h6 : Int.tmod a.2.1 b.2.2 = 0
      · rw [if_pos h6]
        simp only [gimbalref31_Div.j1]
        rw [tmod_zero_iff] at h6
        by_cases h7 : Int.tmod a.2.2 b.2.2 = 0
        · rw [show (Int.tmod a.2.2 b.2.2 == 0) = true by simp [h7], if_pos rfl, if_neg hd, w64_id (by omega) (by omega), w64_id (by omega) (by omega), rOf_f (by omega) (by omega) (by omega) (by omega)]
          rw [tmod_zero_iff] at h7
          rw [if_pos (Or.inr ⟨h6, h7⟩)]; rfl
        · rw [show (Int.tmod a.2.2 b.2.2 == 0) = false by simp [h7], if_neg (by simp)]
          rw [tmod_zero_iff] at h7
          rw [if_neg (by rintro (e | e); exact h5 e; exact h7 e.2)]; rfl
      · rw [if_neg h6]
        rw [tmod_zero_iff] at h6
        simp only [gimbalref31_Div.j1, Bool.false_eq_true, if_false]
        rw [if_neg (by rintro (e | e); exact h5 e; exact h6 e.1)]; rfl
  · rw [if_neg h4, if_pos h4]; rfl

theorem Mod_f {a b : Cg} (ha : Fit a) (hb : Fit b) : Ev (fun k => congr_Mod.f k a.1 a.2.1 a.2.2 b.1 b.2.1 b.2.2) (modS a b) := by
  have ma := fit_mod ha
  have mb := fit_mod hb
  obtain ⟨K, hK⟩ := gcd_f (a := a.2.1) (b := b.2.1) (by omega) (by omega)
  obtain ⟨L, hL⟩ := gcd_f (G_nonneg a.2.1 b.2.1) (ab_nonneg b.2.2)
  rw [G_ab] at hL
  refine ⟨K + L + 5, fun k hk => ?_⟩
  obtain ⟨j, rfl⟩ : ∃ j, k = j + 3 := ⟨k - 3, by omega⟩
  dsimp only at hK hL ⊢
  unfold congr_Mod.f modS
  by_cases h1 : a.1 = true
  · rw [if_pos h1, if_pos h1]; simp [congr_Mod.j0, congr_none.f]
  rw [if_neg h1, if_neg h1]
  by_cases h2 : b.1 = true
  · rw [if_pos h2, if_pos h2]; simp [congr_Mod.j0, congr_none.f]
  rw [if_neg h2, if_neg h2]
  by_cases h3 : b.2.1 = 0 ∧ b.2.2 = 0
  · rw [if_pos h3, (zero_beq b).mpr ⟨bfalse h2, h3⟩]; simp [congr_Mod.j0, congr_none.f]
  rw [if_neg h3]
  have hz : (!b.1 && (b.2.1 == 0 && (b.2.2 == 0))) = false := by
    cases hq : (!b.1 && (b.2.1 == 0 && (b.2.2 == 0)))
    · rfl
    · exact absurd ((zero_beq b).mp hq).2 h3
  rw [hz]
  have tail : congr_Mod.j1 (j + 2) a.1 a.2.1 a.2.2 b.1 b.2.1 b.2.2 = some (norm (G (G a.2.1 b.2.1) b.2.2) a.2.2) := by
    simp only [congr_Mod.j1]
    rw [u64_id (n := a.2.1) (by omega) (by omega), u64_id (n := b.2.1) (by omega) (by omega), hK _ (by omega)]
    simp only [Option.bind_some]
    rw [size_f (by omega) (by omega)]
    simp only [Option.bind_some]
    rw [hL _ (by omega)]
    simp only [Option.bind_some]
    rw [by_f (G_nonneg _ _) ?_ (by omega) (by omega)]; rfl
    rw [← G_ab]
    exact G_le (G_nonneg _ _) (ab_nonneg _) (addsub_j (by omega) (by omega)) (ab_le (by omega) (by omega))
  simp only [congr_Mod.j0, Bool.false_eq_true, if_false]
  by_cases h4 : a.2.1 = 0
  · rw [if_pos h4]
    by_cases h5 : b.2.1 = 0
    · rw [if_pos h5, if_neg (fun e => h3 ⟨h5, e⟩), if_pos ⟨h4, h5⟩, constant_f]; rfl
    · rw [if_neg h5, if_neg (fun e => h5 e.2), tail]
  · rw [if_neg h4, if_neg (fun e => h4 e.1), tail]

theorem tmod_range {x d m : Int} (h : -m ≤ x) (h' : x ≤ m) : -m ≤ Int.tmod x d ∧ Int.tmod x d ≤ m := by
  have e : (Int.tmod x d).natAbs ≤ x.natAbs := by rw [Int.natAbs_tmod]; exact Nat.mod_le _ _
  omega

theorem rMod_f {a b : Cg} (ha : Fit a) (hb : Fit b) : Ev (fun k => gimbalref31_Mod.f k a.1 a.2.1 a.2.2 b.1 b.2.1 b.2.2) (modS a b) := by
  have ma := fit_mod ha
  have mb := fit_mod hb
  obtain ⟨K, hK⟩ := rgcd_f (a := b.2.1) (b := ab b.2.2) (by omega) (ab_nonneg _)
  rw [G_ab] at hK
  obtain ⟨L, hL⟩ := rgcd_f (a := a.2.1) (b := G b.2.1 b.2.2) (by omega) (G_nonneg _ _)
  have hG : G a.2.1 (G b.2.1 b.2.2) = G (G a.2.1 b.2.1) b.2.2 := by
    refine Int.dvd_antisymm (G_nonneg _ _) (G_nonneg _ _) ?_ ?_
    · rw [dvd_G, dvd_G]
      exact ⟨⟨G_dvd_l _ _, Int.dvd_trans (G_dvd_r _ _) (G_dvd_l _ _)⟩, Int.dvd_trans (G_dvd_r _ _) (G_dvd_r _ _)⟩
    · rw [dvd_G, dvd_G]
      exact ⟨Int.dvd_trans (G_dvd_l _ _) (G_dvd_l _ _), Int.dvd_trans (G_dvd_l _ _) (G_dvd_r _ _), G_dvd_r _ _⟩
  rw [hG] at hL
  refine ⟨K + L + 12, fun k hk => ?_⟩
  obtain ⟨j, rfl⟩ : ∃ j, k = j + 10 := ⟨k - 10, by omega⟩
  dsimp only at hK hL ⊢
  unfold gimbalref31_Mod.f modS
  by_cases h1 : a.1 = true
  · rw [if_pos h1, if_pos h1]; simp [gimbalref31_Mod.j0, gimbalref31_None.f]
  rw [if_neg h1, if_neg h1]
  by_cases h2 : b.1 = true
  · rw [if_pos h2, if_pos h2]; simp [gimbalref31_Mod.j0, gimbalref31_None.f]
  rw [if_neg h2, if_neg h2]
  by_cases h3 : b.2.1 = 0 ∧ b.2.2 = 0
  · rw [if_pos h3, (zero_beq b).mpr ⟨bfalse h2, h3⟩]; simp [gimbalref31_Mod.j0, gimbalref31_None.f]
  rw [if_neg h3]
  have hz : (!b.1 && (b.2.1 == 0 && (b.2.2 == 0))) = false := by
    cases hq : (!b.1 && (b.2.1 == 0 && (b.2.2 == 0)))
    · rfl
    · exact absurd ((zero_beq b).mp hq).2 h3
  rw [hz]
  have tail : gimbalref31_Mod.j1 (j + 9) false a.1 a.2.1 a.2.2 b.1 b.2.1 b.2.2 = some (norm (G (G a.2.1 b.2.1) b.2.2) a.2.2) := by
    simp only [gimbalref31_Mod.j1, Bool.false_eq_true, if_false]
    rw [rsize_f (x := a.2.1) (by omega) (by omega), rsize_f (x := b.2.1) (by omega) (by omega), rsize_f (x := b.2.2) (by omega) (by omega), ab_of_nonneg (x := a.2.1) (by omega), ab_of_nonneg (x := b.2.1) (by omega)]
    simp only [Option.bind_some]
    rw [hK _ (by omega)]
    simp only [Option.bind_some]
    rw [hL _ (by omega)]
    simp only [Option.bind_some]
    rw [rof_f (G_nonneg _ _) ?_ (by omega) (by omega)]; rfl
    rw [← G_ab]
    exact G_le (G_nonneg _ _) (ab_nonneg _) (addsub_j (by omega) (by omega)) (ab_le (by omega) (by omega))
  simp only [gimbalref31_Mod.j0, Bool.false_eq_true, if_false]
  by_cases h4 : a.2.1 = 0
  · rw [if_pos h4]
    by_cases h5 : b.2.1 = 0
    · have hd : b.2.2 ≠ 0 := fun e => h3 ⟨h5, e⟩
      have t := tmod_range (x := a.2.2) (d := b.2.2) (m := 4294967295) (by omega) (by omega)
      rw [show (b.2.1 == 0) = true by simp [h5], if_pos ⟨h4, h5⟩]
      simp only [gimbalref31_Mod.j1, if_true]
      rw [if_neg hd, rOf_f (by omega) (by omega) (by omega) (by omega)]; rfl
    · rw [show (b.2.1 == 0) = false by simp [h5], if_neg (fun e => h5 e.2), tail]
  · rw [if_neg h4, if_neg (fun e => h4 e.1), tail]

theorem Abs_f {a : Cg} (ha : Fit a) : Ev (fun k => congr_Abs.f k a.1 a.2.1 a.2.2) (absS a) := by
  have ma := fit_mod ha
  have mr := fit_rem ha
  obtain ⟨K, hK⟩ := Join_f ha (fit_neg ha)
  refine ⟨K + 5, fun k hk => ?_⟩
  obtain ⟨j, rfl⟩ : ∃ j, k = j + 3 := ⟨k - 3, by omega⟩
  dsimp only at hK ⊢
  unfold congr_Abs.f absS
  by_cases h1 : a.1 = true
  · have e := fit_of_none ha h1
    rw [if_pos h1, if_pos h1, e]; simp [congr_Abs.j0]
  rw [if_neg h1, if_neg h1]
  by_cases h2 : a.2.1 = 0
  · rw [if_pos h2, show (a.2.1 == 0) = true by simp [h2]]
    simp only [congr_Abs.j0, if_true]
    by_cases h3 : a.2.2 < 0
    · rw [if_pos h3, w64_id (by omega) (by omega), constant_f]
      unfold ab; rw [if_pos h3]; rfl
    · rw [if_neg h3, ab_of_nonneg (by omega)]
      have e := norm_self ha (bfalse h1)
      rw [h2] at e
      rw [e]
  · rw [if_neg h2, show (a.2.1 == 0) = false by simp [h2]]
    simp only [congr_Abs.j0, Bool.false_eq_true, if_false]
    rw [show j + 2 = (j + 1) + 1 by omega, Neg_f ha]
    simp only [Option.bind_some]
    rw [hK _ (by omega)]; rfl

theorem rAbs_f {a : Cg} (ha : Fit a) : Ev (fun k => gimbalref31_Abs.f k a.1 a.2.1 a.2.2) (absS a) := by
  have ma := fit_mod ha
  have mr := fit_rem ha
  obtain ⟨K, hK⟩ := rJoin_f ha (fit_neg ha)
  refine ⟨K + 15, fun k hk => ?_⟩
  obtain ⟨j, rfl⟩ : ∃ j, k = j + 8 := ⟨k - 8, by omega⟩
  dsimp only at hK ⊢
  unfold gimbalref31_Abs.f absS
  by_cases h1 : a.1 = true
  · rw [if_pos h1, if_pos h1]; rfl
  rw [if_neg h1, if_neg h1]
  by_cases h2 : a.2.1 = 0
  · have e : mx a.2.2 (wrap64 (-a.2.2)) = ab a.2.2 := by
      rw [w64_id (by omega) (by omega)]; unfold mx ab; (repeat' split) <;> omega
    rw [if_pos h2, if_pos h2, e]
    have hb : -4294967295 ≤ ab a.2.2 ∧ ab a.2.2 ≤ 4294967295 := by unfold ab; split <;> omega
    rw [rOf_f (by omega) (by omega) (by omega) (by omega)]; rfl
  · rw [if_neg h2, if_neg h2, rNeg_f ha]
    simp only [Option.bind_some]
    rw [hK _ (by omega)]; rfl

end Go.Proofs.YtfmmjekhknaniaaDoor.Core

namespace Go.Proofs.YtfmmjekhknaniaaDoor.Pr
open Go.RowKit Go.Proofs.YtfmmjekhknaniaaDoor.Given Go.Proofs.YtfmmjekhknaniaaDoorW.PrintWords Go.Proofs.YtfmmjekhknaniaaDoorW.PrintLast Go.Proofs.YtfmmjekhknaniaaDoorW.PrintMore
attribute [local go_sem] max2_int min2_int max_two min_two max_three min_three max_four min_four   -- for this text's walks alone
set_option linter.unusedVariables false
set_option linter.unusedSimpArgs false

def bits_Mul64.f (a0 : Int) (a1 : Int) : Option (Int × Int) := some (IntKind.u64.wrap ((IntKind.u64.wrap ((IntKind.u64.wrap ((a0 / 4294967296) * (a1 / 4294967296))) + ((IntKind.u64.wrap ((IntKind.u64.wrap ((a0 / 4294967296) * (Go.bits .and .u64 a1 4294967295))) + ((IntKind.u64.wrap ((Go.bits .and .u64 a0 4294967295) * (Go.bits .and .u64 a1 4294967295))) / 4294967296))) / 4294967296))) + ((IntKind.u64.wrap ((Go.bits .and .u64 (IntKind.u64.wrap ((IntKind.u64.wrap ((a0 / 4294967296) * (Go.bits .and .u64 a1 4294967295))) + ((IntKind.u64.wrap ((Go.bits .and .u64 a0 4294967295) * (Go.bits .and .u64 a1 4294967295))) / 4294967296))) 4294967295) + (IntKind.u64.wrap ((Go.bits .and .u64 a0 4294967295) * (a1 / 4294967296))))) / 4294967296)), IntKind.u64.wrap (a0 * a1))
set_option maxHeartbeats 8000000 in
set_option maxRecDepth 100000 in
theorem bits_Mul64.calls (a0 : Int) (a1 : Int) (r1 : Int) (r2 : Int) (w : World) (h : bits_Mul64.f a0 a1 = some (r1, r2)) :
  Calls Tryd.prog 63 #[.int .u64 a0, .int .u64 a1] w fun e w' => e = .returned (.tuple #[.int .u64 r1, .int .u64 r2]) ∧ Drawn0 w w' := by
 have H : (some (IntKind.u64.wrap ((IntKind.u64.wrap ((IntKind.u64.wrap ((a0 / 4294967296) * (a1 / 4294967296))) + ((IntKind.u64.wrap ((IntKind.u64.wrap ((a0 / 4294967296) * (Go.bits .and .u64 a1 4294967295))) + ((IntKind.u64.wrap ((Go.bits .and .u64 a0 4294967295) * (Go.bits .and .u64 a1 4294967295))) / 4294967296))) / 4294967296))) + ((IntKind.u64.wrap ((Go.bits .and .u64 (IntKind.u64.wrap ((IntKind.u64.wrap ((a0 / 4294967296) * (Go.bits .and .u64 a1 4294967295))) + ((IntKind.u64.wrap ((Go.bits .and .u64 a0 4294967295) * (Go.bits .and .u64 a1 4294967295))) / 4294967296))) 4294967295) + (IntKind.u64.wrap ((Go.bits .and .u64 a0 4294967295) * (a1 / 4294967296))))) / 4294967296)), IntKind.u64.wrap (a0 * a1))) = some (r1, r2) := h
 clear h
 simp only [Option.some.injEq, Prod.mk.injEq] at H
 obtain ⟨rfl, rfl⟩ := H
 go_enter Tryd.func63, Tryd.ntmps63
 go_wp2
 go_ret2
 exact ⟨by first | rfl | (simp; done) | (simp [*]; done), by repeat (first | exact Drawn0.refl _ | apply Drawn0.step)⟩

def congr_inverse.l0 : Nat → Int → Int → Int → Int → Int → Option (Int)
 | 0, _, _, _, _, _ => none
 | k + 1, x1, x5, x6, x7, x8 => if x8 = 0 then ((congr_rest.f x5 x1).bind fun t196 => (some t196)) else (congr_inverse.l0 k x1 x6 (wrap64 (x5 - (wrap64 ((wrap64 (Int.tdiv x7 x8)) * x6)))) x8 (wrap64 (x7 - (wrap64 ((wrap64 (Int.tdiv x7 x8)) * x8)))))
def congr_inverse.f (k : Nat) (a0 : Int) (a1 : Int) : Option (Int) := congr_inverse.l0 k a1 1 0 (wrap64 (a0)) (wrap64 (a1))
set_option maxHeartbeats 8000000 in
set_option maxRecDepth 100000 in
theorem congr_inverse.calls (k : Nat) (a0 : Int) (a1 : Int) (r : Int) (w : World) (h : congr_inverse.f k a0 a1 = some r) :
  Calls Tryd.prog 64 #[.int .u64 a0, .int .u64 a1] w fun e w' => e = .returned (.int .u64 r) ∧ Drawn0 w w' := by
 have H : (congr_inverse.l0 k a1 1 0 (wrap64 (a0)) (wrap64 (a1))) = some r := h
 clear h
 have H' := Aside0.mk H
 clear H
 go_enter Tryd.func64, Tryd.ntmps64
 go_wp2
 go_loopg [5, 6, 7, 8] k (fun kq v5 v6 v7 v8 w' => ∃ (x5_1 : Int) (x6_1 : Int) (x7_1 : Int) (x8_1 : Int), v5 = .int .i64 x5_1 ∧ v6 = .int .i64 x6_1 ∧ v7 = .int .i64 x7_1 ∧ v8 = .int .i64 x8_1 ∧ Aside0 (congr_inverse.l0 kq a1 x5_1 x6_1 x7_1 x8_1 = some r) ∧ Aside0 (kq ≤ k) ∧ Drawn0 w w')
 case atStart => exact ⟨(1), (0), (wrap64 (a0)), (wrap64 (a1)), (by first | rfl | (simp; done) | (simp [*]; done)), (by first | rfl | (simp; done) | (simp [*]; done)), (by first | rfl | (simp; done) | (simp [*]; done)), (by first | rfl | (simp; done) | (simp [*]; done)), H', ⟨Nat.le_refl _⟩, by repeat (first | exact Drawn0.refl _ | apply Drawn0.step)⟩
 case round =>
  clear H'
  try clear p2
  obtain ⟨x5_1, x6_1, x7_1, x8_1, rfl, rfl, rfl, rfl, HA, HK1, ⟨m1, rfl⟩⟩ := hrel
  cases gk with
  | zero => exact absurd HA.out (by simp [congr_inverse.l0])
  | succ k1 =>
   have H := HA.out
   clear HA
   simp only [congr_inverse.l0] at H
   by_cases c3 : x8_1 = 0
   ·
    rw [if_pos c3] at H
    have c3b0 : (x8_1 == 0) = true := beq_iff_eq.mpr c3
    have c3b1 : (x8_1 != 0) = false := bne_eq_false_iff_eq.mpr c3
    clear c3
    replace H := Option.bind_eq_some_iff.mp H
    obtain ⟨t196, A40, H⟩ := H
    replace H : (some t196) = some r := H
    have A4 := Aside0.mk A40
    clear A40
    obtain rfl := Option.some.inj H
    go_wp2_with (first | ((with_reducible refine gate_callee (f := 53) rfl ?_); refine goesL_ (some 33) rfl rfl Tryd.func53 (by kernel_rfl) rfl #[.int .i64 x5_1, .int .u64 a1] rfl mS ?_; (with_reducible refine (congr_rest.calls x5_1 a1 t196 _ A4.out).mono ?_); rintro e w' ⟨rfl, ⟨nd, rfl⟩⟩; refine ⟨_, rfl, ?_⟩))
    go_ret
    exact ⟨by first | rfl | (simp; done) | (simp [*]; done), by repeat (first | exact Drawn0.refl _ | apply Drawn0.step)⟩
   ·
    rw [if_neg c3] at H
    have c3b0 : (x8_1 == 0) = false := beq_eq_false_iff_ne.mpr c3
    have c3b1 : (x8_1 != 0) = true := bne_iff_ne.mpr c3
    have H' := Aside0.mk H
    clear H
    go_wp2
    go_roundg k1
    case measure => have := HK1.out; omega
    case rel => exact ⟨(x6_1), (wrap64 (x5_1 - (wrap64 ((wrap64 (Int.tdiv x7_1 x8_1)) * x6_1)))), (x8_1), (wrap64 (x7_1 - (wrap64 ((wrap64 (Int.tdiv x7_1 x8_1)) * x8_1)))), (by first | rfl | (simp; done) | (simp [*]; done)), (by first | rfl | (simp; done) | (simp [*]; done)), (by first | rfl | (simp; done) | (simp [*]; done)), (by first | rfl | (simp; done) | (simp [*]; done)), H', ⟨by have := HK1.out; omega⟩, by repeat (first | exact Drawn0.refl _ | apply Drawn0.step)⟩

mutual
def congr_Meet.j0 : Nat → Bool → Bool → Int → Int → Bool → Int → Int → Option (Bool × Int × Int)
 | 0, _, _, _, _, _, _, _ => none
 | k + 1, x11, x198000, x198001, x198002, x199000, x199001, x199002 => if x11 = true then ((congr_none.f).bind fun bt200 => (some (bt200.1, bt200.2.1, bt200.2.2))) else (if x198001 = 0 then (congr_Meet.j1 k true x198000 x198001 x198002 x199000 x199001 x199002) else (congr_Meet.j1 k (x199001 == 0) x198000 x198001 x198002 x199000 x199001 x199002))
def congr_Meet.j1 : Nat → Bool → Bool → Int → Int → Bool → Int → Int → Option (Bool × Int × Int)
 | 0, _, _, _, _, _, _, _ => none
 | k + 1, x19, x198000, x198001, x198002, x199000, x199001, x199002 => if x19 = true then (if x198001 = 0 then (congr_Meet.j2 k x198000 x198001 x198002 x199000 x199001 x199002) else (congr_Meet.j2 k x199000 x199001 x199002 x198000 x198001 x198002)) else ((congr_gcd_uint64.f k (IntKind.u64.wrap (x198001)) (IntKind.u64.wrap (x199001))).bind fun t207 => ((congr_size.f (wrap64 (x198002 - x199002))).bind fun t208 => (if t207 = 0 then (none) else (if (Int.tmod t208 t207) = 0 then (if (IntKind.u64.wrap (Int.tdiv (IntKind.u64.wrap (x199001)) t207)) > 1 then (if (wrap64 (t207)) = 0 then (none) else ((congr_rest.f (wrap64 (Int.tdiv (wrap64 (x199002 - x198002)) (wrap64 (t207)))) (IntKind.u64.wrap (Int.tdiv (IntKind.u64.wrap (x199001)) t207))).bind fun t212 => (if (IntKind.u64.wrap (Int.tdiv (IntKind.u64.wrap (x199001)) t207)) = 0 then (none) else ((congr_inverse.f k (Int.tmod (IntKind.u64.wrap (Int.tdiv (IntKind.u64.wrap (x198001)) t207)) (IntKind.u64.wrap (Int.tdiv (IntKind.u64.wrap (x199001)) t207))) (IntKind.u64.wrap (Int.tdiv (IntKind.u64.wrap (x199001)) t207))).bind fun t213 => ((bits_Mul64.f t212 t213).bind fun bt214 => ((congr_words_rest.f bt214.1 bt214.2 (IntKind.u64.wrap (Int.tdiv (IntKind.u64.wrap (x199001)) t207))).bind fun t216 => ((congr_of.f k (IntKind.u64.wrap ((IntKind.u64.wrap (x198001)) * (IntKind.u64.wrap (Int.tdiv (IntKind.u64.wrap (x199001)) t207)))) (IntKind.u64.wrap ((IntKind.u64.wrap ((IntKind.u64.wrap (x198001)) * t216)) + (IntKind.u64.wrap (x198002))))).bind fun bt217 => (some (bt217.1, bt217.2.1, bt217.2.2))))))))) else ((congr_of.f k (IntKind.u64.wrap ((IntKind.u64.wrap (x198001)) * (IntKind.u64.wrap (Int.tdiv (IntKind.u64.wrap (x199001)) t207)))) (IntKind.u64.wrap ((IntKind.u64.wrap ((IntKind.u64.wrap (x198001)) * 0)) + (IntKind.u64.wrap (x198002))))).bind fun bt220 => (some (bt220.1, bt220.2.1, bt220.2.2)))) else ((congr_none.f).bind fun bt209 => (some (bt209.1, bt209.2.1, bt209.2.2)))))))
def congr_Meet.j2 : Nat → Bool → Int → Int → Bool → Int → Int → Option (Bool × Int × Int)
 | 0, _, _, _, _, _, _ => none
 | k + 1, x198000, x198001, x198002, x199000, x199001, x199002 => (congr_Has.f k x199000 x199001 x199002 x198002).bind fun t203 => (if t203 = true then (some (x198000, x198001, x198002)) else ((congr_none.f).bind fun bt204 => (some (bt204.1, bt204.2.1, bt204.2.2))))
end
def congr_Meet.f (k : Nat) (a0_0 : Bool) (a0_1 : Int) (a0_2 : Int) (a1_0 : Bool) (a1_1 : Int) (a1_2 : Int) : Option (Bool × Int × Int) := if a0_0 = true then (congr_Meet.j0 k true a0_0 a0_1 a0_2 a1_0 a1_1 a1_2) else (congr_Meet.j0 k a1_0 a0_0 a0_1 a0_2 a1_0 a1_1 a1_2)
def congr_Meet.T9 : Bool × List (List Nat × List Nat) := (true, [([], []), ([0], [0]), ([1], [1]), ([], []), ([3], [3]), ([4], [4]), ([2, 0, 1, 2], [2]), ([5, 6, 0, 1, 2, 3, 4, 5, 6], [5])])
def congr_Meet.B9 : List Nat := [0, 1, 3, 0, 8, 24, 7, 127]
theorem congr_Meet.tab9 : rtab .any (opsOf Tryd.f20 9) = congr_Meet.T9 := by kernel_rfl
theorem congr_Meet.bits9 : waitsOk congr_Meet.T9.2 congr_Meet.B9 = true := by kernel_rfl
def congr_Meet.T15 : Bool × List (List Nat × List Nat) := (true, [([], []), ([0], [0]), ([], []), ([2], [2]), ([1, 3], [1, 3]), ([], []), ([5], [5]), ([4, 6], [4, 6]), ([], []), ([], []), ([8, 9], [8, 9]), ([7, 10], [7, 10]), ([], []), ([], []), ([12, 13], [12, 13]), ([], []), ([], []), ([15, 16], [15, 16]), ([14, 17], [14, 17]), ([], []), ([], []), ([19, 20], [19, 20]), ([18, 21, 11], [18, 21]), ([11, 22, 22], [11, 22]), ([23], [23]), ([24], [24]), ([24], [24]), ([25, 23, 0, 1, 2, 3, 4, 5, 6, 7, 8, 9, 10, 11, 12, 13, 14, 15, 16, 17, 18, 19, 20, 21, 22, 23, 24, 25], [25]), ([26, 27, 0, 1, 2, 3, 4, 5, 6, 7, 8, 9, 10, 11, 12, 13, 14, 15, 16, 17, 18, 19, 20, 21, 22, 23, 24, 25, 26, 27], [26])])
def congr_Meet.B15 : List Nat := [0, 1, 0, 4, 15, 0, 32, 127, 0, 0, 768, 2047, 0, 0, 12288, 0, 0, 98304, 258048, 0, 0, 1572864, 4194303, 8388607, 16777215, 33554431, 33554431, 67108863, 268435455]
theorem congr_Meet.tab15 : rtab .any (opsOf Tryd.f20 15) = congr_Meet.T15 := by kernel_rfl
theorem congr_Meet.bits15 : waitsOk congr_Meet.T15.2 congr_Meet.B15 = true := by kernel_rfl
def congr_Meet.T17 : Bool × List (List Nat × List Nat) := (true, [([], []), ([], []), ([], []), ([1, 2], [1, 2]), ([0, 3], [0, 3]), ([], []), ([], []), ([5, 6], [5, 6]), ([], []), ([8], [8]), ([9], [9]), ([7, 10], [7, 10]), ([4, 11], [4, 11]), ([12, 12, 0, 1, 2, 3, 4, 5, 6, 7, 8, 9, 10, 11, 12], [12])])
def congr_Meet.B17 : List Nat := [0, 0, 0, 6, 15, 0, 0, 96, 0, 256, 768, 2016, 4095, 8191]
theorem congr_Meet.tab17 : rtab .any (opsOf Tryd.f20 17) = congr_Meet.T17 := by kernel_rfl
theorem congr_Meet.bits17 : waitsOk congr_Meet.T17.2 congr_Meet.B17 = true := by kernel_rfl
set_option maxHeartbeats 8000000 in
set_option maxRecDepth 100000 in
theorem congr_Meet.calls (k : Nat) (a0_0 : Bool) (a0_1 : Int) (a0_2 : Int) (a1_0 : Bool) (a1_1 : Int) (a1_2 : Int) (r1 : Bool) (r2 : Int) (r3 : Int) (w : World) (h : congr_Meet.f k a0_0 a0_1 a0_2 a1_0 a1_1 a1_2 = some (r1, r2, r3)) :
  Calls Tryd.prog 20 #[.agg #[.bool a0_0, .int .i64 a0_1, .int .i64 a0_2], .agg #[.bool a1_0, .int .i64 a1_1, .int .i64 a1_2]] w fun e w' => e = .returned (.agg #[.bool r1, .int .i64 r2, .int .i64 r3]) ∧ Below w.heap.size w w' := by
 have hu23 := Tryd.underlying23
 have hu67 := Tryd.underlying67
 have HB := Aside0.mk (Below.refl w.heap.size w)
 have H : (if a0_0 = true then (congr_Meet.j0 k true a0_0 a0_1 a0_2 a1_0 a1_1 a1_2) else (congr_Meet.j0 k a1_0 a0_0 a0_1 a0_2 a1_0 a1_1 a1_2)) = some (r1, r2, r3) := h
 clear h
 have HC3 := Aside0.mk H
 clear H
 go_enter Tryd.func20, Tryd.ntmps20
 go_upto_region 1 with (first | ((with_reducible refine gate_dst (N := 2) rfl ?_); refine box_event ?hg (N := 2) ?hd (cs := #[.bool a0_0, .int .i64 a0_1, .int .i64 a0_2]) (t := 23) ?hr ?_; (case hd => rfl); (case hg => rfl); (case hr => first | (go_simp; done) | (go_simp; rfl)); intro gb197 hg w4 hbox hb; have n0_ := kW HB hb; have n1_ := Aside0.mk (hbox); have n2_ := Aside0.mk ((by rw [hg]; exact (below_size (bS HB)) : w.heap.size ≤ gb197)); have n3_ := Aside0.mk ((by rw [hg]; exact (below_size (bS HB)) : w.heap.size ≤ gb197)); clear HB; have HB := n0_; have BK197 := n1_; have GW197 := n2_; have GE197 := n3_; clear n0_ n1_ n2_ n3_; clear hb hbox hg) | ((with_reducible refine gate_dst (N := 3) rfl ?_); refine box_event ?hg (N := 3) ?hd (cs := #[.bool a1_0, .int .i64 a1_1, .int .i64 a1_2]) (t := 23) ?hr ?_; (case hd => rfl); (case hg => rfl); (case hr => first | (go_simp; done) | (go_simp; rfl)); intro gb198 hg w5 hbox hb; have n0_ := kB BK197 hb; have n1_ := kW HB hb; have n2_ := Aside0.mk (hbox); have n3_ := Aside0.mk ((by rw [hg]; exact (below_size (bS HB)) : w.heap.size ≤ gb198)); have n4_ := Aside0.mk ((by rw [hg]; exact (below_size (bS HB)) : w.heap.size ≤ gb198)); have n5_ := Aside0.mk ((by rw [hg]; exact Nat.ne_of_lt (blk_lt (bkS BK197)) : gb197 ≠ gb198)); have n6_ := Aside0.mk ((by rw [hg]; exact Nat.ne_of_gt (blk_lt (bkS BK197)) : gb198 ≠ gb197)); clear BK197; clear HB; have BK197 := n0_; have HB := n1_; have BK198 := n2_; have GW198 := n3_; have GE198 := n4_; have NB197_198 := n5_; have NB198_197 := n6_; clear n0_ n1_ n2_ n3_ n4_ n5_ n6_; clear hb hbox hg) | ((with_reducible refine gate_dst (N := 4) rfl ?_); refine box_event ?hg (N := 4) ?hd (cs := #[.bool false, .int .i64 0, .int .i64 0]) (t := 23) ?hr ?_; (case hd => rfl); (case hg => rfl); (case hr => first | (go_simp; done) | (go_simp; rfl)); intro gb199 hg w6 hbox hb; have n0_ := kB BK197 hb; have n1_ := kB BK198 hb; have n2_ := kW HB hb; have n3_ := Aside0.mk (hbox); have n4_ := Aside0.mk ((by rw [hg]; exact (below_size (bS HB)) : w.heap.size ≤ gb199)); have n5_ := Aside0.mk ((by rw [hg]; exact (below_size (bS HB)) : w.heap.size ≤ gb199)); have n6_ := Aside0.mk ((by rw [hg]; exact Nat.ne_of_lt (blk_lt (bkS BK197)) : gb197 ≠ gb199)); have n7_ := Aside0.mk ((by rw [hg]; exact Nat.ne_of_gt (blk_lt (bkS BK197)) : gb199 ≠ gb197)); have n8_ := Aside0.mk ((by rw [hg]; exact Nat.ne_of_lt (blk_lt (bkS BK198)) : gb198 ≠ gb199)); have n9_ := Aside0.mk ((by rw [hg]; exact Nat.ne_of_gt (blk_lt (bkS BK198)) : gb199 ≠ gb198)); clear BK197; clear BK198; clear HB; have BK197 := n0_; have BK198 := n1_; have HB := n2_; have BK199 := n3_; have GW199 := n4_; have GE199 := n5_; have NB197_199 := n6_; have NB199_197 := n7_; have NB198_199 := n8_; have NB199_198 := n9_; clear n0_ n1_ n2_ n3_ n4_ n5_ n6_ n7_ n8_ n9_; clear hb hbox hg))
 (try simp only [Act.put, lA, lB, lC])
 go_cut [11] (fun v11 wc => ∃ (kq : Nat) (x11_2 : Bool), v11 = .bool x11_2 ∧ Aside0 (congr_Meet.j0 kq x11_2 a0_0 a0_1 a0_2 a1_0 a1_1 a1_2 = some (r1, r2, r3)) ∧ Aside0 (kq ≤ k) ∧ Aside0 (wc.heap[gb197]? = some (.cells #[.bool a0_0, .int .i64 a0_1, .int .i64 a0_2] 23 (0, 0))) ∧ Aside0 (wc.heap[gb198]? = some (.cells #[.bool a1_0, .int .i64 a1_1, .int .i64 a1_2] 23 (0, 0))) ∧ Aside0 (wc.heap[gb199]? = some (.cells #[.bool false, .int .i64 0, .int .i64 0] 23 (0, 0))) ∧ Aside0 (Below w.heap.size w wc))
 case first =>
  have H := HC3.out
  clear HC3
  by_cases c7 : a0_0 = true
  ·
   subst c7
   have H1 : (congr_Meet.j0 k true true a0_1 a0_2 a1_0 a1_1 a1_2) = some (r1, r2, r3) := by rw [if_pos rfl] at H; exact H
   clear H
   have H := H1
   clear H1
   have H' := Aside0.mk H
   clear H
   have hnb8 := NB197_198.out
   have hnc8 := NB198_197.out
   have hnb9 := NB197_199.out
   have hnc9 := NB199_197.out
   have hcz10_0 := cz0 BK197
   have hcz10_1 := cz1 BK197
   have hcz10_2 := cz2 BK197
   have hfz10_0 := fz BK197 0
   have hfz10_1 := fz BK197 1
   have hfz10_2 := fz BK197 2
   go_wp2
   go_meet
   case rel => exact ⟨_, (true), (by first | rfl | (simp; done) | (simp [*]; done)), H', ⟨by first | omega | exact Nat.le_refl _⟩, ⟨bkS BK197⟩, ⟨bkS BK198⟩, ⟨bkS BK199⟩, ⟨bS HB⟩⟩
  ·
   replace c7 := Bool.eq_false_iff.mpr c7
   subst c7
   have H1 : (congr_Meet.j0 k a1_0 false a0_1 a0_2 a1_0 a1_1 a1_2) = some (r1, r2, r3) := by rw [if_neg (show ¬ (false = true) by decide)] at H; exact H
   clear H
   have H := H1
   clear H1
   have H' := Aside0.mk H
   clear H
   have hnb11 := NB197_198.out
   have hnc11 := NB198_197.out
   have hnb12 := NB197_199.out
   have hnc12 := NB199_197.out
   have hcz13_0 := cz0 BK197
   have hcz13_1 := cz1 BK197
   have hcz13_2 := cz2 BK197
   have hfz13_0 := fz BK197 0
   have hfz13_1 := fz BK197 1
   have hfz13_2 := fz BK197 2
   have hnb14 := NB198_199.out
   have hnc14 := NB199_198.out
   have hcz15_0 := cz0 BK198
   have hcz15_1 := cz1 BK198
   have hcz15_2 := cz2 BK198
   have hfz15_0 := fz BK198 0
   have hfz15_1 := fz BK198 1
   have hfz15_2 := fz BK198 2
   go_wp2
   go_meet
   case rel => exact ⟨_, (a1_0), (by first | rfl | (simp; done) | (simp [*]; done)), H', ⟨by first | omega | exact Nat.le_refl _⟩, ⟨bkS BK197⟩, ⟨bkS BK198⟩, ⟨bkS BK199⟩, ⟨bS HB⟩⟩
 case rest =>
  clear HC3
  try clear c1
  try clear c2
  try clear p2
  try clear c7
  try clear c8
  try clear c9
  try clear c11
  try clear c12
  try clear c14
  try clear hcz10_0
  try clear hcz10_1
  try clear hcz10_2
  try clear hcz13_0
  try clear hcz13_1
  try clear hcz13_2
  try clear hcz15_0
  try clear hcz15_1
  try clear hcz15_2
  try clear hfz10_0
  try clear hfz10_1
  try clear hfz10_2
  try clear hfz13_0
  try clear hfz13_1
  try clear hfz13_2
  try clear hfz15_0
  try clear hfz15_1
  try clear hfz15_2
  obtain ⟨kq, x11_2, rfl, HA, HJ2, BK197, BK198, BK199, HB⟩ := hcut
  cases kq with
  | zero => exact absurd HA.out (by simp [congr_Meet.j0])
  | succ kj2 =>
   have H := HA.out
   clear HA
   simp only [congr_Meet.j0] at H
   by_cases c16 : x11_2 = true
   ·
    subst c16
    have H1 : ((congr_none.f).bind fun bt200 => (some (bt200.1, bt200.2.1, bt200.2.2))) = some (r1, r2, r3) := by rw [if_pos rfl] at H; exact H
    clear H
    have H := H1
    clear H1
    replace H := Option.bind_eq_some_iff.mp H
    obtain ⟨⟨t200, t201, t202⟩, A170, H⟩ := H
    replace H : (some (t200, t201, t202)) = some (r1, r2, r3) := H
    have A17 := Aside0.mk A170
    clear A170
    simp only [Option.some.injEq, Prod.mk.injEq] at H
    obtain ⟨rfl, rfl, rfl⟩ := H
    go_wp2_with (first | ((with_reducible refine gate_callee (f := 56) rfl ?_); refine goesL_ (some 18) rfl rfl Tryd.func56 (by kernel_rfl) rfl #[] rfl mS ?_; (with_reducible refine (congr_none.calls  t200 t201 t202 _ A17.out).mono ?_); rintro e w18 ⟨rfl, hb⟩; refine ⟨_, rfl, ?_⟩; replace BK197 := kB BK197 hb; replace BK198 := kB BK198 hb; replace BK199 := kB BK199 hb; replace HB := kW HB hb; (try clear hb); (try clear hb2); (try clear hk); (try clear hi); have hnb19 := NB199_197.out; have hnc19 := NB197_199.out; have hnb20 := NB199_198.out; have hnc20 := NB198_199.out; have hcz21_0 := cz0 BK199; have hcz21_1 := cz1 BK199; have hcz21_2 := cz2 BK199; have hfz21_0 := fz BK199 0; have hfz21_1 := fz BK199 1; have hfz21_2 := fz BK199 2))
    refine bodyPost_ret (results_cell_row rfl _ _ gb199 23 #[.bool t200, .int .i64 t201, .int .i64 t202] (0, 0) _ rfl (by (with_reducible repeat (first | refine b1 ?_ _ | refine b2 ?_ | refine b3 ?_ _)); refine blk_put (cs := #[.bool t200, .int .i64 t201, .int .i64 0]) ?_ 2 _ rfl; (with_reducible repeat (first | refine b1 ?_ _ | refine b2 ?_ | refine b3 ?_ _)); refine blk_put (cs := #[.bool t200, .int .i64 0, .int .i64 0]) ?_ 1 _ rfl; (with_reducible repeat (first | refine b1 ?_ _ | refine b2 ?_ | refine b3 ?_ _)); refine blk_put (cs := #[.bool false, .int .i64 0, .int .i64 0]) ?_ 0 _ rfl; (with_reducible repeat (first | refine b1 ?_ _ | refine b2 ?_ | refine b3 ?_ _)); exact BK199.out) Tryd.underlying23 rfl (by kernel_rfl)) rfl ?_
    exact ⟨eS, bS HB⟩
   ·
    replace c16 := Bool.eq_false_iff.mpr c16
    subst c16
    have H1 : (if a0_1 = 0 then (congr_Meet.j1 kj2 true a0_0 a0_1 a0_2 a1_0 a1_1 a1_2) else (congr_Meet.j1 kj2 (a1_1 == 0) a0_0 a0_1 a0_2 a1_0 a1_1 a1_2)) = some (r1, r2, r3) := by rw [if_neg (show ¬ (false = true) by decide)] at H; exact H
    clear H
    have H := H1
    clear H1
    have HC22 := Aside0.mk H
    clear H
    go_upto_region 3 with (fail)
    go_cut [19] (fun v19 wc => ∃ (kq : Nat) (x19_21 : Bool), v19 = .bool x19_21 ∧ Aside0 (congr_Meet.j1 kq x19_21 a0_0 a0_1 a0_2 a1_0 a1_1 a1_2 = some (r1, r2, r3)) ∧ Aside0 (kq ≤ kj2) ∧ Aside0 (wc.heap[gb197]? = some (.cells #[.bool a0_0, .int .i64 a0_1, .int .i64 a0_2] 23 (0, 0))) ∧ Aside0 (wc.heap[gb198]? = some (.cells #[.bool a1_0, .int .i64 a1_1, .int .i64 a1_2] 23 (0, 0))) ∧ Aside0 (wc.heap[gb199]? = some (.cells #[.bool false, .int .i64 0, .int .i64 0] 23 (0, 0))) ∧ Aside0 (Below w.heap.size w wc))
    case first =>
     have H := HC22.out
     clear HC22
     by_cases c23 : a0_1 = 0
     ·
      rw [if_pos c23] at H
      have c23b0 : (a0_1 == 0) = true := beq_iff_eq.mpr c23
      have c23b1 : (a0_1 != 0) = false := bne_eq_false_iff_eq.mpr c23
      clear c23
      (first | rw [c23b0] | (simp only [i64_w, i32_w]; rw [c23b0]) | skip)
      have H' := Aside0.mk H
      clear H
      have hnb24 := NB197_198.out
      have hnc24 := NB198_197.out
      have hnb25 := NB197_199.out
      have hnc25 := NB199_197.out
      have hcz26_0 : wc.cell? ⟨gb197, 0, none⟩ = some (.bool a0_0) := cz0 BK197
      have hcz26_1 : wc.cell? ⟨gb197, 1, none⟩ = some (.int .i64 a0_1) := cz1 BK197
      have hcz26_2 : wc.cell? ⟨gb197, 2, none⟩ = some (.int .i64 a0_2) := cz2 BK197
      have hfz26_0 := fz BK197 0
      have hfz26_1 := fz BK197 1
      have hfz26_2 := fz BK197 2
      go_wp2
      go_meet
      case rel => exact ⟨_, (true), (by first | rfl | (simp; done) | (simp [*]; done)), H', ⟨by have := HJ2.out; first | omega | exact Nat.le_refl _⟩, ⟨bkS BK197⟩, ⟨bkS BK198⟩, ⟨bkS BK199⟩, ⟨bS HB⟩⟩
     ·
      rw [if_neg c23] at H
      have c23b0 : (a0_1 == 0) = false := beq_eq_false_iff_ne.mpr c23
      have c23b1 : (a0_1 != 0) = true := bne_iff_ne.mpr c23
      (first | rw [c23b0] | (simp only [i64_w, i32_w]; rw [c23b0]) | skip)
      have H' := Aside0.mk H
      clear H
      have hnb27 := NB197_198.out
      have hnc27 := NB198_197.out
      have hnb28 := NB197_199.out
      have hnc28 := NB199_197.out
      have hcz29_0 : wc.cell? ⟨gb197, 0, none⟩ = some (.bool a0_0) := cz0 BK197
      have hcz29_1 : wc.cell? ⟨gb197, 1, none⟩ = some (.int .i64 a0_1) := cz1 BK197
      have hcz29_2 : wc.cell? ⟨gb197, 2, none⟩ = some (.int .i64 a0_2) := cz2 BK197
      have hfz29_0 := fz BK197 0
      have hfz29_1 := fz BK197 1
      have hfz29_2 := fz BK197 2
      have hnb30 := NB198_199.out
      have hnc30 := NB199_198.out
      have hcz31_0 : wc.cell? ⟨gb198, 0, none⟩ = some (.bool a1_0) := cz0 BK198
      have hcz31_1 : wc.cell? ⟨gb198, 1, none⟩ = some (.int .i64 a1_1) := cz1 BK198
      have hcz31_2 : wc.cell? ⟨gb198, 2, none⟩ = some (.int .i64 a1_2) := cz2 BK198
      have hfz31_0 := fz BK198 0
      have hfz31_1 := fz BK198 1
      have hfz31_2 := fz BK198 2
      go_wp2
      go_meet
      case rel => exact ⟨_, ((a1_1 == 0)), (by first | rfl | (simp; done) | (simp [*]; done)), H', ⟨by have := HJ2.out; first | omega | exact Nat.le_refl _⟩, ⟨bkS BK197⟩, ⟨bkS BK198⟩, ⟨bkS BK199⟩, ⟨bS HB⟩⟩
    case rest =>
     clear HC22
     try clear c1
     try clear c2
     try clear p2
     try clear c3
     try clear c5
     try clear c7
     try clear c8
     try clear c9
     try clear c11
     try clear c12
     try clear c14
     try clear c16
     try clear c19
     try clear c20
     try clear c23
     try clear c23b0
     try clear c23b1
     try clear c24
     try clear c25
     try clear c27
     try clear c28
     try clear c30
     try clear hcz10_0
     try clear hcz10_1
     try clear hcz10_2
     try clear hcz13_0
     try clear hcz13_1
     try clear hcz13_2
     try clear hcz15_0
     try clear hcz15_1
     try clear hcz15_2
     try clear hcz21_0
     try clear hcz21_1
     try clear hcz21_2
     try clear hcz26_0
     try clear hcz26_1
     try clear hcz26_2
     try clear hcz29_0
     try clear hcz29_1
     try clear hcz29_2
     try clear hcz31_0
     try clear hcz31_1
     try clear hcz31_2
     try clear hfz10_0
     try clear hfz10_1
     try clear hfz10_2
     try clear hfz13_0
     try clear hfz13_1
     try clear hfz13_2
     try clear hfz15_0
     try clear hfz15_1
     try clear hfz15_2
     try clear hfz21_0
     try clear hfz21_1
     try clear hfz21_2
     try clear hfz26_0
     try clear hfz26_1
     try clear hfz26_2
     try clear hfz29_0
     try clear hfz29_1
     try clear hfz29_2
     try clear hfz31_0
     try clear hfz31_1
     try clear hfz31_2
     try clear p2
     obtain ⟨kq, x19_21, rfl, HA, HJ21, BK197, BK198, BK199, HB⟩ := hcut
     cases kq with
     | zero => exact absurd HA.out (by simp [congr_Meet.j1])
     | succ kj21 =>
      have H := HA.out
      clear HA
      simp only [congr_Meet.j1] at H
      by_cases c32 : x19_21 = true
      ·
       subst c32
       have H1 : (if a0_1 = 0 then (congr_Meet.j2 kj21 a0_0 a0_1 a0_2 a1_0 a1_1 a1_2) else (congr_Meet.j2 kj21 a1_0 a1_1 a1_2 a0_0 a0_1 a0_2)) = some (r1, r2, r3) := by rw [if_pos rfl] at H; exact H
       clear H
       have H := H1
       clear H1
       have HC33 := Aside0.mk H
       clear H
       have hnb34 := NB197_198.out
       have hnc34 := NB198_197.out
       have hnb35 := NB197_199.out
       have hnc35 := NB199_197.out
       have hcz36_0 : wc.cell? ⟨gb197, 0, none⟩ = some (.bool a0_0) := cz0 BK197
       have hcz36_1 : wc.cell? ⟨gb197, 1, none⟩ = some (.int .i64 a0_1) := cz1 BK197
       have hcz36_2 : wc.cell? ⟨gb197, 2, none⟩ = some (.int .i64 a0_2) := cz2 BK197
       have hfz36_0 := fz BK197 0
       have hfz36_1 := fz BK197 1
       have hfz36_2 := fz BK197 2
       go_upto_if 30 with (fail)
       go_cut [] (fun wc => ∃ (kq : Nat) (x198000_32 : Bool) (x198001_32 : Int) (x198002_32 : Int) (x199000_32 : Bool) (x199001_32 : Int) (x199002_32 : Int), Aside0 (congr_Meet.j2 kq x198000_32 x198001_32 x198002_32 x199000_32 x199001_32 x199002_32 = some (r1, r2, r3)) ∧ Aside0 (kq ≤ kj21) ∧ Aside0 (wc.heap[gb197]? = some (.cells #[.bool x198000_32, .int .i64 x198001_32, .int .i64 x198002_32] 23 (0, 0))) ∧ Aside0 (wc.heap[gb198]? = some (.cells #[.bool x199000_32, .int .i64 x199001_32, .int .i64 x199002_32] 23 (0, 0))) ∧ Aside0 (wc.heap[gb199]? = some (.cells #[.bool false, .int .i64 0, .int .i64 0] 23 (0, 0))) ∧ Aside0 (Below w.heap.size w wc))
       case first =>
        have H := HC33.out
        clear HC33
        by_cases c37 : a0_1 = 0
        ·
         rw [if_pos c37] at H
         have c37b0 : (a0_1 == 0) = true := beq_iff_eq.mpr c37
         have c37b1 : (a0_1 != 0) = false := bne_eq_false_iff_eq.mpr c37
         clear c37
         (first | rw [c37b0] | (simp only [i64_w, i32_w]; rw [c37b0]) | skip)
         have H' := Aside0.mk H
         clear H
         go_wp2
         go_meet
         case rel => exact ⟨_, (a0_0), (a0_1), (a0_2), (a1_0), (a1_1), (a1_2), H', ⟨by have := HJ2.out; have := HJ21.out; first | omega | exact Nat.le_refl _⟩, ⟨bkS BK197⟩, ⟨bkS BK198⟩, ⟨bkS BK199⟩, ⟨bS HB⟩⟩
        ·
         rw [if_neg c37] at H
         have c37b0 : (a0_1 == 0) = false := beq_eq_false_iff_ne.mpr c37
         have c37b1 : (a0_1 != 0) = true := bne_iff_ne.mpr c37
         (first | rw [c37b0] | (simp only [i64_w, i32_w]; rw [c37b0]) | skip)
         have H' := Aside0.mk H
         clear H
         have hnb38 := NB198_197.out
         have hnc38 := NB197_198.out
         have hnb39 := NB198_199.out
         have hnc39 := NB199_198.out
         have hcz40_0 : wc.cell? ⟨gb198, 0, none⟩ = some (.bool a1_0) := cz0 BK198
         have hcz40_1 : wc.cell? ⟨gb198, 1, none⟩ = some (.int .i64 a1_1) := cz1 BK198
         have hcz40_2 : wc.cell? ⟨gb198, 2, none⟩ = some (.int .i64 a1_2) := cz2 BK198
         have hfz40_0 := fz BK198 0
         have hfz40_1 := fz BK198 1
         have hfz40_2 := fz BK198 2
         have hnb41 := NB197_199.out
         have hnc41 := NB199_197.out
         have hcz42_0 : wc.cell? ⟨gb197, 0, none⟩ = some (.bool a0_0) := cz0 BK197
         have hcz42_1 : wc.cell? ⟨gb197, 1, none⟩ = some (.int .i64 a0_1) := cz1 BK197
         have hcz42_2 : wc.cell? ⟨gb197, 2, none⟩ = some (.int .i64 a0_2) := cz2 BK197
         have hfz42_0 := fz BK197 0
         have hfz42_1 := fz BK197 1
         have hfz42_2 := fz BK197 2
         go_wp2
         go_meet
         case rel => exact ⟨_, (a1_0), (a1_1), (a1_2), (a0_0), (a0_1), (a0_2), H', ⟨by have := HJ2.out; have := HJ21.out; first | omega | exact Nat.le_refl _⟩, ⟨by (with_reducible repeat (first | refine b1 ?_ _ | refine b2 ?_ | refine b3 ?_ _)); refine blk_far ?_ NB197_198.out _; (with_reducible repeat (first | refine b1 ?_ _ | refine b2 ?_ | refine b3 ?_ _)); refine blk_far ?_ NB197_198.out _; (with_reducible repeat (first | refine b1 ?_ _ | refine b2 ?_ | refine b3 ?_ _)); refine blk_far ?_ NB197_198.out _; (with_reducible repeat (first | refine b1 ?_ _ | refine b2 ?_ | refine b3 ?_ _)); refine blk_put (cs := #[.bool a1_0, .int .i64 a1_1, .int .i64 a0_2]) ?_ 2 _ rfl; (with_reducible repeat (first | refine b1 ?_ _ | refine b2 ?_ | refine b3 ?_ _)); refine blk_put (cs := #[.bool a1_0, .int .i64 a0_1, .int .i64 a0_2]) ?_ 1 _ rfl; (with_reducible repeat (first | refine b1 ?_ _ | refine b2 ?_ | refine b3 ?_ _)); refine blk_put (cs := #[.bool a0_0, .int .i64 a0_1, .int .i64 a0_2]) ?_ 0 _ rfl; (with_reducible repeat (first | refine b1 ?_ _ | refine b2 ?_ | refine b3 ?_ _)); exact BK197.out⟩, ⟨by (with_reducible repeat (first | refine b1 ?_ _ | refine b2 ?_ | refine b3 ?_ _)); refine blk_put (cs := #[.bool a0_0, .int .i64 a0_1, .int .i64 a1_2]) ?_ 2 _ rfl; (with_reducible repeat (first | refine b1 ?_ _ | refine b2 ?_ | refine b3 ?_ _)); refine blk_put (cs := #[.bool a0_0, .int .i64 a1_1, .int .i64 a1_2]) ?_ 1 _ rfl; (with_reducible repeat (first | refine b1 ?_ _ | refine b2 ?_ | refine b3 ?_ _)); refine blk_put (cs := #[.bool a1_0, .int .i64 a1_1, .int .i64 a1_2]) ?_ 0 _ rfl; (with_reducible repeat (first | refine b1 ?_ _ | refine b2 ?_ | refine b3 ?_ _)); refine blk_far ?_ NB198_197.out _; (with_reducible repeat (first | refine b1 ?_ _ | refine b2 ?_ | refine b3 ?_ _)); refine blk_far ?_ NB198_197.out _; (with_reducible repeat (first | refine b1 ?_ _ | refine b2 ?_ | refine b3 ?_ _)); refine blk_far ?_ NB198_197.out _; (with_reducible repeat (first | refine b1 ?_ _ | refine b2 ?_ | refine b3 ?_ _)); exact BK198.out⟩, ⟨bkS BK199⟩, ⟨bS HB⟩⟩
       case rest =>
        clear HC33
        try clear c1
        try clear c2
        try clear p2
        try clear c3
        try clear c4
        try clear c5
        try clear c7
        try clear c8
        try clear c9
        try clear c11
        try clear c12
        try clear c14
        try clear c16
        try clear c19
        try clear c20
        try clear c23
        try clear c23b0
        try clear c23b1
        try clear c24
        try clear c25
        try clear c27
        try clear c28
        try clear c30
        try clear c32
        try clear c34
        try clear c35
        try clear c37
        try clear c37b0
        try clear c37b1
        try clear c38
        try clear c39
        try clear c41
        try clear hcz10_0
        try clear hcz10_1
        try clear hcz10_2
        try clear hcz13_0
        try clear hcz13_1
        try clear hcz13_2
        try clear hcz15_0
        try clear hcz15_1
        try clear hcz15_2
        try clear hcz21_0
        try clear hcz21_1
        try clear hcz21_2
        try clear hcz26_0
        try clear hcz26_1
        try clear hcz26_2
        try clear hcz29_0
        try clear hcz29_1
        try clear hcz29_2
        try clear hcz31_0
        try clear hcz31_1
        try clear hcz31_2
        try clear hcz36_0
        try clear hcz36_1
        try clear hcz36_2
        try clear hcz40_0
        try clear hcz40_1
        try clear hcz40_2
        try clear hcz42_0
        try clear hcz42_1
        try clear hcz42_2
        try clear hfz10_0
        try clear hfz10_1
        try clear hfz10_2
        try clear hfz13_0
        try clear hfz13_1
        try clear hfz13_2
        try clear hfz15_0
        try clear hfz15_1
        try clear hfz15_2
        try clear hfz21_0
        try clear hfz21_1
        try clear hfz21_2
        try clear hfz26_0
        try clear hfz26_1
        try clear hfz26_2
        try clear hfz29_0
        try clear hfz29_1
        try clear hfz29_2
        try clear hfz31_0
        try clear hfz31_1
        try clear hfz31_2
        try clear hfz36_0
        try clear hfz36_1
        try clear hfz36_2
        try clear hfz40_0
        try clear hfz40_1
        try clear hfz40_2
        try clear hfz42_0
        try clear hfz42_1
        try clear hfz42_2
        try clear p2
        obtain ⟨kq, x198000_32, x198001_32, x198002_32, x199000_32, x199001_32, x199002_32, HA, HJ32, BK197, BK198, BK199, HB⟩ := hcut
        cases kq with
        | zero => exact absurd HA.out (by simp [congr_Meet.j2])
        | succ kj32 =>
         have H := HA.out
         clear HA
         simp only [congr_Meet.j2] at H
         replace H := Option.bind_eq_some_iff.mp H
         obtain ⟨t203, A430, H⟩ := H
         replace H : (if t203 = true then (some (x198000_32, x198001_32, x198002_32)) else ((congr_none.f).bind fun bt204 => (some (bt204.1, bt204.2.1, bt204.2.2)))) = some (r1, r2, r3) := H
         have A43 := Aside0.mk A430
         clear A430
         by_cases c44 : t203 = true
         ·
          subst c44
          have H1 : (some (x198000_32, x198001_32, x198002_32)) = some (r1, r2, r3) := by rw [if_pos rfl] at H; exact H
          clear H
          have H := H1
          clear H1
          simp only [Option.some.injEq, Prod.mk.injEq] at H
          obtain ⟨rfl, rfl, rfl⟩ := H
          have hnb45 := NB198_197.out
          have hnc45 := NB197_198.out
          have hnb46 := NB198_199.out
          have hnc46 := NB199_198.out
          have hcz47_0 : wc.cell? ⟨gb198, 0, none⟩ = some (.bool x199000_32) := cz0 BK198
          have hcz47_1 : wc.cell? ⟨gb198, 1, none⟩ = some (.int .i64 x199001_32) := cz1 BK198
          have hcz47_2 : wc.cell? ⟨gb198, 2, none⟩ = some (.int .i64 x199002_32) := cz2 BK198
          have hfz47_0 := fz BK198 0
          have hfz47_1 := fz BK198 1
          have hfz47_2 := fz BK198 2
          have hnb48 := NB197_199.out
          have hnc48 := NB199_197.out
          have hcz49_0 : wc.cell? ⟨gb197, 0, none⟩ = some (.bool x198000_32) := cz0 BK197
          have hcz49_1 : wc.cell? ⟨gb197, 1, none⟩ = some (.int .i64 x198001_32) := cz1 BK197
          have hcz49_2 : wc.cell? ⟨gb197, 2, none⟩ = some (.int .i64 x198002_32) := cz2 BK197
          have hfz49_0 := fz BK197 0
          have hfz49_1 := fz BK197 1
          have hfz49_2 := fz BK197 2
          go_wp2_with (first | ((with_reducible refine gate_callee (f := 14) rfl ?_); refine goesL_ (some 36) rfl rfl Tryd.func14 (by kernel_rfl) rfl #[.agg #[.bool x199000_32, .int .i64 x199001_32, .int .i64 x199002_32], .int .i64 x198002_32] rfl mS ?_; (with_reducible refine (congr_Has.calls kj32 x199000_32 x199001_32 x199002_32 x198002_32 true _ A43.out).mono ?_); rintro e w50 ⟨rfl, hb⟩; refine ⟨_, rfl, ?_⟩; replace BK197 := kB BK197 hb; replace BK198 := kB BK198 hb; replace BK199 := kB BK199 hb; replace HB := kW HB hb; (try clear hb); (try clear hb2); (try clear hk); (try clear hi); have hcz51_0 := cz0 BK197; have hcz51_1 := cz1 BK197; have hcz51_2 := cz2 BK197; have hfz51_0 := fz BK197 0; have hfz51_1 := fz BK197 1; have hfz51_2 := fz BK197 2; have hcz52_0 := cz0 BK199; have hcz52_1 := cz1 BK199; have hcz52_2 := cz2 BK199; have hfz52_0 := fz BK199 0; have hfz52_1 := fz BK199 1; have hfz52_2 := fz BK199 2))
          refine bodyPost_ret (results_cell_row rfl _ _ gb199 23 #[.bool x198000_32, .int .i64 x198001_32, .int .i64 x198002_32] (0, 0) _ rfl (by (with_reducible repeat (first | refine b1 ?_ _ | refine b2 ?_ | refine b3 ?_ _)); refine blk_put (cs := #[.bool x198000_32, .int .i64 x198001_32, .int .i64 0]) ?_ 2 _ rfl; (with_reducible repeat (first | refine b1 ?_ _ | refine b2 ?_ | refine b3 ?_ _)); refine blk_put (cs := #[.bool x198000_32, .int .i64 0, .int .i64 0]) ?_ 1 _ rfl; (with_reducible repeat (first | refine b1 ?_ _ | refine b2 ?_ | refine b3 ?_ _)); refine blk_put (cs := #[.bool false, .int .i64 0, .int .i64 0]) ?_ 0 _ rfl; (with_reducible repeat (first | refine b1 ?_ _ | refine b2 ?_ | refine b3 ?_ _)); exact BK199.out) Tryd.underlying23 rfl (by kernel_rfl)) rfl ?_
          exact ⟨eS, bS HB⟩
         ·
          replace c44 := Bool.eq_false_iff.mpr c44
          subst c44
          have H1 : ((congr_none.f).bind fun bt204 => (some (bt204.1, bt204.2.1, bt204.2.2))) = some (r1, r2, r3) := by rw [if_neg (show ¬ (false = true) by decide)] at H; exact H
          clear H
          have H := H1
          clear H1
          replace H := Option.bind_eq_some_iff.mp H
          obtain ⟨⟨t204, t205, t206⟩, A530, H⟩ := H
          replace H : (some (t204, t205, t206)) = some (r1, r2, r3) := H
          have A53 := Aside0.mk A530
          clear A530
          simp only [Option.some.injEq, Prod.mk.injEq] at H
          obtain ⟨rfl, rfl, rfl⟩ := H
          have hnb54 := NB198_197.out
          have hnc54 := NB197_198.out
          have hnb55 := NB198_199.out
          have hnc55 := NB199_198.out
          have hcz56_0 : wc.cell? ⟨gb198, 0, none⟩ = some (.bool x199000_32) := cz0 BK198
          have hcz56_1 : wc.cell? ⟨gb198, 1, none⟩ = some (.int .i64 x199001_32) := cz1 BK198
          have hcz56_2 : wc.cell? ⟨gb198, 2, none⟩ = some (.int .i64 x199002_32) := cz2 BK198
          have hfz56_0 := fz BK198 0
          have hfz56_1 := fz BK198 1
          have hfz56_2 := fz BK198 2
          have hnb57 := NB197_199.out
          have hnc57 := NB199_197.out
          have hcz58_0 : wc.cell? ⟨gb197, 0, none⟩ = some (.bool x198000_32) := cz0 BK197
          have hcz58_1 : wc.cell? ⟨gb197, 1, none⟩ = some (.int .i64 x198001_32) := cz1 BK197
          have hcz58_2 : wc.cell? ⟨gb197, 2, none⟩ = some (.int .i64 x198002_32) := cz2 BK197
          have hfz58_0 := fz BK197 0
          have hfz58_1 := fz BK197 1
          have hfz58_2 := fz BK197 2
          go_wp2_with (first | ((with_reducible refine gate_callee (f := 14) rfl ?_); refine goesL_ (some 36) rfl rfl Tryd.func14 (by kernel_rfl) rfl #[.agg #[.bool x199000_32, .int .i64 x199001_32, .int .i64 x199002_32], .int .i64 x198002_32] rfl mS ?_; (with_reducible refine (congr_Has.calls kj32 x199000_32 x199001_32 x199002_32 x198002_32 false _ A43.out).mono ?_); rintro e w59 ⟨rfl, hb⟩; refine ⟨_, rfl, ?_⟩; replace BK197 := kB BK197 hb; replace BK198 := kB BK198 hb; replace BK199 := kB BK199 hb; replace HB := kW HB hb; (try clear hb); (try clear hb2); (try clear hk); (try clear hi)) | ((with_reducible refine gate_callee (f := 56) rfl ?_); refine goesL_ (some 38) rfl rfl Tryd.func56 (by kernel_rfl) rfl #[] rfl mS ?_; (with_reducible refine (congr_none.calls  t204 t205 t206 _ A53.out).mono ?_); rintro e w60 ⟨rfl, hb⟩; refine ⟨_, rfl, ?_⟩; replace BK197 := kB BK197 hb; replace BK198 := kB BK198 hb; replace BK199 := kB BK199 hb; replace HB := kW HB hb; (try clear hb); (try clear hb2); (try clear hk); (try clear hi); have hcz61_0 := cz0 BK199; have hcz61_1 := cz1 BK199; have hcz61_2 := cz2 BK199; have hfz61_0 := fz BK199 0; have hfz61_1 := fz BK199 1; have hfz61_2 := fz BK199 2))
          refine bodyPost_ret (results_cell_row rfl _ _ gb199 23 #[.bool t204, .int .i64 t205, .int .i64 t206] (0, 0) _ rfl (by (with_reducible repeat (first | refine b1 ?_ _ | refine b2 ?_ | refine b3 ?_ _)); refine blk_put (cs := #[.bool t204, .int .i64 t205, .int .i64 0]) ?_ 2 _ rfl; (with_reducible repeat (first | refine b1 ?_ _ | refine b2 ?_ | refine b3 ?_ _)); refine blk_put (cs := #[.bool t204, .int .i64 0, .int .i64 0]) ?_ 1 _ rfl; (with_reducible repeat (first | refine b1 ?_ _ | refine b2 ?_ | refine b3 ?_ _)); refine blk_put (cs := #[.bool false, .int .i64 0, .int .i64 0]) ?_ 0 _ rfl; (with_reducible repeat (first | refine b1 ?_ _ | refine b2 ?_ | refine b3 ?_ _)); exact BK199.out) Tryd.underlying23 rfl (by kernel_rfl)) rfl ?_
          exact ⟨eS, bS HB⟩
      ·
       replace c32 := Bool.eq_false_iff.mpr c32
       subst c32
       have H1 : ((congr_gcd_uint64.f kj21 (IntKind.u64.wrap (a0_1)) (IntKind.u64.wrap (a1_1))).bind fun t207 => ((congr_size.f (wrap64 (a0_2 - a1_2))).bind fun t208 => (if t207 = 0 then (none) else (if (Int.tmod t208 t207) = 0 then (if (IntKind.u64.wrap (Int.tdiv (IntKind.u64.wrap (a1_1)) t207)) > 1 then (if (wrap64 (t207)) = 0 then (none) else ((congr_rest.f (wrap64 (Int.tdiv (wrap64 (a1_2 - a0_2)) (wrap64 (t207)))) (IntKind.u64.wrap (Int.tdiv (IntKind.u64.wrap (a1_1)) t207))).bind fun t212 => (if (IntKind.u64.wrap (Int.tdiv (IntKind.u64.wrap (a1_1)) t207)) = 0 then (none) else ((congr_inverse.f kj21 (Int.tmod (IntKind.u64.wrap (Int.tdiv (IntKind.u64.wrap (a0_1)) t207)) (IntKind.u64.wrap (Int.tdiv (IntKind.u64.wrap (a1_1)) t207))) (IntKind.u64.wrap (Int.tdiv (IntKind.u64.wrap (a1_1)) t207))).bind fun t213 => ((bits_Mul64.f t212 t213).bind fun bt214 => ((congr_words_rest.f bt214.1 bt214.2 (IntKind.u64.wrap (Int.tdiv (IntKind.u64.wrap (a1_1)) t207))).bind fun t216 => ((congr_of.f kj21 (IntKind.u64.wrap ((IntKind.u64.wrap (a0_1)) * (IntKind.u64.wrap (Int.tdiv (IntKind.u64.wrap (a1_1)) t207)))) (IntKind.u64.wrap ((IntKind.u64.wrap ((IntKind.u64.wrap (a0_1)) * t216)) + (IntKind.u64.wrap (a0_2))))).bind fun bt217 => (some (bt217.1, bt217.2.1, bt217.2.2))))))))) else ((congr_of.f kj21 (IntKind.u64.wrap ((IntKind.u64.wrap (a0_1)) * (IntKind.u64.wrap (Int.tdiv (IntKind.u64.wrap (a1_1)) t207)))) (IntKind.u64.wrap ((IntKind.u64.wrap ((IntKind.u64.wrap (a0_1)) * 0)) + (IntKind.u64.wrap (a0_2))))).bind fun bt220 => (some (bt220.1, bt220.2.1, bt220.2.2)))) else ((congr_none.f).bind fun bt209 => (some (bt209.1, bt209.2.1, bt209.2.2))))))) = some (r1, r2, r3) := by rw [if_neg (show ¬ (false = true) by decide)] at H; exact H
       clear H
       have H := H1
       clear H1
       replace H := Option.bind_eq_some_iff.mp H
       obtain ⟨t207, A620, H⟩ := H
       replace H : ((congr_size.f (wrap64 (a0_2 - a1_2))).bind fun t208 => (if t207 = 0 then (none) else (if (Int.tmod t208 t207) = 0 then (if (IntKind.u64.wrap (Int.tdiv (IntKind.u64.wrap (a1_1)) t207)) > 1 then (if (wrap64 (t207)) = 0 then (none) else ((congr_rest.f (wrap64 (Int.tdiv (wrap64 (a1_2 - a0_2)) (wrap64 (t207)))) (IntKind.u64.wrap (Int.tdiv (IntKind.u64.wrap (a1_1)) t207))).bind fun t212 => (if (IntKind.u64.wrap (Int.tdiv (IntKind.u64.wrap (a1_1)) t207)) = 0 then (none) else ((congr_inverse.f kj21 (Int.tmod (IntKind.u64.wrap (Int.tdiv (IntKind.u64.wrap (a0_1)) t207)) (IntKind.u64.wrap (Int.tdiv (IntKind.u64.wrap (a1_1)) t207))) (IntKind.u64.wrap (Int.tdiv (IntKind.u64.wrap (a1_1)) t207))).bind fun t213 => ((bits_Mul64.f t212 t213).bind fun bt214 => ((congr_words_rest.f bt214.1 bt214.2 (IntKind.u64.wrap (Int.tdiv (IntKind.u64.wrap (a1_1)) t207))).bind fun t216 => ((congr_of.f kj21 (IntKind.u64.wrap ((IntKind.u64.wrap (a0_1)) * (IntKind.u64.wrap (Int.tdiv (IntKind.u64.wrap (a1_1)) t207)))) (IntKind.u64.wrap ((IntKind.u64.wrap ((IntKind.u64.wrap (a0_1)) * t216)) + (IntKind.u64.wrap (a0_2))))).bind fun bt217 => (some (bt217.1, bt217.2.1, bt217.2.2))))))))) else ((congr_of.f kj21 (IntKind.u64.wrap ((IntKind.u64.wrap (a0_1)) * (IntKind.u64.wrap (Int.tdiv (IntKind.u64.wrap (a1_1)) t207)))) (IntKind.u64.wrap ((IntKind.u64.wrap ((IntKind.u64.wrap (a0_1)) * 0)) + (IntKind.u64.wrap (a0_2))))).bind fun bt220 => (some (bt220.1, bt220.2.1, bt220.2.2)))) else ((congr_none.f).bind fun bt209 => (some (bt209.1, bt209.2.1, bt209.2.2)))))) = some (r1, r2, r3) := H
       have A62 := Aside0.mk A620
       clear A620
       replace H := Option.bind_eq_some_iff.mp H
       obtain ⟨t208, A630, H⟩ := H
       replace H : (if t207 = 0 then (none) else (if (Int.tmod t208 t207) = 0 then (if (IntKind.u64.wrap (Int.tdiv (IntKind.u64.wrap (a1_1)) t207)) > 1 then (if (wrap64 (t207)) = 0 then (none) else ((congr_rest.f (wrap64 (Int.tdiv (wrap64 (a1_2 - a0_2)) (wrap64 (t207)))) (IntKind.u64.wrap (Int.tdiv (IntKind.u64.wrap (a1_1)) t207))).bind fun t212 => (if (IntKind.u64.wrap (Int.tdiv (IntKind.u64.wrap (a1_1)) t207)) = 0 then (none) else ((congr_inverse.f kj21 (Int.tmod (IntKind.u64.wrap (Int.tdiv (IntKind.u64.wrap (a0_1)) t207)) (IntKind.u64.wrap (Int.tdiv (IntKind.u64.wrap (a1_1)) t207))) (IntKind.u64.wrap (Int.tdiv (IntKind.u64.wrap (a1_1)) t207))).bind fun t213 => ((bits_Mul64.f t212 t213).bind fun bt214 => ((congr_words_rest.f bt214.1 bt214.2 (IntKind.u64.wrap (Int.tdiv (IntKind.u64.wrap (a1_1)) t207))).bind fun t216 => ((congr_of.f kj21 (IntKind.u64.wrap ((IntKind.u64.wrap (a0_1)) * (IntKind.u64.wrap (Int.tdiv (IntKind.u64.wrap (a1_1)) t207)))) (IntKind.u64.wrap ((IntKind.u64.wrap ((IntKind.u64.wrap (a0_1)) * t216)) + (IntKind.u64.wrap (a0_2))))).bind fun bt217 => (some (bt217.1, bt217.2.1, bt217.2.2))))))))) else ((congr_of.f kj21 (IntKind.u64.wrap ((IntKind.u64.wrap (a0_1)) * (IntKind.u64.wrap (Int.tdiv (IntKind.u64.wrap (a1_1)) t207)))) (IntKind.u64.wrap ((IntKind.u64.wrap ((IntKind.u64.wrap (a0_1)) * 0)) + (IntKind.u64.wrap (a0_2))))).bind fun bt220 => (some (bt220.1, bt220.2.1, bt220.2.2)))) else ((congr_none.f).bind fun bt209 => (some (bt209.1, bt209.2.1, bt209.2.2))))) = some (r1, r2, r3) := H
       have A63 := Aside0.mk A630
       clear A630
       by_cases c64 : t207 = 0
       ·
        rw [if_pos c64] at H
        exact absurd H (by simp)
       ·
        rw [if_neg c64] at H
        have c64b0 : (t207 == 0) = false := beq_eq_false_iff_ne.mpr c64
        have c64b1 : (t207 != 0) = true := bne_iff_ne.mpr c64
        by_cases c65 : (Int.tmod t208 t207) = 0
        ·
         rw [if_pos c65] at H
         have c65b0 : ((Int.tmod t208 t207) == 0) = true := beq_iff_eq.mpr c65
         have c65b1 : ((Int.tmod t208 t207) != 0) = false := bne_eq_false_iff_eq.mpr c65
         clear c65
         by_cases c66 : (IntKind.u64.wrap (Int.tdiv (IntKind.u64.wrap (a1_1)) t207)) > 1
         ·
          rw [if_pos c66] at H
          have c66b0 : decide (1 < (IntKind.u64.wrap (Int.tdiv (IntKind.u64.wrap (a1_1)) t207))) = true := decide_eq_true c66
          clear c66
          by_cases c67 : (wrap64 (t207)) = 0
          ·
           rw [if_pos c67] at H
           exact absurd H (by simp)
          ·
           rw [if_neg c67] at H
           have c67b0 : ((wrap64 (t207)) == 0) = false := beq_eq_false_iff_ne.mpr c67
           have c67b1 : ((wrap64 (t207)) != 0) = true := bne_iff_ne.mpr c67
           replace H := Option.bind_eq_some_iff.mp H
           obtain ⟨t212, A680, H⟩ := H
           replace H : (if (IntKind.u64.wrap (Int.tdiv (IntKind.u64.wrap (a1_1)) t207)) = 0 then (none) else ((congr_inverse.f kj21 (Int.tmod (IntKind.u64.wrap (Int.tdiv (IntKind.u64.wrap (a0_1)) t207)) (IntKind.u64.wrap (Int.tdiv (IntKind.u64.wrap (a1_1)) t207))) (IntKind.u64.wrap (Int.tdiv (IntKind.u64.wrap (a1_1)) t207))).bind fun t213 => ((bits_Mul64.f t212 t213).bind fun bt214 => ((congr_words_rest.f bt214.1 bt214.2 (IntKind.u64.wrap (Int.tdiv (IntKind.u64.wrap (a1_1)) t207))).bind fun t216 => ((congr_of.f kj21 (IntKind.u64.wrap ((IntKind.u64.wrap (a0_1)) * (IntKind.u64.wrap (Int.tdiv (IntKind.u64.wrap (a1_1)) t207)))) (IntKind.u64.wrap ((IntKind.u64.wrap ((IntKind.u64.wrap (a0_1)) * t216)) + (IntKind.u64.wrap (a0_2))))).bind fun bt217 => (some (bt217.1, bt217.2.1, bt217.2.2))))))) = some (r1, r2, r3) := H
           have A68 := Aside0.mk A680
           clear A680
           by_cases c69 : (IntKind.u64.wrap (Int.tdiv (IntKind.u64.wrap (a1_1)) t207)) = 0
           ·
            rw [if_pos c69] at H
            exact absurd H (by simp)
           ·
            rw [if_neg c69] at H
            have c69b0 : ((IntKind.u64.wrap (Int.tdiv (IntKind.u64.wrap (a1_1)) t207)) == 0) = false := beq_eq_false_iff_ne.mpr c69
            have c69b1 : ((IntKind.u64.wrap (Int.tdiv (IntKind.u64.wrap (a1_1)) t207)) != 0) = true := bne_iff_ne.mpr c69
            replace H := Option.bind_eq_some_iff.mp H
            obtain ⟨t213, A700, H⟩ := H
            replace H : ((bits_Mul64.f t212 t213).bind fun bt214 => ((congr_words_rest.f bt214.1 bt214.2 (IntKind.u64.wrap (Int.tdiv (IntKind.u64.wrap (a1_1)) t207))).bind fun t216 => ((congr_of.f kj21 (IntKind.u64.wrap ((IntKind.u64.wrap (a0_1)) * (IntKind.u64.wrap (Int.tdiv (IntKind.u64.wrap (a1_1)) t207)))) (IntKind.u64.wrap ((IntKind.u64.wrap ((IntKind.u64.wrap (a0_1)) * t216)) + (IntKind.u64.wrap (a0_2))))).bind fun bt217 => (some (bt217.1, bt217.2.1, bt217.2.2))))) = some (r1, r2, r3) := H
            have A70 := Aside0.mk A700
            clear A700
            replace H := Option.bind_eq_some_iff.mp H
            obtain ⟨⟨t214, t215⟩, A710, H⟩ := H
            replace H : ((congr_words_rest.f t214 t215 (IntKind.u64.wrap (Int.tdiv (IntKind.u64.wrap (a1_1)) t207))).bind fun t216 => ((congr_of.f kj21 (IntKind.u64.wrap ((IntKind.u64.wrap (a0_1)) * (IntKind.u64.wrap (Int.tdiv (IntKind.u64.wrap (a1_1)) t207)))) (IntKind.u64.wrap ((IntKind.u64.wrap ((IntKind.u64.wrap (a0_1)) * t216)) + (IntKind.u64.wrap (a0_2))))).bind fun bt217 => (some (bt217.1, bt217.2.1, bt217.2.2)))) = some (r1, r2, r3) := H
            have A71 := Aside0.mk A710
            clear A710
            replace H := Option.bind_eq_some_iff.mp H
            obtain ⟨t216, A720, H⟩ := H
            replace H : ((congr_of.f kj21 (IntKind.u64.wrap ((IntKind.u64.wrap (a0_1)) * (IntKind.u64.wrap (Int.tdiv (IntKind.u64.wrap (a1_1)) t207)))) (IntKind.u64.wrap ((IntKind.u64.wrap ((IntKind.u64.wrap (a0_1)) * t216)) + (IntKind.u64.wrap (a0_2))))).bind fun bt217 => (some (bt217.1, bt217.2.1, bt217.2.2))) = some (r1, r2, r3) := H
            have A72 := Aside0.mk A720
            clear A720
            replace H := Option.bind_eq_some_iff.mp H
            obtain ⟨⟨t217, t218, t219⟩, A730, H⟩ := H
            replace H : (some (t217, t218, t219)) = some (r1, r2, r3) := H
            have A73 := Aside0.mk A730
            clear A730
            simp only [Option.some.injEq, Prod.mk.injEq] at H
            obtain ⟨rfl, rfl, rfl⟩ := H
            try go_wp2
            replace BK197 := Aside0.mk (blk_drew BK197.out)
            replace BK198 := Aside0.mk (blk_drew BK198.out)
            replace BK199 := Aside0.mk (blk_drew BK199.out)
            replace HB := Aside0.mk (below_drew1 HB.out)
            refine start_ (n := 8) (S := fun w' => w'.cell? ⟨gb197, 0, none⟩ = some (.bool a0_0) ∧ w'.cell? ⟨gb197, 1, none⟩ = some (.int .i64 a0_1) ∧ w'.cell? ⟨gb197, 2, none⟩ = some (.int .i64 a0_2) ∧ w'.cell? ⟨gb198, 0, none⟩ = some (.bool a1_0) ∧ w'.cell? ⟨gb198, 1, none⟩ = some (.int .i64 a1_1) ∧ w'.cell? ⟨gb198, 2, none⟩ = some (.int .i64 a1_2)) (ds := []) #[false, false, false, false, false, false, false, false] (by kernel_rfl) rfl rfl ⟨cz0 BK197, cz1 BK197, cz2 BK197, cz0 BK198, cz1 BK198, cz2 BK198⟩ (fun hHeld => ?_); refine with_tabW congr_Meet.tab9 congr_Meet.bits9 (fun HT_ HW_ => ?_)
            generalize wc.drew = w74 at BK197 BK198 BK199 HB hHeld ⊢
            refine pure_ (i := 0) (N := some 39) (v := ?_) (a' := ?_) #[true, false, false, false, false, false, false, false] rfl rfl (any_of HT_.out (by kernel_rfl)) (fun _ _ _ h => h) (Or.inl ⟨by rfl, ?_⟩) ?_ ?_
            rotate_left
            ·
             intro w'
             go_simp
             with_reducible rfl
            rotate_left
            ·
             simp only [Act.put, lA, lB, lC, i64_w, i32_w]
             rfl
            refine pure_ (i := 3) (N := some 42) (v := ?_) (a' := ?_) #[true, false, false, true, false, false, false, false] rfl rfl (any_of HT_.out (by kernel_rfl)) (fun _ _ _ h => h) (Or.inl ⟨by rfl, ?_⟩) ?_ ?_
            rotate_left
            ·
             intro w'
             go_simp
             with_reducible rfl
            rotate_left
            ·
             simp only [Act.put, lA, lB, lC, i64_w, i32_w]
             rfl
            refine take_ (i := 1) (N := some 40) (v := ?_) (a' := ?_) #[true, true, false, true, false, false, false, false] rfl rfl (take_ofW HT_.out HW_.out (by kernel_rfl)) (fun _ _ _ h => h) (Or.inl ⟨by rfl, ?_⟩) hHeld ?_ ?_
            rotate_left
            ·
             rintro w' ⟨s0, s1, s2, s3, s4, s5⟩
             go_simp
             with_reducible rfl
            rotate_left
            ·
             simp only [Act.put, lA, lB, lC, i64_w, i32_w]
             rfl
            refine pure_ (i := 2) (N := some 41) (v := ?_) (a' := ?_) #[true, true, true, true, false, false, false, false] rfl rfl (any_of HT_.out (by kernel_rfl)) (fun _ _ _ h => h) (Or.inl ⟨by rfl, ?_⟩) ?_ ?_
            rotate_left
            ·
             intro w'
             go_simp
             with_reducible rfl
            rotate_left
            ·
             simp only [Act.put, lA, lB, lC, i64_w, i32_w]
             rfl
            refine pure_ (i := 6) (N := some 5) (v := ?_) (a' := ?_) #[true, true, true, true, false, false, true, false] rfl rfl (any_of HT_.out (by kernel_rfl)) (fun _ _ _ h => h) (Or.inl ⟨by rfl, ?_⟩) ?_ ?_
            rotate_left
            ·
             intro w'
             go_simp
             with_reducible rfl
            rotate_left
            ·
             simp only [Act.put, lA, lB, lC, i64_w, i32_w]
             rfl
            refine take_ (i := 4) (N := some 43) (v := ?_) (a' := ?_) #[true, true, true, true, true, false, true, false] rfl rfl (take_ofW HT_.out HW_.out (by kernel_rfl)) (fun _ _ _ h => h) (Or.inl ⟨by rfl, ?_⟩) hHeld ?_ ?_
            rotate_left
            ·
             rintro w' ⟨s0, s1, s2, s3, s4, s5⟩
             go_simp
             with_reducible rfl
            rotate_left
            ·
             simp only [Act.put, lA, lB, lC, i64_w, i32_w]
             rfl
            refine pure_ (i := 5) (N := some 44) (v := ?_) (a' := ?_) #[true, true, true, true, true, true, true, false] rfl rfl (any_of HT_.out (by kernel_rfl)) (fun _ _ _ h => h) (Or.inl ⟨by rfl, ?_⟩) ?_ ?_
            rotate_left
            ·
             intro w'
             go_simp
             with_reducible rfl
            rotate_left
            ·
             simp only [Act.put, lA, lB, lC, i64_w, i32_w]
             rfl
            refine pure_ (i := 7) (N := some 6) (v := ?_) (a' := ?_) #[true, true, true, true, true, true, true, true] rfl rfl (any_of HT_.out (by kernel_rfl)) (fun _ _ _ h => h) (Or.inl ⟨by rfl, ?_⟩) ?_ ?_
            rotate_left
            ·
             intro w'
             go_simp
             with_reducible rfl
            rotate_left
            ·
             simp only [Act.put, lA, lB, lC, i64_w, i32_w]
             rfl
            refine done_ (done_of HT_.out (by kernel_rfl)) ?_
            try go_wp2_with (first | ((with_reducible refine gate_callee (f := 62) rfl ?_); refine goesL_ (some 47) rfl rfl Tryd.func62 (by kernel_rfl) rfl #[.int .u64 (IntKind.u64.wrap (a0_1)), .int .u64 (IntKind.u64.wrap (a1_1))] rfl mS ?_; (with_reducible refine (congr_gcd_uint64.calls kj21 (IntKind.u64.wrap (a0_1)) (IntKind.u64.wrap (a1_1)) t207 _ A62.out).mono ?_); rintro e w' ⟨rfl, ⟨nd, rfl⟩⟩; refine ⟨_, rfl, ?_⟩; (try (rw [drewN_self w74]; generalize hq_ : World.drewN w74 _ = w74; have n0_ : Aside0 (w74.heap[gb197]? = some (.cells #[.bool a0_0, .int .i64 a0_1, .int .i64 a0_2] 23 (0, 0))) := ⟨by rw [← hq_]; exact (bkS BK197)⟩; have n1_ : Aside0 (w74.heap[gb198]? = some (.cells #[.bool a1_0, .int .i64 a1_1, .int .i64 a1_2] 23 (0, 0))) := ⟨by rw [← hq_]; exact (bkS BK198)⟩; have n2_ : Aside0 (w74.heap[gb199]? = some (.cells #[.bool false, .int .i64 0, .int .i64 0] 23 (0, 0))) := ⟨by rw [← hq_]; exact (bkS BK199)⟩; have n3_ : Aside0 (Below w.heap.size w w74) := ⟨by rw [← hq_]; exact (bS HB)⟩; clear BK197 BK198 BK199 HB hq_; have BK197 := n0_; have BK198 := n1_; have BK199 := n2_; have HB := n3_; clear n0_ n1_ n2_ n3_)); have hnb75 := NB197_198.out; have hnc75 := NB198_197.out; have hnb76 := NB197_199.out; have hnc76 := NB199_197.out; have hcz77_0 := cz0 BK197; have hcz77_1 := cz1 BK197; have hcz77_2 := cz2 BK197; have hfz77_0 := fz BK197 0; have hfz77_1 := fz BK197 1; have hfz77_2 := fz BK197 2; have hnb78 := NB198_199.out; have hnc78 := NB199_198.out; have hcz79_0 := cz0 BK198; have hcz79_1 := cz1 BK198; have hcz79_2 := cz2 BK198; have hfz79_0 := fz BK198 0; have hfz79_1 := fz BK198 1; have hfz79_2 := fz BK198 2) | ((with_reducible refine gate_callee (f := 52) rfl ?_); refine goesL_ (some 53) rfl rfl Tryd.func52 (by kernel_rfl) rfl #[.int .i64 (wrap64 (a0_2 - a1_2))] rfl mS ?_; (with_reducible refine (congr_size.calls (wrap64 (a0_2 - a1_2)) t208 _ A63.out).mono ?_); rintro e w' ⟨rfl, ⟨nd, rfl⟩⟩; refine ⟨_, rfl, ?_⟩; (try (rw [drewN_self w74]; generalize hq_ : World.drewN w74 _ = w74; have n0_ : Aside0 (w74.heap[gb197]? = some (.cells #[.bool a0_0, .int .i64 a0_1, .int .i64 a0_2] 23 (0, 0))) := ⟨by rw [← hq_]; exact (bkS BK197)⟩; have n1_ : Aside0 (w74.heap[gb198]? = some (.cells #[.bool a1_0, .int .i64 a1_1, .int .i64 a1_2] 23 (0, 0))) := ⟨by rw [← hq_]; exact (bkS BK198)⟩; have n2_ : Aside0 (w74.heap[gb199]? = some (.cells #[.bool false, .int .i64 0, .int .i64 0] 23 (0, 0))) := ⟨by rw [← hq_]; exact (bkS BK199)⟩; have n3_ : Aside0 (Below w.heap.size w w74) := ⟨by rw [← hq_]; exact (bS HB)⟩; clear BK197 BK198 BK199 HB hq_; have BK197 := n0_; have BK198 := n1_; have BK199 := n2_; have HB := n3_; clear n0_ n1_ n2_ n3_))))
            replace BK197 := Aside0.mk (blk_drew BK197.out)
            replace BK198 := Aside0.mk (blk_drew BK198.out)
            replace BK199 := Aside0.mk (blk_drew BK199.out)
            replace HB := Aside0.mk (below_drew1 HB.out)
            refine start_ (n := 29) (S := fun w' => w'.cell? ⟨gb198, 0, none⟩ = some (.bool a1_0) ∧ w'.cell? ⟨gb198, 1, none⟩ = some (.int .i64 a1_1) ∧ w'.cell? ⟨gb198, 2, none⟩ = some (.int .i64 a1_2) ∧ w'.cell? ⟨gb197, 0, none⟩ = some (.bool a0_0) ∧ w'.cell? ⟨gb197, 1, none⟩ = some (.int .i64 a0_1) ∧ w'.cell? ⟨gb197, 2, none⟩ = some (.int .i64 a0_2)) (ds := []) #[false, false, false, false, false, false, false, false, false, false, false, false, false, false, false, false, false, false, false, false, false, false, false, false, false, false, false, false, false] (by kernel_rfl) rfl rfl ⟨cz0 BK198, cz1 BK198, cz2 BK198, cz0 BK197, cz1 BK197, cz2 BK197⟩ (fun hHeld => ?_); refine with_tabW congr_Meet.tab15 congr_Meet.bits15 (fun HT_ HW_ => ?_)
            generalize w74.drew = w80 at BK197 BK198 BK199 HB hHeld ⊢
            refine pure_ (i := 0) (N := some 63) (v := ?_) (a' := ?_) #[true, false, false, false, false, false, false, false, false, false, false, false, false, false, false, false, false, false, false, false, false, false, false, false, false, false, false, false, false] rfl rfl (any_of HT_.out (by kernel_rfl)) (fun _ _ _ h => h) (Or.inl ⟨by rfl, ?_⟩) ?_ ?_
            rotate_left
            ·
             intro w'
             go_simp
             with_reducible rfl
            rotate_left
            ·
             simp only [Act.put, lA, lB, lC, i64_w, i32_w]
             rfl
            refine pure_ (i := 2) (N := some 65) (v := ?_) (a' := ?_) #[true, false, true, false, false, false, false, false, false, false, false, false, false, false, false, false, false, false, false, false, false, false, false, false, false, false, false, false, false] rfl rfl (any_of HT_.out (by kernel_rfl)) (fun _ _ _ h => h) (Or.inl ⟨by rfl, ?_⟩) ?_ ?_
            rotate_left
            ·
             intro w'
             go_simp
             with_reducible rfl
            rotate_left
            ·
             simp only [Act.put, lA, lB, lC, i64_w, i32_w]
             rfl
            refine pure_ (i := 5) (N := some 68) (v := ?_) (a' := ?_) #[true, false, true, false, false, true, false, false, false, false, false, false, false, false, false, false, false, false, false, false, false, false, false, false, false, false, false, false, false] rfl rfl (any_of HT_.out (by kernel_rfl)) (fun _ _ _ h => h) (Or.inl ⟨by rfl, ?_⟩) ?_ ?_
            rotate_left
            ·
             intro w'
             go_simp
             with_reducible rfl
            rotate_left
            ·
             simp only [Act.put, lA, lB, lC, i64_w, i32_w]
             rfl
            refine pure_ (i := 6) (N := some 69) (v := ?_) (a' := ?_) #[true, false, true, false, false, true, true, false, false, false, false, false, false, false, false, false, false, false, false, false, false, false, false, false, false, false, false, false, false] rfl rfl (any_of HT_.out (by kernel_rfl)) (fun _ _ _ h => h) (Or.inl ⟨by rfl, ?_⟩) ?_ ?_
            rotate_left
            ·
             intro w'
             go_simp
             with_reducible rfl
            rotate_left
            ·
             simp only [Act.put, lA, lB, lC, i64_w, i32_w]
             rfl
            refine pure_ (i := 8) (N := some 71) (v := ?_) (a' := ?_) #[true, false, true, false, false, true, true, false, true, false, false, false, false, false, false, false, false, false, false, false, false, false, false, false, false, false, false, false, false] rfl rfl (any_of HT_.out (by kernel_rfl)) (fun _ _ _ h => h) (Or.inl ⟨by rfl, ?_⟩) ?_ ?_
            rotate_left
            ·
             intro w'
             go_simp
             with_reducible rfl
            rotate_left
            ·
             simp only [Act.put, lA, lB, lC, i64_w, i32_w]
             rfl
            refine pure_ (i := 9) (N := some 72) (v := ?_) (a' := ?_) #[true, false, true, false, false, true, true, false, true, true, false, false, false, false, false, false, false, false, false, false, false, false, false, false, false, false, false, false, false] rfl rfl (any_of HT_.out (by kernel_rfl)) (fun _ _ _ h => h) (Or.inl ⟨by rfl, ?_⟩) ?_ ?_
            rotate_left
            ·
             intro w'
             go_simp
             with_reducible rfl
            rotate_left
            ·
             simp only [Act.put, lA, lB, lC, i64_w, i32_w]
             rfl
            refine pure_ (i := 10) (N := some 73) (v := ?_) (a' := ?_) #[true, false, true, false, false, true, true, false, true, true, true, false, false, false, false, false, false, false, false, false, false, false, false, false, false, false, false, false, false] rfl rfl (any_of HT_.out (by kernel_rfl)) (fun _ _ _ h => h) (Or.inl ⟨by rfl, ?_⟩) ?_ ?_
            rotate_left
            ·
             intro w'
             go_simp
             with_reducible rfl
            rotate_left
            ·
             simp only [Act.put, lA, lB, lC, i64_w, i32_w]
             rfl
            refine pure_ (i := 12) (N := some 75) (v := ?_) (a' := ?_) #[true, false, true, false, false, true, true, false, true, true, true, false, true, false, false, false, false, false, false, false, false, false, false, false, false, false, false, false, false] rfl rfl (any_of HT_.out (by kernel_rfl)) (fun _ _ _ h => h) (Or.inl ⟨by rfl, ?_⟩) ?_ ?_
            rotate_left
            ·
             intro w'
             go_simp
             with_reducible rfl
            rotate_left
            ·
             simp only [Act.put, lA, lB, lC, i64_w, i32_w]
             rfl
            refine pure_ (i := 13) (N := some 76) (v := ?_) (a' := ?_) #[true, false, true, false, false, true, true, false, true, true, true, false, true, true, false, false, false, false, false, false, false, false, false, false, false, false, false, false, false] rfl rfl (any_of HT_.out (by kernel_rfl)) (fun _ _ _ h => h) (Or.inl ⟨by rfl, ?_⟩) ?_ ?_
            rotate_left
            ·
             intro w'
             go_simp
             with_reducible rfl
            rotate_left
            ·
             simp only [Act.put, lA, lB, lC, i64_w, i32_w]
             rfl
            refine pure_ (i := 14) (N := some 77) (v := ?_) (a' := ?_) #[true, false, true, false, false, true, true, false, true, true, true, false, true, true, true, false, false, false, false, false, false, false, false, false, false, false, false, false, false] rfl rfl (any_of HT_.out (by kernel_rfl)) (fun _ _ _ h => h) (Or.inl ⟨by rfl, ?_⟩) ?_ ?_
            rotate_left
            ·
             intro w'
             go_simp
             with_reducible rfl
            rotate_left
            ·
             simp only [Act.put, lA, lB, lC, i64_w, i32_w]
             rfl
            refine pure_ (i := 15) (N := some 78) (v := ?_) (a' := ?_) #[true, false, true, false, false, true, true, false, true, true, true, false, true, true, true, true, false, false, false, false, false, false, false, false, false, false, false, false, false] rfl rfl (any_of HT_.out (by kernel_rfl)) (fun _ _ _ h => h) (Or.inl ⟨by rfl, ?_⟩) ?_ ?_
            rotate_left
            ·
             intro w'
             go_simp
             with_reducible rfl
            rotate_left
            ·
             simp only [Act.put, lA, lB, lC, i64_w, i32_w]
             rfl
            refine pure_ (i := 16) (N := some 79) (v := ?_) (a' := ?_) #[true, false, true, false, false, true, true, false, true, true, true, false, true, true, true, true, true, false, false, false, false, false, false, false, false, false, false, false, false] rfl rfl (any_of HT_.out (by kernel_rfl)) (fun _ _ _ h => h) (Or.inl ⟨by rfl, ?_⟩) ?_ ?_
            rotate_left
            ·
             intro w'
             go_simp
             with_reducible rfl
            rotate_left
            ·
             simp only [Act.put, lA, lB, lC, i64_w, i32_w]
             rfl
            refine pure_ (i := 17) (N := some 80) (v := ?_) (a' := ?_) #[true, false, true, false, false, true, true, false, true, true, true, false, true, true, true, true, true, true, false, false, false, false, false, false, false, false, false, false, false] rfl rfl (any_of HT_.out (by kernel_rfl)) (fun _ _ _ h => h) (Or.inl ⟨by rfl, ?_⟩) ?_ ?_
            rotate_left
            ·
             intro w'
             go_simp
             with_reducible rfl
            rotate_left
            ·
             simp only [Act.put, lA, lB, lC, i64_w, i32_w]
             rfl
            refine pure_ (i := 18) (N := some 81) (v := ?_) (a' := ?_) #[true, false, true, false, false, true, true, false, true, true, true, false, true, true, true, true, true, true, true, false, false, false, false, false, false, false, false, false, false] rfl rfl (any_of HT_.out (by kernel_rfl)) (fun _ _ _ h => h) (Or.inl ⟨by rfl, ?_⟩) ?_ ?_
            rotate_left
            ·
             intro w'
             go_simp
             with_reducible rfl
            rotate_left
            ·
             simp only [Act.put, lA, lB, lC, i64_w, i32_w]
             rfl
            refine pure_ (i := 19) (N := some 82) (v := ?_) (a' := ?_) #[true, false, true, false, false, true, true, false, true, true, true, false, true, true, true, true, true, true, true, true, false, false, false, false, false, false, false, false, false] rfl rfl (any_of HT_.out (by kernel_rfl)) (fun _ _ _ h => h) (Or.inl ⟨by rfl, ?_⟩) ?_ ?_
            rotate_left
            ·
             intro w'
             go_simp
             with_reducible rfl
            rotate_left
            ·
             simp only [Act.put, lA, lB, lC, i64_w, i32_w]
             rfl
            refine pure_ (i := 20) (N := some 83) (v := ?_) (a' := ?_) #[true, false, true, false, false, true, true, false, true, true, true, false, true, true, true, true, true, true, true, true, true, false, false, false, false, false, false, false, false] rfl rfl (any_of HT_.out (by kernel_rfl)) (fun _ _ _ h => h) (Or.inl ⟨by rfl, ?_⟩) ?_ ?_
            rotate_left
            ·
             intro w'
             go_simp
             with_reducible rfl
            rotate_left
            ·
             simp only [Act.put, lA, lB, lC, i64_w, i32_w]
             rfl
            refine pure_ (i := 21) (N := some 84) (v := ?_) (a' := ?_) #[true, false, true, false, false, true, true, false, true, true, true, false, true, true, true, true, true, true, true, true, true, true, false, false, false, false, false, false, false] rfl rfl (any_of HT_.out (by kernel_rfl)) (fun _ _ _ h => h) (Or.inl ⟨by rfl, ?_⟩) ?_ ?_
            rotate_left
            ·
             intro w'
             go_simp
             with_reducible rfl
            rotate_left
            ·
             simp only [Act.put, lA, lB, lC, i64_w, i32_w]
             rfl
            refine take_ (i := 1) (N := some 64) (v := ?_) (a' := ?_) #[true, true, true, false, false, true, true, false, true, true, true, false, true, true, true, true, true, true, true, true, true, true, false, false, false, false, false, false, false] rfl rfl (take_ofW HT_.out HW_.out (by kernel_rfl)) (fun _ _ _ h => h) (Or.inl ⟨by rfl, ?_⟩) hHeld ?_ ?_
            rotate_left
            ·
             rintro w' ⟨s0, s1, s2, s3, s4, s5⟩
             go_simp
             with_reducible rfl
            rotate_left
            ·
             simp only [Act.put, lA, lB, lC, i64_w, i32_w]
             rfl
            refine take_ (i := 3) (N := some 66) (v := ?_) (a' := ?_) #[true, true, true, true, false, true, true, false, true, true, true, false, true, true, true, true, true, true, true, true, true, true, false, false, false, false, false, false, false] rfl rfl (take_ofW HT_.out HW_.out (by kernel_rfl)) (fun _ _ _ h => h) (Or.inl ⟨by rfl, ?_⟩) hHeld ?_ ?_
            rotate_left
            ·
             rintro w' ⟨s0, s1, s2, s3, s4, s5⟩
             go_simp
             with_reducible rfl
            rotate_left
            ·
             simp only [Act.put, lA, lB, lC, i64_w, i32_w]
             rfl
            refine pure_ (i := 4) (N := some 67) (v := ?_) (a' := ?_) #[true, true, true, true, true, true, true, false, true, true, true, false, true, true, true, true, true, true, true, true, true, true, false, false, false, false, false, false, false] rfl rfl (any_of HT_.out (by kernel_rfl)) (fun _ _ _ h => h) (Or.inl ⟨by rfl, ?_⟩) ?_ ?_
            rotate_left
            ·
             intro w'
             go_simp
             with_reducible rfl
            rotate_left
            ·
             simp only [Act.put, lA, lB, lC, i64_w, i32_w]
             rfl
            refine pure_ (i := 7) (N := some 70) (v := ?_) (a' := ?_) #[true, true, true, true, true, true, true, true, true, true, true, false, true, true, true, true, true, true, true, true, true, true, false, false, false, false, false, false, false] rfl rfl (any_of HT_.out (by kernel_rfl)) (fun _ _ _ h => h) (Or.inl ⟨by rfl, ?_⟩) ?_ ?_
            rotate_left
            ·
             intro w'
             go_simp
             with_reducible rfl
            rotate_left
            ·
             simp only [Act.put, lA, lB, lC, i64_w, i32_w]
             rfl
            refine one_ (i := 11) (N := some 74) #[true, true, true, true, true, true, true, true, true, true, true, true, true, true, true, true, true, true, true, true, true, true, false, false, false, false, false, false, false] rfl rfl (one_of HT_.out (by kernel_rfl)) (by decide) (fun K hK => ?_)
            refine goes_ Tryd.func53 (by kernel_rfl) rfl #[.int .i64 (wrap64 (Int.tdiv (wrap64 (a1_2 - a0_2)) (wrap64 (t207)))), .int .u64 (IntKind.u64.wrap (Int.tdiv (IntKind.u64.wrap (a1_1)) t207))] (by rfl) rfl rfl mS ?_
            with_reducible refine (congr_rest.calls (wrap64 (Int.tdiv (wrap64 (a1_2 - a0_2)) (wrap64 (t207)))) (IntKind.u64.wrap (Int.tdiv (IntKind.u64.wrap (a1_1)) t207)) t212 _ A68.out).mono ?_
            rintro e w' ⟨rfl, ⟨nd, rfl⟩⟩
            refine ⟨_, rfl, ?_⟩
            refine hK.out _ _ ⟨cz0 BK198, cz1 BK198, cz2 BK198, cz0 BK197, cz1 BK197, cz2 BK197⟩ (fun hHeld => ?_)
            clear hK K
            refine norm_ (a' := ?_) ?_ ?_
            rotate_left
            ·
             show Act.put _ (some 74) _ = _
             simp only [Act.put, lA, lB, lC, i64_w, i32_w]
             rfl
            refine one_ (i := 22) (N := some 85) #[true, true, true, true, true, true, true, true, true, true, true, true, true, true, true, true, true, true, true, true, true, true, true, false, false, false, false, false, false] rfl rfl (one_of HT_.out (by kernel_rfl)) (by decide) (fun K hK => ?_)
            refine goes_ Tryd.func64 (by kernel_rfl) rfl #[.int .u64 (Int.tmod (IntKind.u64.wrap (Int.tdiv (IntKind.u64.wrap (a0_1)) t207)) (IntKind.u64.wrap (Int.tdiv (IntKind.u64.wrap (a1_1)) t207))), .int .u64 (IntKind.u64.wrap (Int.tdiv (IntKind.u64.wrap (a1_1)) t207))] (by rfl) rfl rfl mS ?_
            with_reducible refine (congr_inverse.calls kj21 (Int.tmod (IntKind.u64.wrap (Int.tdiv (IntKind.u64.wrap (a0_1)) t207)) (IntKind.u64.wrap (Int.tdiv (IntKind.u64.wrap (a1_1)) t207))) (IntKind.u64.wrap (Int.tdiv (IntKind.u64.wrap (a1_1)) t207)) t213 _ A70.out).mono ?_
            rintro e w' ⟨rfl, ⟨nd, rfl⟩⟩
            refine ⟨_, rfl, ?_⟩
            refine hK.out _ _ ⟨cz0 BK198, cz1 BK198, cz2 BK198, cz0 BK197, cz1 BK197, cz2 BK197⟩ (fun hHeld => ?_)
            clear hK K
            refine norm_ (a' := ?_) ?_ ?_
            rotate_left
            ·
             show Act.put _ (some 85) _ = _
             simp only [Act.put, lA, lB, lC, i64_w, i32_w]
             rfl
            refine one_ (i := 23) (N := some 86) #[true, true, true, true, true, true, true, true, true, true, true, true, true, true, true, true, true, true, true, true, true, true, true, true, false, false, false, false, false] rfl rfl (one_of HT_.out (by kernel_rfl)) (by decide) (fun K hK => ?_)
            refine goes_ Tryd.func63 (by kernel_rfl) rfl #[.int .u64 t212, .int .u64 t213] (by rfl) rfl rfl mS ?_
            with_reducible refine (bits_Mul64.calls t212 t213 t214 t215 _ A71.out).mono ?_
            rintro e w' ⟨rfl, ⟨nd, rfl⟩⟩
            refine ⟨_, rfl, ?_⟩
            refine hK.out _ _ ⟨cz0 BK198, cz1 BK198, cz2 BK198, cz0 BK197, cz1 BK197, cz2 BK197⟩ (fun hHeld => ?_)
            clear hK K
            refine norm_ (a' := ?_) ?_ ?_
            rotate_left
            ·
             show Act.put _ (some 86) _ = _
             simp only [Act.put, lA, lB, lC, i64_w, i32_w]
             rfl
            refine pure_ (i := 24) (N := some 62) (v := ?_) (a' := ?_) #[true, true, true, true, true, true, true, true, true, true, true, true, true, true, true, true, true, true, true, true, true, true, true, true, true, false, false, false, false] rfl rfl (any_of HT_.out (by kernel_rfl)) (fun _ _ _ h => h) (Or.inl ⟨by rfl, ?_⟩) ?_ ?_
            rotate_left
            ·
             intro w'
             go_simp
             with_reducible rfl
            rotate_left
            ·
             simp only [Act.put, lA, lB, lC, i64_w, i32_w]
             rfl
            refine pure_ (i := 25) (N := some 87) (v := ?_) (a' := ?_) #[true, true, true, true, true, true, true, true, true, true, true, true, true, true, true, true, true, true, true, true, true, true, true, true, true, true, false, false, false] rfl rfl (any_of HT_.out (by kernel_rfl)) (fun _ _ _ h => h) (Or.inl ⟨by rfl, ?_⟩) ?_ ?_
            rotate_left
            ·
             intro w'
             go_simp
             with_reducible rfl
            rotate_left
            ·
             simp only [Act.put, lA, lB, lC, i64_w, i32_w]
             rfl
            refine pure_ (i := 26) (N := some 88) (v := ?_) (a' := ?_) #[true, true, true, true, true, true, true, true, true, true, true, true, true, true, true, true, true, true, true, true, true, true, true, true, true, true, true, false, false] rfl rfl (any_of HT_.out (by kernel_rfl)) (fun _ _ _ h => h) (Or.inl ⟨by rfl, ?_⟩) ?_ ?_
            rotate_left
            ·
             intro w'
             go_simp
             with_reducible rfl
            rotate_left
            ·
             simp only [Act.put, lA, lB, lC, i64_w, i32_w]
             rfl
            refine pure_ (i := 27) (N := some 9) (v := ?_) (a' := ?_) #[true, true, true, true, true, true, true, true, true, true, true, true, true, true, true, true, true, true, true, true, true, true, true, true, true, true, true, true, false] rfl rfl (any_of HT_.out (by kernel_rfl)) (fun _ _ _ h => h) (Or.inl ⟨by rfl, ?_⟩) ?_ ?_
            rotate_left
            ·
             intro w'
             go_simp
             with_reducible rfl
            rotate_left
            ·
             simp only [Act.put, lA, lB, lC, i64_w, i32_w]
             rfl
            refine pure_ (i := 28) (N := some 10) (v := ?_) (a' := ?_) #[true, true, true, true, true, true, true, true, true, true, true, true, true, true, true, true, true, true, true, true, true, true, true, true, true, true, true, true, true] rfl rfl (any_of HT_.out (by kernel_rfl)) (fun _ _ _ h => h) (Or.inl ⟨by rfl, ?_⟩) ?_ ?_
            rotate_left
            ·
             intro w'
             go_simp
             with_reducible rfl
            rotate_left
            ·
             simp only [Act.put, lA, lB, lC, i64_w, i32_w]
             rfl
            refine done_ (done_of HT_.out (by kernel_rfl)) ?_
            try go_wp2_with (first | ((with_reducible refine gate_callee (f := 65) rfl ?_); refine goesL_ (some 95) rfl rfl Tryd.func65 (by kernel_rfl) rfl #[.agg #[.int .u64 t214, .int .u64 t215], .int .u64 (IntKind.u64.wrap (Int.tdiv (IntKind.u64.wrap (a1_1)) t207))] rfl mS ?_; (with_reducible refine (congr_words_rest.calls t214 t215 (IntKind.u64.wrap (Int.tdiv (IntKind.u64.wrap (a1_1)) t207)) t216 _ A72.out).mono ?_); rintro e w81 ⟨rfl, hb⟩; refine ⟨_, rfl, ?_⟩; replace BK197 := kB BK197 hb; replace BK198 := kB BK198 hb; replace BK199 := kB BK199 hb; replace HB := kW HB hb; (try clear hb); (try clear hb2); (try clear hk); (try clear hi)))
            replace BK197 := Aside0.mk (blk_drew BK197.out)
            replace BK198 := Aside0.mk (blk_drew BK198.out)
            replace BK199 := Aside0.mk (blk_drew BK199.out)
            replace HB := Aside0.mk (below_drew1 HB.out)
            refine start_ (n := 14) (S := fun w' => w'.cell? ⟨gb197, 0, none⟩ = some (.bool a0_0) ∧ w'.cell? ⟨gb197, 1, none⟩ = some (.int .i64 a0_1) ∧ w'.cell? ⟨gb197, 2, none⟩ = some (.int .i64 a0_2)) (ds := []) #[false, false, false, false, false, false, false, false, false, false, false, false, false, false] (by kernel_rfl) rfl rfl ⟨cz0 BK197, cz1 BK197, cz2 BK197⟩ (fun hHeld => ?_); refine with_tabW congr_Meet.tab17 congr_Meet.bits17 (fun HT_ HW_ => ?_)
            generalize w81.drew = w82 at BK197 BK198 BK199 HB hHeld ⊢
            refine pure_ (i := 0) (N := some 96) (v := ?_) (a' := ?_) #[true, false, false, false, false, false, false, false, false, false, false, false, false, false] rfl rfl (any_of HT_.out (by kernel_rfl)) (fun _ _ _ h => h) (Or.inl ⟨by rfl, ?_⟩) ?_ ?_
            rotate_left
            ·
             intro w'
             go_simp
             with_reducible rfl
            rotate_left
            ·
             simp only [Act.put, lA, lB, lC, i64_w, i32_w]
             rfl
            refine pure_ (i := 1) (N := some 97) (v := ?_) (a' := ?_) #[true, true, false, false, false, false, false, false, false, false, false, false, false, false] rfl rfl (any_of HT_.out (by kernel_rfl)) (fun _ _ _ h => h) (Or.inl ⟨by rfl, ?_⟩) ?_ ?_
            rotate_left
            ·
             intro w'
             go_simp
             with_reducible rfl
            rotate_left
            ·
             simp only [Act.put, lA, lB, lC, i64_w, i32_w]
             rfl
            refine pure_ (i := 2) (N := some 98) (v := ?_) (a' := ?_) #[true, true, true, false, false, false, false, false, false, false, false, false, false, false] rfl rfl (any_of HT_.out (by kernel_rfl)) (fun _ _ _ h => h) (Or.inl ⟨by rfl, ?_⟩) ?_ ?_
            rotate_left
            ·
             intro w'
             go_simp
             with_reducible rfl
            rotate_left
            ·
             simp only [Act.put, lA, lB, lC, i64_w, i32_w]
             rfl
            refine pure_ (i := 3) (N := some 99) (v := ?_) (a' := ?_) #[true, true, true, true, false, false, false, false, false, false, false, false, false, false] rfl rfl (any_of HT_.out (by kernel_rfl)) (fun _ _ _ h => h) (Or.inl ⟨by rfl, ?_⟩) ?_ ?_
            rotate_left
            ·
             intro w'
             go_simp
             with_reducible rfl
            rotate_left
            ·
             simp only [Act.put, lA, lB, lC, i64_w, i32_w]
             rfl
            refine pure_ (i := 4) (N := some 100) (v := ?_) (a' := ?_) #[true, true, true, true, true, false, false, false, false, false, false, false, false, false] rfl rfl (any_of HT_.out (by kernel_rfl)) (fun _ _ _ h => h) (Or.inl ⟨by rfl, ?_⟩) ?_ ?_
            rotate_left
            ·
             intro w'
             go_simp
             with_reducible rfl
            rotate_left
            ·
             simp only [Act.put, lA, lB, lC, i64_w, i32_w]
             rfl
            refine pure_ (i := 5) (N := some 101) (v := ?_) (a' := ?_) #[true, true, true, true, true, true, false, false, false, false, false, false, false, false] rfl rfl (any_of HT_.out (by kernel_rfl)) (fun _ _ _ h => h) (Or.inl ⟨by rfl, ?_⟩) ?_ ?_
            rotate_left
            ·
             intro w'
             go_simp
             with_reducible rfl
            rotate_left
            ·
             simp only [Act.put, lA, lB, lC, i64_w, i32_w]
             rfl
            refine pure_ (i := 6) (N := some 102) (v := ?_) (a' := ?_) #[true, true, true, true, true, true, true, false, false, false, false, false, false, false] rfl rfl (any_of HT_.out (by kernel_rfl)) (fun _ _ _ h => h) (Or.inl ⟨by rfl, ?_⟩) ?_ ?_
            rotate_left
            ·
             intro w'
             go_simp
             with_reducible rfl
            rotate_left
            ·
             simp only [Act.put, lA, lB, lC, i64_w, i32_w]
             rfl
            refine pure_ (i := 7) (N := some 103) (v := ?_) (a' := ?_) #[true, true, true, true, true, true, true, true, false, false, false, false, false, false] rfl rfl (any_of HT_.out (by kernel_rfl)) (fun _ _ _ h => h) (Or.inl ⟨by rfl, ?_⟩) ?_ ?_
            rotate_left
            ·
             intro w'
             go_simp
             with_reducible rfl
            rotate_left
            ·
             simp only [Act.put, lA, lB, lC, i64_w, i32_w]
             rfl
            refine pure_ (i := 8) (N := some 104) (v := ?_) (a' := ?_) #[true, true, true, true, true, true, true, true, true, false, false, false, false, false] rfl rfl (any_of HT_.out (by kernel_rfl)) (fun _ _ _ h => h) (Or.inl ⟨by rfl, ?_⟩) ?_ ?_
            rotate_left
            ·
             intro w'
             go_simp
             with_reducible rfl
            rotate_left
            ·
             simp only [Act.put, lA, lB, lC, i64_w, i32_w]
             rfl
            refine take_ (i := 9) (N := some 105) (v := ?_) (a' := ?_) #[true, true, true, true, true, true, true, true, true, true, false, false, false, false] rfl rfl (take_ofW HT_.out HW_.out (by kernel_rfl)) (fun _ _ _ h => h) (Or.inl ⟨by rfl, ?_⟩) hHeld ?_ ?_
            rotate_left
            ·
             rintro w' ⟨s0, s1, s2⟩
             go_simp
             with_reducible rfl
            rotate_left
            ·
             simp only [Act.put, lA, lB, lC, i64_w, i32_w]
             rfl
            refine pure_ (i := 10) (N := some 106) (v := ?_) (a' := ?_) #[true, true, true, true, true, true, true, true, true, true, true, false, false, false] rfl rfl (any_of HT_.out (by kernel_rfl)) (fun _ _ _ h => h) (Or.inl ⟨by rfl, ?_⟩) ?_ ?_
            rotate_left
            ·
             intro w'
             go_simp
             with_reducible rfl
            rotate_left
            ·
             simp only [Act.put, lA, lB, lC, i64_w, i32_w]
             rfl
            refine pure_ (i := 11) (N := some 107) (v := ?_) (a' := ?_) #[true, true, true, true, true, true, true, true, true, true, true, true, false, false] rfl rfl (any_of HT_.out (by kernel_rfl)) (fun _ _ _ h => h) (Or.inl ⟨by rfl, ?_⟩) ?_ ?_
            rotate_left
            ·
             intro w'
             go_simp
             with_reducible rfl
            rotate_left
            ·
             simp only [Act.put, lA, lB, lC, i64_w, i32_w]
             rfl
            refine one_ (i := 12) (N := some 108) #[true, true, true, true, true, true, true, true, true, true, true, true, true, false] rfl rfl (one_of HT_.out (by kernel_rfl)) (by decide) (fun K hK => ?_)
            refine goes_ Tryd.func51 (by kernel_rfl) rfl #[.int .u64 (IntKind.u64.wrap ((IntKind.u64.wrap (a0_1)) * (IntKind.u64.wrap (Int.tdiv (IntKind.u64.wrap (a1_1)) t207)))), .int .u64 (IntKind.u64.wrap ((IntKind.u64.wrap ((IntKind.u64.wrap (a0_1)) * t216)) + (IntKind.u64.wrap (a0_2))))] (by rfl) rfl rfl mS ?_
            with_reducible refine (congr_of.calls kj21 (IntKind.u64.wrap ((IntKind.u64.wrap (a0_1)) * (IntKind.u64.wrap (Int.tdiv (IntKind.u64.wrap (a1_1)) t207)))) (IntKind.u64.wrap ((IntKind.u64.wrap ((IntKind.u64.wrap (a0_1)) * t216)) + (IntKind.u64.wrap (a0_2)))) t217 t218 t219 _ A73.out).mono ?_
            rintro e w83 ⟨rfl, hb⟩
            refine ⟨_, rfl, ?_⟩
            replace BK197 := kB BK197 hb
            replace BK198 := kB BK198 hb
            replace BK199 := kB BK199 hb
            replace HB := kW HB hb
            (try clear hb)
            (try clear hb2)
            (try clear hk)
            (try clear hi)
            refine hK.out _ _ ⟨cz0 BK197, cz1 BK197, cz2 BK197⟩ (fun hHeld => ?_)
            clear hK K
            refine norm_ (a' := ?_) ?_ ?_
            rotate_left
            ·
             show Act.put _ (some 108) _ = _
             simp only [Act.put, lA, lB, lC, i64_w, i32_w]
             rfl
            refine one_ (i := 13) (N := none) #[true, true, true, true, true, true, true, true, true, true, true, true, true, true] rfl rfl (one_of HT_.out (by kernel_rfl)) (by decide) (fun K hK => ?_)
            have hs84 : w83.cell? ⟨gb199, 0, none⟩ = some (.bool false) := cz0 BK199
            have hfs84 := fz BK199 0
            have hns84_0 := NB197_199.out
            have hns84_1 := NB198_199.out
            have hms84_0 := NB199_197.out
            have hms84_1 := NB199_198.out
            have hs85 : w83.cell? ⟨gb199, 1, none⟩ = some (.int .i64 0) := cz1 BK199
            have hfs85 := fz BK199 1
            have hns85_0 := NB197_199.out
            have hns85_1 := NB198_199.out
            have hms85_0 := NB199_197.out
            have hms85_1 := NB199_198.out
            have hs86 : w83.cell? ⟨gb199, 2, none⟩ = some (.int .i64 0) := cz2 BK199
            have hfs86 := fz BK199 2
            have hns86_0 := NB197_199.out
            have hns86_1 := NB198_199.out
            have hms86_0 := NB199_197.out
            have hms86_1 := NB199_198.out
            refine skip_ (w1 := ?_) (by rfl) rfl ?_ ?_
            rotate_left
            ·
             go_simp
             rfl
            refine hK.out _ _ ⟨((cell_far (p := ⟨gb199, _, none⟩) NB197_199.out _).trans (((cell_far (p := ⟨gb199, _, none⟩) NB197_199.out _).trans (((cell_far (p := ⟨gb199, _, none⟩) NB197_199.out _).trans (hHeld.1)))))), ((cell_far (p := ⟨gb199, _, none⟩) NB197_199.out _).trans (((cell_far (p := ⟨gb199, _, none⟩) NB197_199.out _).trans (((cell_far (p := ⟨gb199, _, none⟩) NB197_199.out _).trans (hHeld.2.1)))))), ((cell_far (p := ⟨gb199, _, none⟩) NB197_199.out _).trans (((cell_far (p := ⟨gb199, _, none⟩) NB197_199.out _).trans (((cell_far (p := ⟨gb199, _, none⟩) NB197_199.out _).trans (hHeld.2.2))))))⟩ (fun hHeld => ?_)
            clear hK K
            refine done_ (done_of HT_.out (by kernel_rfl)) ?_
            try go_wp2
            refine bodyPost_ret (results_cell_row rfl _ _ gb199 23 #[.bool t217, .int .i64 t218, .int .i64 t219] (0, 0) _ rfl (by (with_reducible repeat (first | refine b1 ?_ _ | refine b2 ?_ | refine b3 ?_ _)); refine blk_put (cs := #[.bool t217, .int .i64 t218, .int .i64 0]) ?_ 2 _ rfl; (with_reducible repeat (first | refine b1 ?_ _ | refine b2 ?_ | refine b3 ?_ _)); refine blk_put (cs := #[.bool t217, .int .i64 0, .int .i64 0]) ?_ 1 _ rfl; (with_reducible repeat (first | refine b1 ?_ _ | refine b2 ?_ | refine b3 ?_ _)); refine blk_put (cs := #[.bool false, .int .i64 0, .int .i64 0]) ?_ 0 _ rfl; (with_reducible repeat (first | refine b1 ?_ _ | refine b2 ?_ | refine b3 ?_ _)); exact BK199.out) Tryd.underlying23 rfl (by kernel_rfl)) rfl ?_
            exact ⟨eS, bS HB⟩
         ·
          rw [if_neg c66] at H
          have c66b0 : decide (1 < (IntKind.u64.wrap (Int.tdiv (IntKind.u64.wrap (a1_1)) t207))) = false := decide_eq_false c66
          clear c66
          replace H := Option.bind_eq_some_iff.mp H
          obtain ⟨⟨t220, t221, t222⟩, A870, H⟩ := H
          replace H : (some (t220, t221, t222)) = some (r1, r2, r3) := H
          have A87 := Aside0.mk A870
          clear A870
          simp only [Option.some.injEq, Prod.mk.injEq] at H
          obtain ⟨rfl, rfl, rfl⟩ := H
          try go_wp2
          replace BK197 := Aside0.mk (blk_drew BK197.out)
          replace BK198 := Aside0.mk (blk_drew BK198.out)
          replace BK199 := Aside0.mk (blk_drew BK199.out)
          replace HB := Aside0.mk (below_drew1 HB.out)
          refine start_ (n := 8) (S := fun w' => w'.cell? ⟨gb197, 0, none⟩ = some (.bool a0_0) ∧ w'.cell? ⟨gb197, 1, none⟩ = some (.int .i64 a0_1) ∧ w'.cell? ⟨gb197, 2, none⟩ = some (.int .i64 a0_2) ∧ w'.cell? ⟨gb198, 0, none⟩ = some (.bool a1_0) ∧ w'.cell? ⟨gb198, 1, none⟩ = some (.int .i64 a1_1) ∧ w'.cell? ⟨gb198, 2, none⟩ = some (.int .i64 a1_2)) (ds := []) #[false, false, false, false, false, false, false, false] (by kernel_rfl) rfl rfl ⟨cz0 BK197, cz1 BK197, cz2 BK197, cz0 BK198, cz1 BK198, cz2 BK198⟩ (fun hHeld => ?_); refine with_tabW congr_Meet.tab9 congr_Meet.bits9 (fun HT_ HW_ => ?_)
          generalize wc.drew = w88 at BK197 BK198 BK199 HB hHeld ⊢
          refine pure_ (i := 0) (N := some 39) (v := ?_) (a' := ?_) #[true, false, false, false, false, false, false, false] rfl rfl (any_of HT_.out (by kernel_rfl)) (fun _ _ _ h => h) (Or.inl ⟨by rfl, ?_⟩) ?_ ?_
          rotate_left
          ·
           intro w'
           go_simp
           with_reducible rfl
          rotate_left
          ·
           simp only [Act.put, lA, lB, lC, i64_w, i32_w]
           rfl
          refine pure_ (i := 3) (N := some 42) (v := ?_) (a' := ?_) #[true, false, false, true, false, false, false, false] rfl rfl (any_of HT_.out (by kernel_rfl)) (fun _ _ _ h => h) (Or.inl ⟨by rfl, ?_⟩) ?_ ?_
          rotate_left
          ·
           intro w'
           go_simp
           with_reducible rfl
          rotate_left
          ·
           simp only [Act.put, lA, lB, lC, i64_w, i32_w]
           rfl
          refine take_ (i := 1) (N := some 40) (v := ?_) (a' := ?_) #[true, true, false, true, false, false, false, false] rfl rfl (take_ofW HT_.out HW_.out (by kernel_rfl)) (fun _ _ _ h => h) (Or.inl ⟨by rfl, ?_⟩) hHeld ?_ ?_
          rotate_left
          ·
           rintro w' ⟨s0, s1, s2, s3, s4, s5⟩
           go_simp
           with_reducible rfl
          rotate_left
          ·
           simp only [Act.put, lA, lB, lC, i64_w, i32_w]
           rfl
          refine pure_ (i := 2) (N := some 41) (v := ?_) (a' := ?_) #[true, true, true, true, false, false, false, false] rfl rfl (any_of HT_.out (by kernel_rfl)) (fun _ _ _ h => h) (Or.inl ⟨by rfl, ?_⟩) ?_ ?_
          rotate_left
          ·
           intro w'
           go_simp
           with_reducible rfl
          rotate_left
          ·
           simp only [Act.put, lA, lB, lC, i64_w, i32_w]
           rfl
          refine pure_ (i := 6) (N := some 5) (v := ?_) (a' := ?_) #[true, true, true, true, false, false, true, false] rfl rfl (any_of HT_.out (by kernel_rfl)) (fun _ _ _ h => h) (Or.inl ⟨by rfl, ?_⟩) ?_ ?_
          rotate_left
          ·
           intro w'
           go_simp
           with_reducible rfl
          rotate_left
          ·
           simp only [Act.put, lA, lB, lC, i64_w, i32_w]
           rfl
          refine take_ (i := 4) (N := some 43) (v := ?_) (a' := ?_) #[true, true, true, true, true, false, true, false] rfl rfl (take_ofW HT_.out HW_.out (by kernel_rfl)) (fun _ _ _ h => h) (Or.inl ⟨by rfl, ?_⟩) hHeld ?_ ?_
          rotate_left
          ·
           rintro w' ⟨s0, s1, s2, s3, s4, s5⟩
           go_simp
           with_reducible rfl
          rotate_left
          ·
           simp only [Act.put, lA, lB, lC, i64_w, i32_w]
           rfl
          refine pure_ (i := 5) (N := some 44) (v := ?_) (a' := ?_) #[true, true, true, true, true, true, true, false] rfl rfl (any_of HT_.out (by kernel_rfl)) (fun _ _ _ h => h) (Or.inl ⟨by rfl, ?_⟩) ?_ ?_
          rotate_left
          ·
           intro w'
           go_simp
           with_reducible rfl
          rotate_left
          ·
           simp only [Act.put, lA, lB, lC, i64_w, i32_w]
           rfl
          refine pure_ (i := 7) (N := some 6) (v := ?_) (a' := ?_) #[true, true, true, true, true, true, true, true] rfl rfl (any_of HT_.out (by kernel_rfl)) (fun _ _ _ h => h) (Or.inl ⟨by rfl, ?_⟩) ?_ ?_
          rotate_left
          ·
           intro w'
           go_simp
           with_reducible rfl
          rotate_left
          ·
           simp only [Act.put, lA, lB, lC, i64_w, i32_w]
           rfl
          refine done_ (done_of HT_.out (by kernel_rfl)) ?_
          try go_wp2_with (first | ((with_reducible refine gate_callee (f := 62) rfl ?_); refine goesL_ (some 47) rfl rfl Tryd.func62 (by kernel_rfl) rfl #[.int .u64 (IntKind.u64.wrap (a0_1)), .int .u64 (IntKind.u64.wrap (a1_1))] rfl mS ?_; (with_reducible refine (congr_gcd_uint64.calls kj21 (IntKind.u64.wrap (a0_1)) (IntKind.u64.wrap (a1_1)) t207 _ A62.out).mono ?_); rintro e w' ⟨rfl, ⟨nd, rfl⟩⟩; refine ⟨_, rfl, ?_⟩; (try (rw [drewN_self w88]; generalize hq_ : World.drewN w88 _ = w88; have n0_ : Aside0 (w88.heap[gb197]? = some (.cells #[.bool a0_0, .int .i64 a0_1, .int .i64 a0_2] 23 (0, 0))) := ⟨by rw [← hq_]; exact (bkS BK197)⟩; have n1_ : Aside0 (w88.heap[gb198]? = some (.cells #[.bool a1_0, .int .i64 a1_1, .int .i64 a1_2] 23 (0, 0))) := ⟨by rw [← hq_]; exact (bkS BK198)⟩; have n2_ : Aside0 (w88.heap[gb199]? = some (.cells #[.bool false, .int .i64 0, .int .i64 0] 23 (0, 0))) := ⟨by rw [← hq_]; exact (bkS BK199)⟩; have n3_ : Aside0 (Below w.heap.size w w88) := ⟨by rw [← hq_]; exact (bS HB)⟩; clear BK197 BK198 BK199 HB hq_; have BK197 := n0_; have BK198 := n1_; have BK199 := n2_; have HB := n3_; clear n0_ n1_ n2_ n3_)); have hnb89 := NB197_198.out; have hnc89 := NB198_197.out; have hnb90 := NB197_199.out; have hnc90 := NB199_197.out; have hcz91_0 := cz0 BK197; have hcz91_1 := cz1 BK197; have hcz91_2 := cz2 BK197; have hfz91_0 := fz BK197 0; have hfz91_1 := fz BK197 1; have hfz91_2 := fz BK197 2; have hnb92 := NB198_199.out; have hnc92 := NB199_198.out; have hcz93_0 := cz0 BK198; have hcz93_1 := cz1 BK198; have hcz93_2 := cz2 BK198; have hfz93_0 := fz BK198 0; have hfz93_1 := fz BK198 1; have hfz93_2 := fz BK198 2) | ((with_reducible refine gate_callee (f := 52) rfl ?_); refine goesL_ (some 53) rfl rfl Tryd.func52 (by kernel_rfl) rfl #[.int .i64 (wrap64 (a0_2 - a1_2))] rfl mS ?_; (with_reducible refine (congr_size.calls (wrap64 (a0_2 - a1_2)) t208 _ A63.out).mono ?_); rintro e w' ⟨rfl, ⟨nd, rfl⟩⟩; refine ⟨_, rfl, ?_⟩; (try (rw [drewN_self w88]; generalize hq_ : World.drewN w88 _ = w88; have n0_ : Aside0 (w88.heap[gb197]? = some (.cells #[.bool a0_0, .int .i64 a0_1, .int .i64 a0_2] 23 (0, 0))) := ⟨by rw [← hq_]; exact (bkS BK197)⟩; have n1_ : Aside0 (w88.heap[gb198]? = some (.cells #[.bool a1_0, .int .i64 a1_1, .int .i64 a1_2] 23 (0, 0))) := ⟨by rw [← hq_]; exact (bkS BK198)⟩; have n2_ : Aside0 (w88.heap[gb199]? = some (.cells #[.bool false, .int .i64 0, .int .i64 0] 23 (0, 0))) := ⟨by rw [← hq_]; exact (bkS BK199)⟩; have n3_ : Aside0 (Below w.heap.size w w88) := ⟨by rw [← hq_]; exact (bS HB)⟩; clear BK197 BK198 BK199 HB hq_; have BK197 := n0_; have BK198 := n1_; have BK199 := n2_; have HB := n3_; clear n0_ n1_ n2_ n3_))))
          replace BK197 := Aside0.mk (blk_drew BK197.out)
          replace BK198 := Aside0.mk (blk_drew BK198.out)
          replace BK199 := Aside0.mk (blk_drew BK199.out)
          replace HB := Aside0.mk (below_drew1 HB.out)
          refine start_ (n := 14) (S := fun w' => w'.cell? ⟨gb197, 0, none⟩ = some (.bool a0_0) ∧ w'.cell? ⟨gb197, 1, none⟩ = some (.int .i64 a0_1) ∧ w'.cell? ⟨gb197, 2, none⟩ = some (.int .i64 a0_2)) (ds := []) #[false, false, false, false, false, false, false, false, false, false, false, false, false, false] (by kernel_rfl) rfl rfl ⟨cz0 BK197, cz1 BK197, cz2 BK197⟩ (fun hHeld => ?_); refine with_tabW congr_Meet.tab17 congr_Meet.bits17 (fun HT_ HW_ => ?_)
          generalize w88.drew = w94 at BK197 BK198 BK199 HB hHeld ⊢
          refine pure_ (i := 0) (N := some 96) (v := ?_) (a' := ?_) #[true, false, false, false, false, false, false, false, false, false, false, false, false, false] rfl rfl (any_of HT_.out (by kernel_rfl)) (fun _ _ _ h => h) (Or.inl ⟨by rfl, ?_⟩) ?_ ?_
          rotate_left
          ·
           intro w'
           go_simp
           with_reducible rfl
          rotate_left
          ·
           simp only [Act.put, lA, lB, lC, i64_w, i32_w]
           rfl
          refine pure_ (i := 1) (N := some 97) (v := ?_) (a' := ?_) #[true, true, false, false, false, false, false, false, false, false, false, false, false, false] rfl rfl (any_of HT_.out (by kernel_rfl)) (fun _ _ _ h => h) (Or.inl ⟨by rfl, ?_⟩) ?_ ?_
          rotate_left
          ·
           intro w'
           go_simp
           with_reducible rfl
          rotate_left
          ·
           simp only [Act.put, lA, lB, lC, i64_w, i32_w]
           rfl
          refine pure_ (i := 2) (N := some 98) (v := ?_) (a' := ?_) #[true, true, true, false, false, false, false, false, false, false, false, false, false, false] rfl rfl (any_of HT_.out (by kernel_rfl)) (fun _ _ _ h => h) (Or.inl ⟨by rfl, ?_⟩) ?_ ?_
          rotate_left
          ·
           intro w'
           go_simp
           with_reducible rfl
          rotate_left
          ·
           simp only [Act.put, lA, lB, lC, i64_w, i32_w]
           rfl
          refine pure_ (i := 3) (N := some 99) (v := ?_) (a' := ?_) #[true, true, true, true, false, false, false, false, false, false, false, false, false, false] rfl rfl (any_of HT_.out (by kernel_rfl)) (fun _ _ _ h => h) (Or.inl ⟨by rfl, ?_⟩) ?_ ?_
          rotate_left
          ·
           intro w'
           go_simp
           with_reducible rfl
          rotate_left
          ·
           simp only [Act.put, lA, lB, lC, i64_w, i32_w]
           rfl
          refine pure_ (i := 4) (N := some 100) (v := ?_) (a' := ?_) #[true, true, true, true, true, false, false, false, false, false, false, false, false, false] rfl rfl (any_of HT_.out (by kernel_rfl)) (fun _ _ _ h => h) (Or.inl ⟨by rfl, ?_⟩) ?_ ?_
          rotate_left
          ·
           intro w'
           go_simp
           with_reducible rfl
          rotate_left
          ·
           simp only [Act.put, lA, lB, lC, i64_w, i32_w]
           rfl
          refine pure_ (i := 5) (N := some 101) (v := ?_) (a' := ?_) #[true, true, true, true, true, true, false, false, false, false, false, false, false, false] rfl rfl (any_of HT_.out (by kernel_rfl)) (fun _ _ _ h => h) (Or.inl ⟨by rfl, ?_⟩) ?_ ?_
          rotate_left
          ·
           intro w'
           go_simp
           with_reducible rfl
          rotate_left
          ·
           simp only [Act.put, lA, lB, lC, i64_w, i32_w]
           rfl
          refine pure_ (i := 6) (N := some 102) (v := ?_) (a' := ?_) #[true, true, true, true, true, true, true, false, false, false, false, false, false, false] rfl rfl (any_of HT_.out (by kernel_rfl)) (fun _ _ _ h => h) (Or.inl ⟨by rfl, ?_⟩) ?_ ?_
          rotate_left
          ·
           intro w'
           go_simp
           with_reducible rfl
          rotate_left
          ·
           simp only [Act.put, lA, lB, lC, i64_w, i32_w]
           rfl
          refine pure_ (i := 7) (N := some 103) (v := ?_) (a' := ?_) #[true, true, true, true, true, true, true, true, false, false, false, false, false, false] rfl rfl (any_of HT_.out (by kernel_rfl)) (fun _ _ _ h => h) (Or.inl ⟨by rfl, ?_⟩) ?_ ?_
          rotate_left
          ·
           intro w'
           go_simp
           with_reducible rfl
          rotate_left
          ·
           simp only [Act.put, lA, lB, lC, i64_w, i32_w]
           rfl
          refine pure_ (i := 8) (N := some 104) (v := ?_) (a' := ?_) #[true, true, true, true, true, true, true, true, true, false, false, false, false, false] rfl rfl (any_of HT_.out (by kernel_rfl)) (fun _ _ _ h => h) (Or.inl ⟨by rfl, ?_⟩) ?_ ?_
          rotate_left
          ·
           intro w'
           go_simp
           with_reducible rfl
          rotate_left
          ·
           simp only [Act.put, lA, lB, lC, i64_w, i32_w]
           rfl
          refine take_ (i := 9) (N := some 105) (v := ?_) (a' := ?_) #[true, true, true, true, true, true, true, true, true, true, false, false, false, false] rfl rfl (take_ofW HT_.out HW_.out (by kernel_rfl)) (fun _ _ _ h => h) (Or.inl ⟨by rfl, ?_⟩) hHeld ?_ ?_
          rotate_left
          ·
           rintro w' ⟨s0, s1, s2⟩
           go_simp
           with_reducible rfl
          rotate_left
          ·
           simp only [Act.put, lA, lB, lC, i64_w, i32_w]
           rfl
          refine pure_ (i := 10) (N := some 106) (v := ?_) (a' := ?_) #[true, true, true, true, true, true, true, true, true, true, true, false, false, false] rfl rfl (any_of HT_.out (by kernel_rfl)) (fun _ _ _ h => h) (Or.inl ⟨by rfl, ?_⟩) ?_ ?_
          rotate_left
          ·
           intro w'
           go_simp
           with_reducible rfl
          rotate_left
          ·
           simp only [Act.put, lA, lB, lC, i64_w, i32_w]
           rfl
          refine pure_ (i := 11) (N := some 107) (v := ?_) (a' := ?_) #[true, true, true, true, true, true, true, true, true, true, true, true, false, false] rfl rfl (any_of HT_.out (by kernel_rfl)) (fun _ _ _ h => h) (Or.inl ⟨by rfl, ?_⟩) ?_ ?_
          rotate_left
          ·
           intro w'
           go_simp
           with_reducible rfl
          rotate_left
          ·
           simp only [Act.put, lA, lB, lC, i64_w, i32_w]
           rfl
          refine one_ (i := 12) (N := some 108) #[true, true, true, true, true, true, true, true, true, true, true, true, true, false] rfl rfl (one_of HT_.out (by kernel_rfl)) (by decide) (fun K hK => ?_)
          refine goes_ Tryd.func51 (by kernel_rfl) rfl #[.int .u64 (IntKind.u64.wrap ((IntKind.u64.wrap (a0_1)) * (IntKind.u64.wrap (Int.tdiv (IntKind.u64.wrap (a1_1)) t207)))), .int .u64 (IntKind.u64.wrap ((IntKind.u64.wrap ((IntKind.u64.wrap (a0_1)) * 0)) + (IntKind.u64.wrap (a0_2))))] (by rfl) rfl rfl (by (try simp only [List.map_toArray, List.map_cons, List.map_nil]); first | done | rfl | (go_simp; done) | (simp [go_sem]; done) | (simp [go_sem, IntKind.wrap_u64]; done) | (simp only [List.length_drop, List.length_take]; rfl)) ?_
          with_reducible refine (congr_of.calls kj21 (IntKind.u64.wrap ((IntKind.u64.wrap (a0_1)) * (IntKind.u64.wrap (Int.tdiv (IntKind.u64.wrap (a1_1)) t207)))) (IntKind.u64.wrap ((IntKind.u64.wrap ((IntKind.u64.wrap (a0_1)) * 0)) + (IntKind.u64.wrap (a0_2)))) t220 t221 t222 _ A87.out).mono ?_
          rintro e w95 ⟨rfl, hb⟩
          refine ⟨_, rfl, ?_⟩
          replace BK197 := kB BK197 hb
          replace BK198 := kB BK198 hb
          replace BK199 := kB BK199 hb
          replace HB := kW HB hb
          (try clear hb)
          (try clear hb2)
          (try clear hk)
          (try clear hi)
          refine hK.out _ _ ⟨cz0 BK197, cz1 BK197, cz2 BK197⟩ (fun hHeld => ?_)
          clear hK K
          refine norm_ (a' := ?_) ?_ ?_
          rotate_left
          ·
           show Act.put _ (some 108) _ = _
           simp only [Act.put, lA, lB, lC, i64_w, i32_w]
           rfl
          refine one_ (i := 13) (N := none) #[true, true, true, true, true, true, true, true, true, true, true, true, true, true] rfl rfl (one_of HT_.out (by kernel_rfl)) (by decide) (fun K hK => ?_)
          have hs96 : w95.cell? ⟨gb199, 0, none⟩ = some (.bool false) := cz0 BK199
          have hfs96 := fz BK199 0
          have hns96_0 := NB197_199.out
          have hns96_1 := NB198_199.out
          have hms96_0 := NB199_197.out
          have hms96_1 := NB199_198.out
          have hs97 : w95.cell? ⟨gb199, 1, none⟩ = some (.int .i64 0) := cz1 BK199
          have hfs97 := fz BK199 1
          have hns97_0 := NB197_199.out
          have hns97_1 := NB198_199.out
          have hms97_0 := NB199_197.out
          have hms97_1 := NB199_198.out
          have hs98 : w95.cell? ⟨gb199, 2, none⟩ = some (.int .i64 0) := cz2 BK199
          have hfs98 := fz BK199 2
          have hns98_0 := NB197_199.out
          have hns98_1 := NB198_199.out
          have hms98_0 := NB199_197.out
          have hms98_1 := NB199_198.out
          refine skip_ (w1 := ?_) (by rfl) rfl ?_ ?_
          rotate_left
          ·
           go_simp
           rfl
          refine hK.out _ _ ⟨((cell_far (p := ⟨gb199, _, none⟩) NB197_199.out _).trans (((cell_far (p := ⟨gb199, _, none⟩) NB197_199.out _).trans (((cell_far (p := ⟨gb199, _, none⟩) NB197_199.out _).trans (hHeld.1)))))), ((cell_far (p := ⟨gb199, _, none⟩) NB197_199.out _).trans (((cell_far (p := ⟨gb199, _, none⟩) NB197_199.out _).trans (((cell_far (p := ⟨gb199, _, none⟩) NB197_199.out _).trans (hHeld.2.1)))))), ((cell_far (p := ⟨gb199, _, none⟩) NB197_199.out _).trans (((cell_far (p := ⟨gb199, _, none⟩) NB197_199.out _).trans (((cell_far (p := ⟨gb199, _, none⟩) NB197_199.out _).trans (hHeld.2.2))))))⟩ (fun hHeld => ?_)
          clear hK K
          refine done_ (done_of HT_.out (by kernel_rfl)) ?_
          try go_wp2
          refine bodyPost_ret (results_cell_row rfl _ _ gb199 23 #[.bool t220, .int .i64 t221, .int .i64 t222] (0, 0) _ rfl (by (with_reducible repeat (first | refine b1 ?_ _ | refine b2 ?_ | refine b3 ?_ _)); refine blk_put (cs := #[.bool t220, .int .i64 t221, .int .i64 0]) ?_ 2 _ rfl; (with_reducible repeat (first | refine b1 ?_ _ | refine b2 ?_ | refine b3 ?_ _)); refine blk_put (cs := #[.bool t220, .int .i64 0, .int .i64 0]) ?_ 1 _ rfl; (with_reducible repeat (first | refine b1 ?_ _ | refine b2 ?_ | refine b3 ?_ _)); refine blk_put (cs := #[.bool false, .int .i64 0, .int .i64 0]) ?_ 0 _ rfl; (with_reducible repeat (first | refine b1 ?_ _ | refine b2 ?_ | refine b3 ?_ _)); exact BK199.out) Tryd.underlying23 rfl (by kernel_rfl)) rfl ?_
          exact ⟨eS, bS HB⟩
        ·
         rw [if_neg c65] at H
         have c65b0 : ((Int.tmod t208 t207) == 0) = false := beq_eq_false_iff_ne.mpr c65
         have c65b1 : ((Int.tmod t208 t207) != 0) = true := bne_iff_ne.mpr c65
         replace H := Option.bind_eq_some_iff.mp H
         obtain ⟨⟨t209, t210, t211⟩, A990, H⟩ := H
         replace H : (some (t209, t210, t211)) = some (r1, r2, r3) := H
         have A99 := Aside0.mk A990
         clear A990
         simp only [Option.some.injEq, Prod.mk.injEq] at H
         obtain ⟨rfl, rfl, rfl⟩ := H
         try go_wp2
         replace BK197 := Aside0.mk (blk_drew BK197.out)
         replace BK198 := Aside0.mk (blk_drew BK198.out)
         replace BK199 := Aside0.mk (blk_drew BK199.out)
         replace HB := Aside0.mk (below_drew1 HB.out)
         refine start_ (n := 8) (S := fun w' => w'.cell? ⟨gb197, 0, none⟩ = some (.bool a0_0) ∧ w'.cell? ⟨gb197, 1, none⟩ = some (.int .i64 a0_1) ∧ w'.cell? ⟨gb197, 2, none⟩ = some (.int .i64 a0_2) ∧ w'.cell? ⟨gb198, 0, none⟩ = some (.bool a1_0) ∧ w'.cell? ⟨gb198, 1, none⟩ = some (.int .i64 a1_1) ∧ w'.cell? ⟨gb198, 2, none⟩ = some (.int .i64 a1_2)) (ds := []) #[false, false, false, false, false, false, false, false] (by kernel_rfl) rfl rfl ⟨cz0 BK197, cz1 BK197, cz2 BK197, cz0 BK198, cz1 BK198, cz2 BK198⟩ (fun hHeld => ?_); refine with_tabW congr_Meet.tab9 congr_Meet.bits9 (fun HT_ HW_ => ?_)
         generalize wc.drew = w100 at BK197 BK198 BK199 HB hHeld ⊢
         refine pure_ (i := 0) (N := some 39) (v := ?_) (a' := ?_) #[true, false, false, false, false, false, false, false] rfl rfl (any_of HT_.out (by kernel_rfl)) (fun _ _ _ h => h) (Or.inl ⟨by rfl, ?_⟩) ?_ ?_
         rotate_left
         ·
          intro w'
          go_simp
          with_reducible rfl
         rotate_left
         ·
          simp only [Act.put, lA, lB, lC, i64_w, i32_w]
          rfl
         refine pure_ (i := 3) (N := some 42) (v := ?_) (a' := ?_) #[true, false, false, true, false, false, false, false] rfl rfl (any_of HT_.out (by kernel_rfl)) (fun _ _ _ h => h) (Or.inl ⟨by rfl, ?_⟩) ?_ ?_
         rotate_left
         ·
          intro w'
          go_simp
          with_reducible rfl
         rotate_left
         ·
          simp only [Act.put, lA, lB, lC, i64_w, i32_w]
          rfl
         refine take_ (i := 1) (N := some 40) (v := ?_) (a' := ?_) #[true, true, false, true, false, false, false, false] rfl rfl (take_ofW HT_.out HW_.out (by kernel_rfl)) (fun _ _ _ h => h) (Or.inl ⟨by rfl, ?_⟩) hHeld ?_ ?_
         rotate_left
         ·
          rintro w' ⟨s0, s1, s2, s3, s4, s5⟩
          go_simp
          with_reducible rfl
         rotate_left
         ·
          simp only [Act.put, lA, lB, lC, i64_w, i32_w]
          rfl
         refine pure_ (i := 2) (N := some 41) (v := ?_) (a' := ?_) #[true, true, true, true, false, false, false, false] rfl rfl (any_of HT_.out (by kernel_rfl)) (fun _ _ _ h => h) (Or.inl ⟨by rfl, ?_⟩) ?_ ?_
         rotate_left
         ·
          intro w'
          go_simp
          with_reducible rfl
         rotate_left
         ·
          simp only [Act.put, lA, lB, lC, i64_w, i32_w]
          rfl
         refine pure_ (i := 6) (N := some 5) (v := ?_) (a' := ?_) #[true, true, true, true, false, false, true, false] rfl rfl (any_of HT_.out (by kernel_rfl)) (fun _ _ _ h => h) (Or.inl ⟨by rfl, ?_⟩) ?_ ?_
         rotate_left
         ·
          intro w'
          go_simp
          with_reducible rfl
         rotate_left
         ·
          simp only [Act.put, lA, lB, lC, i64_w, i32_w]
          rfl
         refine take_ (i := 4) (N := some 43) (v := ?_) (a' := ?_) #[true, true, true, true, true, false, true, false] rfl rfl (take_ofW HT_.out HW_.out (by kernel_rfl)) (fun _ _ _ h => h) (Or.inl ⟨by rfl, ?_⟩) hHeld ?_ ?_
         rotate_left
         ·
          rintro w' ⟨s0, s1, s2, s3, s4, s5⟩
          go_simp
          with_reducible rfl
         rotate_left
         ·
          simp only [Act.put, lA, lB, lC, i64_w, i32_w]
          rfl
         refine pure_ (i := 5) (N := some 44) (v := ?_) (a' := ?_) #[true, true, true, true, true, true, true, false] rfl rfl (any_of HT_.out (by kernel_rfl)) (fun _ _ _ h => h) (Or.inl ⟨by rfl, ?_⟩) ?_ ?_
         rotate_left
         ·
          intro w'
          go_simp
          with_reducible rfl
         rotate_left
         ·
          simp only [Act.put, lA, lB, lC, i64_w, i32_w]
          rfl
         refine pure_ (i := 7) (N := some 6) (v := ?_) (a' := ?_) #[true, true, true, true, true, true, true, true] rfl rfl (any_of HT_.out (by kernel_rfl)) (fun _ _ _ h => h) (Or.inl ⟨by rfl, ?_⟩) ?_ ?_
         rotate_left
         ·
          intro w'
          go_simp
          with_reducible rfl
         rotate_left
         ·
          simp only [Act.put, lA, lB, lC, i64_w, i32_w]
          rfl
         refine done_ (done_of HT_.out (by kernel_rfl)) ?_
         try go_wp2_with (first | ((with_reducible refine gate_callee (f := 62) rfl ?_); refine goesL_ (some 47) rfl rfl Tryd.func62 (by kernel_rfl) rfl #[.int .u64 (IntKind.u64.wrap (a0_1)), .int .u64 (IntKind.u64.wrap (a1_1))] rfl mS ?_; (with_reducible refine (congr_gcd_uint64.calls kj21 (IntKind.u64.wrap (a0_1)) (IntKind.u64.wrap (a1_1)) t207 _ A62.out).mono ?_); rintro e w' ⟨rfl, ⟨nd, rfl⟩⟩; refine ⟨_, rfl, ?_⟩; (try (rw [drewN_self w100]; generalize hq_ : World.drewN w100 _ = w100; have n0_ : Aside0 (w100.heap[gb197]? = some (.cells #[.bool a0_0, .int .i64 a0_1, .int .i64 a0_2] 23 (0, 0))) := ⟨by rw [← hq_]; exact (bkS BK197)⟩; have n1_ : Aside0 (w100.heap[gb198]? = some (.cells #[.bool a1_0, .int .i64 a1_1, .int .i64 a1_2] 23 (0, 0))) := ⟨by rw [← hq_]; exact (bkS BK198)⟩; have n2_ : Aside0 (w100.heap[gb199]? = some (.cells #[.bool false, .int .i64 0, .int .i64 0] 23 (0, 0))) := ⟨by rw [← hq_]; exact (bkS BK199)⟩; have n3_ : Aside0 (Below w.heap.size w w100) := ⟨by rw [← hq_]; exact (bS HB)⟩; clear BK197 BK198 BK199 HB hq_; have BK197 := n0_; have BK198 := n1_; have BK199 := n2_; have HB := n3_; clear n0_ n1_ n2_ n3_)); have hnb101 := NB197_198.out; have hnc101 := NB198_197.out; have hnb102 := NB197_199.out; have hnc102 := NB199_197.out; have hcz103_0 := cz0 BK197; have hcz103_1 := cz1 BK197; have hcz103_2 := cz2 BK197; have hfz103_0 := fz BK197 0; have hfz103_1 := fz BK197 1; have hfz103_2 := fz BK197 2; have hnb104 := NB198_199.out; have hnc104 := NB199_198.out; have hcz105_0 := cz0 BK198; have hcz105_1 := cz1 BK198; have hcz105_2 := cz2 BK198; have hfz105_0 := fz BK198 0; have hfz105_1 := fz BK198 1; have hfz105_2 := fz BK198 2) | ((with_reducible refine gate_callee (f := 52) rfl ?_); refine goesL_ (some 53) rfl rfl Tryd.func52 (by kernel_rfl) rfl #[.int .i64 (wrap64 (a0_2 - a1_2))] rfl mS ?_; (with_reducible refine (congr_size.calls (wrap64 (a0_2 - a1_2)) t208 _ A63.out).mono ?_); rintro e w' ⟨rfl, ⟨nd, rfl⟩⟩; refine ⟨_, rfl, ?_⟩; (try (rw [drewN_self w100]; generalize hq_ : World.drewN w100 _ = w100; have n0_ : Aside0 (w100.heap[gb197]? = some (.cells #[.bool a0_0, .int .i64 a0_1, .int .i64 a0_2] 23 (0, 0))) := ⟨by rw [← hq_]; exact (bkS BK197)⟩; have n1_ : Aside0 (w100.heap[gb198]? = some (.cells #[.bool a1_0, .int .i64 a1_1, .int .i64 a1_2] 23 (0, 0))) := ⟨by rw [← hq_]; exact (bkS BK198)⟩; have n2_ : Aside0 (w100.heap[gb199]? = some (.cells #[.bool false, .int .i64 0, .int .i64 0] 23 (0, 0))) := ⟨by rw [← hq_]; exact (bkS BK199)⟩; have n3_ : Aside0 (Below w.heap.size w w100) := ⟨by rw [← hq_]; exact (bS HB)⟩; clear BK197 BK198 BK199 HB hq_; have BK197 := n0_; have BK198 := n1_; have BK199 := n2_; have HB := n3_; clear n0_ n1_ n2_ n3_))) | ((with_reducible refine gate_callee (f := 56) rfl ?_); refine goesL_ (some 57) rfl rfl Tryd.func56 (by kernel_rfl) rfl #[] rfl mS ?_; (with_reducible refine (congr_none.calls  t209 t210 t211 _ A99.out).mono ?_); rintro e w106 ⟨rfl, hb⟩; refine ⟨_, rfl, ?_⟩; replace BK197 := kB BK197 hb; replace BK198 := kB BK198 hb; replace BK199 := kB BK199 hb; replace HB := kW HB hb; (try clear hb); (try clear hb2); (try clear hk); (try clear hi); have hcz107_0 := cz0 BK199; have hcz107_1 := cz1 BK199; have hcz107_2 := cz2 BK199; have hfz107_0 := fz BK199 0; have hfz107_1 := fz BK199 1; have hfz107_2 := fz BK199 2))
         refine bodyPost_ret (results_cell_row rfl _ _ gb199 23 #[.bool t209, .int .i64 t210, .int .i64 t211] (0, 0) _ rfl (by (with_reducible repeat (first | refine b1 ?_ _ | refine b2 ?_ | refine b3 ?_ _)); refine blk_put (cs := #[.bool t209, .int .i64 t210, .int .i64 0]) ?_ 2 _ rfl; (with_reducible repeat (first | refine b1 ?_ _ | refine b2 ?_ | refine b3 ?_ _)); refine blk_put (cs := #[.bool t209, .int .i64 0, .int .i64 0]) ?_ 1 _ rfl; (with_reducible repeat (first | refine b1 ?_ _ | refine b2 ?_ | refine b3 ?_ _)); refine blk_put (cs := #[.bool false, .int .i64 0, .int .i64 0]) ?_ 0 _ rfl; (with_reducible repeat (first | refine b1 ?_ _ | refine b2 ?_ | refine b3 ?_ _)); exact BK199.out) Tryd.underlying23 rfl (by kernel_rfl)) rfl ?_
         exact ⟨eS, bS HB⟩

def gimbalref31_times.f (a0 : Int) (a1 : Int) (a2 : Int) : Option (Int) := if a2 = 0 then (none) else (some (Int.tmod (IntKind.u64.wrap (a0 * a1)) a2))
set_option maxHeartbeats 8000000 in
set_option maxRecDepth 100000 in
theorem gimbalref31_times.calls (a0 : Int) (a1 : Int) (a2 : Int) (r : Int) (w : World) (h : gimbalref31_times.f a0 a1 a2 = some r) :
  Calls Tryd.prog 81 #[.int .u64 a0, .int .u64 a1, .int .u64 a2] w fun e w' => e = .returned (.int .u64 r) ∧ Drawn0 w w' := by
 have H : (if a2 = 0 then (none) else (some (Int.tmod (IntKind.u64.wrap (a0 * a1)) a2))) = some r := h
 clear h
 by_cases c4 : a2 = 0
 ·
  rw [if_pos c4] at H
  exact absurd H (by simp)
 ·
  rw [if_neg c4] at H
  have c4b0 : (a2 == 0) = false := beq_eq_false_iff_ne.mpr c4
  have c4b1 : (a2 != 0) = true := bne_iff_ne.mpr c4
  obtain rfl := Option.some.inj H
  go_enter Tryd.func81, Tryd.ntmps81
  go_wp2
  go_ret
  exact ⟨by first | rfl | (simp; done) | (simp [*]; done), by repeat (first | exact Drawn0.refl _ | apply Drawn0.step)⟩

def gimbalref31_inverse.l0 : Nat → Int → Int → Int → Int → Int → Option (Int)
 | 0, _, _, _, _, _ => none
 | k + 1, x1, x5, x6, x7, x8 => if x6 = 0 then (if x7 < 0 then (some (IntKind.u64.wrap (wrap64 (x7 + (wrap64 (x1)))))) else (some (IntKind.u64.wrap (x7)))) else (gimbalref31_inverse.l0 k x1 x6 (wrap64 (x5 - (wrap64 ((wrap64 (Int.tdiv x5 x6)) * x6)))) x8 (wrap64 (x7 - (wrap64 ((wrap64 (Int.tdiv x5 x6)) * x8)))))
def gimbalref31_inverse.f (k : Nat) (a0 : Int) (a1 : Int) : Option (Int) := gimbalref31_inverse.l0 k a1 (wrap64 (a1)) (wrap64 (a0)) 0 1
set_option maxHeartbeats 8000000 in
set_option maxRecDepth 100000 in
theorem gimbalref31_inverse.calls (k : Nat) (a0 : Int) (a1 : Int) (r : Int) (w : World) (h : gimbalref31_inverse.f k a0 a1 = some r) :
  Calls Tryd.prog 82 #[.int .u64 a0, .int .u64 a1] w fun e w' => e = .returned (.int .u64 r) ∧ Drawn0 w w' := by
 have H : (gimbalref31_inverse.l0 k a1 (wrap64 (a1)) (wrap64 (a0)) 0 1) = some r := h
 clear h
 have H' := Aside0.mk H
 clear H
 go_enter Tryd.func82, Tryd.ntmps82
 go_wp2
 go_loopg [5, 6, 7, 8] k (fun kq v5 v6 v7 v8 w' => ∃ (x5_1 : Int) (x6_1 : Int) (x7_1 : Int) (x8_1 : Int), v5 = .int .i64 x5_1 ∧ v6 = .int .i64 x6_1 ∧ v7 = .int .i64 x7_1 ∧ v8 = .int .i64 x8_1 ∧ Aside0 (gimbalref31_inverse.l0 kq a1 x5_1 x6_1 x7_1 x8_1 = some r) ∧ Aside0 (kq ≤ k) ∧ Drawn0 w w')
 case atStart => exact ⟨(wrap64 (a1)), (wrap64 (a0)), (0), (1), (by first | rfl | (simp; done) | (simp [*]; done)), (by first | rfl | (simp; done) | (simp [*]; done)), (by first | rfl | (simp; done) | (simp [*]; done)), (by first | rfl | (simp; done) | (simp [*]; done)), H', ⟨Nat.le_refl _⟩, by repeat (first | exact Drawn0.refl _ | apply Drawn0.step)⟩
 case round =>
  clear H'
  try clear p2
  obtain ⟨x5_1, x6_1, x7_1, x8_1, rfl, rfl, rfl, rfl, HA, HK1, ⟨m1, rfl⟩⟩ := hrel
  cases gk with
  | zero => exact absurd HA.out (by simp [gimbalref31_inverse.l0])
  | succ k1 =>
   have H := HA.out
   clear HA
   simp only [gimbalref31_inverse.l0] at H
   by_cases c3 : x6_1 = 0
   ·
    rw [if_pos c3] at H
    have c3b0 : (x6_1 == 0) = true := beq_iff_eq.mpr c3
    have c3b1 : (x6_1 != 0) = false := bne_eq_false_iff_eq.mpr c3
    clear c3
    by_cases c4 : x7_1 < 0
    ·
     rw [if_pos c4] at H
     have c4b0 : decide (x7_1 < 0) = true := decide_eq_true c4
     clear c4
     obtain rfl := Option.some.inj H
     go_wp2
     go_ret
     exact ⟨by first | rfl | (simp; done) | (simp [*]; done), by repeat (first | exact Drawn0.refl _ | apply Drawn0.step)⟩
    ·
     rw [if_neg c4] at H
     have c4b0 : decide (x7_1 < 0) = false := decide_eq_false c4
     clear c4
     obtain rfl := Option.some.inj H
     go_wp2
     go_ret
     exact ⟨by first | rfl | (simp; done) | (simp [*]; done), by repeat (first | exact Drawn0.refl _ | apply Drawn0.step)⟩
   ·
    rw [if_neg c3] at H
    have c3b0 : (x6_1 == 0) = false := beq_eq_false_iff_ne.mpr c3
    have c3b1 : (x6_1 != 0) = true := bne_iff_ne.mpr c3
    have H' := Aside0.mk H
    clear H
    go_wp2
    go_roundg k1
    case measure => have := HK1.out; omega
    case rel => exact ⟨(x6_1), (wrap64 (x5_1 - (wrap64 ((wrap64 (Int.tdiv x5_1 x6_1)) * x6_1)))), (x8_1), (wrap64 (x7_1 - (wrap64 ((wrap64 (Int.tdiv x5_1 x6_1)) * x8_1)))), (by first | rfl | (simp; done) | (simp [*]; done)), (by first | rfl | (simp; done) | (simp [*]; done)), (by first | rfl | (simp; done) | (simp [*]; done)), (by first | rfl | (simp; done) | (simp [*]; done)), H', ⟨by have := HK1.out; omega⟩, by repeat (first | exact Drawn0.refl _ | apply Drawn0.step)⟩

end Go.Proofs.YtfmmjekhknaniaaDoor.Pr

