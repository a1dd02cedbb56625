/- This claim's own texts, joined, with only what the claim uses: Hx36, Hx37, Hx38, Hx39, Hx64, Hx66, FnG, FnH, Awake, LawR. -/
import Derived.Test.YtfmmjekhknaniaaDoorSounP5
import Derived.Test.YtfmmjekhknaniaaDoorSounP7
namespace Go.Proofs.YtfmmjekhknaniaaDoor.Pr
open Go.RowKit Go.Proofs.YtfmmjekhknaniaaDoor.Given Go.Proofs.YtfmmjekhknaniaaDoorW.PrintWords Go.Proofs.YtfmmjekhknaniaaDoorW.PrintLast Go.Proofs.YtfmmjekhknaniaaDoorW.PrintMore
attribute [local go_sem] max2_int min2_int max_two min_two max_three min_three max_four min_four   -- for this text's walks alone
set_option linter.unusedVariables false
set_option linter.unusedSimpArgs false

def itv_Has.f (a0_0 : Int) (a0_1 : Int) (a1 : Int) : Option (Bool) := (itv_sound.f a0_0 a0_1).bind fun bt312 => ((itv_None.f bt312.1 bt312.2).bind fun t314 => (if t314 = true then (some false) else (if bt312.1 = (-4611686018427387904) then (if bt312.2 = 4611686018427387904 then (some true) else (some (decide (a1 ≤ bt312.2)))) else (if bt312.1 ≤ a1 then (if bt312.2 = 4611686018427387904 then (some true) else (some (decide (a1 ≤ bt312.2)))) else (some false)))))
set_option maxHeartbeats 8000000 in
set_option maxRecDepth 100000 in
theorem itv_Has.calls (a0_0 : Int) (a0_1 : Int) (a1 : Int) (r : Bool) (w : World) (h : itv_Has.f a0_0 a0_1 a1 = some r) :
  Calls Tryd.prog 74 #[.agg #[.int .i64 a0_0, .int .i64 a0_1], .int .i64 a1] w fun e w' => e = .returned (.bool r) ∧ Below w.heap.size w w' := by
 have hu38 := Tryd.underlying38
 have HB := Aside0.mk (Below.refl w.heap.size w)
 have H : ((itv_sound.f a0_0 a0_1).bind fun bt312 => ((itv_None.f bt312.1 bt312.2).bind fun t314 => (if t314 = true then (some false) else (if bt312.1 = (-4611686018427387904) then (if bt312.2 = 4611686018427387904 then (some true) else (some (decide (a1 ≤ bt312.2)))) else (if bt312.1 ≤ a1 then (if bt312.2 = 4611686018427387904 then (some true) else (some (decide (a1 ≤ bt312.2)))) else (some false)))))) = some r := h
 clear h
 replace H := Option.bind_eq_some_iff.mp H
 obtain ⟨⟨t312, t313⟩, A30, H⟩ := H
 replace H : ((itv_None.f t312 t313).bind fun t314 => (if t314 = true then (some false) else (if t312 = (-4611686018427387904) then (if t313 = 4611686018427387904 then (some true) else (some (decide (a1 ≤ t313)))) else (if t312 ≤ a1 then (if t313 = 4611686018427387904 then (some true) else (some (decide (a1 ≤ t313)))) else (some false))))) = some r := H
 have A3 := Aside0.mk A30
 clear A30
 replace H := Option.bind_eq_some_iff.mp H
 obtain ⟨t314, A40, H⟩ := H
 replace H : (if t314 = true then (some false) else (if t312 = (-4611686018427387904) then (if t313 = 4611686018427387904 then (some true) else (some (decide (a1 ≤ t313)))) else (if t312 ≤ a1 then (if t313 = 4611686018427387904 then (some true) else (some (decide (a1 ≤ t313)))) else (some false)))) = some r := H
 have A4 := Aside0.mk A40
 clear A40
 by_cases c5 : t314 = true
 ·
  subst c5
  have H1 : (some false) = some r := by rw [if_pos rfl] at H; exact H
  clear H
  have H := H1
  clear H1
  obtain rfl := Option.some.inj H
  go_enter Tryd.func74, Tryd.ntmps74
  go_wp2_with (first | ((with_reducible refine gate_dst (N := 2) rfl ?_); refine box_event ?hg (N := 2) ?hd (cs := #[.int .i64 a0_0, .int .i64 a0_1]) (t := 38) ?hr ?_; (case hd => rfl); (case hg => rfl); (case hr => first | (go_simp; done) | (go_simp; rfl)); intro gb311 hg w6 hbox hb; have n0_ := kW HB hb; have n1_ := Aside0.mk (hbox); have n2_ := Aside0.mk ((by rw [hg]; exact (below_size (bS HB)) : w.heap.size ≤ gb311)); have n3_ := Aside0.mk ((by rw [hg]; exact (below_size (bS HB)) : w.heap.size ≤ gb311)); clear HB; have HB := n0_; have BK311 := n1_; have GW311 := n2_; have GE311 := n3_; clear n0_ n1_ n2_ n3_; clear hb hbox hg; have hcz7_0 := cz0 BK311; have hcz7_1 := cz1 BK311; have hfz7_0 := fz BK311 0; have hfz7_1 := fz BK311 1) | ((with_reducible refine gate_callee (f := 95) rfl ?_); refine goesL_ (some 6) rfl rfl Tryd.func95 (by kernel_rfl) rfl #[.agg #[.int .i64 a0_0, .int .i64 a0_1]] rfl mS ?_; (with_reducible refine (itv_sound.calls a0_0 a0_1 t312 t313 _ A3.out).mono ?_); rintro e w8 ⟨rfl, hb⟩; refine ⟨_, rfl, ?_⟩; replace BK311 := kB BK311 hb; replace HB := kW HB hb; (try clear hb); (try clear hb2); (try clear hk); (try clear hi); have hcz9_0 := cz0 BK311; have hcz9_1 := cz1 BK311; have hfz9_0 := fz BK311 0; have hfz9_1 := fz BK311 1) | ((with_reducible refine gate_callee (f := 72) rfl ?_); refine goesL_ (some 8) rfl rfl Tryd.func72 (by kernel_rfl) rfl #[.agg #[.int .i64 t312, .int .i64 t313]] rfl mS ?_; (with_reducible refine (itv_None.calls t312 t313 true _ A4.out).mono ?_); rintro e w10 ⟨rfl, hb⟩; refine ⟨_, rfl, ?_⟩; have n0_ := Aside0.mk (blk_below (g := gb311) (o := .cells #[.int .i64 t312, .int .i64 t313] 38 (0, 0)) (by (with_reducible repeat (first | refine b1 ?_ _ | refine b2 ?_ | refine b3 ?_ _)); refine blk_put (cs := #[.int .i64 t312, .int .i64 a0_1]) ?_ 1 _ rfl; (with_reducible repeat (first | refine b1 ?_ _ | refine b2 ?_ | refine b3 ?_ _)); refine blk_put (cs := #[.int .i64 a0_0, .int .i64 a0_1]) ?_ 0 _ rfl; (with_reducible repeat (first | refine b1 ?_ _ | refine b2 ?_ | refine b3 ?_ _)); exact BK311.out) hb); have n1_ := kW HB hb; clear BK311; clear HB; have BK311 := n0_; have HB := n1_; clear n0_ n1_; (try clear hb); (try clear hb2); (try clear hk); (try clear hi)))
  go_ret
  exact ⟨eS, bS HB⟩
 ·
  replace c5 := Bool.eq_false_iff.mpr c5
  subst c5
  have H1 : (if t312 = (-4611686018427387904) then (if t313 = 4611686018427387904 then (some true) else (some (decide (a1 ≤ t313)))) else (if t312 ≤ a1 then (if t313 = 4611686018427387904 then (some true) else (some (decide (a1 ≤ t313)))) else (some false))) = some r := by rw [if_neg (show ¬ (false = true) by decide)] at H; exact H
  clear H
  have H := H1
  clear H1
  by_cases c11 : t312 = (-4611686018427387904)
  ·
   rw [if_pos c11] at H
   have c11b0 : (t312 == (-4611686018427387904)) = true := beq_iff_eq.mpr c11
   have c11b1 : (t312 != (-4611686018427387904)) = false := bne_eq_false_iff_eq.mpr c11
   clear c11
   by_cases c12 : t313 = 4611686018427387904
   ·
    rw [if_pos c12] at H
    have c12b0 : (t313 == 4611686018427387904) = true := beq_iff_eq.mpr c12
    have c12b1 : (t313 != 4611686018427387904) = false := bne_eq_false_iff_eq.mpr c12
    clear c12
    obtain rfl := Option.some.inj H
    go_enter Tryd.func74, Tryd.ntmps74
    go_wp2_with (first | ((with_reducible refine gate_dst (N := 2) rfl ?_); refine box_event ?hg (N := 2) ?hd (cs := #[.int .i64 a0_0, .int .i64 a0_1]) (t := 38) ?hr ?_; (case hd => rfl); (case hg => rfl); (case hr => first | (go_simp; done) | (go_simp; rfl)); intro gb311 hg w13 hbox hb; have n0_ := kW HB hb; have n1_ := Aside0.mk (hbox); have n2_ := Aside0.mk ((by rw [hg]; exact (below_size (bS HB)) : w.heap.size ≤ gb311)); have n3_ := Aside0.mk ((by rw [hg]; exact (below_size (bS HB)) : w.heap.size ≤ gb311)); clear HB; have HB := n0_; have BK311 := n1_; have GW311 := n2_; have GE311 := n3_; clear n0_ n1_ n2_ n3_; clear hb hbox hg; have hcz14_0 := cz0 BK311; have hcz14_1 := cz1 BK311; have hfz14_0 := fz BK311 0; have hfz14_1 := fz BK311 1) | ((with_reducible refine gate_callee (f := 95) rfl ?_); refine goesL_ (some 6) rfl rfl Tryd.func95 (by kernel_rfl) rfl #[.agg #[.int .i64 a0_0, .int .i64 a0_1]] rfl mS ?_; (with_reducible refine (itv_sound.calls a0_0 a0_1 t312 t313 _ A3.out).mono ?_); rintro e w15 ⟨rfl, hb⟩; refine ⟨_, rfl, ?_⟩; replace BK311 := kB BK311 hb; replace HB := kW HB hb; (try clear hb); (try clear hb2); (try clear hk); (try clear hi); have hcz16_0 := cz0 BK311; have hcz16_1 := cz1 BK311; have hfz16_0 := fz BK311 0; have hfz16_1 := fz BK311 1) | ((with_reducible refine gate_callee (f := 72) rfl ?_); refine goesL_ (some 8) rfl rfl Tryd.func72 (by kernel_rfl) rfl #[.agg #[.int .i64 t312, .int .i64 t313]] rfl mS ?_; (with_reducible refine (itv_None.calls t312 t313 false _ A4.out).mono ?_); rintro e w17 ⟨rfl, hb⟩; refine ⟨_, rfl, ?_⟩; have n0_ := Aside0.mk (blk_below (g := gb311) (o := .cells #[.int .i64 t312, .int .i64 t313] 38 (0, 0)) (by (with_reducible repeat (first | refine b1 ?_ _ | refine b2 ?_ | refine b3 ?_ _)); refine blk_put (cs := #[.int .i64 t312, .int .i64 a0_1]) ?_ 1 _ rfl; (with_reducible repeat (first | refine b1 ?_ _ | refine b2 ?_ | refine b3 ?_ _)); refine blk_put (cs := #[.int .i64 a0_0, .int .i64 a0_1]) ?_ 0 _ rfl; (with_reducible repeat (first | refine b1 ?_ _ | refine b2 ?_ | refine b3 ?_ _)); exact BK311.out) hb); have n1_ := kW HB hb; clear BK311; clear HB; have BK311 := n0_; have HB := n1_; clear n0_ n1_; (try clear hb); (try clear hb2); (try clear hk); (try clear hi); have hcz18_0 := cz0 BK311; have hcz18_1 := cz1 BK311; have hfz18_0 := fz BK311 0; have hfz18_1 := fz BK311 1))
    go_ret
    exact ⟨eS, bS HB⟩
   ·
    rw [if_neg c12] at H
    have c12b0 : (t313 == 4611686018427387904) = false := beq_eq_false_iff_ne.mpr c12
    have c12b1 : (t313 != 4611686018427387904) = true := bne_iff_ne.mpr c12
    obtain rfl := Option.some.inj H
    go_enter Tryd.func74, Tryd.ntmps74
    go_wp2_with (first | ((with_reducible refine gate_dst (N := 2) rfl ?_); refine box_event ?hg (N := 2) ?hd (cs := #[.int .i64 a0_0, .int .i64 a0_1]) (t := 38) ?hr ?_; (case hd => rfl); (case hg => rfl); (case hr => first | (go_simp; done) | (go_simp; rfl)); intro gb311 hg w19 hbox hb; have n0_ := kW HB hb; have n1_ := Aside0.mk (hbox); have n2_ := Aside0.mk ((by rw [hg]; exact (below_size (bS HB)) : w.heap.size ≤ gb311)); have n3_ := Aside0.mk ((by rw [hg]; exact (below_size (bS HB)) : w.heap.size ≤ gb311)); clear HB; have HB := n0_; have BK311 := n1_; have GW311 := n2_; have GE311 := n3_; clear n0_ n1_ n2_ n3_; clear hb hbox hg; have hcz20_0 := cz0 BK311; have hcz20_1 := cz1 BK311; have hfz20_0 := fz BK311 0; have hfz20_1 := fz BK311 1) | ((with_reducible refine gate_callee (f := 95) rfl ?_); refine goesL_ (some 6) rfl rfl Tryd.func95 (by kernel_rfl) rfl #[.agg #[.int .i64 a0_0, .int .i64 a0_1]] rfl mS ?_; (with_reducible refine (itv_sound.calls a0_0 a0_1 t312 t313 _ A3.out).mono ?_); rintro e w21 ⟨rfl, hb⟩; refine ⟨_, rfl, ?_⟩; replace BK311 := kB BK311 hb; replace HB := kW HB hb; (try clear hb); (try clear hb2); (try clear hk); (try clear hi); have hcz22_0 := cz0 BK311; have hcz22_1 := cz1 BK311; have hfz22_0 := fz BK311 0; have hfz22_1 := fz BK311 1) | ((with_reducible refine gate_callee (f := 72) rfl ?_); refine goesL_ (some 8) rfl rfl Tryd.func72 (by kernel_rfl) rfl #[.agg #[.int .i64 t312, .int .i64 t313]] rfl mS ?_; (with_reducible refine (itv_None.calls t312 t313 false _ A4.out).mono ?_); rintro e w23 ⟨rfl, hb⟩; refine ⟨_, rfl, ?_⟩; have n0_ := Aside0.mk (blk_below (g := gb311) (o := .cells #[.int .i64 t312, .int .i64 t313] 38 (0, 0)) (by (with_reducible repeat (first | refine b1 ?_ _ | refine b2 ?_ | refine b3 ?_ _)); refine blk_put (cs := #[.int .i64 t312, .int .i64 a0_1]) ?_ 1 _ rfl; (with_reducible repeat (first | refine b1 ?_ _ | refine b2 ?_ | refine b3 ?_ _)); refine blk_put (cs := #[.int .i64 a0_0, .int .i64 a0_1]) ?_ 0 _ rfl; (with_reducible repeat (first | refine b1 ?_ _ | refine b2 ?_ | refine b3 ?_ _)); exact BK311.out) hb); have n1_ := kW HB hb; clear BK311; clear HB; have BK311 := n0_; have HB := n1_; clear n0_ n1_; (try clear hb); (try clear hb2); (try clear hk); (try clear hi); have hcz24_0 := cz0 BK311; have hcz24_1 := cz1 BK311; have hfz24_0 := fz BK311 0; have hfz24_1 := fz BK311 1))
    go_ret
    exact ⟨eS, bS HB⟩
  ·
   rw [if_neg c11] at H
   have c11b0 : (t312 == (-4611686018427387904)) = false := beq_eq_false_iff_ne.mpr c11
   have c11b1 : (t312 != (-4611686018427387904)) = true := bne_iff_ne.mpr c11
   by_cases c25 : t312 ≤ a1
   ·
    rw [if_pos c25] at H
    have c25b0 : decide (t312 ≤ a1) = true := decide_eq_true c25
    clear c25
    by_cases c26 : t313 = 4611686018427387904
    ·
     rw [if_pos c26] at H
     have c26b0 : (t313 == 4611686018427387904) = true := beq_iff_eq.mpr c26
     have c26b1 : (t313 != 4611686018427387904) = false := bne_eq_false_iff_eq.mpr c26
     clear c26
     obtain rfl := Option.some.inj H
     go_enter Tryd.func74, Tryd.ntmps74
     go_wp2_with (first | ((with_reducible refine gate_dst (N := 2) rfl ?_); refine box_event ?hg (N := 2) ?hd (cs := #[.int .i64 a0_0, .int .i64 a0_1]) (t := 38) ?hr ?_; (case hd => rfl); (case hg => rfl); (case hr => first | (go_simp; done) | (go_simp; rfl)); intro gb311 hg w27 hbox hb; have n0_ := kW HB hb; have n1_ := Aside0.mk (hbox); have n2_ := Aside0.mk ((by rw [hg]; exact (below_size (bS HB)) : w.heap.size ≤ gb311)); have n3_ := Aside0.mk ((by rw [hg]; exact (below_size (bS HB)) : w.heap.size ≤ gb311)); clear HB; have HB := n0_; have BK311 := n1_; have GW311 := n2_; have GE311 := n3_; clear n0_ n1_ n2_ n3_; clear hb hbox hg; have hcz28_0 := cz0 BK311; have hcz28_1 := cz1 BK311; have hfz28_0 := fz BK311 0; have hfz28_1 := fz BK311 1) | ((with_reducible refine gate_callee (f := 95) rfl ?_); refine goesL_ (some 6) rfl rfl Tryd.func95 (by kernel_rfl) rfl #[.agg #[.int .i64 a0_0, .int .i64 a0_1]] rfl mS ?_; (with_reducible refine (itv_sound.calls a0_0 a0_1 t312 t313 _ A3.out).mono ?_); rintro e w29 ⟨rfl, hb⟩; refine ⟨_, rfl, ?_⟩; replace BK311 := kB BK311 hb; replace HB := kW HB hb; (try clear hb); (try clear hb2); (try clear hk); (try clear hi); have hcz30_0 := cz0 BK311; have hcz30_1 := cz1 BK311; have hfz30_0 := fz BK311 0; have hfz30_1 := fz BK311 1) | ((with_reducible refine gate_callee (f := 72) rfl ?_); refine goesL_ (some 8) rfl rfl Tryd.func72 (by kernel_rfl) rfl #[.agg #[.int .i64 t312, .int .i64 t313]] rfl mS ?_; (with_reducible refine (itv_None.calls t312 t313 false _ A4.out).mono ?_); rintro e w31 ⟨rfl, hb⟩; refine ⟨_, rfl, ?_⟩; have n0_ := Aside0.mk (blk_below (g := gb311) (o := .cells #[.int .i64 t312, .int .i64 t313] 38 (0, 0)) (by (with_reducible repeat (first | refine b1 ?_ _ | refine b2 ?_ | refine b3 ?_ _)); refine blk_put (cs := #[.int .i64 t312, .int .i64 a0_1]) ?_ 1 _ rfl; (with_reducible repeat (first | refine b1 ?_ _ | refine b2 ?_ | refine b3 ?_ _)); refine blk_put (cs := #[.int .i64 a0_0, .int .i64 a0_1]) ?_ 0 _ rfl; (with_reducible repeat (first | refine b1 ?_ _ | refine b2 ?_ | refine b3 ?_ _)); exact BK311.out) hb); have n1_ := kW HB hb; clear BK311; clear HB; have BK311 := n0_; have HB := n1_; clear n0_ n1_; (try clear hb); (try clear hb2); (try clear hk); (try clear hi); have hcz32_0 := cz0 BK311; have hcz32_1 := cz1 BK311; have hfz32_0 := fz BK311 0; have hfz32_1 := fz BK311 1))
     go_ret
     exact ⟨eS, bS HB⟩
    ·
     rw [if_neg c26] at H
     have c26b0 : (t313 == 4611686018427387904) = false := beq_eq_false_iff_ne.mpr c26
     have c26b1 : (t313 != 4611686018427387904) = true := bne_iff_ne.mpr c26
     obtain rfl := Option.some.inj H
     go_enter Tryd.func74, Tryd.ntmps74
     go_wp2_with (first | ((with_reducible refine gate_dst (N := 2) rfl ?_); refine box_event ?hg (N := 2) ?hd (cs := #[.int .i64 a0_0, .int .i64 a0_1]) (t := 38) ?hr ?_; (case hd => rfl); (case hg => rfl); (case hr => first | (go_simp; done) | (go_simp; rfl)); intro gb311 hg w33 hbox hb; have n0_ := kW HB hb; have n1_ := Aside0.mk (hbox); have n2_ := Aside0.mk ((by rw [hg]; exact (below_size (bS HB)) : w.heap.size ≤ gb311)); have n3_ := Aside0.mk ((by rw [hg]; exact (below_size (bS HB)) : w.heap.size ≤ gb311)); clear HB; have HB := n0_; have BK311 := n1_; have GW311 := n2_; have GE311 := n3_; clear n0_ n1_ n2_ n3_; clear hb hbox hg; have hcz34_0 := cz0 BK311; have hcz34_1 := cz1 BK311; have hfz34_0 := fz BK311 0; have hfz34_1 := fz BK311 1) | ((with_reducible refine gate_callee (f := 95) rfl ?_); refine goesL_ (some 6) rfl rfl Tryd.func95 (by kernel_rfl) rfl #[.agg #[.int .i64 a0_0, .int .i64 a0_1]] rfl mS ?_; (with_reducible refine (itv_sound.calls a0_0 a0_1 t312 t313 _ A3.out).mono ?_); rintro e w35 ⟨rfl, hb⟩; refine ⟨_, rfl, ?_⟩; replace BK311 := kB BK311 hb; replace HB := kW HB hb; (try clear hb); (try clear hb2); (try clear hk); (try clear hi); have hcz36_0 := cz0 BK311; have hcz36_1 := cz1 BK311; have hfz36_0 := fz BK311 0; have hfz36_1 := fz BK311 1) | ((with_reducible refine gate_callee (f := 72) rfl ?_); refine goesL_ (some 8) rfl rfl Tryd.func72 (by kernel_rfl) rfl #[.agg #[.int .i64 t312, .int .i64 t313]] rfl mS ?_; (with_reducible refine (itv_None.calls t312 t313 false _ A4.out).mono ?_); rintro e w37 ⟨rfl, hb⟩; refine ⟨_, rfl, ?_⟩; have n0_ := Aside0.mk (blk_below (g := gb311) (o := .cells #[.int .i64 t312, .int .i64 t313] 38 (0, 0)) (by (with_reducible repeat (first | refine b1 ?_ _ | refine b2 ?_ | refine b3 ?_ _)); refine blk_put (cs := #[.int .i64 t312, .int .i64 a0_1]) ?_ 1 _ rfl; (with_reducible repeat (first | refine b1 ?_ _ | refine b2 ?_ | refine b3 ?_ _)); refine blk_put (cs := #[.int .i64 a0_0, .int .i64 a0_1]) ?_ 0 _ rfl; (with_reducible repeat (first | refine b1 ?_ _ | refine b2 ?_ | refine b3 ?_ _)); exact BK311.out) hb); have n1_ := kW HB hb; clear BK311; clear HB; have BK311 := n0_; have HB := n1_; clear n0_ n1_; (try clear hb); (try clear hb2); (try clear hk); (try clear hi); have hcz38_0 := cz0 BK311; have hcz38_1 := cz1 BK311; have hfz38_0 := fz BK311 0; have hfz38_1 := fz BK311 1))
     go_ret
     exact ⟨eS, bS HB⟩
   ·
    rw [if_neg c25] at H
    have c25b0 : decide (t312 ≤ a1) = false := decide_eq_false c25
    clear c25
    obtain rfl := Option.some.inj H
    go_enter Tryd.func74, Tryd.ntmps74
    go_wp2_with (first | ((with_reducible refine gate_dst (N := 2) rfl ?_); refine box_event ?hg (N := 2) ?hd (cs := #[.int .i64 a0_0, .int .i64 a0_1]) (t := 38) ?hr ?_; (case hd => rfl); (case hg => rfl); (case hr => first | (go_simp; done) | (go_simp; rfl)); intro gb311 hg w39 hbox hb; have n0_ := kW HB hb; have n1_ := Aside0.mk (hbox); have n2_ := Aside0.mk ((by rw [hg]; exact (below_size (bS HB)) : w.heap.size ≤ gb311)); have n3_ := Aside0.mk ((by rw [hg]; exact (below_size (bS HB)) : w.heap.size ≤ gb311)); clear HB; have HB := n0_; have BK311 := n1_; have GW311 := n2_; have GE311 := n3_; clear n0_ n1_ n2_ n3_; clear hb hbox hg; have hcz40_0 := cz0 BK311; have hcz40_1 := cz1 BK311; have hfz40_0 := fz BK311 0; have hfz40_1 := fz BK311 1) | ((with_reducible refine gate_callee (f := 95) rfl ?_); refine goesL_ (some 6) rfl rfl Tryd.func95 (by kernel_rfl) rfl #[.agg #[.int .i64 a0_0, .int .i64 a0_1]] rfl mS ?_; (with_reducible refine (itv_sound.calls a0_0 a0_1 t312 t313 _ A3.out).mono ?_); rintro e w41 ⟨rfl, hb⟩; refine ⟨_, rfl, ?_⟩; replace BK311 := kB BK311 hb; replace HB := kW HB hb; (try clear hb); (try clear hb2); (try clear hk); (try clear hi); have hcz42_0 := cz0 BK311; have hcz42_1 := cz1 BK311; have hfz42_0 := fz BK311 0; have hfz42_1 := fz BK311 1) | ((with_reducible refine gate_callee (f := 72) rfl ?_); refine goesL_ (some 8) rfl rfl Tryd.func72 (by kernel_rfl) rfl #[.agg #[.int .i64 t312, .int .i64 t313]] rfl mS ?_; (with_reducible refine (itv_None.calls t312 t313 false _ A4.out).mono ?_); rintro e w43 ⟨rfl, hb⟩; refine ⟨_, rfl, ?_⟩; have n0_ := Aside0.mk (blk_below (g := gb311) (o := .cells #[.int .i64 t312, .int .i64 t313] 38 (0, 0)) (by (with_reducible repeat (first | refine b1 ?_ _ | refine b2 ?_ | refine b3 ?_ _)); refine blk_put (cs := #[.int .i64 t312, .int .i64 a0_1]) ?_ 1 _ rfl; (with_reducible repeat (first | refine b1 ?_ _ | refine b2 ?_ | refine b3 ?_ _)); refine blk_put (cs := #[.int .i64 a0_0, .int .i64 a0_1]) ?_ 0 _ rfl; (with_reducible repeat (first | refine b1 ?_ _ | refine b2 ?_ | refine b3 ?_ _)); exact BK311.out) hb); have n1_ := kW HB hb; clear BK311; clear HB; have BK311 := n0_; have HB := n1_; clear n0_ n1_; (try clear hb); (try clear hb2); (try clear hk); (try clear hi); have hcz44_0 := cz0 BK311; have hcz44_1 := cz1 BK311; have hfz44_0 := fz BK311 0; have hfz44_1 := fz BK311 1))
    go_ret
    exact ⟨eS, bS HB⟩

def congr_Tighten.j0 : Nat → Bool → Bool → Int → Int → Int → Int → Option (Bool × Int × Int × Int × Int)
 | 0, _, _, _, _, _, _ => none
 | k + 1, x17, x316000, x316001, x316002, x317000, x317001 => if x17 = true then ((congr_none.f).bind fun bt324 => ((itv_Empty.f).bind fun bt327 => (some (bt324.1, bt324.2.1, bt324.2.2, bt327.1, bt327.2)))) else (if x316001 = 0 then ((itv_Has.f x317000 x317001 x316002).bind fun t329 => (if t329 = true then ((itv_Of.f x316002 x316002).bind fun bt330 => (some (x316000, x316001, x316002, bt330.1, bt330.2))) else ((congr_none.f).bind fun bt332 => ((itv_Empty.f).bind fun bt335 => (some (bt332.1, bt332.2.1, bt332.2.2, bt335.1, bt335.2)))))) else ((congr_rest.f (wrap64 (x316002 - x317000)) (IntKind.u64.wrap (x316001))).bind fun t337 => ((congr_rest.f (wrap64 (x317001 - x316002)) (IntKind.u64.wrap (x316001))).bind fun t338 => (if (wrap64 (x317000 + (wrap64 (t337)))) > (wrap64 (x317001 - (wrap64 (t338)))) then ((congr_none.f).bind fun bt339 => ((itv_Empty.f).bind fun bt342 => (some (bt339.1, bt339.2.1, bt339.2.2, bt342.1, bt342.2)))) else (if (wrap64 (x317000 + (wrap64 (t337)))) = (wrap64 (x317001 - (wrap64 (t338)))) then ((congr_constant.f (wrap64 (x317000 + (wrap64 (t337))))).bind fun bt344 => ((itv_Of.f (wrap64 (x317000 + (wrap64 (t337)))) (wrap64 (x317000 + (wrap64 (t337))))).bind fun bt347 => (some (bt344.1, bt344.2.1, bt344.2.2, bt347.1, bt347.2)))) else ((itv_Of.f (wrap64 (x317000 + (wrap64 (t337)))) (wrap64 (x317001 - (wrap64 (t338))))).bind fun bt349 => (some (x316000, x316001, x316002, bt349.1, bt349.2))))))))
def congr_Tighten.f (k : Nat) (a0_0 : Bool) (a0_1 : Int) (a0_2 : Int) (a1_0 : Int) (a1_1 : Int) : Option (Bool × Int × Int × Int × Int) := (itv_Type.f 3).bind fun bt319 => ((itv_Meet.f k a1_0 a1_1 bt319.1 bt319.2).bind fun bt321 => (if a0_0 = true then (congr_Tighten.j0 k true a0_0 a0_1 a0_2 bt321.1 bt321.2) else ((itv_None.f bt321.1 bt321.2).bind fun t323 => (congr_Tighten.j0 k t323 a0_0 a0_1 a0_2 bt321.1 bt321.2))))
def congr_Tighten.T7 : Bool × List (List Nat × List Nat) := (true, [([], []), ([], []), ([1], [1]), ([], []), ([3], [3]), ([2, 4], [2, 4]), ([0, 5, 0], [0]), ([5, 6, 0, 1, 2, 3, 4, 5, 6], [5])])
def congr_Tighten.B7 : List Nat := [0, 0, 2, 0, 8, 30, 63, 127]
theorem congr_Tighten.tab7 : rtab .any (opsOf Tryd.f26 7) = congr_Tighten.T7 := by kernel_rfl
theorem congr_Tighten.bits7 : waitsOk congr_Tighten.T7.2 congr_Tighten.B7 = true := by kernel_rfl
def congr_Tighten.T9 : Bool × List (List Nat × List Nat) := (true, [([], []), ([0], [0]), ([], []), ([2], [2]), ([], []), ([4], [4]), ([3, 5], [3, 5]), ([], []), ([6, 7], [6, 7]), ([8], [8]), ([1, 9], [1, 9]), ([10, 8, 0, 1, 2, 3, 4, 5, 6, 7, 8, 9, 10], [10])])
def congr_Tighten.B9 : List Nat := [0, 1, 0, 4, 0, 16, 60, 0, 252, 508, 1023, 2047]
theorem congr_Tighten.tab9 : rtab .any (opsOf Tryd.f26 9) = congr_Tighten.T9 := by kernel_rfl
theorem congr_Tighten.bits9 : waitsOk congr_Tighten.T9.2 congr_Tighten.B9 = true := by kernel_rfl
def congr_Tighten.T10 : Bool × List (List Nat × List Nat) := (true, [([], []), ([0], [0]), ([], []), ([2], [2]), ([], []), ([4], [4]), ([3, 5], [3, 5]), ([], []), ([6, 7], [6, 7]), ([8], [8]), ([1, 9], [1, 9]), ([10, 8, 0, 1, 2, 3, 4, 5, 6, 7, 8, 9, 10], [10])])
def congr_Tighten.B10 : List Nat := [0, 1, 0, 4, 0, 16, 60, 0, 252, 508, 1023, 2047]
theorem congr_Tighten.tab10 : rtab .any (opsOf Tryd.f26 10) = congr_Tighten.T10 := by kernel_rfl
theorem congr_Tighten.bits10 : waitsOk congr_Tighten.T10.2 congr_Tighten.B10 = true := by kernel_rfl
set_option maxHeartbeats 8000000 in
set_option maxRecDepth 100000 in
theorem congr_Tighten.calls (k : Nat) (a0_0 : Bool) (a0_1 : Int) (a0_2 : Int) (a1_0 : Int) (a1_1 : Int) (r1 : Bool) (r2 : Int) (r3 : Int) (r4 : Int) (r5 : Int) (w : World) (h : congr_Tighten.f k a0_0 a0_1 a0_2 a1_0 a1_1 = some (r1, r2, r3, r4, r5)) :
  Calls Tryd.prog 26 #[.agg #[.bool a0_0, .int .i64 a0_1, .int .i64 a0_2], .agg #[.int .i64 a1_0, .int .i64 a1_1]] w fun e w' => e = .returned (.tuple #[.agg #[.bool r1, .int .i64 r2, .int .i64 r3], .agg #[.int .i64 r4, .int .i64 r5]]) ∧ Below w.heap.size w w' := by
 have hu23 := Tryd.underlying23
 have hu38 := Tryd.underlying38
 have HB := Aside0.mk (Below.refl w.heap.size w)
 have H : ((itv_Type.f 3).bind fun bt319 => ((itv_Meet.f k a1_0 a1_1 bt319.1 bt319.2).bind fun bt321 => (if a0_0 = true then (congr_Tighten.j0 k true a0_0 a0_1 a0_2 bt321.1 bt321.2) else ((itv_None.f bt321.1 bt321.2).bind fun t323 => (congr_Tighten.j0 k t323 a0_0 a0_1 a0_2 bt321.1 bt321.2))))) = some (r1, r2, r3, r4, r5) := h
 clear h
 replace H := Option.bind_eq_some_iff.mp H
 obtain ⟨⟨t319, t320⟩, A30, H⟩ := H
 replace H : ((itv_Meet.f k a1_0 a1_1 t319 t320).bind fun bt321 => (if a0_0 = true then (congr_Tighten.j0 k true a0_0 a0_1 a0_2 bt321.1 bt321.2) else ((itv_None.f bt321.1 bt321.2).bind fun t323 => (congr_Tighten.j0 k t323 a0_0 a0_1 a0_2 bt321.1 bt321.2)))) = some (r1, r2, r3, r4, r5) := H
 have A3 := Aside0.mk A30
 clear A30
 replace H := Option.bind_eq_some_iff.mp H
 obtain ⟨⟨t321, t322⟩, A40, H⟩ := H
 replace H : (if a0_0 = true then (congr_Tighten.j0 k true a0_0 a0_1 a0_2 t321 t322) else ((itv_None.f t321 t322).bind fun t323 => (congr_Tighten.j0 k t323 a0_0 a0_1 a0_2 t321 t322))) = some (r1, r2, r3, r4, r5) := H
 have A4 := Aside0.mk A40
 clear A40
 have HC5 := Aside0.mk H
 clear H
 go_enter Tryd.func26, Tryd.ntmps26
 try go_wp2_with (first | ((with_reducible refine gate_dst (N := 2) rfl ?_); refine box_event ?hg (N := 2) ?hd (cs := #[.bool a0_0, .int .i64 a0_1, .int .i64 a0_2]) (t := 23) ?hr ?_; (case hd => rfl); (case hg => rfl); (case hr => first | (go_simp; done) | (go_simp; rfl)); intro gb315 hg w6 hbox hb; have n0_ := kW HB hb; have n1_ := Aside0.mk (hbox); have n2_ := Aside0.mk ((by rw [hg]; exact (below_size (bS HB)) : w.heap.size ≤ gb315)); have n3_ := Aside0.mk ((by rw [hg]; exact (below_size (bS HB)) : w.heap.size ≤ gb315)); clear HB; have HB := n0_; have BK315 := n1_; have GW315 := n2_; have GE315 := n3_; clear n0_ n1_ n2_ n3_; clear hb hbox hg) | ((with_reducible refine gate_dst (N := 3) rfl ?_); refine box_event ?hg (N := 3) ?hd (cs := #[.int .i64 a1_0, .int .i64 a1_1]) (t := 38) ?hr ?_; (case hd => rfl); (case hg => rfl); (case hr => first | (go_simp; done) | (go_simp; rfl)); intro gb316 hg w7 hbox hb; have n0_ := kB BK315 hb; have n1_ := kW HB hb; have n2_ := Aside0.mk (hbox); have n3_ := Aside0.mk ((by rw [hg]; exact (below_size (bS HB)) : w.heap.size ≤ gb316)); have n4_ := Aside0.mk ((by rw [hg]; exact (below_size (bS HB)) : w.heap.size ≤ gb316)); have n5_ := Aside0.mk ((by rw [hg]; exact Nat.ne_of_lt (blk_lt (bkS BK315)) : gb315 ≠ gb316)); have n6_ := Aside0.mk ((by rw [hg]; exact Nat.ne_of_gt (blk_lt (bkS BK315)) : gb316 ≠ gb315)); clear BK315; clear HB; have BK315 := n0_; have HB := n1_; have BK316 := n2_; have GW316 := n3_; have GE316 := n4_; have NB315_316 := n5_; have NB316_315 := n6_; clear n0_ n1_ n2_ n3_ n4_ n5_ n6_; clear hb hbox hg) | ((with_reducible refine gate_dst (N := 4) rfl ?_); refine box_event ?hg (N := 4) ?hd (cs := #[.bool false, .int .i64 0, .int .i64 0]) (t := 23) ?hr ?_; (case hd => rfl); (case hg => rfl); (case hr => first | (go_simp; done) | (go_simp; rfl)); intro gb317 hg w8 hbox hb; have n0_ := kB BK315 hb; have n1_ := kB BK316 hb; have n2_ := kW HB hb; have n3_ := Aside0.mk (hbox); have n4_ := Aside0.mk ((by rw [hg]; exact (below_size (bS HB)) : w.heap.size ≤ gb317)); have n5_ := Aside0.mk ((by rw [hg]; exact (below_size (bS HB)) : w.heap.size ≤ gb317)); have n6_ := Aside0.mk ((by rw [hg]; exact Nat.ne_of_lt (blk_lt (bkS BK315)) : gb315 ≠ gb317)); have n7_ := Aside0.mk ((by rw [hg]; exact Nat.ne_of_gt (blk_lt (bkS BK315)) : gb317 ≠ gb315)); have n8_ := Aside0.mk ((by rw [hg]; exact Nat.ne_of_lt (blk_lt (bkS BK316)) : gb316 ≠ gb317)); have n9_ := Aside0.mk ((by rw [hg]; exact Nat.ne_of_gt (blk_lt (bkS BK316)) : gb317 ≠ gb316)); clear BK315; clear BK316; clear HB; have BK315 := n0_; have BK316 := n1_; have HB := n2_; have BK317 := n3_; have GW317 := n4_; have GE317 := n5_; have NB315_317 := n6_; have NB317_315 := n7_; have NB316_317 := n8_; have NB317_316 := n9_; clear n0_ n1_ n2_ n3_ n4_ n5_ n6_ n7_ n8_ n9_; clear hb hbox hg) | ((with_reducible refine gate_dst (N := 5) rfl ?_); refine box_event ?hg (N := 5) ?hd (cs := #[.int .i64 0, .int .i64 0]) (t := 38) ?hr ?_; (case hd => rfl); (case hg => rfl); (case hr => first | (go_simp; done) | (go_simp; rfl)); intro gb318 hg w9 hbox hb; have n0_ := kB BK315 hb; have n1_ := kB BK316 hb; have n2_ := kB BK317 hb; have n3_ := kW HB hb; have n4_ := Aside0.mk (hbox); have n5_ := Aside0.mk ((by rw [hg]; exact (below_size (bS HB)) : w.heap.size ≤ gb318)); have n6_ := Aside0.mk ((by rw [hg]; exact (below_size (bS HB)) : w.heap.size ≤ gb318)); have n7_ := Aside0.mk ((by rw [hg]; exact Nat.ne_of_lt (blk_lt (bkS BK315)) : gb315 ≠ gb318)); have n8_ := Aside0.mk ((by rw [hg]; exact Nat.ne_of_gt (blk_lt (bkS BK315)) : gb318 ≠ gb315)); have n9_ := Aside0.mk ((by rw [hg]; exact Nat.ne_of_lt (blk_lt (bkS BK316)) : gb316 ≠ gb318)); have n10_ := Aside0.mk ((by rw [hg]; exact Nat.ne_of_gt (blk_lt (bkS BK316)) : gb318 ≠ gb316)); have n11_ := Aside0.mk ((by rw [hg]; exact Nat.ne_of_lt (blk_lt (bkS BK317)) : gb317 ≠ gb318)); have n12_ := Aside0.mk ((by rw [hg]; exact Nat.ne_of_gt (blk_lt (bkS BK317)) : gb318 ≠ gb317)); clear BK315; clear BK316; clear BK317; clear HB; have BK315 := n0_; have BK316 := n1_; have BK317 := n2_; have HB := n3_; have BK318 := n4_; have GW318 := n5_; have GE318 := n6_; have NB315_318 := n7_; have NB318_315 := n8_; have NB316_318 := n9_; have NB318_316 := n10_; have NB317_318 := n11_; have NB318_317 := n12_; clear n0_ n1_ n2_ n3_ n4_ n5_ n6_ n7_ n8_ n9_ n10_ n11_ n12_; clear hb hbox hg))
 replace BK315 := Aside0.mk (blk_drew BK315.out)
 replace BK316 := Aside0.mk (blk_drew BK316.out)
 replace BK317 := Aside0.mk (blk_drew BK317.out)
 replace BK318 := Aside0.mk (blk_drew BK318.out)
 replace HB := Aside0.mk (below_drew1 HB.out)
 refine start_ (n := 4) (S := fun w' => w'.cell? ⟨gb316, 0, none⟩ = some (.int .i64 a1_0) ∧ w'.cell? ⟨gb316, 1, none⟩ = some (.int .i64 a1_1)) (ds := [3]) #[false, false, false, false] (by kernel_rfl) rfl rfl ⟨cz0 BK316, cz1 BK316⟩ (fun hHeld => ?_)
 generalize w9.drew = w10 at BK315 BK316 BK317 BK318 HB hHeld ⊢
 refine take_ (i := 0) (N := some 9) (v := ?_) (a' := ?_) #[true, false, false, false] rfl rfl (by kernel_rfl) (fun _ _ _ h => h) (Or.inl ⟨by rfl, ?_⟩) hHeld ?_ ?_
 rotate_left
 ·
  rintro w' ⟨s0, s1⟩
  go_simp
  with_reducible rfl
 rotate_left
 ·
  simp only [Act.put, lA, lB, lC, i64_w, i32_w]
  rfl
 refine one_ (i := 1) (N := some 10) #[true, true, false, false] rfl rfl (by kernel_rfl) (by decide) (fun K hK => ?_)
 refine goes_ Tryd.func71 (by kernel_rfl) rfl #[.int .i64 3] (by rfl) rfl rfl mS ?_
 with_reducible refine (itv_Type.calls 3 t319 t320 _ A3.out).mono ?_
 rintro e w11 ⟨rfl, hb⟩
 refine ⟨_, rfl, ?_⟩
 replace BK315 := kB BK315 hb
 replace BK316 := kB BK316 hb
 replace BK317 := kB BK317 hb
 replace BK318 := kB BK318 hb
 replace HB := kW HB hb
 (try clear hb)
 (try clear hb2)
 (try clear hk)
 (try clear hi)
 refine hK.out _ _ ⟨cz0 BK316, cz1 BK316⟩ (fun hHeld => ?_)
 clear hK K
 refine norm_ (a' := ?_) ?_ ?_
 rotate_left
 ·
  show Act.put _ (some 10) _ = _
  simp only [Act.put, lA, lB, lC, i64_w, i32_w]
  rfl
 refine one_ (i := 2) (N := some 11) #[true, true, true, false] rfl rfl (by kernel_rfl) (by decide) (fun K hK => ?_)
 refine goes_ Tryd.func70 (by kernel_rfl) rfl #[.agg #[.int .i64 a1_0, .int .i64 a1_1], .agg #[.int .i64 t319, .int .i64 t320]] (by rfl) rfl rfl mS ?_
 with_reducible refine (itv_Meet.calls k a1_0 a1_1 t319 t320 t321 t322 _ A4.out).mono ?_
 rintro e w12 ⟨rfl, hb⟩
 refine ⟨_, rfl, ?_⟩
 replace BK315 := kB BK315 hb
 replace BK316 := kB BK316 hb
 replace BK317 := kB BK317 hb
 replace BK318 := kB BK318 hb
 replace HB := kW HB hb
 (try clear hb)
 (try clear hb2)
 (try clear hk)
 (try clear hi)
 refine hK.out _ _ ⟨cz0 BK316, cz1 BK316⟩ (fun hHeld => ?_)
 clear hK K
 refine norm_ (a' := ?_) ?_ ?_
 rotate_left
 ·
  show Act.put _ (some 11) _ = _
  simp only [Act.put, lA, lB, lC, i64_w, i32_w]
  rfl
 refine last_ (i := 3) (N := none) #[true, true, true, true] rfl rfl (by kernel_rfl) (by decide) (fun K hK => ?_)
 have hs13 : w12.cell? ⟨gb316, 0, none⟩ = some (.int .i64 a1_0) := cz0 BK316
 have hfs13 := fz BK316 0
 have hns13_0 := NB315_316.out
 have hns13_2 := NB317_316.out
 have hns13_3 := NB318_316.out
 have hms13_0 := NB316_315.out
 have hms13_2 := NB316_317.out
 have hms13_3 := NB316_318.out
 have hs14 : w12.cell? ⟨gb316, 1, none⟩ = some (.int .i64 a1_1) := cz1 BK316
 have hfs14 := fz BK316 1
 have hns14_0 := NB315_316.out
 have hns14_2 := NB317_316.out
 have hns14_3 := NB318_316.out
 have hms14_0 := NB316_315.out
 have hms14_2 := NB316_317.out
 have hms14_3 := NB316_318.out
 refine skip_ (w1 := ?_) (by rfl) rfl ?_ ?_
 rotate_left
 ·
  go_simp
  rfl
 refine hK.out _ _ ?_
 clear hK K
 refine done_ (by kernel_rfl) ?_
 go_upto_region 2 with (fail)
 go_cut [17] (fun v17 wc => ∃ (kq : Nat) (x17_4 : Bool), v17 = .bool x17_4 ∧ Aside0 (congr_Tighten.j0 kq x17_4 a0_0 a0_1 a0_2 t321 t322 = some (r1, r2, r3, r4, r5)) ∧ Aside0 (kq ≤ k) ∧ Aside0 (wc.heap[gb315]? = some (.cells #[.bool a0_0, .int .i64 a0_1, .int .i64 a0_2] 23 (0, 0))) ∧ Aside0 (wc.heap[gb316]? = some (.cells #[.int .i64 t321, .int .i64 t322] 38 (0, 0))) ∧ Aside0 (wc.heap[gb317]? = some (.cells #[.bool false, .int .i64 0, .int .i64 0] 23 (0, 0))) ∧ Aside0 (wc.heap[gb318]? = some (.cells #[.int .i64 0, .int .i64 0] 38 (0, 0))) ∧ Aside0 (Below w.heap.size w wc))
 case first =>
  have H := HC5.out
  clear HC5
  by_cases c15 : a0_0 = true
  ·
   subst c15
   have H1 : (congr_Tighten.j0 k true true a0_1 a0_2 t321 t322) = some (r1, r2, r3, r4, r5) := by rw [if_pos rfl] at H; exact H
   clear H
   have H := H1
   clear H1
   have H' := Aside0.mk H
   clear H
   have hnb16 := NB315_316.out
   have hnc16 := NB316_315.out
   have hnb17 := NB315_317.out
   have hnc17 := NB317_315.out
   have hnb18 := NB315_318.out
   have hnc18 := NB318_315.out
   have hcz19_0 := cz0 BK315
   have hcz19_1 := cz1 BK315
   have hcz19_2 := cz2 BK315
   have hfz19_0 := fz BK315 0
   have hfz19_1 := fz BK315 1
   have hfz19_2 := fz BK315 2
   go_wp2
   go_meet
   case rel => exact ⟨_, (true), (by first | rfl | (simp; done) | (simp [*]; done)), H', ⟨by first | omega | exact Nat.le_refl _⟩, ⟨bkS BK315⟩, ⟨by (with_reducible repeat (first | refine b1 ?_ _ | refine b2 ?_ | refine b3 ?_ _)); refine blk_put (cs := #[.int .i64 t321, .int .i64 a1_1]) ?_ 1 _ rfl; (with_reducible repeat (first | refine b1 ?_ _ | refine b2 ?_ | refine b3 ?_ _)); refine blk_put (cs := #[.int .i64 a1_0, .int .i64 a1_1]) ?_ 0 _ rfl; (with_reducible repeat (first | refine b1 ?_ _ | refine b2 ?_ | refine b3 ?_ _)); exact BK316.out⟩, ⟨bkS BK317⟩, ⟨bkS BK318⟩, ⟨bS HB⟩⟩
  ·
   replace c15 := Bool.eq_false_iff.mpr c15
   subst c15
   have H1 : ((itv_None.f t321 t322).bind fun t323 => (congr_Tighten.j0 k t323 false a0_1 a0_2 t321 t322)) = some (r1, r2, r3, r4, r5) := by rw [if_neg (show ¬ (false = true) by decide)] at H; exact H
   clear H
   have H := H1
   clear H1
   replace H := Option.bind_eq_some_iff.mp H
   obtain ⟨t323, A200, H⟩ := H
   replace H : (congr_Tighten.j0 k t323 false a0_1 a0_2 t321 t322) = some (r1, r2, r3, r4, r5) := H
   have A20 := Aside0.mk A200
   clear A200
   have H' := Aside0.mk H
   clear H
   have hnb21 := NB315_316.out
   have hnc21 := NB316_315.out
   have hnb22 := NB315_317.out
   have hnc22 := NB317_315.out
   have hnb23 := NB315_318.out
   have hnc23 := NB318_315.out
   have hcz24_0 := cz0 BK315
   have hcz24_1 := cz1 BK315
   have hcz24_2 := cz2 BK315
   have hfz24_0 := fz BK315 0
   have hfz24_1 := fz BK315 1
   have hfz24_2 := fz BK315 2
   have hnb25 := NB316_317.out
   have hnc25 := NB317_316.out
   have hnb26 := NB316_318.out
   have hnc26 := NB318_316.out
   have hcz27_0 := cz0 BK316
   have hcz27_1 := cz1 BK316
   have hfz27_0 := fz BK316 0
   have hfz27_1 := fz BK316 1
   go_wp2_with (first | (go_at_call 72; (with_reducible refine (itv_None.calls t321 t322 t323 _ A20.out).mono ?_); rintro e w28 ⟨rfl, hb⟩; have n0_ := kB BK315 hb; have n1_ := Aside0.mk (blk_below (g := gb316) (o := .cells #[.int .i64 t321, .int .i64 t322] 38 (0, 0)) (by (with_reducible repeat (first | refine b1 ?_ _ | refine b2 ?_ | refine b3 ?_ _)); refine blk_put (cs := #[.int .i64 t321, .int .i64 a1_1]) ?_ 1 _ rfl; (with_reducible repeat (first | refine b1 ?_ _ | refine b2 ?_ | refine b3 ?_ _)); refine blk_put (cs := #[.int .i64 a1_0, .int .i64 a1_1]) ?_ 0 _ rfl; (with_reducible repeat (first | refine b1 ?_ _ | refine b2 ?_ | refine b3 ?_ _)); exact BK316.out) hb); have n2_ := kB BK317 hb; have n3_ := kB BK318 hb; have n4_ := kW HB hb; clear BK315; clear BK316; clear BK317; clear BK318; clear HB; have BK315 := n0_; have BK316 := n1_; have BK317 := n2_; have BK318 := n3_; have HB := n4_; clear n0_ n1_ n2_ n3_ n4_; (try clear hb); (try clear hb2); (try clear hk); (try clear hi)))
   go_meet
   case rel => exact ⟨_, (t323), (by first | rfl | (simp; done) | (simp [*]; done)), H', ⟨by first | omega | exact Nat.le_refl _⟩, ⟨bkS BK315⟩, ⟨bkS BK316⟩, ⟨bkS BK317⟩, ⟨bkS BK318⟩, ⟨bS HB⟩⟩
 case rest =>
  clear HC5
  try clear c1
  try clear c2
  try clear p2
  try clear c7
  try clear c15
  try clear c16
  try clear c17
  try clear c18
  try clear c21
  try clear c22
  try clear c23
  try clear c25
  try clear c26
  try clear hcz19_0
  try clear hcz19_1
  try clear hcz19_2
  try clear hcz24_0
  try clear hcz24_1
  try clear hcz24_2
  try clear hcz27_0
  try clear hcz27_1
  try clear hfz19_0
  try clear hfz19_1
  try clear hfz19_2
  try clear hfz24_0
  try clear hfz24_1
  try clear hfz24_2
  try clear hfz27_0
  try clear hfz27_1
  obtain ⟨kq, x17_4, rfl, HA, HJ4, BK315, BK316, BK317, BK318, HB⟩ := hcut
  cases kq with
  | zero => exact absurd HA.out (by simp [congr_Tighten.j0])
  | succ kj4 =>
   have H := HA.out
   clear HA
   simp only [congr_Tighten.j0] at H
   by_cases c29 : x17_4 = true
   ·
    subst c29
    have H1 : ((congr_none.f).bind fun bt324 => ((itv_Empty.f).bind fun bt327 => (some (bt324.1, bt324.2.1, bt324.2.2, bt327.1, bt327.2)))) = some (r1, r2, r3, r4, r5) := by rw [if_pos rfl] at H; exact H
    clear H
    have H := H1
    clear H1
    replace H := Option.bind_eq_some_iff.mp H
    obtain ⟨⟨t324, t325, t326⟩, A300, H⟩ := H
    replace H : ((itv_Empty.f).bind fun bt327 => (some (t324, t325, t326, bt327.1, bt327.2))) = some (r1, r2, r3, r4, r5) := H
    have A30 := Aside0.mk A300
    clear A300
    replace H := Option.bind_eq_some_iff.mp H
    obtain ⟨⟨t327, t328⟩, A310, H⟩ := H
    replace H : (some (t324, t325, t326, t327, t328)) = some (r1, r2, r3, r4, r5) := H
    have A31 := Aside0.mk A310
    clear A310
    simp only [Option.some.injEq, Prod.mk.injEq] at H
    obtain ⟨rfl, rfl, rfl, rfl, rfl⟩ := H
    go_wp2_with (first | ((with_reducible refine gate_callee (f := 56) rfl ?_); refine goesL_ (some 18) rfl rfl Tryd.func56 (by kernel_rfl) rfl #[] rfl mS ?_; (with_reducible refine (congr_none.calls  t324 t325 t326 _ A30.out).mono ?_); rintro e w32 ⟨rfl, hb⟩; refine ⟨_, rfl, ?_⟩; replace BK315 := kB BK315 hb; replace BK316 := kB BK316 hb; replace BK317 := kB BK317 hb; replace BK318 := kB BK318 hb; replace HB := kW HB hb; (try clear hb); (try clear hb2); (try clear hk); (try clear hi)) | ((with_reducible refine gate_callee (f := 73) rfl ?_); refine goesL_ (some 19) rfl rfl Tryd.func73 (by kernel_rfl) rfl #[] rfl mS ?_; (with_reducible refine (itv_Empty.calls  t327 t328 _ A31.out).mono ?_); rintro e w33 ⟨rfl, hb⟩; refine ⟨_, rfl, ?_⟩; replace BK315 := kB BK315 hb; replace BK316 := kB BK316 hb; replace BK317 := kB BK317 hb; replace BK318 := kB BK318 hb; replace HB := kW HB hb; (try clear hb); (try clear hb2); (try clear hk); (try clear hi); have hnb34 := NB317_315.out; have hnc34 := NB315_317.out; have hnb35 := NB317_316.out; have hnc35 := NB316_317.out; have hnb36 := NB317_318.out; have hnc36 := NB318_317.out; have hcz37_0 := cz0 BK317; have hcz37_1 := cz1 BK317; have hcz37_2 := cz2 BK317; have hfz37_0 := fz BK317 0; have hfz37_1 := fz BK317 1; have hfz37_2 := fz BK317 2; have hnb38 := NB318_315.out; have hnc38 := NB315_318.out; have hnb39 := NB318_316.out; have hnc39 := NB316_318.out; have hcz40_0 := cz0 BK318; have hcz40_1 := cz1 BK318; have hfz40_0 := fz BK318 0; have hfz40_1 := fz BK318 1))
    refine bodyPost_ret (results_cc rfl _ _ gb317 gb318 23 38 #[.bool t324, .int .i64 t325, .int .i64 t326] #[.int .i64 t327, .int .i64 t328] (0, 0) (0, 0) _ _ rfl (by (with_reducible repeat (first | refine b1 ?_ _ | refine b2 ?_ | refine b3 ?_ _)); refine blk_far ?_ NB317_318.out _; (with_reducible repeat (first | refine b1 ?_ _ | refine b2 ?_ | refine b3 ?_ _)); refine blk_far ?_ NB317_318.out _; (with_reducible repeat (first | refine b1 ?_ _ | refine b2 ?_ | refine b3 ?_ _)); refine blk_put (cs := #[.bool t324, .int .i64 t325, .int .i64 0]) ?_ 2 _ rfl; (with_reducible repeat (first | refine b1 ?_ _ | refine b2 ?_ | refine b3 ?_ _)); refine blk_put (cs := #[.bool t324, .int .i64 0, .int .i64 0]) ?_ 1 _ rfl; (with_reducible repeat (first | refine b1 ?_ _ | refine b2 ?_ | refine b3 ?_ _)); refine blk_put (cs := #[.bool false, .int .i64 0, .int .i64 0]) ?_ 0 _ rfl; (with_reducible repeat (first | refine b1 ?_ _ | refine b2 ?_ | refine b3 ?_ _)); exact BK317.out) Tryd.underlying23 rfl (by kernel_rfl) rfl (by (with_reducible repeat (first | refine b1 ?_ _ | refine b2 ?_ | refine b3 ?_ _)); refine blk_put (cs := #[.int .i64 t327, .int .i64 0]) ?_ 1 _ rfl; (with_reducible repeat (first | refine b1 ?_ _ | refine b2 ?_ | refine b3 ?_ _)); refine blk_put (cs := #[.int .i64 0, .int .i64 0]) ?_ 0 _ rfl; (with_reducible repeat (first | refine b1 ?_ _ | refine b2 ?_ | refine b3 ?_ _)); refine blk_far ?_ NB318_317.out _; (with_reducible repeat (first | refine b1 ?_ _ | refine b2 ?_ | refine b3 ?_ _)); refine blk_far ?_ NB318_317.out _; (with_reducible repeat (first | refine b1 ?_ _ | refine b2 ?_ | refine b3 ?_ _)); refine blk_far ?_ NB318_317.out _; (with_reducible repeat (first | refine b1 ?_ _ | refine b2 ?_ | refine b3 ?_ _)); exact BK318.out) Tryd.underlying38 rfl (by kernel_rfl)) rfl ?_
    exact ⟨eS, bS HB⟩
   ·
    replace c29 := Bool.eq_false_iff.mpr c29
    subst c29
    have H1 : (if a0_1 = 0 then ((itv_Has.f t321 t322 a0_2).bind fun t329 => (if t329 = true then ((itv_Of.f a0_2 a0_2).bind fun bt330 => (some (a0_0, a0_1, a0_2, bt330.1, bt330.2))) else ((congr_none.f).bind fun bt332 => ((itv_Empty.f).bind fun bt335 => (some (bt332.1, bt332.2.1, bt332.2.2, bt335.1, bt335.2)))))) else ((congr_rest.f (wrap64 (a0_2 - t321)) (IntKind.u64.wrap (a0_1))).bind fun t337 => ((congr_rest.f (wrap64 (t322 - a0_2)) (IntKind.u64.wrap (a0_1))).bind fun t338 => (if (wrap64 (t321 + (wrap64 (t337)))) > (wrap64 (t322 - (wrap64 (t338)))) then ((congr_none.f).bind fun bt339 => ((itv_Empty.f).bind fun bt342 => (some (bt339.1, bt339.2.1, bt339.2.2, bt342.1, bt342.2)))) else (if (wrap64 (t321 + (wrap64 (t337)))) = (wrap64 (t322 - (wrap64 (t338)))) then ((congr_constant.f (wrap64 (t321 + (wrap64 (t337))))).bind fun bt344 => ((itv_Of.f (wrap64 (t321 + (wrap64 (t337)))) (wrap64 (t321 + (wrap64 (t337))))).bind fun bt347 => (some (bt344.1, bt344.2.1, bt344.2.2, bt347.1, bt347.2)))) else ((itv_Of.f (wrap64 (t321 + (wrap64 (t337)))) (wrap64 (t322 - (wrap64 (t338))))).bind fun bt349 => (some (a0_0, a0_1, a0_2, bt349.1, bt349.2)))))))) = some (r1, r2, r3, r4, r5) := by rw [if_neg (show ¬ (false = true) by decide)] at H; exact H
    clear H
    have H := H1
    clear H1
    by_cases c41 : a0_1 = 0
    ·
     rw [if_pos c41] at H
     have c41b0 : (a0_1 == 0) = true := beq_iff_eq.mpr c41
     have c41b1 : (a0_1 != 0) = false := bne_eq_false_iff_eq.mpr c41
     clear c41
     replace H := Option.bind_eq_some_iff.mp H
     obtain ⟨t329, A420, H⟩ := H
     replace H : (if t329 = true then ((itv_Of.f a0_2 a0_2).bind fun bt330 => (some (a0_0, a0_1, a0_2, bt330.1, bt330.2))) else ((congr_none.f).bind fun bt332 => ((itv_Empty.f).bind fun bt335 => (some (bt332.1, bt332.2.1, bt332.2.2, bt335.1, bt335.2))))) = some (r1, r2, r3, r4, r5) := H
     have A42 := Aside0.mk A420
     clear A420
     by_cases c43 : t329 = true
     ·
      subst c43
      have H1 : ((itv_Of.f a0_2 a0_2).bind fun bt330 => (some (a0_0, a0_1, a0_2, bt330.1, bt330.2))) = some (r1, r2, r3, r4, r5) := by rw [if_pos rfl] at H; exact H
      clear H
      have H := H1
      clear H1
      replace H := Option.bind_eq_some_iff.mp H
      obtain ⟨⟨t330, t331⟩, A440, H⟩ := H
      replace H : (some (a0_0, a0_1, a0_2, t330, t331)) = some (r1, r2, r3, r4, r5) := H
      have A44 := Aside0.mk A440
      clear A440
      simp only [Option.some.injEq, Prod.mk.injEq] at H
      obtain ⟨rfl, rfl, rfl, rfl, rfl⟩ := H
      have hnb45 := NB315_316.out
      have hnc45 := NB316_315.out
      have hnb46 := NB315_317.out
      have hnc46 := NB317_315.out
      have hnb47 := NB315_318.out
      have hnc47 := NB318_315.out
      have hcz48_0 : wc.cell? ⟨gb315, 0, none⟩ = some (.bool a0_0) := cz0 BK315
      have hcz48_1 : wc.cell? ⟨gb315, 1, none⟩ = some (.int .i64 a0_1) := cz1 BK315
      have hcz48_2 : wc.cell? ⟨gb315, 2, none⟩ = some (.int .i64 a0_2) := cz2 BK315
      have hfz48_0 := fz BK315 0
      have hfz48_1 := fz BK315 1
      have hfz48_2 := fz BK315 2
      have hnb49 := NB316_317.out
      have hnc49 := NB317_316.out
      have hnb50 := NB316_318.out
      have hnc50 := NB318_316.out
      have hcz51_0 : wc.cell? ⟨gb316, 0, none⟩ = some (.int .i64 t321) := cz0 BK316
      have hcz51_1 : wc.cell? ⟨gb316, 1, none⟩ = some (.int .i64 t322) := cz1 BK316
      have hfz51_0 := fz BK316 0
      have hfz51_1 := fz BK316 1
      try go_wp2_with (first | ((with_reducible refine gate_callee (f := 74) rfl ?_); refine goesL_ (some 26) rfl rfl Tryd.func74 (by kernel_rfl) rfl #[.agg #[.int .i64 t321, .int .i64 t322], .int .i64 a0_2] rfl mS ?_; (with_reducible refine (itv_Has.calls t321 t322 a0_2 true _ A42.out).mono ?_); rintro e w52 ⟨rfl, hb⟩; refine ⟨_, rfl, ?_⟩; replace BK315 := kB BK315 hb; replace BK316 := kB BK316 hb; replace BK317 := kB BK317 hb; replace BK318 := kB BK318 hb; replace HB := kW HB hb; (try clear hb); (try clear hb2); (try clear hk); (try clear hi)))
      replace BK315 := Aside0.mk (blk_drew BK315.out)
      replace BK316 := Aside0.mk (blk_drew BK316.out)
      replace BK317 := Aside0.mk (blk_drew BK317.out)
      replace BK318 := Aside0.mk (blk_drew BK318.out)
      replace HB := Aside0.mk (below_drew1 HB.out)
      refine start_ (n := 8) (S := fun w' => w'.cell? ⟨gb315, 0, none⟩ = some (.bool a0_0) ∧ w'.cell? ⟨gb315, 1, none⟩ = some (.int .i64 a0_1) ∧ w'.cell? ⟨gb315, 2, none⟩ = some (.int .i64 a0_2)) (ds := []) #[false, false, false, false, false, false, false, false] (by kernel_rfl) rfl rfl ⟨cz0 BK315, cz1 BK315, cz2 BK315⟩ (fun hHeld => ?_); refine with_tabW congr_Tighten.tab7 congr_Tighten.bits7 (fun HT_ HW_ => ?_)
      generalize w52.drew = w53 at BK315 BK316 BK317 BK318 HB hHeld ⊢
      refine pure_ (i := 1) (N := some 31) (v := ?_) (a' := ?_) #[false, true, false, false, false, false, false, false] rfl rfl (any_of HT_.out (by kernel_rfl)) (fun _ _ _ h => h) (Or.inl ⟨by rfl, ?_⟩) ?_ ?_
      rotate_left
      ·
       intro w'
       go_simp
       with_reducible rfl
      rotate_left
      ·
       simp only [Act.put, lA, lB, lC, i64_w, i32_w]
       rfl
      refine pure_ (i := 3) (N := some 33) (v := ?_) (a' := ?_) #[false, true, false, true, false, false, false, false] rfl rfl (any_of HT_.out (by kernel_rfl)) (fun _ _ _ h => h) (Or.inl ⟨by rfl, ?_⟩) ?_ ?_
      rotate_left
      ·
       intro w'
       go_simp
       with_reducible rfl
      rotate_left
      ·
       simp only [Act.put, lA, lB, lC, i64_w, i32_w]
       rfl
      refine take_ (i := 0) (N := some 30) (v := ?_) (a' := ?_) #[true, true, false, true, false, false, false, false] rfl rfl (take_ofW HT_.out HW_.out (by kernel_rfl)) (fun _ _ _ h => h) (Or.inl ⟨by rfl, ?_⟩) hHeld ?_ ?_
      rotate_left
      ·
       rintro w' ⟨s0, s1, s2⟩
       go_simp
       with_reducible rfl
      rotate_left
      ·
       simp only [Act.put, lA, lB, lC, i64_w, i32_w]
       rfl
      refine take_ (i := 2) (N := some 32) (v := ?_) (a' := ?_) #[true, true, true, true, false, false, false, false] rfl rfl (take_ofW HT_.out HW_.out (by kernel_rfl)) (fun _ _ _ h => h) (Or.inl ⟨by rfl, ?_⟩) hHeld ?_ ?_
      rotate_left
      ·
       rintro w' ⟨s0, s1, s2⟩
       go_simp
       with_reducible rfl
      rotate_left
      ·
       simp only [Act.put, lA, lB, lC, i64_w, i32_w]
       rfl
      refine take_ (i := 4) (N := some 34) (v := ?_) (a' := ?_) #[true, true, true, true, true, false, false, false] rfl rfl (take_ofW HT_.out HW_.out (by kernel_rfl)) (fun _ _ _ h => h) (Or.inl ⟨by rfl, ?_⟩) hHeld ?_ ?_
      rotate_left
      ·
       rintro w' ⟨s0, s1, s2⟩
       go_simp
       with_reducible rfl
      rotate_left
      ·
       simp only [Act.put, lA, lB, lC, i64_w, i32_w]
       rfl
      refine one_ (i := 5) (N := some 35) #[true, true, true, true, true, true, false, false] rfl rfl (one_of HT_.out (by kernel_rfl)) (by decide) (fun K hK => ?_)
      refine goes_ Tryd.func75 (by kernel_rfl) rfl #[.int .i64 a0_2, .int .i64 a0_2] (by rfl) rfl rfl mS ?_
      with_reducible refine (itv_Of.calls a0_2 a0_2 t330 t331 _ A44.out).mono ?_
      rintro e w54 ⟨rfl, hb⟩
      refine ⟨_, rfl, ?_⟩
      replace BK315 := kB BK315 hb
      replace BK316 := kB BK316 hb
      replace BK317 := kB BK317 hb
      replace BK318 := kB BK318 hb
      replace HB := kW HB hb
      (try clear hb)
      (try clear hb2)
      (try clear hk)
      (try clear hi)
      refine hK.out _ _ ⟨cz0 BK315, cz1 BK315, cz2 BK315⟩ (fun hHeld => ?_)
      clear hK K
      refine norm_ (a' := ?_) ?_ ?_
      rotate_left
      ·
       show Act.put _ (some 35) _ = _
       simp only [Act.put, lA, lB, lC, i64_w, i32_w]
       rfl
      refine one_ (i := 6) (N := none) #[true, true, true, true, true, true, true, false] rfl rfl (one_of HT_.out (by kernel_rfl)) (by decide) (fun K hK => ?_)
      have hs55 : w54.cell? ⟨gb317, 0, none⟩ = some (.bool false) := cz0 BK317
      have hfs55 := fz BK317 0
      have hns55_0 := NB315_317.out
      have hns55_1 := NB316_317.out
      have hns55_3 := NB318_317.out
      have hms55_0 := NB317_315.out
      have hms55_1 := NB317_316.out
      have hms55_3 := NB317_318.out
      have hs56 : w54.cell? ⟨gb317, 1, none⟩ = some (.int .i64 0) := cz1 BK317
      have hfs56 := fz BK317 1
      have hns56_0 := NB315_317.out
      have hns56_1 := NB316_317.out
      have hns56_3 := NB318_317.out
      have hms56_0 := NB317_315.out
      have hms56_1 := NB317_316.out
      have hms56_3 := NB317_318.out
      have hs57 : w54.cell? ⟨gb317, 2, none⟩ = some (.int .i64 0) := cz2 BK317
      have hfs57 := fz BK317 2
      have hns57_0 := NB315_317.out
      have hns57_1 := NB316_317.out
      have hns57_3 := NB318_317.out
      have hms57_0 := NB317_315.out
      have hms57_1 := NB317_316.out
      have hms57_3 := NB317_318.out
      refine skip_ (w1 := ?_) (by rfl) rfl ?_ ?_
      rotate_left
      ·
       go_simp
       rfl
      refine hK.out _ _ ⟨((cell_far (p := ⟨gb317, _, none⟩) NB315_317.out _).trans (((cell_far (p := ⟨gb317, _, none⟩) NB315_317.out _).trans (((cell_far (p := ⟨gb317, _, none⟩) NB315_317.out _).trans (hHeld.1)))))), ((cell_far (p := ⟨gb317, _, none⟩) NB315_317.out _).trans (((cell_far (p := ⟨gb317, _, none⟩) NB315_317.out _).trans (((cell_far (p := ⟨gb317, _, none⟩) NB315_317.out _).trans (hHeld.2.1)))))), ((cell_far (p := ⟨gb317, _, none⟩) NB315_317.out _).trans (((cell_far (p := ⟨gb317, _, none⟩) NB315_317.out _).trans (((cell_far (p := ⟨gb317, _, none⟩) NB315_317.out _).trans (hHeld.2.2))))))⟩ (fun hHeld => ?_)
      clear hK K
      refine one_ (i := 7) (N := none) #[true, true, true, true, true, true, true, true] rfl rfl (one_of HT_.out (by kernel_rfl)) (by decide) (fun K hK => ?_)
      have hs58 : w54.cell? ⟨gb318, 0, none⟩ = some (.int .i64 0) := cz0 BK318
      have hfs58 := fz BK318 0
      have hns58_0 := NB315_318.out
      have hns58_1 := NB316_318.out
      have hns58_2 := NB317_318.out
      have hms58_0 := NB318_315.out
      have hms58_1 := NB318_316.out
      have hms58_2 := NB318_317.out
      have hs59 : w54.cell? ⟨gb318, 1, none⟩ = some (.int .i64 0) := cz1 BK318
      have hfs59 := fz BK318 1
      have hns59_0 := NB315_318.out
      have hns59_1 := NB316_318.out
      have hns59_2 := NB317_318.out
      have hms59_0 := NB318_315.out
      have hms59_1 := NB318_316.out
      have hms59_2 := NB318_317.out
      refine skip_ (w1 := ?_) (by rfl) rfl ?_ ?_
      rotate_left
      ·
       go_simp
       rfl
      refine hK.out _ _ ⟨((cell_far (p := ⟨gb318, _, none⟩) NB315_318.out _).trans (((cell_far (p := ⟨gb318, _, none⟩) NB315_318.out _).trans (hHeld.1)))), ((cell_far (p := ⟨gb318, _, none⟩) NB315_318.out _).trans (((cell_far (p := ⟨gb318, _, none⟩) NB315_318.out _).trans (hHeld.2.1)))), ((cell_far (p := ⟨gb318, _, none⟩) NB315_318.out _).trans (((cell_far (p := ⟨gb318, _, none⟩) NB315_318.out _).trans (hHeld.2.2))))⟩ (fun hHeld => ?_)
      clear hK K
      refine done_ (done_of HT_.out (by kernel_rfl)) ?_
      try go_wp2
      refine bodyPost_ret (results_cc rfl _ _ gb317 gb318 23 38 #[.bool a0_0, .int .i64 a0_1, .int .i64 a0_2] #[.int .i64 t330, .int .i64 t331] (0, 0) (0, 0) _ _ rfl (by (with_reducible repeat (first | refine b1 ?_ _ | refine b2 ?_ | refine b3 ?_ _)); refine blk_far ?_ NB317_318.out _; (with_reducible repeat (first | refine b1 ?_ _ | refine b2 ?_ | refine b3 ?_ _)); refine blk_far ?_ NB317_318.out _; (with_reducible repeat (first | refine b1 ?_ _ | refine b2 ?_ | refine b3 ?_ _)); refine blk_put (cs := #[.bool a0_0, .int .i64 a0_1, .int .i64 0]) ?_ 2 _ rfl; (with_reducible repeat (first | refine b1 ?_ _ | refine b2 ?_ | refine b3 ?_ _)); refine blk_put (cs := #[.bool a0_0, .int .i64 0, .int .i64 0]) ?_ 1 _ rfl; (with_reducible repeat (first | refine b1 ?_ _ | refine b2 ?_ | refine b3 ?_ _)); refine blk_put (cs := #[.bool false, .int .i64 0, .int .i64 0]) ?_ 0 _ rfl; (with_reducible repeat (first | refine b1 ?_ _ | refine b2 ?_ | refine b3 ?_ _)); exact BK317.out) Tryd.underlying23 rfl (by kernel_rfl) rfl (by (with_reducible repeat (first | refine b1 ?_ _ | refine b2 ?_ | refine b3 ?_ _)); refine blk_put (cs := #[.int .i64 t330, .int .i64 0]) ?_ 1 _ rfl; (with_reducible repeat (first | refine b1 ?_ _ | refine b2 ?_ | refine b3 ?_ _)); refine blk_put (cs := #[.int .i64 0, .int .i64 0]) ?_ 0 _ rfl; (with_reducible repeat (first | refine b1 ?_ _ | refine b2 ?_ | refine b3 ?_ _)); refine blk_far ?_ NB318_317.out _; (with_reducible repeat (first | refine b1 ?_ _ | refine b2 ?_ | refine b3 ?_ _)); refine blk_far ?_ NB318_317.out _; (with_reducible repeat (first | refine b1 ?_ _ | refine b2 ?_ | refine b3 ?_ _)); refine blk_far ?_ NB318_317.out _; (with_reducible repeat (first | refine b1 ?_ _ | refine b2 ?_ | refine b3 ?_ _)); exact BK318.out) Tryd.underlying38 rfl (by kernel_rfl)) rfl ?_
      exact ⟨eS, bS HB⟩
     ·
      replace c43 := Bool.eq_false_iff.mpr c43
      subst c43
      have H1 : ((congr_none.f).bind fun bt332 => ((itv_Empty.f).bind fun bt335 => (some (bt332.1, bt332.2.1, bt332.2.2, bt335.1, bt335.2)))) = some (r1, r2, r3, r4, r5) := by rw [if_neg (show ¬ (false = true) by decide)] at H; exact H
      clear H
      have H := H1
      clear H1
      replace H := Option.bind_eq_some_iff.mp H
      obtain ⟨⟨t332, t333, t334⟩, A600, H⟩ := H
      replace H : ((itv_Empty.f).bind fun bt335 => (some (t332, t333, t334, bt335.1, bt335.2))) = some (r1, r2, r3, r4, r5) := H
      have A60 := Aside0.mk A600
      clear A600
      replace H := Option.bind_eq_some_iff.mp H
      obtain ⟨⟨t335, t336⟩, A610, H⟩ := H
      replace H : (some (t332, t333, t334, t335, t336)) = some (r1, r2, r3, r4, r5) := H
      have A61 := Aside0.mk A610
      clear A610
      simp only [Option.some.injEq, Prod.mk.injEq] at H
      obtain ⟨rfl, rfl, rfl, rfl, rfl⟩ := H
      have hnb62 := NB315_316.out
      have hnc62 := NB316_315.out
      have hnb63 := NB315_317.out
      have hnc63 := NB317_315.out
      have hnb64 := NB315_318.out
      have hnc64 := NB318_315.out
      have hcz65_0 : wc.cell? ⟨gb315, 0, none⟩ = some (.bool a0_0) := cz0 BK315
      have hcz65_1 : wc.cell? ⟨gb315, 1, none⟩ = some (.int .i64 a0_1) := cz1 BK315
      have hcz65_2 : wc.cell? ⟨gb315, 2, none⟩ = some (.int .i64 a0_2) := cz2 BK315
      have hfz65_0 := fz BK315 0
      have hfz65_1 := fz BK315 1
      have hfz65_2 := fz BK315 2
      have hnb66 := NB316_317.out
      have hnc66 := NB317_316.out
      have hnb67 := NB316_318.out
      have hnc67 := NB318_316.out
      have hcz68_0 : wc.cell? ⟨gb316, 0, none⟩ = some (.int .i64 t321) := cz0 BK316
      have hcz68_1 : wc.cell? ⟨gb316, 1, none⟩ = some (.int .i64 t322) := cz1 BK316
      have hfz68_0 := fz BK316 0
      have hfz68_1 := fz BK316 1
      go_wp2_with (first | ((with_reducible refine gate_callee (f := 74) rfl ?_); refine goesL_ (some 26) rfl rfl Tryd.func74 (by kernel_rfl) rfl #[.agg #[.int .i64 t321, .int .i64 t322], .int .i64 a0_2] rfl mS ?_; (with_reducible refine (itv_Has.calls t321 t322 a0_2 false _ A42.out).mono ?_); rintro e w69 ⟨rfl, hb⟩; refine ⟨_, rfl, ?_⟩; replace BK315 := kB BK315 hb; replace BK316 := kB BK316 hb; replace BK317 := kB BK317 hb; replace BK318 := kB BK318 hb; replace HB := kW HB hb; (try clear hb); (try clear hb2); (try clear hk); (try clear hi)) | ((with_reducible refine gate_callee (f := 56) rfl ?_); refine goesL_ (some 28) rfl rfl Tryd.func56 (by kernel_rfl) rfl #[] rfl mS ?_; (with_reducible refine (congr_none.calls  t332 t333 t334 _ A60.out).mono ?_); rintro e w70 ⟨rfl, hb⟩; refine ⟨_, rfl, ?_⟩; replace BK315 := kB BK315 hb; replace BK316 := kB BK316 hb; replace BK317 := kB BK317 hb; replace BK318 := kB BK318 hb; replace HB := kW HB hb; (try clear hb); (try clear hb2); (try clear hk); (try clear hi)) | ((with_reducible refine gate_callee (f := 73) rfl ?_); refine goesL_ (some 29) rfl rfl Tryd.func73 (by kernel_rfl) rfl #[] rfl mS ?_; (with_reducible refine (itv_Empty.calls  t335 t336 _ A61.out).mono ?_); rintro e w71 ⟨rfl, hb⟩; refine ⟨_, rfl, ?_⟩; replace BK315 := kB BK315 hb; replace BK316 := kB BK316 hb; replace BK317 := kB BK317 hb; replace BK318 := kB BK318 hb; replace HB := kW HB hb; (try clear hb); (try clear hb2); (try clear hk); (try clear hi); have hnb72 := NB317_318.out; have hnc72 := NB318_317.out; have hcz73_0 := cz0 BK317; have hcz73_1 := cz1 BK317; have hcz73_2 := cz2 BK317; have hfz73_0 := fz BK317 0; have hfz73_1 := fz BK317 1; have hfz73_2 := fz BK317 2; have hcz74_0 := cz0 BK318; have hcz74_1 := cz1 BK318; have hfz74_0 := fz BK318 0; have hfz74_1 := fz BK318 1))
      refine bodyPost_ret (results_cc rfl _ _ gb317 gb318 23 38 #[.bool t332, .int .i64 t333, .int .i64 t334] #[.int .i64 t335, .int .i64 t336] (0, 0) (0, 0) _ _ rfl (by (with_reducible repeat (first | refine b1 ?_ _ | refine b2 ?_ | refine b3 ?_ _)); refine blk_far ?_ NB317_318.out _; (with_reducible repeat (first | refine b1 ?_ _ | refine b2 ?_ | refine b3 ?_ _)); refine blk_far ?_ NB317_318.out _; (with_reducible repeat (first | refine b1 ?_ _ | refine b2 ?_ | refine b3 ?_ _)); refine blk_put (cs := #[.bool t332, .int .i64 t333, .int .i64 0]) ?_ 2 _ rfl; (with_reducible repeat (first | refine b1 ?_ _ | refine b2 ?_ | refine b3 ?_ _)); refine blk_put (cs := #[.bool t332, .int .i64 0, .int .i64 0]) ?_ 1 _ rfl; (with_reducible repeat (first | refine b1 ?_ _ | refine b2 ?_ | refine b3 ?_ _)); refine blk_put (cs := #[.bool false, .int .i64 0, .int .i64 0]) ?_ 0 _ rfl; (with_reducible repeat (first | refine b1 ?_ _ | refine b2 ?_ | refine b3 ?_ _)); exact BK317.out) Tryd.underlying23 rfl (by kernel_rfl) rfl (by (with_reducible repeat (first | refine b1 ?_ _ | refine b2 ?_ | refine b3 ?_ _)); refine blk_put (cs := #[.int .i64 t335, .int .i64 0]) ?_ 1 _ rfl; (with_reducible repeat (first | refine b1 ?_ _ | refine b2 ?_ | refine b3 ?_ _)); refine blk_put (cs := #[.int .i64 0, .int .i64 0]) ?_ 0 _ rfl; (with_reducible repeat (first | refine b1 ?_ _ | refine b2 ?_ | refine b3 ?_ _)); refine blk_far ?_ NB318_317.out _; (with_reducible repeat (first | refine b1 ?_ _ | refine b2 ?_ | refine b3 ?_ _)); refine blk_far ?_ NB318_317.out _; (with_reducible repeat (first | refine b1 ?_ _ | refine b2 ?_ | refine b3 ?_ _)); refine blk_far ?_ NB318_317.out _; (with_reducible repeat (first | refine b1 ?_ _ | refine b2 ?_ | refine b3 ?_ _)); exact BK318.out) Tryd.underlying38 rfl (by kernel_rfl)) rfl ?_
      exact ⟨eS, bS HB⟩
    ·
     rw [if_neg c41] at H
     have c41b0 : (a0_1 == 0) = false := beq_eq_false_iff_ne.mpr c41
     have c41b1 : (a0_1 != 0) = true := bne_iff_ne.mpr c41
     replace H := Option.bind_eq_some_iff.mp H
     obtain ⟨t337, A750, H⟩ := H
     replace H : ((congr_rest.f (wrap64 (t322 - a0_2)) (IntKind.u64.wrap (a0_1))).bind fun t338 => (if (wrap64 (t321 + (wrap64 (t337)))) > (wrap64 (t322 - (wrap64 (t338)))) then ((congr_none.f).bind fun bt339 => ((itv_Empty.f).bind fun bt342 => (some (bt339.1, bt339.2.1, bt339.2.2, bt342.1, bt342.2)))) else (if (wrap64 (t321 + (wrap64 (t337)))) = (wrap64 (t322 - (wrap64 (t338)))) then ((congr_constant.f (wrap64 (t321 + (wrap64 (t337))))).bind fun bt344 => ((itv_Of.f (wrap64 (t321 + (wrap64 (t337)))) (wrap64 (t321 + (wrap64 (t337))))).bind fun bt347 => (some (bt344.1, bt344.2.1, bt344.2.2, bt347.1, bt347.2)))) else ((itv_Of.f (wrap64 (t321 + (wrap64 (t337)))) (wrap64 (t322 - (wrap64 (t338))))).bind fun bt349 => (some (a0_0, a0_1, a0_2, bt349.1, bt349.2)))))) = some (r1, r2, r3, r4, r5) := H
     have A75 := Aside0.mk A750
     clear A750
     replace H := Option.bind_eq_some_iff.mp H
     obtain ⟨t338, A760, H⟩ := H
     replace H : (if (wrap64 (t321 + (wrap64 (t337)))) > (wrap64 (t322 - (wrap64 (t338)))) then ((congr_none.f).bind fun bt339 => ((itv_Empty.f).bind fun bt342 => (some (bt339.1, bt339.2.1, bt339.2.2, bt342.1, bt342.2)))) else (if (wrap64 (t321 + (wrap64 (t337)))) = (wrap64 (t322 - (wrap64 (t338)))) then ((congr_constant.f (wrap64 (t321 + (wrap64 (t337))))).bind fun bt344 => ((itv_Of.f (wrap64 (t321 + (wrap64 (t337)))) (wrap64 (t321 + (wrap64 (t337))))).bind fun bt347 => (some (bt344.1, bt344.2.1, bt344.2.2, bt347.1, bt347.2)))) else ((itv_Of.f (wrap64 (t321 + (wrap64 (t337)))) (wrap64 (t322 - (wrap64 (t338))))).bind fun bt349 => (some (a0_0, a0_1, a0_2, bt349.1, bt349.2))))) = some (r1, r2, r3, r4, r5) := H
     have A76 := Aside0.mk A760
     clear A760
     by_cases c77 : (wrap64 (t321 + (wrap64 (t337)))) > (wrap64 (t322 - (wrap64 (t338))))
     ·
      rw [if_pos c77] at H
      have c77b0 : decide ((wrap64 (t322 - (wrap64 (t338)))) < (wrap64 (t321 + (wrap64 (t337))))) = true := decide_eq_true c77
      clear c77
      replace H := Option.bind_eq_some_iff.mp H
      obtain ⟨⟨t339, t340, t341⟩, A780, H⟩ := H
      replace H : ((itv_Empty.f).bind fun bt342 => (some (t339, t340, t341, bt342.1, bt342.2))) = some (r1, r2, r3, r4, r5) := H
      have A78 := Aside0.mk A780
      clear A780
      replace H := Option.bind_eq_some_iff.mp H
      obtain ⟨⟨t342, t343⟩, A790, H⟩ := H
      replace H : (some (t339, t340, t341, t342, t343)) = some (r1, r2, r3, r4, r5) := H
      have A79 := Aside0.mk A790
      clear A790
      simp only [Option.some.injEq, Prod.mk.injEq] at H
      obtain ⟨rfl, rfl, rfl, rfl, rfl⟩ := H
      have hnb80 := NB315_316.out
      have hnc80 := NB316_315.out
      have hnb81 := NB315_317.out
      have hnc81 := NB317_315.out
      have hnb82 := NB315_318.out
      have hnc82 := NB318_315.out
      have hcz83_0 : wc.cell? ⟨gb315, 0, none⟩ = some (.bool a0_0) := cz0 BK315
      have hcz83_1 : wc.cell? ⟨gb315, 1, none⟩ = some (.int .i64 a0_1) := cz1 BK315
      have hcz83_2 : wc.cell? ⟨gb315, 2, none⟩ = some (.int .i64 a0_2) := cz2 BK315
      have hfz83_0 := fz BK315 0
      have hfz83_1 := fz BK315 1
      have hfz83_2 := fz BK315 2
      try go_wp2
      replace BK315 := Aside0.mk (blk_drew BK315.out)
      replace BK316 := Aside0.mk (blk_drew BK316.out)
      replace BK317 := Aside0.mk (blk_drew BK317.out)
      replace BK318 := Aside0.mk (blk_drew BK318.out)
      replace HB := Aside0.mk (below_drew1 HB.out)
      refine start_ (n := 12) (S := fun w' => w'.cell? ⟨gb316, 0, none⟩ = some (.int .i64 t321) ∧ w'.cell? ⟨gb316, 1, none⟩ = some (.int .i64 t322) ∧ w'.cell? ⟨gb315, 0, none⟩ = some (.bool a0_0) ∧ w'.cell? ⟨gb315, 1, none⟩ = some (.int .i64 a0_1) ∧ w'.cell? ⟨gb315, 2, none⟩ = some (.int .i64 a0_2)) (ds := []) #[false, false, false, false, false, false, false, false, false, false, false, false] (by kernel_rfl) rfl rfl ⟨cz0 BK316, cz1 BK316, cz0 BK315, cz1 BK315, cz2 BK315⟩ (fun hHeld => ?_); refine with_tabW congr_Tighten.tab9 congr_Tighten.bits9 (fun HT_ HW_ => ?_)
      generalize wc.drew = w84 at BK315 BK316 BK317 BK318 HB hHeld ⊢
      refine pure_ (i := 0) (N := some 39) (v := ?_) (a' := ?_) #[true, false, false, false, false, false, false, false, false, false, false, false] rfl rfl (any_of HT_.out (by kernel_rfl)) (fun _ _ _ h => h) (Or.inl ⟨by rfl, ?_⟩) ?_ ?_
      rotate_left
      ·
       intro w'
       go_simp
       with_reducible rfl
      rotate_left
      ·
       simp only [Act.put, lA, lB, lC, i64_w, i32_w]
       rfl
      refine pure_ (i := 2) (N := some 41) (v := ?_) (a' := ?_) #[true, false, true, false, false, false, false, false, false, false, false, false] rfl rfl (any_of HT_.out (by kernel_rfl)) (fun _ _ _ h => h) (Or.inl ⟨by rfl, ?_⟩) ?_ ?_
      rotate_left
      ·
       intro w'
       go_simp
       with_reducible rfl
      rotate_left
      ·
       simp only [Act.put, lA, lB, lC, i64_w, i32_w]
       rfl
      refine pure_ (i := 4) (N := some 43) (v := ?_) (a' := ?_) #[true, false, true, false, true, false, false, false, false, false, false, false] rfl rfl (any_of HT_.out (by kernel_rfl)) (fun _ _ _ h => h) (Or.inl ⟨by rfl, ?_⟩) ?_ ?_
      rotate_left
      ·
       intro w'
       go_simp
       with_reducible rfl
      rotate_left
      ·
       simp only [Act.put, lA, lB, lC, i64_w, i32_w]
       rfl
      refine pure_ (i := 7) (N := some 46) (v := ?_) (a' := ?_) #[true, false, true, false, true, false, false, true, false, false, false, false] rfl rfl (any_of HT_.out (by kernel_rfl)) (fun _ _ _ h => h) (Or.inl ⟨by rfl, ?_⟩) ?_ ?_
      rotate_left
      ·
       intro w'
       go_simp
       with_reducible rfl
      rotate_left
      ·
       simp only [Act.put, lA, lB, lC, i64_w, i32_w]
       rfl
      refine take_ (i := 1) (N := some 40) (v := ?_) (a' := ?_) #[true, true, true, false, true, false, false, true, false, false, false, false] rfl rfl (take_ofW HT_.out HW_.out (by kernel_rfl)) (fun _ _ _ h => h) (Or.inl ⟨by rfl, ?_⟩) hHeld ?_ ?_
      rotate_left
      ·
       rintro w' ⟨s0, s1, s2, s3, s4⟩
       go_simp
       with_reducible rfl
      rotate_left
      ·
       simp only [Act.put, lA, lB, lC, i64_w, i32_w]
       rfl
      refine take_ (i := 3) (N := some 42) (v := ?_) (a' := ?_) #[true, true, true, true, true, false, false, true, false, false, false, false] rfl rfl (take_ofW HT_.out HW_.out (by kernel_rfl)) (fun _ _ _ h => h) (Or.inl ⟨by rfl, ?_⟩) hHeld ?_ ?_
      rotate_left
      ·
       rintro w' ⟨s0, s1, s2, s3, s4⟩
       go_simp
       with_reducible rfl
      rotate_left
      ·
       simp only [Act.put, lA, lB, lC, i64_w, i32_w]
       rfl
      refine take_ (i := 5) (N := some 44) (v := ?_) (a' := ?_) #[true, true, true, true, true, true, false, true, false, false, false, false] rfl rfl (take_ofW HT_.out HW_.out (by kernel_rfl)) (fun _ _ _ h => h) (Or.inl ⟨by rfl, ?_⟩) hHeld ?_ ?_
      rotate_left
      ·
       rintro w' ⟨s0, s1, s2, s3, s4⟩
       go_simp
       with_reducible rfl
      rotate_left
      ·
       simp only [Act.put, lA, lB, lC, i64_w, i32_w]
       rfl
      refine pure_ (i := 6) (N := some 45) (v := ?_) (a' := ?_) #[true, true, true, true, true, true, true, true, false, false, false, false] rfl rfl (any_of HT_.out (by kernel_rfl)) (fun _ _ _ h => h) (Or.inl ⟨by rfl, ?_⟩) ?_ ?_
      rotate_left
      ·
       intro w'
       go_simp
       with_reducible rfl
      rotate_left
      ·
       simp only [Act.put, lA, lB, lC, i64_w, i32_w]
       rfl
      refine one_ (i := 8) (N := some 47) #[true, true, true, true, true, true, true, true, true, false, false, false] rfl rfl (one_of HT_.out (by kernel_rfl)) (by decide) (fun K hK => ?_)
      refine goes_ Tryd.func53 (by kernel_rfl) rfl #[.int .i64 (wrap64 (a0_2 - t321)), .int .u64 (IntKind.u64.wrap (a0_1))] (by rfl) rfl rfl mS ?_
      with_reducible refine (congr_rest.calls (wrap64 (a0_2 - t321)) (IntKind.u64.wrap (a0_1)) t337 _ A75.out).mono ?_
      rintro e w' ⟨rfl, ⟨nd, rfl⟩⟩
      refine ⟨_, rfl, ?_⟩
      refine hK.out _ _ ⟨cz0 BK316, cz1 BK316, cz0 BK315, cz1 BK315, cz2 BK315⟩ (fun hHeld => ?_)
      clear hK K
      refine norm_ (a' := ?_) ?_ ?_
      rotate_left
      ·
       show Act.put _ (some 47) _ = _
       simp only [Act.put, lA, lB, lC, i64_w, i32_w]
       rfl
      refine pure_ (i := 9) (N := some 48) (v := ?_) (a' := ?_) #[true, true, true, true, true, true, true, true, true, true, false, false] rfl rfl (any_of HT_.out (by kernel_rfl)) (fun _ _ _ h => h) (Or.inl ⟨by rfl, ?_⟩) ?_ ?_
      rotate_left
      ·
       intro w'
       go_simp
       with_reducible rfl
      rotate_left
      ·
       simp only [Act.put, lA, lB, lC, i64_w, i32_w]
       rfl
      refine pure_ (i := 10) (N := some 49) (v := ?_) (a' := ?_) #[true, true, true, true, true, true, true, true, true, true, true, false] rfl rfl (any_of HT_.out (by kernel_rfl)) (fun _ _ _ h => h) (Or.inl ⟨by rfl, ?_⟩) ?_ ?_
      rotate_left
      ·
       intro w'
       go_simp
       with_reducible rfl
      rotate_left
      ·
       simp only [Act.put, lA, lB, lC, i64_w, i32_w]
       rfl
      refine pure_ (i := 11) (N := some 7) (v := ?_) (a' := ?_) #[true, true, true, true, true, true, true, true, true, true, true, true] rfl rfl (any_of HT_.out (by kernel_rfl)) (fun _ _ _ h => h) (Or.inl ⟨by rfl, ?_⟩) ?_ ?_
      rotate_left
      ·
       intro w'
       go_simp
       with_reducible rfl
      rotate_left
      ·
       simp only [Act.put, lA, lB, lC, i64_w, i32_w]
       rfl
      refine done_ (done_of HT_.out (by kernel_rfl)) ?_
      try go_wp2
      (try (rw [drewN_self w84]; generalize hq_ : World.drewN w84 _ = w84; have n0_ : Aside0 (w84.heap[gb315]? = some (.cells #[.bool a0_0, .int .i64 a0_1, .int .i64 a0_2] 23 (0, 0))) := ⟨by rw [← hq_]; exact (bkS BK315)⟩; have n1_ : Aside0 (w84.heap[gb316]? = some (.cells #[.int .i64 t321, .int .i64 t322] 38 (0, 0))) := ⟨by rw [← hq_]; exact (bkS BK316)⟩; have n2_ : Aside0 (w84.heap[gb317]? = some (.cells #[.bool false, .int .i64 0, .int .i64 0] 23 (0, 0))) := ⟨by rw [← hq_]; exact (bkS BK317)⟩; have n3_ : Aside0 (w84.heap[gb318]? = some (.cells #[.int .i64 0, .int .i64 0] 38 (0, 0))) := ⟨by rw [← hq_]; exact (bkS BK318)⟩; have n4_ : Aside0 (Below w.heap.size w w84) := ⟨by rw [← hq_]; exact (bS HB)⟩; clear BK315 BK316 BK317 BK318 HB hq_; have BK315 := n0_; have BK316 := n1_; have BK317 := n2_; have BK318 := n3_; have HB := n4_; clear n0_ n1_ n2_ n3_ n4_))
      replace BK315 := Aside0.mk (blk_drew BK315.out)
      replace BK316 := Aside0.mk (blk_drew BK316.out)
      replace BK317 := Aside0.mk (blk_drew BK317.out)
      replace BK318 := Aside0.mk (blk_drew BK318.out)
      replace HB := Aside0.mk (below_drew1 HB.out)
      refine start_ (n := 12) (S := fun w' => w'.cell? ⟨gb316, 0, none⟩ = some (.int .i64 t321) ∧ w'.cell? ⟨gb316, 1, none⟩ = some (.int .i64 t322) ∧ w'.cell? ⟨gb315, 0, none⟩ = some (.bool a0_0) ∧ w'.cell? ⟨gb315, 1, none⟩ = some (.int .i64 a0_1) ∧ w'.cell? ⟨gb315, 2, none⟩ = some (.int .i64 a0_2)) (ds := []) #[false, false, false, false, false, false, false, false, false, false, false, false] (by kernel_rfl) rfl rfl ⟨cz0 BK316, cz1 BK316, cz0 BK315, cz1 BK315, cz2 BK315⟩ (fun hHeld => ?_); refine with_tabW congr_Tighten.tab10 congr_Tighten.bits10 (fun HT_ HW_ => ?_)
      generalize w84.drew = w85 at BK315 BK316 BK317 BK318 HB hHeld ⊢
      refine pure_ (i := 0) (N := some 50) (v := ?_) (a' := ?_) #[true, false, false, false, false, false, false, false, false, false, false, false] rfl rfl (any_of HT_.out (by kernel_rfl)) (fun _ _ _ h => h) (Or.inl ⟨by rfl, ?_⟩) ?_ ?_
      rotate_left
      ·
       intro w'
       go_simp
       with_reducible rfl
      rotate_left
      ·
       simp only [Act.put, lA, lB, lC, i64_w, i32_w]
       rfl
      refine pure_ (i := 2) (N := some 52) (v := ?_) (a' := ?_) #[true, false, true, false, false, false, false, false, false, false, false, false] rfl rfl (any_of HT_.out (by kernel_rfl)) (fun _ _ _ h => h) (Or.inl ⟨by rfl, ?_⟩) ?_ ?_
      rotate_left
      ·
       intro w'
       go_simp
       with_reducible rfl
      rotate_left
      ·
       simp only [Act.put, lA, lB, lC, i64_w, i32_w]
       rfl
      refine pure_ (i := 4) (N := some 54) (v := ?_) (a' := ?_) #[true, false, true, false, true, false, false, false, false, false, false, false] rfl rfl (any_of HT_.out (by kernel_rfl)) (fun _ _ _ h => h) (Or.inl ⟨by rfl, ?_⟩) ?_ ?_
      rotate_left
      ·
       intro w'
       go_simp
       with_reducible rfl
      rotate_left
      ·
       simp only [Act.put, lA, lB, lC, i64_w, i32_w]
       rfl
      refine pure_ (i := 7) (N := some 57) (v := ?_) (a' := ?_) #[true, false, true, false, true, false, false, true, false, false, false, false] rfl rfl (any_of HT_.out (by kernel_rfl)) (fun _ _ _ h => h) (Or.inl ⟨by rfl, ?_⟩) ?_ ?_
      rotate_left
      ·
       intro w'
       go_simp
       with_reducible rfl
      rotate_left
      ·
       simp only [Act.put, lA, lB, lC, i64_w, i32_w]
       rfl
      refine take_ (i := 1) (N := some 51) (v := ?_) (a' := ?_) #[true, true, true, false, true, false, false, true, false, false, false, false] rfl rfl (take_ofW HT_.out HW_.out (by kernel_rfl)) (fun _ _ _ h => h) (Or.inl ⟨by rfl, ?_⟩) hHeld ?_ ?_
      rotate_left
      ·
       rintro w' ⟨s0, s1, s2, s3, s4⟩
       go_simp
       with_reducible rfl
      rotate_left
      ·
       simp only [Act.put, lA, lB, lC, i64_w, i32_w]
       rfl
      refine take_ (i := 3) (N := some 53) (v := ?_) (a' := ?_) #[true, true, true, true, true, false, false, true, false, false, false, false] rfl rfl (take_ofW HT_.out HW_.out (by kernel_rfl)) (fun _ _ _ h => h) (Or.inl ⟨by rfl, ?_⟩) hHeld ?_ ?_
      rotate_left
      ·
       rintro w' ⟨s0, s1, s2, s3, s4⟩
       go_simp
       with_reducible rfl
      rotate_left
      ·
       simp only [Act.put, lA, lB, lC, i64_w, i32_w]
       rfl
      refine take_ (i := 5) (N := some 55) (v := ?_) (a' := ?_) #[true, true, true, true, true, true, false, true, false, false, false, false] rfl rfl (take_ofW HT_.out HW_.out (by kernel_rfl)) (fun _ _ _ h => h) (Or.inl ⟨by rfl, ?_⟩) hHeld ?_ ?_
      rotate_left
      ·
       rintro w' ⟨s0, s1, s2, s3, s4⟩
       go_simp
       with_reducible rfl
      rotate_left
      ·
       simp only [Act.put, lA, lB, lC, i64_w, i32_w]
       rfl
      refine pure_ (i := 6) (N := some 56) (v := ?_) (a' := ?_) #[true, true, true, true, true, true, true, true, false, false, false, false] rfl rfl (any_of HT_.out (by kernel_rfl)) (fun _ _ _ h => h) (Or.inl ⟨by rfl, ?_⟩) ?_ ?_
      rotate_left
      ·
       intro w'
       go_simp
       with_reducible rfl
      rotate_left
      ·
       simp only [Act.put, lA, lB, lC, i64_w, i32_w]
       rfl
      refine one_ (i := 8) (N := some 58) #[true, true, true, true, true, true, true, true, true, false, false, false] rfl rfl (one_of HT_.out (by kernel_rfl)) (by decide) (fun K hK => ?_)
      refine goes_ Tryd.func53 (by kernel_rfl) rfl #[.int .i64 (wrap64 (t322 - a0_2)), .int .u64 (IntKind.u64.wrap (a0_1))] (by rfl) rfl rfl mS ?_
      with_reducible refine (congr_rest.calls (wrap64 (t322 - a0_2)) (IntKind.u64.wrap (a0_1)) t338 _ A76.out).mono ?_
      rintro e w' ⟨rfl, ⟨nd, rfl⟩⟩
      refine ⟨_, rfl, ?_⟩
      refine hK.out _ _ ⟨cz0 BK316, cz1 BK316, cz0 BK315, cz1 BK315, cz2 BK315⟩ (fun hHeld => ?_)
      clear hK K
      refine norm_ (a' := ?_) ?_ ?_
      rotate_left
      ·
       show Act.put _ (some 58) _ = _
       simp only [Act.put, lA, lB, lC, i64_w, i32_w]
       rfl
      refine pure_ (i := 9) (N := some 59) (v := ?_) (a' := ?_) #[true, true, true, true, true, true, true, true, true, true, false, false] rfl rfl (any_of HT_.out (by kernel_rfl)) (fun _ _ _ h => h) (Or.inl ⟨by rfl, ?_⟩) ?_ ?_
      rotate_left
      ·
       intro w'
       go_simp
       with_reducible rfl
      rotate_left
      ·
       simp only [Act.put, lA, lB, lC, i64_w, i32_w]
       rfl
      refine pure_ (i := 10) (N := some 60) (v := ?_) (a' := ?_) #[true, true, true, true, true, true, true, true, true, true, true, false] rfl rfl (any_of HT_.out (by kernel_rfl)) (fun _ _ _ h => h) (Or.inl ⟨by rfl, ?_⟩) ?_ ?_
      rotate_left
      ·
       intro w'
       go_simp
       with_reducible rfl
      rotate_left
      ·
       simp only [Act.put, lA, lB, lC, i64_w, i32_w]
       rfl
      refine pure_ (i := 11) (N := some 8) (v := ?_) (a' := ?_) #[true, true, true, true, true, true, true, true, true, true, true, true] rfl rfl (any_of HT_.out (by kernel_rfl)) (fun _ _ _ h => h) (Or.inl ⟨by rfl, ?_⟩) ?_ ?_
      rotate_left
      ·
       intro w'
       go_simp
       with_reducible rfl
      rotate_left
      ·
       simp only [Act.put, lA, lB, lC, i64_w, i32_w]
       rfl
      refine done_ (done_of HT_.out (by kernel_rfl)) ?_
      try go_wp2_with (first | ((with_reducible refine gate_callee (f := 56) rfl ?_); refine goesL_ (some 65) rfl rfl Tryd.func56 (by kernel_rfl) rfl #[] rfl mS ?_; (with_reducible refine (congr_none.calls  t339 t340 t341 _ A78.out).mono ?_); rintro e w86 ⟨rfl, hb⟩; refine ⟨_, rfl, ?_⟩; replace BK315 := kB BK315 hb; replace BK316 := kB BK316 hb; replace BK317 := kB BK317 hb; replace BK318 := kB BK318 hb; replace HB := kW HB hb; (try clear hb); (try clear hb2); (try clear hk); (try clear hi)) | ((with_reducible refine gate_callee (f := 73) rfl ?_); refine goesL_ (some 66) rfl rfl Tryd.func73 (by kernel_rfl) rfl #[] rfl mS ?_; (with_reducible refine (itv_Empty.calls  t342 t343 _ A79.out).mono ?_); rintro e w87 ⟨rfl, hb⟩; refine ⟨_, rfl, ?_⟩; replace BK315 := kB BK315 hb; replace BK316 := kB BK316 hb; replace BK317 := kB BK317 hb; replace BK318 := kB BK318 hb; replace HB := kW HB hb; (try clear hb); (try clear hb2); (try clear hk); (try clear hi); have hnb88 := NB317_316.out; have hnc88 := NB316_317.out; have hnb89 := NB317_318.out; have hnc89 := NB318_317.out; have hcz90_0 := cz0 BK317; have hcz90_1 := cz1 BK317; have hcz90_2 := cz2 BK317; have hfz90_0 := fz BK317 0; have hfz90_1 := fz BK317 1; have hfz90_2 := fz BK317 2; have hnb91 := NB318_316.out; have hnc91 := NB316_318.out; have hcz92_0 := cz0 BK318; have hcz92_1 := cz1 BK318; have hfz92_0 := fz BK318 0; have hfz92_1 := fz BK318 1))
      refine bodyPost_ret (results_cc rfl _ _ gb317 gb318 23 38 #[.bool t339, .int .i64 t340, .int .i64 t341] #[.int .i64 t342, .int .i64 t343] (0, 0) (0, 0) _ _ rfl (by (with_reducible repeat (first | refine b1 ?_ _ | refine b2 ?_ | refine b3 ?_ _)); refine blk_far ?_ NB317_318.out _; (with_reducible repeat (first | refine b1 ?_ _ | refine b2 ?_ | refine b3 ?_ _)); refine blk_far ?_ NB317_318.out _; (with_reducible repeat (first | refine b1 ?_ _ | refine b2 ?_ | refine b3 ?_ _)); refine blk_put (cs := #[.bool t339, .int .i64 t340, .int .i64 0]) ?_ 2 _ rfl; (with_reducible repeat (first | refine b1 ?_ _ | refine b2 ?_ | refine b3 ?_ _)); refine blk_put (cs := #[.bool t339, .int .i64 0, .int .i64 0]) ?_ 1 _ rfl; (with_reducible repeat (first | refine b1 ?_ _ | refine b2 ?_ | refine b3 ?_ _)); refine blk_put (cs := #[.bool false, .int .i64 0, .int .i64 0]) ?_ 0 _ rfl; (with_reducible repeat (first | refine b1 ?_ _ | refine b2 ?_ | refine b3 ?_ _)); exact BK317.out) Tryd.underlying23 rfl (by kernel_rfl) rfl (by (with_reducible repeat (first | refine b1 ?_ _ | refine b2 ?_ | refine b3 ?_ _)); refine blk_put (cs := #[.int .i64 t342, .int .i64 0]) ?_ 1 _ rfl; (with_reducible repeat (first | refine b1 ?_ _ | refine b2 ?_ | refine b3 ?_ _)); refine blk_put (cs := #[.int .i64 0, .int .i64 0]) ?_ 0 _ rfl; (with_reducible repeat (first | refine b1 ?_ _ | refine b2 ?_ | refine b3 ?_ _)); refine blk_far ?_ NB318_317.out _; (with_reducible repeat (first | refine b1 ?_ _ | refine b2 ?_ | refine b3 ?_ _)); refine blk_far ?_ NB318_317.out _; (with_reducible repeat (first | refine b1 ?_ _ | refine b2 ?_ | refine b3 ?_ _)); refine blk_far ?_ NB318_317.out _; (with_reducible repeat (first | refine b1 ?_ _ | refine b2 ?_ | refine b3 ?_ _)); exact BK318.out) Tryd.underlying38 rfl (by kernel_rfl)) rfl ?_
      exact ⟨eS, bS HB⟩
     ·
      rw [if_neg c77] at H
      have c77b0 : decide ((wrap64 (t322 - (wrap64 (t338)))) < (wrap64 (t321 + (wrap64 (t337))))) = false := decide_eq_false c77
      clear c77
      by_cases c93 : (wrap64 (t321 + (wrap64 (t337)))) = (wrap64 (t322 - (wrap64 (t338))))
      ·
       rw [if_pos c93] at H
       have c93b0 : ((wrap64 (t321 + (wrap64 (t337)))) == (wrap64 (t322 - (wrap64 (t338))))) = true := beq_iff_eq.mpr c93
       have c93b1 : ((wrap64 (t321 + (wrap64 (t337)))) != (wrap64 (t322 - (wrap64 (t338))))) = false := bne_eq_false_iff_eq.mpr c93
       clear c93
       replace H := Option.bind_eq_some_iff.mp H
       obtain ⟨⟨t344, t345, t346⟩, A940, H⟩ := H
       replace H : ((itv_Of.f (wrap64 (t321 + (wrap64 (t337)))) (wrap64 (t321 + (wrap64 (t337))))).bind fun bt347 => (some (t344, t345, t346, bt347.1, bt347.2))) = some (r1, r2, r3, r4, r5) := H
       have A94 := Aside0.mk A940
       clear A940
       replace H := Option.bind_eq_some_iff.mp H
       obtain ⟨⟨t347, t348⟩, A950, H⟩ := H
       replace H : (some (t344, t345, t346, t347, t348)) = some (r1, r2, r3, r4, r5) := H
       have A95 := Aside0.mk A950
       clear A950
       simp only [Option.some.injEq, Prod.mk.injEq] at H
       obtain ⟨rfl, rfl, rfl, rfl, rfl⟩ := H
       have hnb96 := NB315_316.out
       have hnc96 := NB316_315.out
       have hnb97 := NB315_317.out
       have hnc97 := NB317_315.out
       have hnb98 := NB315_318.out
       have hnc98 := NB318_315.out
       have hcz99_0 : wc.cell? ⟨gb315, 0, none⟩ = some (.bool a0_0) := cz0 BK315
       have hcz99_1 : wc.cell? ⟨gb315, 1, none⟩ = some (.int .i64 a0_1) := cz1 BK315
       have hcz99_2 : wc.cell? ⟨gb315, 2, none⟩ = some (.int .i64 a0_2) := cz2 BK315
       have hfz99_0 := fz BK315 0
       have hfz99_1 := fz BK315 1
       have hfz99_2 := fz BK315 2
       try go_wp2
       replace BK315 := Aside0.mk (blk_drew BK315.out)
       replace BK316 := Aside0.mk (blk_drew BK316.out)
       replace BK317 := Aside0.mk (blk_drew BK317.out)
       replace BK318 := Aside0.mk (blk_drew BK318.out)
       replace HB := Aside0.mk (below_drew1 HB.out)
       refine start_ (n := 12) (S := fun w' => w'.cell? ⟨gb316, 0, none⟩ = some (.int .i64 t321) ∧ w'.cell? ⟨gb316, 1, none⟩ = some (.int .i64 t322) ∧ w'.cell? ⟨gb315, 0, none⟩ = some (.bool a0_0) ∧ w'.cell? ⟨gb315, 1, none⟩ = some (.int .i64 a0_1) ∧ w'.cell? ⟨gb315, 2, none⟩ = some (.int .i64 a0_2)) (ds := []) #[false, false, false, false, false, false, false, false, false, false, false, false] (by kernel_rfl) rfl rfl ⟨cz0 BK316, cz1 BK316, cz0 BK315, cz1 BK315, cz2 BK315⟩ (fun hHeld => ?_); refine with_tabW congr_Tighten.tab9 congr_Tighten.bits9 (fun HT_ HW_ => ?_)
       generalize wc.drew = w100 at BK315 BK316 BK317 BK318 HB hHeld ⊢
       refine pure_ (i := 0) (N := some 39) (v := ?_) (a' := ?_) #[true, false, false, false, false, false, false, false, false, false, false, false] rfl rfl (any_of HT_.out (by kernel_rfl)) (fun _ _ _ h => h) (Or.inl ⟨by rfl, ?_⟩) ?_ ?_
       rotate_left
       ·
        intro w'
        go_simp
        with_reducible rfl
       rotate_left
       ·
        simp only [Act.put, lA, lB, lC, i64_w, i32_w]
        rfl
       refine pure_ (i := 2) (N := some 41) (v := ?_) (a' := ?_) #[true, false, true, false, false, false, false, false, false, false, false, false] rfl rfl (any_of HT_.out (by kernel_rfl)) (fun _ _ _ h => h) (Or.inl ⟨by rfl, ?_⟩) ?_ ?_
       rotate_left
       ·
        intro w'
        go_simp
        with_reducible rfl
       rotate_left
       ·
        simp only [Act.put, lA, lB, lC, i64_w, i32_w]
        rfl
       refine pure_ (i := 4) (N := some 43) (v := ?_) (a' := ?_) #[true, false, true, false, true, false, false, false, false, false, false, false] rfl rfl (any_of HT_.out (by kernel_rfl)) (fun _ _ _ h => h) (Or.inl ⟨by rfl, ?_⟩) ?_ ?_
       rotate_left
       ·
        intro w'
        go_simp
        with_reducible rfl
       rotate_left
       ·
        simp only [Act.put, lA, lB, lC, i64_w, i32_w]
        rfl
       refine pure_ (i := 7) (N := some 46) (v := ?_) (a' := ?_) #[true, false, true, false, true, false, false, true, false, false, false, false] rfl rfl (any_of HT_.out (by kernel_rfl)) (fun _ _ _ h => h) (Or.inl ⟨by rfl, ?_⟩) ?_ ?_
       rotate_left
       ·
        intro w'
        go_simp
        with_reducible rfl
       rotate_left
       ·
        simp only [Act.put, lA, lB, lC, i64_w, i32_w]
        rfl
       refine take_ (i := 1) (N := some 40) (v := ?_) (a' := ?_) #[true, true, true, false, true, false, false, true, false, false, false, false] rfl rfl (take_ofW HT_.out HW_.out (by kernel_rfl)) (fun _ _ _ h => h) (Or.inl ⟨by rfl, ?_⟩) hHeld ?_ ?_
       rotate_left
       ·
        rintro w' ⟨s0, s1, s2, s3, s4⟩
        go_simp
        with_reducible rfl
       rotate_left
       ·
        simp only [Act.put, lA, lB, lC, i64_w, i32_w]
        rfl
       refine take_ (i := 3) (N := some 42) (v := ?_) (a' := ?_) #[true, true, true, true, true, false, false, true, false, false, false, false] rfl rfl (take_ofW HT_.out HW_.out (by kernel_rfl)) (fun _ _ _ h => h) (Or.inl ⟨by rfl, ?_⟩) hHeld ?_ ?_
       rotate_left
       ·
        rintro w' ⟨s0, s1, s2, s3, s4⟩
        go_simp
        with_reducible rfl
       rotate_left
       ·
        simp only [Act.put, lA, lB, lC, i64_w, i32_w]
        rfl
       refine take_ (i := 5) (N := some 44) (v := ?_) (a' := ?_) #[true, true, true, true, true, true, false, true, false, false, false, false] rfl rfl (take_ofW HT_.out HW_.out (by kernel_rfl)) (fun _ _ _ h => h) (Or.inl ⟨by rfl, ?_⟩) hHeld ?_ ?_
       rotate_left
       ·
        rintro w' ⟨s0, s1, s2, s3, s4⟩
        go_simp
        with_reducible rfl
       rotate_left
       ·
        simp only [Act.put, lA, lB, lC, i64_w, i32_w]
        rfl
       refine pure_ (i := 6) (N := some 45) (v := ?_) (a' := ?_) #[true, true, true, true, true, true, true, true, false, false, false, false] rfl rfl (any_of HT_.out (by kernel_rfl)) (fun _ _ _ h => h) (Or.inl ⟨by rfl, ?_⟩) ?_ ?_
       rotate_left
       ·
        intro w'
        go_simp
        with_reducible rfl
       rotate_left
       ·
        simp only [Act.put, lA, lB, lC, i64_w, i32_w]
        rfl
       refine one_ (i := 8) (N := some 47) #[true, true, true, true, true, true, true, true, true, false, false, false] rfl rfl (one_of HT_.out (by kernel_rfl)) (by decide) (fun K hK => ?_)
       refine goes_ Tryd.func53 (by kernel_rfl) rfl #[.int .i64 (wrap64 (a0_2 - t321)), .int .u64 (IntKind.u64.wrap (a0_1))] (by rfl) rfl rfl mS ?_
       with_reducible refine (congr_rest.calls (wrap64 (a0_2 - t321)) (IntKind.u64.wrap (a0_1)) t337 _ A75.out).mono ?_
       rintro e w' ⟨rfl, ⟨nd, rfl⟩⟩
       refine ⟨_, rfl, ?_⟩
       refine hK.out _ _ ⟨cz0 BK316, cz1 BK316, cz0 BK315, cz1 BK315, cz2 BK315⟩ (fun hHeld => ?_)
       clear hK K
       refine norm_ (a' := ?_) ?_ ?_
       rotate_left
       ·
        show Act.put _ (some 47) _ = _
        simp only [Act.put, lA, lB, lC, i64_w, i32_w]
        rfl
       refine pure_ (i := 9) (N := some 48) (v := ?_) (a' := ?_) #[true, true, true, true, true, true, true, true, true, true, false, false] rfl rfl (any_of HT_.out (by kernel_rfl)) (fun _ _ _ h => h) (Or.inl ⟨by rfl, ?_⟩) ?_ ?_
       rotate_left
       ·
        intro w'
        go_simp
        with_reducible rfl
       rotate_left
       ·
        simp only [Act.put, lA, lB, lC, i64_w, i32_w]
        rfl
       refine pure_ (i := 10) (N := some 49) (v := ?_) (a' := ?_) #[true, true, true, true, true, true, true, true, true, true, true, false] rfl rfl (any_of HT_.out (by kernel_rfl)) (fun _ _ _ h => h) (Or.inl ⟨by rfl, ?_⟩) ?_ ?_
       rotate_left
       ·
        intro w'
        go_simp
        with_reducible rfl
       rotate_left
       ·
        simp only [Act.put, lA, lB, lC, i64_w, i32_w]
        rfl
       refine pure_ (i := 11) (N := some 7) (v := ?_) (a' := ?_) #[true, true, true, true, true, true, true, true, true, true, true, true] rfl rfl (any_of HT_.out (by kernel_rfl)) (fun _ _ _ h => h) (Or.inl ⟨by rfl, ?_⟩) ?_ ?_
       rotate_left
       ·
        intro w'
        go_simp
        with_reducible rfl
       rotate_left
       ·
        simp only [Act.put, lA, lB, lC, i64_w, i32_w]
        rfl
       refine done_ (done_of HT_.out (by kernel_rfl)) ?_
       try go_wp2
       (try (rw [drewN_self w100]; generalize hq_ : World.drewN w100 _ = w100; have n0_ : Aside0 (w100.heap[gb315]? = some (.cells #[.bool a0_0, .int .i64 a0_1, .int .i64 a0_2] 23 (0, 0))) := ⟨by rw [← hq_]; exact (bkS BK315)⟩; have n1_ : Aside0 (w100.heap[gb316]? = some (.cells #[.int .i64 t321, .int .i64 t322] 38 (0, 0))) := ⟨by rw [← hq_]; exact (bkS BK316)⟩; have n2_ : Aside0 (w100.heap[gb317]? = some (.cells #[.bool false, .int .i64 0, .int .i64 0] 23 (0, 0))) := ⟨by rw [← hq_]; exact (bkS BK317)⟩; have n3_ : Aside0 (w100.heap[gb318]? = some (.cells #[.int .i64 0, .int .i64 0] 38 (0, 0))) := ⟨by rw [← hq_]; exact (bkS BK318)⟩; have n4_ : Aside0 (Below w.heap.size w w100) := ⟨by rw [← hq_]; exact (bS HB)⟩; clear BK315 BK316 BK317 BK318 HB hq_; have BK315 := n0_; have BK316 := n1_; have BK317 := n2_; have BK318 := n3_; have HB := n4_; clear n0_ n1_ n2_ n3_ n4_))
       replace BK315 := Aside0.mk (blk_drew BK315.out)
       replace BK316 := Aside0.mk (blk_drew BK316.out)
       replace BK317 := Aside0.mk (blk_drew BK317.out)
       replace BK318 := Aside0.mk (blk_drew BK318.out)
       replace HB := Aside0.mk (below_drew1 HB.out)
       refine start_ (n := 12) (S := fun w' => w'.cell? ⟨gb316, 0, none⟩ = some (.int .i64 t321) ∧ w'.cell? ⟨gb316, 1, none⟩ = some (.int .i64 t322) ∧ w'.cell? ⟨gb315, 0, none⟩ = some (.bool a0_0) ∧ w'.cell? ⟨gb315, 1, none⟩ = some (.int .i64 a0_1) ∧ w'.cell? ⟨gb315, 2, none⟩ = some (.int .i64 a0_2)) (ds := []) #[false, false, false, false, false, false, false, false, false, false, false, false] (by kernel_rfl) rfl rfl ⟨cz0 BK316, cz1 BK316, cz0 BK315, cz1 BK315, cz2 BK315⟩ (fun hHeld => ?_); refine with_tabW congr_Tighten.tab10 congr_Tighten.bits10 (fun HT_ HW_ => ?_)
       generalize w100.drew = w101 at BK315 BK316 BK317 BK318 HB hHeld ⊢
       refine pure_ (i := 0) (N := some 50) (v := ?_) (a' := ?_) #[true, false, false, false, false, false, false, false, false, false, false, false] rfl rfl (any_of HT_.out (by kernel_rfl)) (fun _ _ _ h => h) (Or.inl ⟨by rfl, ?_⟩) ?_ ?_
       rotate_left
       ·
        intro w'
        go_simp
        with_reducible rfl
       rotate_left
       ·
        simp only [Act.put, lA, lB, lC, i64_w, i32_w]
        rfl
       refine pure_ (i := 2) (N := some 52) (v := ?_) (a' := ?_) #[true, false, true, false, false, false, false, false, false, false, false, false] rfl rfl (any_of HT_.out (by kernel_rfl)) (fun _ _ _ h => h) (Or.inl ⟨by rfl, ?_⟩) ?_ ?_
       rotate_left
       ·
        intro w'
        go_simp
        with_reducible rfl
       rotate_left
       ·
        simp only [Act.put, lA, lB, lC, i64_w, i32_w]
        rfl
       refine pure_ (i := 4) (N := some 54) (v := ?_) (a' := ?_) #[true, false, true, false, true, false, false, false, false, false, false, false] rfl rfl (any_of HT_.out (by kernel_rfl)) (fun _ _ _ h => h) (Or.inl ⟨by rfl, ?_⟩) ?_ ?_
       rotate_left
       ·
        intro w'
        go_simp
        with_reducible rfl
       rotate_left
       ·
        simp only [Act.put, lA, lB, lC, i64_w, i32_w]
        rfl
       refine pure_ (i := 7) (N := some 57) (v := ?_) (a' := ?_) #[true, false, true, false, true, false, false, true, false, false, false, false] rfl rfl (any_of HT_.out (by kernel_rfl)) (fun _ _ _ h => h) (Or.inl ⟨by rfl, ?_⟩) ?_ ?_
       rotate_left
       ·
        intro w'
        go_simp
        with_reducible rfl
       rotate_left
       ·
        simp only [Act.put, lA, lB, lC, i64_w, i32_w]
        rfl
       refine take_ (i := 1) (N := some 51) (v := ?_) (a' := ?_) #[true, true, true, false, true, false, false, true, false, false, false, false] rfl rfl (take_ofW HT_.out HW_.out (by kernel_rfl)) (fun _ _ _ h => h) (Or.inl ⟨by rfl, ?_⟩) hHeld ?_ ?_
       rotate_left
       ·
        rintro w' ⟨s0, s1, s2, s3, s4⟩
        go_simp
        with_reducible rfl
       rotate_left
       ·
        simp only [Act.put, lA, lB, lC, i64_w, i32_w]
        rfl
       refine take_ (i := 3) (N := some 53) (v := ?_) (a' := ?_) #[true, true, true, true, true, false, false, true, false, false, false, false] rfl rfl (take_ofW HT_.out HW_.out (by kernel_rfl)) (fun _ _ _ h => h) (Or.inl ⟨by rfl, ?_⟩) hHeld ?_ ?_
       rotate_left
       ·
        rintro w' ⟨s0, s1, s2, s3, s4⟩
        go_simp
        with_reducible rfl
       rotate_left
       ·
        simp only [Act.put, lA, lB, lC, i64_w, i32_w]
        rfl
       refine take_ (i := 5) (N := some 55) (v := ?_) (a' := ?_) #[true, true, true, true, true, true, false, true, false, false, false, false] rfl rfl (take_ofW HT_.out HW_.out (by kernel_rfl)) (fun _ _ _ h => h) (Or.inl ⟨by rfl, ?_⟩) hHeld ?_ ?_
       rotate_left
       ·
        rintro w' ⟨s0, s1, s2, s3, s4⟩
        go_simp
        with_reducible rfl
       rotate_left
       ·
        simp only [Act.put, lA, lB, lC, i64_w, i32_w]
        rfl
       refine pure_ (i := 6) (N := some 56) (v := ?_) (a' := ?_) #[true, true, true, true, true, true, true, true, false, false, false, false] rfl rfl (any_of HT_.out (by kernel_rfl)) (fun _ _ _ h => h) (Or.inl ⟨by rfl, ?_⟩) ?_ ?_
       rotate_left
       ·
        intro w'
        go_simp
        with_reducible rfl
       rotate_left
       ·
        simp only [Act.put, lA, lB, lC, i64_w, i32_w]
        rfl
       refine one_ (i := 8) (N := some 58) #[true, true, true, true, true, true, true, true, true, false, false, false] rfl rfl (one_of HT_.out (by kernel_rfl)) (by decide) (fun K hK => ?_)
       refine goes_ Tryd.func53 (by kernel_rfl) rfl #[.int .i64 (wrap64 (t322 - a0_2)), .int .u64 (IntKind.u64.wrap (a0_1))] (by rfl) rfl rfl mS ?_
       with_reducible refine (congr_rest.calls (wrap64 (t322 - a0_2)) (IntKind.u64.wrap (a0_1)) t338 _ A76.out).mono ?_
       rintro e w' ⟨rfl, ⟨nd, rfl⟩⟩
       refine ⟨_, rfl, ?_⟩
       refine hK.out _ _ ⟨cz0 BK316, cz1 BK316, cz0 BK315, cz1 BK315, cz2 BK315⟩ (fun hHeld => ?_)
       clear hK K
       refine norm_ (a' := ?_) ?_ ?_
       rotate_left
       ·
        show Act.put _ (some 58) _ = _
        simp only [Act.put, lA, lB, lC, i64_w, i32_w]
        rfl
       refine pure_ (i := 9) (N := some 59) (v := ?_) (a' := ?_) #[true, true, true, true, true, true, true, true, true, true, false, false] rfl rfl (any_of HT_.out (by kernel_rfl)) (fun _ _ _ h => h) (Or.inl ⟨by rfl, ?_⟩) ?_ ?_
       rotate_left
       ·
        intro w'
        go_simp
        with_reducible rfl
       rotate_left
       ·
        simp only [Act.put, lA, lB, lC, i64_w, i32_w]
        rfl
       refine pure_ (i := 10) (N := some 60) (v := ?_) (a' := ?_) #[true, true, true, true, true, true, true, true, true, true, true, false] rfl rfl (any_of HT_.out (by kernel_rfl)) (fun _ _ _ h => h) (Or.inl ⟨by rfl, ?_⟩) ?_ ?_
       rotate_left
       ·
        intro w'
        go_simp
        with_reducible rfl
       rotate_left
       ·
        simp only [Act.put, lA, lB, lC, i64_w, i32_w]
        rfl
       refine pure_ (i := 11) (N := some 8) (v := ?_) (a' := ?_) #[true, true, true, true, true, true, true, true, true, true, true, true] rfl rfl (any_of HT_.out (by kernel_rfl)) (fun _ _ _ h => h) (Or.inl ⟨by rfl, ?_⟩) ?_ ?_
       rotate_left
       ·
        intro w'
        go_simp
        with_reducible rfl
       rotate_left
       ·
        simp only [Act.put, lA, lB, lC, i64_w, i32_w]
        rfl
       refine done_ (done_of HT_.out (by kernel_rfl)) ?_
       try go_wp2_with (first | ((with_reducible refine gate_callee (f := 50) rfl ?_); refine goesL_ (some 72) rfl rfl Tryd.func50 (by kernel_rfl) rfl #[.int .i64 (wrap64 (t321 + (wrap64 (t337))))] rfl mS ?_; (with_reducible refine (congr_constant.calls (wrap64 (t321 + (wrap64 (t337)))) t344 t345 t346 _ A94.out).mono ?_); rintro e w102 ⟨rfl, hb⟩; refine ⟨_, rfl, ?_⟩; replace BK315 := kB BK315 hb; replace BK316 := kB BK316 hb; replace BK317 := kB BK317 hb; replace BK318 := kB BK318 hb; replace HB := kW HB hb; (try clear hb); (try clear hb2); (try clear hk); (try clear hi)) | ((with_reducible refine gate_callee (f := 75) rfl ?_); refine goesL_ (some 75) rfl rfl Tryd.func75 (by kernel_rfl) rfl #[.int .i64 (wrap64 (t321 + (wrap64 (t337)))), .int .i64 (wrap64 (t321 + (wrap64 (t337))))] rfl mS ?_; (with_reducible refine (itv_Of.calls (wrap64 (t321 + (wrap64 (t337)))) (wrap64 (t321 + (wrap64 (t337)))) t347 t348 _ A95.out).mono ?_); rintro e w103 ⟨rfl, hb⟩; refine ⟨_, rfl, ?_⟩; replace BK315 := kB BK315 hb; replace BK316 := kB BK316 hb; replace BK317 := kB BK317 hb; replace BK318 := kB BK318 hb; replace HB := kW HB hb; (try clear hb); (try clear hb2); (try clear hk); (try clear hi); have hnb104 := NB317_316.out; have hnc104 := NB316_317.out; have hnb105 := NB317_318.out; have hnc105 := NB318_317.out; have hcz106_0 := cz0 BK317; have hcz106_1 := cz1 BK317; have hcz106_2 := cz2 BK317; have hfz106_0 := fz BK317 0; have hfz106_1 := fz BK317 1; have hfz106_2 := fz BK317 2; have hnb107 := NB318_316.out; have hnc107 := NB316_318.out; have hcz108_0 := cz0 BK318; have hcz108_1 := cz1 BK318; have hfz108_0 := fz BK318 0; have hfz108_1 := fz BK318 1))
       refine bodyPost_ret (results_cc rfl _ _ gb317 gb318 23 38 #[.bool t344, .int .i64 t345, .int .i64 t346] #[.int .i64 t347, .int .i64 t348] (0, 0) (0, 0) _ _ rfl (by (with_reducible repeat (first | refine b1 ?_ _ | refine b2 ?_ | refine b3 ?_ _)); refine blk_far ?_ NB317_318.out _; (with_reducible repeat (first | refine b1 ?_ _ | refine b2 ?_ | refine b3 ?_ _)); refine blk_far ?_ NB317_318.out _; (with_reducible repeat (first | refine b1 ?_ _ | refine b2 ?_ | refine b3 ?_ _)); refine blk_put (cs := #[.bool t344, .int .i64 t345, .int .i64 0]) ?_ 2 _ rfl; (with_reducible repeat (first | refine b1 ?_ _ | refine b2 ?_ | refine b3 ?_ _)); refine blk_put (cs := #[.bool t344, .int .i64 0, .int .i64 0]) ?_ 1 _ rfl; (with_reducible repeat (first | refine b1 ?_ _ | refine b2 ?_ | refine b3 ?_ _)); refine blk_put (cs := #[.bool false, .int .i64 0, .int .i64 0]) ?_ 0 _ rfl; (with_reducible repeat (first | refine b1 ?_ _ | refine b2 ?_ | refine b3 ?_ _)); exact BK317.out) Tryd.underlying23 rfl (by kernel_rfl) rfl (by (with_reducible repeat (first | refine b1 ?_ _ | refine b2 ?_ | refine b3 ?_ _)); refine blk_put (cs := #[.int .i64 t347, .int .i64 0]) ?_ 1 _ rfl; (with_reducible repeat (first | refine b1 ?_ _ | refine b2 ?_ | refine b3 ?_ _)); refine blk_put (cs := #[.int .i64 0, .int .i64 0]) ?_ 0 _ rfl; (with_reducible repeat (first | refine b1 ?_ _ | refine b2 ?_ | refine b3 ?_ _)); refine blk_far ?_ NB318_317.out _; (with_reducible repeat (first | refine b1 ?_ _ | refine b2 ?_ | refine b3 ?_ _)); refine blk_far ?_ NB318_317.out _; (with_reducible repeat (first | refine b1 ?_ _ | refine b2 ?_ | refine b3 ?_ _)); refine blk_far ?_ NB318_317.out _; (with_reducible repeat (first | refine b1 ?_ _ | refine b2 ?_ | refine b3 ?_ _)); exact BK318.out) Tryd.underlying38 rfl (by kernel_rfl)) rfl ?_
       exact ⟨eS, bS HB⟩
      ·
       rw [if_neg c93] at H
       have c93b0 : ((wrap64 (t321 + (wrap64 (t337)))) == (wrap64 (t322 - (wrap64 (t338))))) = false := beq_eq_false_iff_ne.mpr c93
       have c93b1 : ((wrap64 (t321 + (wrap64 (t337)))) != (wrap64 (t322 - (wrap64 (t338))))) = true := bne_iff_ne.mpr c93
       replace H := Option.bind_eq_some_iff.mp H
       obtain ⟨⟨t349, t350⟩, A1090, H⟩ := H
       replace H : (some (a0_0, a0_1, a0_2, t349, t350)) = some (r1, r2, r3, r4, r5) := H
       have A109 := Aside0.mk A1090
       clear A1090
       simp only [Option.some.injEq, Prod.mk.injEq] at H
       obtain ⟨rfl, rfl, rfl, rfl, rfl⟩ := H
       have hnb110 := NB315_316.out
       have hnc110 := NB316_315.out
       have hnb111 := NB315_317.out
       have hnc111 := NB317_315.out
       have hnb112 := NB315_318.out
       have hnc112 := NB318_315.out
       have hcz113_0 : wc.cell? ⟨gb315, 0, none⟩ = some (.bool a0_0) := cz0 BK315
       have hcz113_1 : wc.cell? ⟨gb315, 1, none⟩ = some (.int .i64 a0_1) := cz1 BK315
       have hcz113_2 : wc.cell? ⟨gb315, 2, none⟩ = some (.int .i64 a0_2) := cz2 BK315
       have hfz113_0 := fz BK315 0
       have hfz113_1 := fz BK315 1
       have hfz113_2 := fz BK315 2
       try go_wp2
       replace BK315 := Aside0.mk (blk_drew BK315.out)
       replace BK316 := Aside0.mk (blk_drew BK316.out)
       replace BK317 := Aside0.mk (blk_drew BK317.out)
       replace BK318 := Aside0.mk (blk_drew BK318.out)
       replace HB := Aside0.mk (below_drew1 HB.out)
       refine start_ (n := 12) (S := fun w' => w'.cell? ⟨gb316, 0, none⟩ = some (.int .i64 t321) ∧ w'.cell? ⟨gb316, 1, none⟩ = some (.int .i64 t322) ∧ w'.cell? ⟨gb315, 0, none⟩ = some (.bool a0_0) ∧ w'.cell? ⟨gb315, 1, none⟩ = some (.int .i64 a0_1) ∧ w'.cell? ⟨gb315, 2, none⟩ = some (.int .i64 a0_2)) (ds := []) #[false, false, false, false, false, false, false, false, false, false, false, false] (by kernel_rfl) rfl rfl ⟨cz0 BK316, cz1 BK316, cz0 BK315, cz1 BK315, cz2 BK315⟩ (fun hHeld => ?_); refine with_tabW congr_Tighten.tab9 congr_Tighten.bits9 (fun HT_ HW_ => ?_)
       generalize wc.drew = w114 at BK315 BK316 BK317 BK318 HB hHeld ⊢
       refine pure_ (i := 0) (N := some 39) (v := ?_) (a' := ?_) #[true, false, false, false, false, false, false, false, false, false, false, false] rfl rfl (any_of HT_.out (by kernel_rfl)) (fun _ _ _ h => h) (Or.inl ⟨by rfl, ?_⟩) ?_ ?_
       rotate_left
       ·
        intro w'
        go_simp
        with_reducible rfl
       rotate_left
       ·
        simp only [Act.put, lA, lB, lC, i64_w, i32_w]
        rfl
       refine pure_ (i := 2) (N := some 41) (v := ?_) (a' := ?_) #[true, false, true, false, false, false, false, false, false, false, false, false] rfl rfl (any_of HT_.out (by kernel_rfl)) (fun _ _ _ h => h) (Or.inl ⟨by rfl, ?_⟩) ?_ ?_
       rotate_left
       ·
        intro w'
        go_simp
        with_reducible rfl
       rotate_left
       ·
        simp only [Act.put, lA, lB, lC, i64_w, i32_w]
        rfl
       refine pure_ (i := 4) (N := some 43) (v := ?_) (a' := ?_) #[true, false, true, false, true, false, false, false, false, false, false, false] rfl rfl (any_of HT_.out (by kernel_rfl)) (fun _ _ _ h => h) (Or.inl ⟨by rfl, ?_⟩) ?_ ?_
       rotate_left
       ·
        intro w'
        go_simp
        with_reducible rfl
       rotate_left
       ·
        simp only [Act.put, lA, lB, lC, i64_w, i32_w]
        rfl
       refine pure_ (i := 7) (N := some 46) (v := ?_) (a' := ?_) #[true, false, true, false, true, false, false, true, false, false, false, false] rfl rfl (any_of HT_.out (by kernel_rfl)) (fun _ _ _ h => h) (Or.inl ⟨by rfl, ?_⟩) ?_ ?_
       rotate_left
       ·
        intro w'
        go_simp
        with_reducible rfl
       rotate_left
       ·
        simp only [Act.put, lA, lB, lC, i64_w, i32_w]
        rfl
       refine take_ (i := 1) (N := some 40) (v := ?_) (a' := ?_) #[true, true, true, false, true, false, false, true, false, false, false, false] rfl rfl (take_ofW HT_.out HW_.out (by kernel_rfl)) (fun _ _ _ h => h) (Or.inl ⟨by rfl, ?_⟩) hHeld ?_ ?_
       rotate_left
       ·
        rintro w' ⟨s0, s1, s2, s3, s4⟩
        go_simp
        with_reducible rfl
       rotate_left
       ·
        simp only [Act.put, lA, lB, lC, i64_w, i32_w]
        rfl
       refine take_ (i := 3) (N := some 42) (v := ?_) (a' := ?_) #[true, true, true, true, true, false, false, true, false, false, false, false] rfl rfl (take_ofW HT_.out HW_.out (by kernel_rfl)) (fun _ _ _ h => h) (Or.inl ⟨by rfl, ?_⟩) hHeld ?_ ?_
       rotate_left
       ·
        rintro w' ⟨s0, s1, s2, s3, s4⟩
        go_simp
        with_reducible rfl
       rotate_left
       ·
        simp only [Act.put, lA, lB, lC, i64_w, i32_w]
        rfl
       refine take_ (i := 5) (N := some 44) (v := ?_) (a' := ?_) #[true, true, true, true, true, true, false, true, false, false, false, false] rfl rfl (take_ofW HT_.out HW_.out (by kernel_rfl)) (fun _ _ _ h => h) (Or.inl ⟨by rfl, ?_⟩) hHeld ?_ ?_
       rotate_left
       ·
        rintro w' ⟨s0, s1, s2, s3, s4⟩
        go_simp
        with_reducible rfl
       rotate_left
       ·
        simp only [Act.put, lA, lB, lC, i64_w, i32_w]
        rfl
       refine pure_ (i := 6) (N := some 45) (v := ?_) (a' := ?_) #[true, true, true, true, true, true, true, true, false, false, false, false] rfl rfl (any_of HT_.out (by kernel_rfl)) (fun _ _ _ h => h) (Or.inl ⟨by rfl, ?_⟩) ?_ ?_
       rotate_left
       ·
        intro w'
        go_simp
        with_reducible rfl
       rotate_left
       ·
        simp only [Act.put, lA, lB, lC, i64_w, i32_w]
        rfl
       refine one_ (i := 8) (N := some 47) #[true, true, true, true, true, true, true, true, true, false, false, false] rfl rfl (one_of HT_.out (by kernel_rfl)) (by decide) (fun K hK => ?_)
       refine goes_ Tryd.func53 (by kernel_rfl) rfl #[.int .i64 (wrap64 (a0_2 - t321)), .int .u64 (IntKind.u64.wrap (a0_1))] (by rfl) rfl rfl mS ?_
       with_reducible refine (congr_rest.calls (wrap64 (a0_2 - t321)) (IntKind.u64.wrap (a0_1)) t337 _ A75.out).mono ?_
       rintro e w' ⟨rfl, ⟨nd, rfl⟩⟩
       refine ⟨_, rfl, ?_⟩
       refine hK.out _ _ ⟨cz0 BK316, cz1 BK316, cz0 BK315, cz1 BK315, cz2 BK315⟩ (fun hHeld => ?_)
       clear hK K
       refine norm_ (a' := ?_) ?_ ?_
       rotate_left
       ·
        show Act.put _ (some 47) _ = _
        simp only [Act.put, lA, lB, lC, i64_w, i32_w]
        rfl
       refine pure_ (i := 9) (N := some 48) (v := ?_) (a' := ?_) #[true, true, true, true, true, true, true, true, true, true, false, false] rfl rfl (any_of HT_.out (by kernel_rfl)) (fun _ _ _ h => h) (Or.inl ⟨by rfl, ?_⟩) ?_ ?_
       rotate_left
       ·
        intro w'
        go_simp
        with_reducible rfl
       rotate_left
       ·
        simp only [Act.put, lA, lB, lC, i64_w, i32_w]
        rfl
       refine pure_ (i := 10) (N := some 49) (v := ?_) (a' := ?_) #[true, true, true, true, true, true, true, true, true, true, true, false] rfl rfl (any_of HT_.out (by kernel_rfl)) (fun _ _ _ h => h) (Or.inl ⟨by rfl, ?_⟩) ?_ ?_
       rotate_left
       ·
        intro w'
        go_simp
        with_reducible rfl
       rotate_left
       ·
        simp only [Act.put, lA, lB, lC, i64_w, i32_w]
        rfl
       refine pure_ (i := 11) (N := some 7) (v := ?_) (a' := ?_) #[true, true, true, true, true, true, true, true, true, true, true, true] rfl rfl (any_of HT_.out (by kernel_rfl)) (fun _ _ _ h => h) (Or.inl ⟨by rfl, ?_⟩) ?_ ?_
       rotate_left
       ·
        intro w'
        go_simp
        with_reducible rfl
       rotate_left
       ·
        simp only [Act.put, lA, lB, lC, i64_w, i32_w]
        rfl
       refine done_ (done_of HT_.out (by kernel_rfl)) ?_
       try go_wp2
       (try (rw [drewN_self w114]; generalize hq_ : World.drewN w114 _ = w114; have n0_ : Aside0 (w114.heap[gb315]? = some (.cells #[.bool a0_0, .int .i64 a0_1, .int .i64 a0_2] 23 (0, 0))) := ⟨by rw [← hq_]; exact (bkS BK315)⟩; have n1_ : Aside0 (w114.heap[gb316]? = some (.cells #[.int .i64 t321, .int .i64 t322] 38 (0, 0))) := ⟨by rw [← hq_]; exact (bkS BK316)⟩; have n2_ : Aside0 (w114.heap[gb317]? = some (.cells #[.bool false, .int .i64 0, .int .i64 0] 23 (0, 0))) := ⟨by rw [← hq_]; exact (bkS BK317)⟩; have n3_ : Aside0 (w114.heap[gb318]? = some (.cells #[.int .i64 0, .int .i64 0] 38 (0, 0))) := ⟨by rw [← hq_]; exact (bkS BK318)⟩; have n4_ : Aside0 (Below w.heap.size w w114) := ⟨by rw [← hq_]; exact (bS HB)⟩; clear BK315 BK316 BK317 BK318 HB hq_; have BK315 := n0_; have BK316 := n1_; have BK317 := n2_; have BK318 := n3_; have HB := n4_; clear n0_ n1_ n2_ n3_ n4_))
       replace BK315 := Aside0.mk (blk_drew BK315.out)
       replace BK316 := Aside0.mk (blk_drew BK316.out)
       replace BK317 := Aside0.mk (blk_drew BK317.out)
       replace BK318 := Aside0.mk (blk_drew BK318.out)
       replace HB := Aside0.mk (below_drew1 HB.out)
       refine start_ (n := 12) (S := fun w' => w'.cell? ⟨gb316, 0, none⟩ = some (.int .i64 t321) ∧ w'.cell? ⟨gb316, 1, none⟩ = some (.int .i64 t322) ∧ w'.cell? ⟨gb315, 0, none⟩ = some (.bool a0_0) ∧ w'.cell? ⟨gb315, 1, none⟩ = some (.int .i64 a0_1) ∧ w'.cell? ⟨gb315, 2, none⟩ = some (.int .i64 a0_2)) (ds := []) #[false, false, false, false, false, false, false, false, false, false, false, false] (by kernel_rfl) rfl rfl ⟨cz0 BK316, cz1 BK316, cz0 BK315, cz1 BK315, cz2 BK315⟩ (fun hHeld => ?_); refine with_tabW congr_Tighten.tab10 congr_Tighten.bits10 (fun HT_ HW_ => ?_)
       generalize w114.drew = w115 at BK315 BK316 BK317 BK318 HB hHeld ⊢
       refine pure_ (i := 0) (N := some 50) (v := ?_) (a' := ?_) #[true, false, false, false, false, false, false, false, false, false, false, false] rfl rfl (any_of HT_.out (by kernel_rfl)) (fun _ _ _ h => h) (Or.inl ⟨by rfl, ?_⟩) ?_ ?_
       rotate_left
       ·
        intro w'
        go_simp
        with_reducible rfl
       rotate_left
       ·
        simp only [Act.put, lA, lB, lC, i64_w, i32_w]
        rfl
       refine pure_ (i := 2) (N := some 52) (v := ?_) (a' := ?_) #[true, false, true, false, false, false, false, false, false, false, false, false] rfl rfl (any_of HT_.out (by kernel_rfl)) (fun _ _ _ h => h) (Or.inl ⟨by rfl, ?_⟩) ?_ ?_
       rotate_left
       ·
        intro w'
        go_simp
        with_reducible rfl
       rotate_left
       ·
        simp only [Act.put, lA, lB, lC, i64_w, i32_w]
        rfl
       refine pure_ (i := 4) (N := some 54) (v := ?_) (a' := ?_) #[true, false, true, false, true, false, false, false, false, false, false, false] rfl rfl (any_of HT_.out (by kernel_rfl)) (fun _ _ _ h => h) (Or.inl ⟨by rfl, ?_⟩) ?_ ?_
       rotate_left
       ·
        intro w'
        go_simp
        with_reducible rfl
       rotate_left
       ·
        simp only [Act.put, lA, lB, lC, i64_w, i32_w]
        rfl
       refine pure_ (i := 7) (N := some 57) (v := ?_) (a' := ?_) #[true, false, true, false, true, false, false, true, false, false, false, false] rfl rfl (any_of HT_.out (by kernel_rfl)) (fun _ _ _ h => h) (Or.inl ⟨by rfl, ?_⟩) ?_ ?_
       rotate_left
       ·
        intro w'
        go_simp
        with_reducible rfl
       rotate_left
       ·
        simp only [Act.put, lA, lB, lC, i64_w, i32_w]
        rfl
       refine take_ (i := 1) (N := some 51) (v := ?_) (a' := ?_) #[true, true, true, false, true, false, false, true, false, false, false, false] rfl rfl (take_ofW HT_.out HW_.out (by kernel_rfl)) (fun _ _ _ h => h) (Or.inl ⟨by rfl, ?_⟩) hHeld ?_ ?_
       rotate_left
       ·
        rintro w' ⟨s0, s1, s2, s3, s4⟩
        go_simp
        with_reducible rfl
       rotate_left
       ·
        simp only [Act.put, lA, lB, lC, i64_w, i32_w]
        rfl
       refine take_ (i := 3) (N := some 53) (v := ?_) (a' := ?_) #[true, true, true, true, true, false, false, true, false, false, false, false] rfl rfl (take_ofW HT_.out HW_.out (by kernel_rfl)) (fun _ _ _ h => h) (Or.inl ⟨by rfl, ?_⟩) hHeld ?_ ?_
       rotate_left
       ·
        rintro w' ⟨s0, s1, s2, s3, s4⟩
        go_simp
        with_reducible rfl
       rotate_left
       ·
        simp only [Act.put, lA, lB, lC, i64_w, i32_w]
        rfl
       refine take_ (i := 5) (N := some 55) (v := ?_) (a' := ?_) #[true, true, true, true, true, true, false, true, false, false, false, false] rfl rfl (take_ofW HT_.out HW_.out (by kernel_rfl)) (fun _ _ _ h => h) (Or.inl ⟨by rfl, ?_⟩) hHeld ?_ ?_
       rotate_left
       ·
        rintro w' ⟨s0, s1, s2, s3, s4⟩
        go_simp
        with_reducible rfl
       rotate_left
       ·
        simp only [Act.put, lA, lB, lC, i64_w, i32_w]
        rfl
       refine pure_ (i := 6) (N := some 56) (v := ?_) (a' := ?_) #[true, true, true, true, true, true, true, true, false, false, false, false] rfl rfl (any_of HT_.out (by kernel_rfl)) (fun _ _ _ h => h) (Or.inl ⟨by rfl, ?_⟩) ?_ ?_
       rotate_left
       ·
        intro w'
        go_simp
        with_reducible rfl
       rotate_left
       ·
        simp only [Act.put, lA, lB, lC, i64_w, i32_w]
        rfl
       refine one_ (i := 8) (N := some 58) #[true, true, true, true, true, true, true, true, true, false, false, false] rfl rfl (one_of HT_.out (by kernel_rfl)) (by decide) (fun K hK => ?_)
       refine goes_ Tryd.func53 (by kernel_rfl) rfl #[.int .i64 (wrap64 (t322 - a0_2)), .int .u64 (IntKind.u64.wrap (a0_1))] (by rfl) rfl rfl mS ?_
       with_reducible refine (congr_rest.calls (wrap64 (t322 - a0_2)) (IntKind.u64.wrap (a0_1)) t338 _ A76.out).mono ?_
       rintro e w' ⟨rfl, ⟨nd, rfl⟩⟩
       refine ⟨_, rfl, ?_⟩
       refine hK.out _ _ ⟨cz0 BK316, cz1 BK316, cz0 BK315, cz1 BK315, cz2 BK315⟩ (fun hHeld => ?_)
       clear hK K
       refine norm_ (a' := ?_) ?_ ?_
       rotate_left
       ·
        show Act.put _ (some 58) _ = _
        simp only [Act.put, lA, lB, lC, i64_w, i32_w]
        rfl
       refine pure_ (i := 9) (N := some 59) (v := ?_) (a' := ?_) #[true, true, true, true, true, true, true, true, true, true, false, false] rfl rfl (any_of HT_.out (by kernel_rfl)) (fun _ _ _ h => h) (Or.inl ⟨by rfl, ?_⟩) ?_ ?_
       rotate_left
       ·
        intro w'
        go_simp
        with_reducible rfl
       rotate_left
       ·
        simp only [Act.put, lA, lB, lC, i64_w, i32_w]
        rfl
       refine pure_ (i := 10) (N := some 60) (v := ?_) (a' := ?_) #[true, true, true, true, true, true, true, true, true, true, true, false] rfl rfl (any_of HT_.out (by kernel_rfl)) (fun _ _ _ h => h) (Or.inl ⟨by rfl, ?_⟩) ?_ ?_
       rotate_left
       ·
        intro w'
        go_simp
        with_reducible rfl
       rotate_left
       ·
        simp only [Act.put, lA, lB, lC, i64_w, i32_w]
        rfl
       refine pure_ (i := 11) (N := some 8) (v := ?_) (a' := ?_) #[true, true, true, true, true, true, true, true, true, true, true, true] rfl rfl (any_of HT_.out (by kernel_rfl)) (fun _ _ _ h => h) (Or.inl ⟨by rfl, ?_⟩) ?_ ?_
       rotate_left
       ·
        intro w'
        go_simp
        with_reducible rfl
       rotate_left
       ·
        simp only [Act.put, lA, lB, lC, i64_w, i32_w]
        rfl
       refine done_ (done_of HT_.out (by kernel_rfl)) ?_
       try go_wp2
       (try (rw [drewN_self w115]; generalize hq_ : World.drewN w115 _ = w115; have n0_ : Aside0 (w115.heap[gb315]? = some (.cells #[.bool a0_0, .int .i64 a0_1, .int .i64 a0_2] 23 (0, 0))) := ⟨by rw [← hq_]; exact (bkS BK315)⟩; have n1_ : Aside0 (w115.heap[gb316]? = some (.cells #[.int .i64 t321, .int .i64 t322] 38 (0, 0))) := ⟨by rw [← hq_]; exact (bkS BK316)⟩; have n2_ : Aside0 (w115.heap[gb317]? = some (.cells #[.bool false, .int .i64 0, .int .i64 0] 23 (0, 0))) := ⟨by rw [← hq_]; exact (bkS BK317)⟩; have n3_ : Aside0 (w115.heap[gb318]? = some (.cells #[.int .i64 0, .int .i64 0] 38 (0, 0))) := ⟨by rw [← hq_]; exact (bkS BK318)⟩; have n4_ : Aside0 (Below w.heap.size w w115) := ⟨by rw [← hq_]; exact (bS HB)⟩; clear BK315 BK316 BK317 BK318 HB hq_; have BK315 := n0_; have BK316 := n1_; have BK317 := n2_; have BK318 := n3_; have HB := n4_; clear n0_ n1_ n2_ n3_ n4_))
       replace BK315 := Aside0.mk (blk_drew BK315.out)
       replace BK316 := Aside0.mk (blk_drew BK316.out)
       replace BK317 := Aside0.mk (blk_drew BK317.out)
       replace BK318 := Aside0.mk (blk_drew BK318.out)
       replace HB := Aside0.mk (below_drew1 HB.out)
       refine start_ (n := 6) (S := fun w' => w'.cell? ⟨gb315, 0, none⟩ = some (.bool a0_0) ∧ w'.cell? ⟨gb315, 1, none⟩ = some (.int .i64 a0_1) ∧ w'.cell? ⟨gb315, 2, none⟩ = some (.int .i64 a0_2)) (ds := []) #[false, false, false, false, false, false] (by kernel_rfl) rfl rfl ⟨cz0 BK315, cz1 BK315, cz2 BK315⟩ (fun hHeld => ?_)
       generalize w115.drew = w116 at BK315 BK316 BK317 BK318 HB hHeld ⊢
       refine pure_ (i := 1) (N := some 77) (v := ?_) (a' := ?_) #[false, true, false, false, false, false] rfl rfl (by kernel_rfl) (fun _ _ _ h => h) (Or.inl ⟨by rfl, ?_⟩) ?_ ?_
       rotate_left
       ·
        intro w'
        go_simp
        with_reducible rfl
       rotate_left
       ·
        simp only [Act.put, lA, lB, lC, i64_w, i32_w]
        rfl
       refine pure_ (i := 2) (N := some 78) (v := ?_) (a' := ?_) #[false, true, true, false, false, false] rfl rfl (by kernel_rfl) (fun _ _ _ h => h) (Or.inl ⟨by rfl, ?_⟩) ?_ ?_
       rotate_left
       ·
        intro w'
        go_simp
        with_reducible rfl
       rotate_left
       ·
        simp only [Act.put, lA, lB, lC, i64_w, i32_w]
        rfl
       refine take_ (i := 0) (N := some 76) (v := ?_) (a' := ?_) #[true, true, true, false, false, false] rfl rfl (by kernel_rfl) (fun _ _ _ h => h) (Or.inl ⟨by rfl, ?_⟩) hHeld ?_ ?_
       rotate_left
       ·
        rintro w' ⟨s0, s1, s2⟩
        go_simp
        with_reducible rfl
       rotate_left
       ·
        simp only [Act.put, lA, lB, lC, i64_w, i32_w]
        rfl
       refine one_ (i := 3) (N := some 79) #[true, true, true, true, false, false] rfl rfl (by kernel_rfl) (by decide) (fun K hK => ?_)
       refine goes_ Tryd.func75 (by kernel_rfl) rfl #[.int .i64 (wrap64 (t321 + (wrap64 (t337)))), .int .i64 (wrap64 (t322 - (wrap64 (t338))))] (by rfl) rfl rfl mS ?_
       with_reducible refine (itv_Of.calls (wrap64 (t321 + (wrap64 (t337)))) (wrap64 (t322 - (wrap64 (t338)))) t349 t350 _ A109.out).mono ?_
       rintro e w117 ⟨rfl, hb⟩
       refine ⟨_, rfl, ?_⟩
       replace BK315 := kB BK315 hb
       replace BK316 := kB BK316 hb
       replace BK317 := kB BK317 hb
       replace BK318 := kB BK318 hb
       replace HB := kW HB hb
       (try clear hb)
       (try clear hb2)
       (try clear hk)
       (try clear hi)
       refine hK.out _ _ ⟨cz0 BK315, cz1 BK315, cz2 BK315⟩ (fun hHeld => ?_)
       clear hK K
       refine norm_ (a' := ?_) ?_ ?_
       rotate_left
       ·
        show Act.put _ (some 79) _ = _
        simp only [Act.put, lA, lB, lC, i64_w, i32_w]
        rfl
       refine one_ (i := 4) (N := none) #[true, true, true, true, true, false] rfl rfl (by kernel_rfl) (by decide) (fun K hK => ?_)
       have hs118 : w117.cell? ⟨gb317, 0, none⟩ = some (.bool false) := cz0 BK317
       have hfs118 := fz BK317 0
       have hns118_0 := NB315_317.out
       have hns118_1 := NB316_317.out
       have hns118_3 := NB318_317.out
       have hms118_0 := NB317_315.out
       have hms118_1 := NB317_316.out
       have hms118_3 := NB317_318.out
       have hs119 : w117.cell? ⟨gb317, 1, none⟩ = some (.int .i64 0) := cz1 BK317
       have hfs119 := fz BK317 1
       have hns119_0 := NB315_317.out
       have hns119_1 := NB316_317.out
       have hns119_3 := NB318_317.out
       have hms119_0 := NB317_315.out
       have hms119_1 := NB317_316.out
       have hms119_3 := NB317_318.out
       have hs120 : w117.cell? ⟨gb317, 2, none⟩ = some (.int .i64 0) := cz2 BK317
       have hfs120 := fz BK317 2
       have hns120_0 := NB315_317.out
       have hns120_1 := NB316_317.out
       have hns120_3 := NB318_317.out
       have hms120_0 := NB317_315.out
       have hms120_1 := NB317_316.out
       have hms120_3 := NB317_318.out
       refine skip_ (w1 := ?_) (by rfl) rfl ?_ ?_
       rotate_left
       ·
        go_simp
        rfl
       refine hK.out _ _ ⟨((cell_far (p := ⟨gb317, _, none⟩) NB315_317.out _).trans (((cell_far (p := ⟨gb317, _, none⟩) NB315_317.out _).trans (((cell_far (p := ⟨gb317, _, none⟩) NB315_317.out _).trans (hHeld.1)))))), ((cell_far (p := ⟨gb317, _, none⟩) NB315_317.out _).trans (((cell_far (p := ⟨gb317, _, none⟩) NB315_317.out _).trans (((cell_far (p := ⟨gb317, _, none⟩) NB315_317.out _).trans (hHeld.2.1)))))), ((cell_far (p := ⟨gb317, _, none⟩) NB315_317.out _).trans (((cell_far (p := ⟨gb317, _, none⟩) NB315_317.out _).trans (((cell_far (p := ⟨gb317, _, none⟩) NB315_317.out _).trans (hHeld.2.2))))))⟩ (fun hHeld => ?_)
       clear hK K
       refine one_ (i := 5) (N := none) #[true, true, true, true, true, true] rfl rfl (by kernel_rfl) (by decide) (fun K hK => ?_)
       have hs121 : w117.cell? ⟨gb318, 0, none⟩ = some (.int .i64 0) := cz0 BK318
       have hfs121 := fz BK318 0
       have hns121_0 := NB315_318.out
       have hns121_1 := NB316_318.out
       have hns121_2 := NB317_318.out
       have hms121_0 := NB318_315.out
       have hms121_1 := NB318_316.out
       have hms121_2 := NB318_317.out
       have hs122 : w117.cell? ⟨gb318, 1, none⟩ = some (.int .i64 0) := cz1 BK318
       have hfs122 := fz BK318 1
       have hns122_0 := NB315_318.out
       have hns122_1 := NB316_318.out
       have hns122_2 := NB317_318.out
       have hms122_0 := NB318_315.out
       have hms122_1 := NB318_316.out
       have hms122_2 := NB318_317.out
       refine skip_ (w1 := ?_) (by rfl) rfl ?_ ?_
       rotate_left
       ·
        go_simp
        rfl
       refine hK.out _ _ ⟨((cell_far (p := ⟨gb318, _, none⟩) NB315_318.out _).trans (((cell_far (p := ⟨gb318, _, none⟩) NB315_318.out _).trans (hHeld.1)))), ((cell_far (p := ⟨gb318, _, none⟩) NB315_318.out _).trans (((cell_far (p := ⟨gb318, _, none⟩) NB315_318.out _).trans (hHeld.2.1)))), ((cell_far (p := ⟨gb318, _, none⟩) NB315_318.out _).trans (((cell_far (p := ⟨gb318, _, none⟩) NB315_318.out _).trans (hHeld.2.2))))⟩ (fun hHeld => ?_)
       clear hK K
       refine done_ (by kernel_rfl) ?_
       try go_wp2
       refine bodyPost_ret (results_cc rfl _ _ gb317 gb318 23 38 #[.bool a0_0, .int .i64 a0_1, .int .i64 a0_2] #[.int .i64 t349, .int .i64 t350] (0, 0) (0, 0) _ _ rfl (by (with_reducible repeat (first | refine b1 ?_ _ | refine b2 ?_ | refine b3 ?_ _)); refine blk_far ?_ NB317_318.out _; (with_reducible repeat (first | refine b1 ?_ _ | refine b2 ?_ | refine b3 ?_ _)); refine blk_far ?_ NB317_318.out _; (with_reducible repeat (first | refine b1 ?_ _ | refine b2 ?_ | refine b3 ?_ _)); refine blk_put (cs := #[.bool a0_0, .int .i64 a0_1, .int .i64 0]) ?_ 2 _ rfl; (with_reducible repeat (first | refine b1 ?_ _ | refine b2 ?_ | refine b3 ?_ _)); refine blk_put (cs := #[.bool a0_0, .int .i64 0, .int .i64 0]) ?_ 1 _ rfl; (with_reducible repeat (first | refine b1 ?_ _ | refine b2 ?_ | refine b3 ?_ _)); refine blk_put (cs := #[.bool false, .int .i64 0, .int .i64 0]) ?_ 0 _ rfl; (with_reducible repeat (first | refine b1 ?_ _ | refine b2 ?_ | refine b3 ?_ _)); exact BK317.out) Tryd.underlying23 rfl (by kernel_rfl) rfl (by (with_reducible repeat (first | refine b1 ?_ _ | refine b2 ?_ | refine b3 ?_ _)); refine blk_put (cs := #[.int .i64 t349, .int .i64 0]) ?_ 1 _ rfl; (with_reducible repeat (first | refine b1 ?_ _ | refine b2 ?_ | refine b3 ?_ _)); refine blk_put (cs := #[.int .i64 0, .int .i64 0]) ?_ 0 _ rfl; (with_reducible repeat (first | refine b1 ?_ _ | refine b2 ?_ | refine b3 ?_ _)); refine blk_far ?_ NB318_317.out _; (with_reducible repeat (first | refine b1 ?_ _ | refine b2 ?_ | refine b3 ?_ _)); refine blk_far ?_ NB318_317.out _; (with_reducible repeat (first | refine b1 ?_ _ | refine b2 ?_ | refine b3 ?_ _)); refine blk_far ?_ NB318_317.out _; (with_reducible repeat (first | refine b1 ?_ _ | refine b2 ?_ | refine b3 ?_ _)); exact BK318.out) Tryd.underlying38 rfl (by kernel_rfl)) rfl ?_
       exact ⟨eS, bS HB⟩

def gimbalref02_norm.f (a0_0 : Int) (a0_1 : Int) : Option (Int × Int) := (gimbalref02_Of.f a0_0 a0_1).bind fun bt353 => (some (bt353.1, bt353.2))
set_option maxHeartbeats 8000000 in
set_option maxRecDepth 100000 in
theorem gimbalref02_norm.calls (a0_0 : Int) (a0_1 : Int) (r1 : Int) (r2 : Int) (w : World) (h : gimbalref02_norm.f a0_0 a0_1 = some (r1, r2)) :
  Calls Tryd.prog 87 #[.agg #[.int .i64 a0_0, .int .i64 a0_1]] w fun e w' => e = .returned (.agg #[.int .i64 r1, .int .i64 r2]) ∧ Below w.heap.size w w' := by
 have hu38 := Tryd.underlying38
 have HB := Aside0.mk (Below.refl w.heap.size w)
 have H : ((gimbalref02_Of.f a0_0 a0_1).bind fun bt353 => (some (bt353.1, bt353.2))) = some (r1, r2) := h
 clear h
 replace H := Option.bind_eq_some_iff.mp H
 obtain ⟨⟨t353, t354⟩, A20, H⟩ := H
 replace H : (some (t353, t354)) = some (r1, r2) := H
 have A2 := Aside0.mk A20
 clear A20
 simp only [Option.some.injEq, Prod.mk.injEq] at H
 obtain ⟨rfl, rfl⟩ := H
 go_enter Tryd.func87, Tryd.ntmps87
 go_wp2_with (first | ((with_reducible refine gate_dst (N := 1) rfl ?_); refine box_event ?hg (N := 1) ?hd (cs := #[.int .i64 a0_0, .int .i64 a0_1]) (t := 38) ?hr ?_; (case hd => rfl); (case hg => rfl); (case hr => first | (go_simp; done) | (go_simp; rfl)); intro gb351 hg w3 hbox hb; have n0_ := kW HB hb; have n1_ := Aside0.mk (hbox); have n2_ := Aside0.mk ((by rw [hg]; exact (below_size (bS HB)) : w.heap.size ≤ gb351)); have n3_ := Aside0.mk ((by rw [hg]; exact (below_size (bS HB)) : w.heap.size ≤ gb351)); clear HB; have HB := n0_; have BK351 := n1_; have GW351 := n2_; have GE351 := n3_; clear n0_ n1_ n2_ n3_; clear hb hbox hg) | ((with_reducible refine gate_dst (N := 2) rfl ?_); refine box_event ?hg (N := 2) ?hd (cs := #[.int .i64 0, .int .i64 0]) (t := 38) ?hr ?_; (case hd => rfl); (case hg => rfl); (case hr => first | (go_simp; done) | (go_simp; rfl)); intro gb352 hg w4 hbox hb; have n0_ := kB BK351 hb; have n1_ := kW HB hb; have n2_ := Aside0.mk (hbox); have n3_ := Aside0.mk ((by rw [hg]; exact (below_size (bS HB)) : w.heap.size ≤ gb352)); have n4_ := Aside0.mk ((by rw [hg]; exact (below_size (bS HB)) : w.heap.size ≤ gb352)); have n5_ := Aside0.mk ((by rw [hg]; exact Nat.ne_of_lt (blk_lt (bkS BK351)) : gb351 ≠ gb352)); have n6_ := Aside0.mk ((by rw [hg]; exact Nat.ne_of_gt (blk_lt (bkS BK351)) : gb352 ≠ gb351)); clear BK351; clear HB; have BK351 := n0_; have HB := n1_; have BK352 := n2_; have GW352 := n3_; have GE352 := n4_; have NB351_352 := n5_; have NB352_351 := n6_; clear n0_ n1_ n2_ n3_ n4_ n5_ n6_; clear hb hbox hg; have hnb5 := NB351_352.out; have hnc5 := NB352_351.out; have hcz6_0 := cz0 BK351; have hcz6_1 := cz1 BK351; have hfz6_0 := fz BK351 0; have hfz6_1 := fz BK351 1) | ((with_reducible refine gate_callee (f := 23) rfl ?_); refine goesL_ (some 7) rfl rfl Tryd.func23 (by kernel_rfl) rfl #[.int .i64 a0_0, .int .i64 a0_1] rfl mS ?_; (with_reducible refine (gimbalref02_Of.calls a0_0 a0_1 t353 t354 _ A2.out).mono ?_); rintro e w7 ⟨rfl, hb⟩; refine ⟨_, rfl, ?_⟩; replace BK351 := kB BK351 hb; replace BK352 := kB BK352 hb; replace HB := kW HB hb; (try clear hb); (try clear hb2); (try clear hk); (try clear hi); have hcz8_0 := cz0 BK352; have hcz8_1 := cz1 BK352; have hfz8_0 := fz BK352 0; have hfz8_1 := fz BK352 1))
 refine bodyPost_ret (results_cell_row rfl _ _ gb352 38 #[.int .i64 t353, .int .i64 t354] (0, 0) _ rfl (by (with_reducible repeat (first | refine b1 ?_ _ | refine b2 ?_ | refine b3 ?_ _)); refine blk_put (cs := #[.int .i64 t353, .int .i64 0]) ?_ 1 _ rfl; (with_reducible repeat (first | refine b1 ?_ _ | refine b2 ?_ | refine b3 ?_ _)); refine blk_put (cs := #[.int .i64 0, .int .i64 0]) ?_ 0 _ rfl; (with_reducible repeat (first | refine b1 ?_ _ | refine b2 ?_ | refine b3 ?_ _)); exact BK352.out) Tryd.underlying38 rfl (by kernel_rfl)) rfl ?_
 exact ⟨eS, bS HB⟩

def gimbalref02_Has.f (a0_0 : Int) (a0_1 : Int) (a1 : Int) : Option (Bool) := (gimbalref02_norm.f a0_0 a0_1).bind fun bt356 => (if bt356.1 ≤ bt356.2 then (if bt356.1 = (-4611686018427387904) then (if bt356.2 = 4611686018427387904 then (some true) else (some (decide (a1 ≤ bt356.2)))) else (if bt356.1 ≤ a1 then (if bt356.2 = 4611686018427387904 then (some true) else (some (decide (a1 ≤ bt356.2)))) else (some false))) else (some false))
set_option maxHeartbeats 8000000 in
set_option maxRecDepth 100000 in
theorem gimbalref02_Has.calls (a0_0 : Int) (a0_1 : Int) (a1 : Int) (r : Bool) (w : World) (h : gimbalref02_Has.f a0_0 a0_1 a1 = some r) :
  Calls Tryd.prog 47 #[.agg #[.int .i64 a0_0, .int .i64 a0_1], .int .i64 a1] w fun e w' => e = .returned (.bool r) ∧ Below w.heap.size w w' := by
 have hu38 := Tryd.underlying38
 have HB := Aside0.mk (Below.refl w.heap.size w)
 have H : ((gimbalref02_norm.f a0_0 a0_1).bind fun bt356 => (if bt356.1 ≤ bt356.2 then (if bt356.1 = (-4611686018427387904) then (if bt356.2 = 4611686018427387904 then (some true) else (some (decide (a1 ≤ bt356.2)))) else (if bt356.1 ≤ a1 then (if bt356.2 = 4611686018427387904 then (some true) else (some (decide (a1 ≤ bt356.2)))) else (some false))) else (some false))) = some r := h
 clear h
 replace H := Option.bind_eq_some_iff.mp H
 obtain ⟨⟨t356, t357⟩, A30, H⟩ := H
 replace H : (if t356 ≤ t357 then (if t356 = (-4611686018427387904) then (if t357 = 4611686018427387904 then (some true) else (some (decide (a1 ≤ t357)))) else (if t356 ≤ a1 then (if t357 = 4611686018427387904 then (some true) else (some (decide (a1 ≤ t357)))) else (some false))) else (some false)) = some r := H
 have A3 := Aside0.mk A30
 clear A30
 by_cases c4 : t356 ≤ t357
 ·
  rw [if_pos c4] at H
  have c4b0 : decide (t356 ≤ t357) = true := decide_eq_true c4
  clear c4
  by_cases c5 : t356 = (-4611686018427387904)
  ·
   rw [if_pos c5] at H
   have c5b0 : (t356 == (-4611686018427387904)) = true := beq_iff_eq.mpr c5
   have c5b1 : (t356 != (-4611686018427387904)) = false := bne_eq_false_iff_eq.mpr c5
   clear c5
   by_cases c6 : t357 = 4611686018427387904
   ·
    rw [if_pos c6] at H
    have c6b0 : (t357 == 4611686018427387904) = true := beq_iff_eq.mpr c6
    have c6b1 : (t357 != 4611686018427387904) = false := bne_eq_false_iff_eq.mpr c6
    clear c6
    obtain rfl := Option.some.inj H
    go_enter Tryd.func47, Tryd.ntmps47
    go_wp2_with (first | ((with_reducible refine gate_dst (N := 2) rfl ?_); refine box_event ?hg (N := 2) ?hd (cs := #[.int .i64 a0_0, .int .i64 a0_1]) (t := 38) ?hr ?_; (case hd => rfl); (case hg => rfl); (case hr => first | (go_simp; done) | (go_simp; rfl)); intro gb355 hg w7 hbox hb; have n0_ := kW HB hb; have n1_ := Aside0.mk (hbox); have n2_ := Aside0.mk ((by rw [hg]; exact (below_size (bS HB)) : w.heap.size ≤ gb355)); have n3_ := Aside0.mk ((by rw [hg]; exact (below_size (bS HB)) : w.heap.size ≤ gb355)); clear HB; have HB := n0_; have BK355 := n1_; have GW355 := n2_; have GE355 := n3_; clear n0_ n1_ n2_ n3_; clear hb hbox hg; have hcz8_0 := cz0 BK355; have hcz8_1 := cz1 BK355; have hfz8_0 := fz BK355 0; have hfz8_1 := fz BK355 1) | ((with_reducible refine gate_callee (f := 87) rfl ?_); refine goesL_ (some 6) rfl rfl Tryd.func87 (by kernel_rfl) rfl #[.agg #[.int .i64 a0_0, .int .i64 a0_1]] rfl mS ?_; (with_reducible refine (gimbalref02_norm.calls a0_0 a0_1 t356 t357 _ A3.out).mono ?_); rintro e w9 ⟨rfl, hb⟩; refine ⟨_, rfl, ?_⟩; replace BK355 := kB BK355 hb; replace HB := kW HB hb; (try clear hb); (try clear hb2); (try clear hk); (try clear hi); have hcz10_0 := cz0 BK355; have hcz10_1 := cz1 BK355; have hfz10_0 := fz BK355 0; have hfz10_1 := fz BK355 1))
    go_ret
    exact ⟨eS, bS HB⟩
   ·
    rw [if_neg c6] at H
    have c6b0 : (t357 == 4611686018427387904) = false := beq_eq_false_iff_ne.mpr c6
    have c6b1 : (t357 != 4611686018427387904) = true := bne_iff_ne.mpr c6
    obtain rfl := Option.some.inj H
    go_enter Tryd.func47, Tryd.ntmps47
    go_wp2_with (first | ((with_reducible refine gate_dst (N := 2) rfl ?_); refine box_event ?hg (N := 2) ?hd (cs := #[.int .i64 a0_0, .int .i64 a0_1]) (t := 38) ?hr ?_; (case hd => rfl); (case hg => rfl); (case hr => first | (go_simp; done) | (go_simp; rfl)); intro gb355 hg w11 hbox hb; have n0_ := kW HB hb; have n1_ := Aside0.mk (hbox); have n2_ := Aside0.mk ((by rw [hg]; exact (below_size (bS HB)) : w.heap.size ≤ gb355)); have n3_ := Aside0.mk ((by rw [hg]; exact (below_size (bS HB)) : w.heap.size ≤ gb355)); clear HB; have HB := n0_; have BK355 := n1_; have GW355 := n2_; have GE355 := n3_; clear n0_ n1_ n2_ n3_; clear hb hbox hg; have hcz12_0 := cz0 BK355; have hcz12_1 := cz1 BK355; have hfz12_0 := fz BK355 0; have hfz12_1 := fz BK355 1) | ((with_reducible refine gate_callee (f := 87) rfl ?_); refine goesL_ (some 6) rfl rfl Tryd.func87 (by kernel_rfl) rfl #[.agg #[.int .i64 a0_0, .int .i64 a0_1]] rfl mS ?_; (with_reducible refine (gimbalref02_norm.calls a0_0 a0_1 t356 t357 _ A3.out).mono ?_); rintro e w13 ⟨rfl, hb⟩; refine ⟨_, rfl, ?_⟩; replace BK355 := kB BK355 hb; replace HB := kW HB hb; (try clear hb); (try clear hb2); (try clear hk); (try clear hi); have hcz14_0 := cz0 BK355; have hcz14_1 := cz1 BK355; have hfz14_0 := fz BK355 0; have hfz14_1 := fz BK355 1))
    go_ret
    exact ⟨eS, bS HB⟩
  ·
   rw [if_neg c5] at H
   have c5b0 : (t356 == (-4611686018427387904)) = false := beq_eq_false_iff_ne.mpr c5
   have c5b1 : (t356 != (-4611686018427387904)) = true := bne_iff_ne.mpr c5
   by_cases c15 : t356 ≤ a1
   ·
    rw [if_pos c15] at H
    have c15b0 : decide (t356 ≤ a1) = true := decide_eq_true c15
    clear c15
    by_cases c16 : t357 = 4611686018427387904
    ·
     rw [if_pos c16] at H
     have c16b0 : (t357 == 4611686018427387904) = true := beq_iff_eq.mpr c16
     have c16b1 : (t357 != 4611686018427387904) = false := bne_eq_false_iff_eq.mpr c16
     clear c16
     obtain rfl := Option.some.inj H
     go_enter Tryd.func47, Tryd.ntmps47
     go_wp2_with (first | ((with_reducible refine gate_dst (N := 2) rfl ?_); refine box_event ?hg (N := 2) ?hd (cs := #[.int .i64 a0_0, .int .i64 a0_1]) (t := 38) ?hr ?_; (case hd => rfl); (case hg => rfl); (case hr => first | (go_simp; done) | (go_simp; rfl)); intro gb355 hg w17 hbox hb; have n0_ := kW HB hb; have n1_ := Aside0.mk (hbox); have n2_ := Aside0.mk ((by rw [hg]; exact (below_size (bS HB)) : w.heap.size ≤ gb355)); have n3_ := Aside0.mk ((by rw [hg]; exact (below_size (bS HB)) : w.heap.size ≤ gb355)); clear HB; have HB := n0_; have BK355 := n1_; have GW355 := n2_; have GE355 := n3_; clear n0_ n1_ n2_ n3_; clear hb hbox hg; have hcz18_0 := cz0 BK355; have hcz18_1 := cz1 BK355; have hfz18_0 := fz BK355 0; have hfz18_1 := fz BK355 1) | ((with_reducible refine gate_callee (f := 87) rfl ?_); refine goesL_ (some 6) rfl rfl Tryd.func87 (by kernel_rfl) rfl #[.agg #[.int .i64 a0_0, .int .i64 a0_1]] rfl mS ?_; (with_reducible refine (gimbalref02_norm.calls a0_0 a0_1 t356 t357 _ A3.out).mono ?_); rintro e w19 ⟨rfl, hb⟩; refine ⟨_, rfl, ?_⟩; replace BK355 := kB BK355 hb; replace HB := kW HB hb; (try clear hb); (try clear hb2); (try clear hk); (try clear hi); have hcz20_0 := cz0 BK355; have hcz20_1 := cz1 BK355; have hfz20_0 := fz BK355 0; have hfz20_1 := fz BK355 1))
     go_ret
     exact ⟨eS, bS HB⟩
    ·
     rw [if_neg c16] at H
     have c16b0 : (t357 == 4611686018427387904) = false := beq_eq_false_iff_ne.mpr c16
     have c16b1 : (t357 != 4611686018427387904) = true := bne_iff_ne.mpr c16
     obtain rfl := Option.some.inj H
     go_enter Tryd.func47, Tryd.ntmps47
     go_wp2_with (first | ((with_reducible refine gate_dst (N := 2) rfl ?_); refine box_event ?hg (N := 2) ?hd (cs := #[.int .i64 a0_0, .int .i64 a0_1]) (t := 38) ?hr ?_; (case hd => rfl); (case hg => rfl); (case hr => first | (go_simp; done) | (go_simp; rfl)); intro gb355 hg w21 hbox hb; have n0_ := kW HB hb; have n1_ := Aside0.mk (hbox); have n2_ := Aside0.mk ((by rw [hg]; exact (below_size (bS HB)) : w.heap.size ≤ gb355)); have n3_ := Aside0.mk ((by rw [hg]; exact (below_size (bS HB)) : w.heap.size ≤ gb355)); clear HB; have HB := n0_; have BK355 := n1_; have GW355 := n2_; have GE355 := n3_; clear n0_ n1_ n2_ n3_; clear hb hbox hg; have hcz22_0 := cz0 BK355; have hcz22_1 := cz1 BK355; have hfz22_0 := fz BK355 0; have hfz22_1 := fz BK355 1) | ((with_reducible refine gate_callee (f := 87) rfl ?_); refine goesL_ (some 6) rfl rfl Tryd.func87 (by kernel_rfl) rfl #[.agg #[.int .i64 a0_0, .int .i64 a0_1]] rfl mS ?_; (with_reducible refine (gimbalref02_norm.calls a0_0 a0_1 t356 t357 _ A3.out).mono ?_); rintro e w23 ⟨rfl, hb⟩; refine ⟨_, rfl, ?_⟩; replace BK355 := kB BK355 hb; replace HB := kW HB hb; (try clear hb); (try clear hb2); (try clear hk); (try clear hi); have hcz24_0 := cz0 BK355; have hcz24_1 := cz1 BK355; have hfz24_0 := fz BK355 0; have hfz24_1 := fz BK355 1))
     go_ret
     exact ⟨eS, bS HB⟩
   ·
    rw [if_neg c15] at H
    have c15b0 : decide (t356 ≤ a1) = false := decide_eq_false c15
    clear c15
    obtain rfl := Option.some.inj H
    go_enter Tryd.func47, Tryd.ntmps47
    go_wp2_with (first | ((with_reducible refine gate_dst (N := 2) rfl ?_); refine box_event ?hg (N := 2) ?hd (cs := #[.int .i64 a0_0, .int .i64 a0_1]) (t := 38) ?hr ?_; (case hd => rfl); (case hg => rfl); (case hr => first | (go_simp; done) | (go_simp; rfl)); intro gb355 hg w25 hbox hb; have n0_ := kW HB hb; have n1_ := Aside0.mk (hbox); have n2_ := Aside0.mk ((by rw [hg]; exact (below_size (bS HB)) : w.heap.size ≤ gb355)); have n3_ := Aside0.mk ((by rw [hg]; exact (below_size (bS HB)) : w.heap.size ≤ gb355)); clear HB; have HB := n0_; have BK355 := n1_; have GW355 := n2_; have GE355 := n3_; clear n0_ n1_ n2_ n3_; clear hb hbox hg; have hcz26_0 := cz0 BK355; have hcz26_1 := cz1 BK355; have hfz26_0 := fz BK355 0; have hfz26_1 := fz BK355 1) | ((with_reducible refine gate_callee (f := 87) rfl ?_); refine goesL_ (some 6) rfl rfl Tryd.func87 (by kernel_rfl) rfl #[.agg #[.int .i64 a0_0, .int .i64 a0_1]] rfl mS ?_; (with_reducible refine (gimbalref02_norm.calls a0_0 a0_1 t356 t357 _ A3.out).mono ?_); rintro e w27 ⟨rfl, hb⟩; refine ⟨_, rfl, ?_⟩; replace BK355 := kB BK355 hb; replace HB := kW HB hb; (try clear hb); (try clear hb2); (try clear hk); (try clear hi); have hcz28_0 := cz0 BK355; have hcz28_1 := cz1 BK355; have hfz28_0 := fz BK355 0; have hfz28_1 := fz BK355 1))
    go_ret
    exact ⟨eS, bS HB⟩
 ·
  rw [if_neg c4] at H
  have c4b0 : decide (t356 ≤ t357) = false := decide_eq_false c4
  clear c4
  obtain rfl := Option.some.inj H
  go_enter Tryd.func47, Tryd.ntmps47
  go_wp2_with (first | ((with_reducible refine gate_dst (N := 2) rfl ?_); refine box_event ?hg (N := 2) ?hd (cs := #[.int .i64 a0_0, .int .i64 a0_1]) (t := 38) ?hr ?_; (case hd => rfl); (case hg => rfl); (case hr => first | (go_simp; done) | (go_simp; rfl)); intro gb355 hg w29 hbox hb; have n0_ := kW HB hb; have n1_ := Aside0.mk (hbox); have n2_ := Aside0.mk ((by rw [hg]; exact (below_size (bS HB)) : w.heap.size ≤ gb355)); have n3_ := Aside0.mk ((by rw [hg]; exact (below_size (bS HB)) : w.heap.size ≤ gb355)); clear HB; have HB := n0_; have BK355 := n1_; have GW355 := n2_; have GE355 := n3_; clear n0_ n1_ n2_ n3_; clear hb hbox hg; have hcz30_0 := cz0 BK355; have hcz30_1 := cz1 BK355; have hfz30_0 := fz BK355 0; have hfz30_1 := fz BK355 1) | ((with_reducible refine gate_callee (f := 87) rfl ?_); refine goesL_ (some 6) rfl rfl Tryd.func87 (by kernel_rfl) rfl #[.agg #[.int .i64 a0_0, .int .i64 a0_1]] rfl mS ?_; (with_reducible refine (gimbalref02_norm.calls a0_0 a0_1 t356 t357 _ A3.out).mono ?_); rintro e w31 ⟨rfl, hb⟩; refine ⟨_, rfl, ?_⟩; replace BK355 := kB BK355 hb; replace HB := kW HB hb; (try clear hb); (try clear hb2); (try clear hk); (try clear hi); have hcz32_0 := cz0 BK355; have hcz32_1 := cz1 BK355; have hfz32_0 := fz BK355 0; have hfz32_1 := fz BK355 1))
  go_ret
  exact ⟨eS, bS HB⟩

def gimballaw31_int32s.f (a0 : Int) : Option (Bool) := if a0 ≥ (-2147483648) then (some (decide (a0 ≤ 2147483647))) else (some false)
set_option maxHeartbeats 8000000 in
set_option maxRecDepth 100000 in
theorem gimballaw31_int32s.calls (a0 : Int) (r : Bool) (w : World) (h : gimballaw31_int32s.f a0 = some r) :
  Calls Tryd.prog 86 #[.int .i64 a0] w fun e w' => e = .returned (.bool r) ∧ Drawn0 w w' := by
 have H : (if a0 ≥ (-2147483648) then (some (decide (a0 ≤ 2147483647))) else (some false)) = some r := h
 clear h
 by_cases c2 : a0 ≥ (-2147483648)
 ·
  rw [if_pos c2] at H
  have c2b0 : decide ((-2147483648) ≤ a0) = true := decide_eq_true c2
  clear c2
  obtain rfl := Option.some.inj H
  go_enter Tryd.func86, Tryd.ntmps86
  go_wp2
  go_ret
  exact ⟨by first | rfl | (simp; done) | (simp [*]; done), by repeat (first | exact Drawn0.refl _ | apply Drawn0.step)⟩
 ·
  rw [if_neg c2] at H
  have c2b0 : decide ((-2147483648) ≤ a0) = false := decide_eq_false c2
  clear c2
  obtain rfl := Option.some.inj H
  go_enter Tryd.func86, Tryd.ntmps86
  go_wp2
  go_ret
  exact ⟨by first | rfl | (simp; done) | (simp [*]; done), by repeat (first | exact Drawn0.refl _ | apply Drawn0.step)⟩

def gimballaw31_holds.f (a0 : Int) (a1 : Int) (a2 : Int) : Option (Bool) := if a0 = 14 then (some (a1 == a2)) else (if a0 = 15 then (some (a1 != a2)) else (if a0 = 16 then (some (decide (a1 < a2))) else (if a0 = 17 then (some (decide (a1 ≤ a2))) else (if a0 = 18 then (some (decide (a1 > a2))) else (some (decide (a1 ≥ a2)))))))
set_option maxHeartbeats 8000000 in
set_option maxRecDepth 100000 in
theorem gimballaw31_holds.calls (a0 : Int) (a1 : Int) (a2 : Int) (r : Bool) (w : World) (h : gimballaw31_holds.f a0 a1 a2 = some r) :
  Calls Tryd.prog 46 #[.int .i64 a0, .int .i64 a1, .int .i64 a2] w fun e w' => e = .returned (.bool r) ∧ Drawn0 w w' := by
 have H : (if a0 = 14 then (some (a1 == a2)) else (if a0 = 15 then (some (a1 != a2)) else (if a0 = 16 then (some (decide (a1 < a2))) else (if a0 = 17 then (some (decide (a1 ≤ a2))) else (if a0 = 18 then (some (decide (a1 > a2))) else (some (decide (a1 ≥ a2)))))))) = some r := h
 clear h
 by_cases c4 : a0 = 14
 ·
  rw [if_pos c4] at H
  have c4b0 : (a0 == 14) = true := beq_iff_eq.mpr c4
  have c4b1 : (a0 != 14) = false := bne_eq_false_iff_eq.mpr c4
  clear c4
  obtain rfl := Option.some.inj H
  go_enter Tryd.func46, Tryd.ntmps46
  go_wp2
  go_ret
  exact ⟨by first | rfl | (simp; done) | (simp [*]; done), by repeat (first | exact Drawn0.refl _ | apply Drawn0.step)⟩
 ·
  rw [if_neg c4] at H
  have c4b0 : (a0 == 14) = false := beq_eq_false_iff_ne.mpr c4
  have c4b1 : (a0 != 14) = true := bne_iff_ne.mpr c4
  by_cases c5 : a0 = 15
  ·
   rw [if_pos c5] at H
   have c5b0 : (a0 == 15) = true := beq_iff_eq.mpr c5
   have c5b1 : (a0 != 15) = false := bne_eq_false_iff_eq.mpr c5
   clear c5
   obtain rfl := Option.some.inj H
   go_enter Tryd.func46, Tryd.ntmps46
   go_wp2
   go_ret
   exact ⟨by first | rfl | (simp; done) | (simp [*]; done), by repeat (first | exact Drawn0.refl _ | apply Drawn0.step)⟩
  ·
   rw [if_neg c5] at H
   have c5b0 : (a0 == 15) = false := beq_eq_false_iff_ne.mpr c5
   have c5b1 : (a0 != 15) = true := bne_iff_ne.mpr c5
   by_cases c6 : a0 = 16
   ·
    rw [if_pos c6] at H
    have c6b0 : (a0 == 16) = true := beq_iff_eq.mpr c6
    have c6b1 : (a0 != 16) = false := bne_eq_false_iff_eq.mpr c6
    clear c6
    obtain rfl := Option.some.inj H
    go_enter Tryd.func46, Tryd.ntmps46
    go_wp2
    go_ret
    exact ⟨by first | rfl | (simp; done) | (simp [*]; done), by repeat (first | exact Drawn0.refl _ | apply Drawn0.step)⟩
   ·
    rw [if_neg c6] at H
    have c6b0 : (a0 == 16) = false := beq_eq_false_iff_ne.mpr c6
    have c6b1 : (a0 != 16) = true := bne_iff_ne.mpr c6
    by_cases c7 : a0 = 17
    ·
     rw [if_pos c7] at H
     have c7b0 : (a0 == 17) = true := beq_iff_eq.mpr c7
     have c7b1 : (a0 != 17) = false := bne_eq_false_iff_eq.mpr c7
     clear c7
     obtain rfl := Option.some.inj H
     go_enter Tryd.func46, Tryd.ntmps46
     go_wp2
     go_ret
     exact ⟨by first | rfl | (simp; done) | (simp [*]; done), by repeat (first | exact Drawn0.refl _ | apply Drawn0.step)⟩
    ·
     rw [if_neg c7] at H
     have c7b0 : (a0 == 17) = false := beq_eq_false_iff_ne.mpr c7
     have c7b1 : (a0 != 17) = true := bne_iff_ne.mpr c7
     by_cases c8 : a0 = 18
     ·
      rw [if_pos c8] at H
      have c8b0 : (a0 == 18) = true := beq_iff_eq.mpr c8
      have c8b1 : (a0 != 18) = false := bne_eq_false_iff_eq.mpr c8
      clear c8
      obtain rfl := Option.some.inj H
      go_enter Tryd.func46, Tryd.ntmps46
      go_wp2
      go_ret
      exact ⟨by first | rfl | (simp; done) | (simp [*]; done), by repeat (first | exact Drawn0.refl _ | apply Drawn0.step)⟩
     ·
      rw [if_neg c8] at H
      have c8b0 : (a0 == 18) = false := beq_eq_false_iff_ne.mpr c8
      have c8b1 : (a0 != 18) = true := bne_iff_ne.mpr c8
      obtain rfl := Option.some.inj H
      go_enter Tryd.func46, Tryd.ntmps46
      go_wp2
      go_ret
      exact ⟨by first | rfl | (simp; done) | (simp [*]; done), by repeat (first | exact Drawn0.refl _ | apply Drawn0.step)⟩

end Go.Proofs.YtfmmjekhknaniaaDoor.Pr

namespace Go.Proofs.YtfmmjekhknaniaaDoor.Core
open Go.RowKit Go.Proofs.YtfmmjekhknaniaaDoor.Pr Go.Proofs.YtfmmjekhknaniaaDoor.Given Go.Proofs.YtfmmjekhknaniaaDoorW.PrintWords

abbrev Iv := Int × Int
def Sound (i : Iv) : Prop := ofI i.1 i.2 = i

theorem sound_iff {i : Iv} : Sound i ↔ i = (1, 0) ∨ (i.1 ≤ i.2 ∧ -4611686018427387904 ≤ i.1 ∧ i.1 < 4611686018427387904 ∧ -4611686018427387904 < i.2 ∧ i.2 ≤ 4611686018427387904) := by
  obtain ⟨a, b⟩ := i
  unfold Sound ofI
  simp only
  by_cases h : b < a
  · rw [if_pos h]
    constructor
    · intro e; exact Or.inl e.symm
    · rintro (e | e)
      · exact e.symm
      · omega
  · rw [if_neg h]
    constructor
    · intro e
      right
      obtain ⟨e1, e2⟩ := Prod.mk.inj e
      split at e1 <;> (split at e2 <;> (try split at e1) <;> (try split at e2) <;> omega)
    · rintro (e | e)
      · obtain ⟨e1, e2⟩ := Prod.mk.inj e; omega
      · obtain ⟨_, h1, h2, h3, h4⟩ := e
        congr 1
        · split <;> (try split) <;> omega
        · split <;> (try split) <;> omega

theorem ofI_id {a b : Int} (h : a ≤ b) (h1 : -4611686018427387904 ≤ a) (h2 : a < 4611686018427387904) (h3 : -4611686018427387904 < b) (h4 : b ≤ 4611686018427387904) : ofI a b = (a, b) :=
  (sound_iff (i := (a, b))).mpr (Or.inr ⟨h, h1, h2, h3, h4⟩)
theorem ofI_none {a b : Int} (h : b < a) : ofI a b = (1, 0) := by unfold ofI; rw [if_pos h]

/-- an interval's int32. -/
def mi (i : Iv) : Iv :=
  if i.2 < i.1 then (1, 0)
  else if min i.2 2147483647 < max i.1 (-2147483648) then (1, 0)
  else (max i.1 (-2147483648), min i.2 2147483647)

theorem mi_range (i : Iv) : mi i = (1, 0) ∨ (-2147483648 ≤ (mi i).1 ∧ (mi i).1 ≤ (mi i).2 ∧ (mi i).2 ≤ 2147483647) := by
  unfold mi
  by_cases h : i.2 < i.1
  · rw [if_pos h]; exact Or.inl rfl
  · rw [if_neg h]
    by_cases g : min i.2 2147483647 < max i.1 (-2147483648)
    · rw [if_pos g]; exact Or.inl rfl
    · rw [if_neg g]
      right
      dsimp only
      omega

theorem mi_mem {i : Iv} {x : Int} (hx : In32 x) : ((mi i).1 ≤ x ∧ x ≤ (mi i).2) ↔ (i.1 ≤ x ∧ x ≤ i.2) := by
  unfold In32 at hx
  unfold mi
  by_cases h : i.2 < i.1
  · rw [if_pos h]; dsimp only; omega
  · rw [if_neg h]
    by_cases g : min i.2 2147483647 < max i.1 (-2147483648)
    · rw [if_pos g]; dsimp only; omega
    · rw [if_neg g]; dsimp only; omega

theorem mx_max (a b : Int) : mx a b = max a b := by unfold mx; split <;> omega
theorem mn_min (a b : Int) : mn a b = min a b := by unfold mn; split <;> omega

theorem mi_of {i : Iv} (hr : i.1 ≤ i.2) : ofI (max i.1 (-2147483648)) (min i.2 2147483647) = mi i := by
  unfold mi
  rw [if_neg (by omega)]
  by_cases g : min i.2 2147483647 < max i.1 (-2147483648)
  · rw [if_pos g, ofI_none g]
  · rw [if_neg g, ofI_id (by omega) (by omega) (by omega) (by omega) (by omega)]

theorem itvMeet_f {i : Iv} (h : Sound i) (k : Nat) : itv_Meet.f (k + 1) i.1 i.2 (-2147483648) 2147483647 = some (mi i) := by
  unfold Sound at h
  unfold itv_Meet.f itv_sound.f itv_Of.f itv_None.f
  rw [h, ofI_id (a := -2147483648) (b := 2147483647) (by omega) (by omega) (by omega) (by omega) (by omega)]
  simp only [Option.bind_some]
  by_cases c : i.2 < i.1
  · unfold mi
    rw [if_pos c, if_pos (by simp; omega)]
    simp [itv_Meet.j0, itv_Empty.f]
  · rw [if_neg (by simp; omega)]
    simp only [itv_Meet.j0, itv_Of.f]
    rw [if_neg (by simp), mx_max, mn_min, mi_of (by omega)]; rfl
theorem itvType_f : itv_Type.f 3 = some (-2147483648, 2147483647) := by decide +kernel
/-- is a number in an interval of int32? -/
theorem itvHas_f {i : Iv} (h : i = (1, 0) ∨ (-2147483648 ≤ i.1 ∧ i.1 ≤ i.2 ∧ i.2 ≤ 2147483647)) (x : Int) : itv_Has.f i.1 i.2 x = some (decide (i.1 ≤ x ∧ x ≤ i.2)) := by
  have hs : ofI i.1 i.2 = i := by
    rcases h with e | e
    · rw [e]; rfl
    · exact sound_iff.mpr (Or.inr (by omega))
  unfold itv_Has.f itv_sound.f itv_Of.f itv_None.f
  rw [hs]
  simp only [Option.bind_some]
  rcases h with e | e
  · subst e
    simp
    omega
  · rw [if_neg (by simp; omega), if_neg (by omega)]
    by_cases c : i.1 ≤ x
    · rw [if_pos c, if_neg (by omega)]; simp [c]
    · rw [if_neg c]; simp [c]
/-- a congruence and an interval, tightened by one another. -/
def tightS (c : Cg) (i : Iv) : Cg × Iv :=
  if c.1 = true ∨ (mi i).2 < (mi i).1 then ((true, 0, 0), (1, 0))
  else if c.2.1 = 0 then (if (mi i).1 ≤ c.2.2 ∧ c.2.2 ≤ (mi i).2 then (c, (c.2.2, c.2.2)) else ((true, 0, 0), (1, 0)))
  else if (mi i).2 - ((mi i).2 - c.2.2) % c.2.1 < (mi i).1 + (c.2.2 - (mi i).1) % c.2.1 then ((true, 0, 0), (1, 0))
  else if (mi i).1 + (c.2.2 - (mi i).1) % c.2.1 = (mi i).2 - ((mi i).2 - c.2.2) % c.2.1 then ((false, 0, (mi i).1 + (c.2.2 - (mi i).1) % c.2.1), ((mi i).1 + (c.2.2 - (mi i).1) % c.2.1, (mi i).1 + (c.2.2 - (mi i).1) % c.2.1))
  else (c, ((mi i).1 + (c.2.2 - (mi i).1) % c.2.1, (mi i).2 - ((mi i).2 - c.2.2) % c.2.1))

def flat5 (t : Cg × Iv) : Bool × Int × Int × Int × Int := (t.1.1, t.1.2.1, t.1.2.2, t.2.1, t.2.2)

theorem const32 {x : Int} (h : In32 x) : norm 0 x = (false, 0, x) := by unfold norm; rw [if_pos rfl, if_pos h]

theorem Tighten_f {c : Cg} (hc : Fit c) {i : Iv} (hi : Sound i) (k : Nat) : congr_Tighten.f (k + 2) c.1 c.2.1 c.2.2 i.1 i.2 = some (flat5 (tightS c i)) := by
  have mc := fit_mod hc
  have fc := fit_rem hc
  have hr := mi_range i
  unfold congr_Tighten.f tightS
  rw [itvType_f]
  simp only [Option.bind_some]
  rw [show k + 2 = (k + 1) + 1 by omega, itvMeet_f hi]
  simp only [Option.bind_some]
  generalize mi i = j at *
  by_cases h1 : c.1 = true
  · rw [if_pos h1, if_pos (Or.inl h1)]; simp [congr_Tighten.j0, congr_none.f, itv_Empty.f, flat5]
  rw [if_neg h1]
  simp only [itv_None.f, Option.bind_some, congr_Tighten.j0]
  by_cases h2 : j.2 < j.1
  · rw [if_pos (by simp; omega), if_pos (Or.inr h2)]; simp [congr_none.f, itv_Empty.f, flat5]
  have hj : -2147483648 ≤ j.1 ∧ j.1 ≤ j.2 ∧ j.2 ≤ 2147483647 := by
    rcases hr with e | e
    · rw [e] at h2; simp at h2
    · exact e
  have hor : ¬ (c.1 = true ∨ j.2 < j.1) := fun e => e.elim h1 h2
  rw [if_neg (by simp; omega), if_neg hor]
  by_cases h3 : c.2.1 = 0
  · rw [if_pos h3, if_pos h3, itvHas_f hr]
    simp only [Option.bind_some]
    by_cases h4 : j.1 ≤ c.2.2 ∧ c.2.2 ≤ j.2
    · rw [if_pos (by simp [h4]), if_pos h4]
      simp only [itv_Of.f, Option.bind_some]
      rw [ofI_id (by omega) (by omega) (by omega) (by omega) (by omega)]; rfl
    · rw [if_neg (by simp; omega), if_neg h4]; rfl
  · have hm0 : 0 < c.2.1 := by omega
    have a0 := Int.emod_nonneg (c.2.2 - j.1) h3
    have a1 := Int.emod_lt_of_pos (c.2.2 - j.1) hm0
    have b0 := Int.emod_nonneg (j.2 - c.2.2) h3
    have b1 := Int.emod_lt_of_pos (j.2 - c.2.2) hm0
    rw [if_neg h3, if_neg h3, u64_id (n := c.2.1) (by omega) (by omega), w64_id (n := c.2.2 - j.1) (by omega) (by omega), w64_id (n := j.2 - c.2.2) (by omega) (by omega),
      rest_f (by omega) (by omega) hm0 (by omega), rest_f (by omega) (by omega) hm0 (by omega)]
    simp only [Option.bind_some]
    generalize (c.2.2 - j.1) % c.2.1 = p at *
    generalize (j.2 - c.2.2) % c.2.1 = q at *
    rw [w64_id (n := p) (by omega) (by omega), w64_id (n := q) (by omega) (by omega), w64_id (n := j.1 + p) (by omega) (by omega), w64_id (n := j.2 - q) (by omega) (by omega)]
    by_cases h4 : j.1 + p > j.2 - q
    · rw [if_pos h4, if_pos (show j.2 - q < j.1 + p by omega)]; rfl
    · rw [if_neg h4, if_neg (show ¬ j.2 - q < j.1 + p by omega)]
      by_cases h5 : j.1 + p = j.2 - q
      · rw [if_pos h5, if_pos h5, constant_f, const32 (by unfold In32; omega)]
        simp only [itv_Of.f, Option.bind_some]
        rw [ofI_id (by omega) (by omega) (by omega) (by omega) (by omega)]; rfl
      · rw [if_neg h5, if_neg h5]
        simp only [itv_Of.f, Option.bind_some]
        rw [ofI_id (by omega) (by omega) (by omega) (by omega) (by omega)]; rfl

/-- what a tightened pair says. -/
def InJ (i : Iv) (x : Int) : Prop := (mi i).1 ≤ x ∧ x ≤ (mi i).2
theorem tight_spec {c : Cg} (hc : Fit c) (i : Iv) :
    (tightS c i = ((true, 0, 0), (1, 0)) ∧ ∀ x, Mem c x → ¬ InJ i x) ∨
    ∃ lo hi, Mem c lo ∧ Mem c hi ∧ InJ i lo ∧ InJ i hi ∧ lo ≤ hi ∧ (∀ x, Mem c x → InJ i x → lo ≤ x ∧ x ≤ hi) ∧ (tightS c i).2 = (lo, hi) ∧ (tightS c i).1 = if lo = hi then (false, 0, lo) else c := by
  have mc := fit_mod hc
  have fc := fit_rem hc
  have hr := mi_range i
  unfold tightS InJ
  generalize mi i = j at *
  by_cases h1 : c.1 = true
  · left; rw [if_pos (Or.inl h1)]
    exact ⟨rfl, fun x hx => by rw [hx.1] at h1; cases h1⟩
  by_cases h2 : j.2 < j.1
  · left; rw [if_pos (Or.inr h2)]
    exact ⟨rfl, fun x _ => by omega⟩
  have hj : -2147483648 ≤ j.1 ∧ j.1 ≤ j.2 ∧ j.2 ≤ 2147483647 := by
    rcases hr with e | e
    · rw [e] at h2; simp at h2
    · exact e
  have hor : ¬ (c.1 = true ∨ j.2 < j.1) := fun e => e.elim h1 h2
  rw [if_neg hor]
  by_cases h3 : c.2.1 = 0
  · have only : ∀ x, Mem c x → x = c.2.2 := fun x hx => by
      have := hx.2.2
      rw [h3, Int.zero_dvd] at this
      omega
    rw [if_pos h3]
    by_cases h4 : j.1 ≤ c.2.2 ∧ c.2.2 ≤ j.2
    · right
      have hm : Mem c c.2.2 := ⟨bfalse h1, by unfold In32; omega, by rw [Int.sub_self]; exact Int.dvd_zero _⟩
      rw [if_pos h4]
      refine ⟨c.2.2, c.2.2, hm, hm, h4, h4, Int.le_refl _, fun x hx _ => by rw [only x hx]; omega, rfl, ?_⟩
      rw [if_pos rfl]
      have := bfalse h1
      obtain ⟨c1, c2, c3⟩ := c
      dsimp only at this h3 ⊢
      rw [this, h3]
    · left; rw [if_neg h4]
      exact ⟨rfl, fun x hx => by rw [only x hx]; exact h4⟩
  · have hm0 : 0 < c.2.1 := by omega
    have a0 := Int.emod_nonneg (c.2.2 - j.1) h3
    have a1 := Int.emod_lt_of_pos (c.2.2 - j.1) hm0
    have a2 := emod_dvd_sub c.2.1 (c.2.2 - j.1)
    have b0 := Int.emod_nonneg (j.2 - c.2.2) h3
    have b1 := Int.emod_lt_of_pos (j.2 - c.2.2) hm0
    have b2 := emod_dvd_sub c.2.1 (j.2 - c.2.2)
    rw [if_neg h3]
    generalize (c.2.2 - j.1) % c.2.1 = p at *
    generalize (j.2 - c.2.2) % c.2.1 = q at *
    have dl : c.2.1 ∣ j.1 + p - c.2.2 := by
      have := dvd_sub_comm' a2
      rwa [show p - (c.2.2 - j.1) = j.1 + p - c.2.2 by omega] at this
    have dh : c.2.1 ∣ j.2 - q - c.2.2 := by
      rwa [show j.2 - c.2.2 - q = j.2 - q - c.2.2 by omega] at b2
    have bound : ∀ x, Mem c x → (j.1 ≤ x ∧ x ≤ j.2) → j.1 + p ≤ x ∧ x ≤ j.2 - q := fun x hx hj' => by
      constructor
      · exact ge_of_dvd hm0 (dvd_sub_trans hx.2.2 (dvd_sub_comm' dl)) (by omega)
      · exact ge_of_dvd hm0 (dvd_sub_trans dh (dvd_sub_comm' hx.2.2)) (by omega)
    by_cases h4 : j.2 - q < j.1 + p
    · left; rw [if_pos h4]
      exact ⟨rfl, fun x hx hj' => by have := bound x hx hj'; omega⟩
    · right
      rw [if_neg h4]
      refine ⟨j.1 + p, j.2 - q, ⟨bfalse h1, by unfold In32; omega, dl⟩, ⟨bfalse h1, by unfold In32; omega, dh⟩, by omega, by omega, by omega, bound, ?_, ?_⟩
      · by_cases h5 : j.1 + p = j.2 - q
        · rw [if_pos h5]; exact congrArg (Prod.mk (j.1 + p)) h5
        · rw [if_neg h5]
      · by_cases h5 : j.1 + p = j.2 - q
        · rw [if_pos h5, if_pos h5]
        · rw [if_neg h5, if_neg h5]

def Holds (op x y : Int) : Prop := if op = 14 then x = y else if op = 15 then x ≠ y else if op = 16 then x < y else if op = 17 then x ≤ y else if op = 18 then y < x else y ≤ x
instance (op x y : Int) : Decidable (Holds op x y) := by unfold Holds; infer_instance
theorem holds_f (op x y : Int) : congr_holds.f op x y = some (decide (Holds op x y)) := by
  unfold congr_holds.f Holds
  (repeat' split) <;> simp
  all_goals (first | exact beq_bool (by simp) | rfl | skip)
theorem lholds_f (op x y : Int) : gimballaw31_holds.f op x y = some (decide (Holds op x y)) := holds_f op x y

/-- what is left where a comparison holds; r: what both have. -/
def testS (op : Int) (a b r : Cg) : Cg × Cg :=
  if op < 14 ∨ 19 < op then (a, b)
  else if a.1 = true ∨ b.1 = true ∨ (a.2.1 = 0 ∧ b.2.1 = 0 ∧ ¬ Holds op a.2.2 b.2.2) then ((true, 0, 0), (true, 0, 0))
  else if op = 14 then (r, r) else (a, b)
def flat6 (t : Cg × Cg) : Bool × Int × Int × Bool × Int × Int := (t.1.1, t.1.2.1, t.1.2.2, t.2.1, t.2.2.1, t.2.2.2)

theorem Test_f {a b r : Cg} (op : Int) (hr : Ev (fun k => congr_Meet.f k a.1 a.2.1 a.2.2 b.1 b.2.1 b.2.2) r) :
    Ev (fun k => congr_Test.f k op a.1 a.2.1 a.2.2 b.1 b.2.1 b.2.2) (flat6 (testS op a b r)) := by
  obtain ⟨K, hK⟩ := hr
  refine ⟨K + 5, fun k hk => ?_⟩
  obtain ⟨j, rfl⟩ : ∃ j, k = j + 2 := ⟨k - 2, by omega⟩
  dsimp only at hK ⊢
  unfold congr_Test.f testS
  by_cases h1 : op < 14
  · rw [if_pos h1, if_pos (Or.inl h1)]; simp [congr_Test.j0, flat6]
  rw [if_neg h1]
  by_cases h2 : op > 19
  · rw [show decide (op > 19) = true by simp [h2], if_pos (Or.inr h2)]; simp [congr_Test.j0, flat6]
  rw [show decide (op > 19) = false by simp [h2], if_neg (show ¬ (op < 14 ∨ 19 < op) by omega)]
  simp only [congr_Test.j0, Bool.false_eq_true, if_false]
  have none1 : congr_Test.j1 (j + 1) op true a.1 a.2.1 a.2.2 b.1 b.2.1 b.2.2 = some (flat6 ((true, 0, 0), (true, 0, 0))) := by
    simp [congr_Test.j1, congr_none.f, flat6]
  have rest1 : congr_Test.j1 (j + 1) op false a.1 a.2.1 a.2.2 b.1 b.2.1 b.2.2 = some (flat6 (if op = 14 then (r, r) else (a, b))) := by
    simp only [congr_Test.j1, Bool.false_eq_true, if_false]
    split
    · rw [hK _ (by omega)]; rfl
    · rfl
  by_cases h3 : a.1 = true
  · rw [if_pos h3, if_pos (Or.inl h3), none1]
  rw [if_neg h3]
  by_cases h4 : b.1 = true
  · rw [if_pos h4, if_pos (Or.inr (Or.inl h4)), none1]
  rw [if_neg h4]
  have neg : ¬ (a.2.1 = 0 ∧ b.2.1 = 0 ∧ ¬ Holds op a.2.2 b.2.2) → ¬ (a.1 = true ∨ b.1 = true ∨ (a.2.1 = 0 ∧ b.2.1 = 0 ∧ ¬ Holds op a.2.2 b.2.2)) := fun n e => e.elim h3 (fun e => e.elim h4 n)
  by_cases h5 : a.2.1 = 0
  · rw [if_pos h5]
    by_cases h6 : b.2.1 = 0
    · rw [if_pos h6, holds_f]
      simp only [Option.bind_some]
      by_cases h7 : Holds op a.2.2 b.2.2
      · rw [show (!decide (Holds op a.2.2 b.2.2)) = false by simp [h7], rest1, if_neg (neg fun e => e.2.2 h7)]
      · rw [show (!decide (Holds op a.2.2 b.2.2)) = true by simp [h7], none1, if_pos (Or.inr (Or.inr ⟨h5, h6, h7⟩))]
    · rw [if_neg h6, rest1, if_neg (neg fun e => h6 e.2.1)]
  · rw [if_neg h5, rest1, if_neg (neg fun e => h5 e.1)]

theorem fit_test {op : Int} {a b r : Cg} (ha : Fit a) (hb : Fit b) (hr : Fit r) : Fit (testS op a b r).1 ∧ Fit (testS op a b r).2 := by
  unfold testS
  (repeat' split) <;> first | exact ⟨ha, hb⟩ | exact ⟨fit_none, fit_none⟩ | exact ⟨hr, hr⟩

theorem mem_test {op : Int} {a b r : Cg} {x y : Int} (hr : IsMeet a b r) (hx : Mem a x) (hy : Mem b y) (h : op < 14 ∨ 19 < op ∨ Holds op x y) : Mem (testS op a b r).1 x ∧ Mem (testS op a b r).2 y := by
  unfold testS
  by_cases h1 : op < 14 ∨ 19 < op
  · rw [if_pos h1]; exact ⟨hx, hy⟩
  have hh : Holds op x y := by
    rcases h with h | h | h
    · exact absurd (Or.inl h) h1
    · exact absurd (Or.inr h) h1
    · exact h
  rw [if_neg h1, if_neg]
  · by_cases h2 : op = 14
    · rw [if_pos h2]
      unfold Holds at hh
      rw [if_pos h2] at hh
      subst hh
      exact ⟨(hr.2 x).mpr ⟨hx, hy⟩, (hr.2 x).mpr ⟨hx, hy⟩⟩
    · rw [if_neg h2]; exact ⟨hx, hy⟩
  · rintro (e | e | ⟨e1, e2, e3⟩)
    · rw [hx.1] at e; cases e
    · rw [hy.1] at e; cases e
    · have i := hx.2.2
      have j := hy.2.2
      rw [e1, Int.zero_dvd] at i
      rw [e2, Int.zero_dvd] at j
      rw [show a.2.2 = x by omega, show b.2.2 = y by omega] at e3
      exact e3 hh

/-- does a sound interval have a number? -/
def hasI (i : Iv) (x : Int) : Prop := i.1 ≤ i.2 ∧ (i.1 = -4611686018427387904 ∨ i.1 ≤ x) ∧ (i.2 = 4611686018427387904 ∨ x ≤ i.2)
instance (i : Iv) (x : Int) : Decidable (hasI i x) := by unfold hasI; infer_instance
theorem r02HasI_f {i : Iv} (h : Sound i) (x : Int) : gimbalref02_Has.f i.1 i.2 x = some (decide (hasI i x)) := by
  unfold Sound at h
  unfold gimbalref02_Has.f gimbalref02_norm.f gimbalref02_Of.f
  rw [h]
  simp only [Option.bind_some]
  have fin : ∀ b : Bool, (b = true ↔ hasI i x) → some b = some (decide (hasI i x)) := fun b hb => by
    congr 1
    exact beq_bool (by rw [hb]; simp)
  unfold hasI at fin ⊢
  by_cases c1 : i.1 ≤ i.2
  · rw [if_pos c1]
    by_cases c2 : i.1 = -4611686018427387904
    · rw [if_pos c2]
      by_cases c3 : i.2 = 4611686018427387904
      · rw [if_pos c3]; exact fin _ (by simp; omega)
      · rw [if_neg c3]; exact fin _ (by simp; omega)
    · rw [if_neg c2]
      by_cases c4 : i.1 ≤ x
      · rw [if_pos c4]
        by_cases c3 : i.2 = 4611686018427387904
        · rw [if_pos c3]; exact fin _ (by simp; omega)
        · rw [if_neg c3]; exact fin _ (by simp; omega)
      · rw [if_neg c4]; exact fin _ (by simp; omega)
  · rw [if_neg c1]; exact fin _ (by simp; omega)

theorem fit_tight {c : Cg} (hc : Fit c) (i : Iv) : Fit (tightS c i).1 ∧ Sound (tightS c i).2 := by
  rcases tight_spec hc i with ⟨e, _⟩ | ⟨lo, hi, h1, h2, h3, h4, h5, _, e2, e1⟩
  · rw [e]; exact ⟨fit_none, rfl⟩
  · have a := h1.2.1
    have b := h2.2.1
    unfold In32 at a b
    rw [e1, e2]
    refine ⟨?_, ofI_id (by omega) (by omega) (by omega) (by omega) (by omega)⟩
    split
    · exact Or.inr (Or.inl ⟨rfl, rfl, h1.2.1⟩)
    · exact hc

theorem mem_tight {c : Cg} (hc : Fit c) {i : Iv} {x : Int} (hx : Mem c x) (hi : hasI i x) : Mem (tightS c i).1 x ∧ hasI (tightS c i).2 x := by
  have hJ : InJ i x := by
    have a := hx.2.1
    refine (mi_mem a).mpr ?_
    unfold In32 at a
    unfold hasI at hi
    omega
  rcases tight_spec hc i with ⟨_, h⟩ | ⟨lo, hi', h1, h2, h3, h4, h5, h6, e2, e1⟩
  · exact absurd hJ (h x hx)
  · have b := h6 x hx hJ
    rw [e1, e2]
    constructor
    · split
      · rename_i e
        rw [show x = lo by omega]
        exact ⟨rfl, h1.2.1, by simp⟩
      · exact hx
    · exact ⟨h5, Or.inr b.1, Or.inr b.2⟩

end Go.Proofs.YtfmmjekhknaniaaDoor.Core

namespace Go.Proofs.YtfmmjekhknaniaaDoor.Given
open Go.RowKit Go.Proofs.YtfmmjekhknaniaaDoor.Pr Go.Proofs.YtfmmjekhknaniaaDoor.Core
attribute [local go_sem high] eqA23

theorem of811 (w : World) : Calls Tryd.prog 10 #[.int .i64 8, .int .i64 11] w fun e w' => e = .returned (.agg #[.bool false, .int .i64 8, .int .i64 3]) ∧ Below w.heap.size w w' :=
  congr_Of.calls 1 8 11 false 8 3 w (by rw [Of_f (by omega) (by omega) (by omega) (by omega) 0]; decide +kernel)
theorem has833 (w : World) : Calls Tryd.prog 14 #[.agg #[.bool false, .int .i64 8, .int .i64 3], .int .i64 (-5)] w fun e w' => e = .returned (.bool true) ∧ Below w.heap.size w w' :=
  congr_Has.calls 8 false 8 3 (-5) true w (by decide +kernel)

def gimballaw31_awake.f : Option Bool := some true
set_option maxRecDepth 100000 in
theorem gimballaw31_awake.calls (r : Bool) (w : World) (h : gimballaw31_awake.f = some r) :
    Calls Tryd.prog 18 #[] w fun e w' => e = .returned (.bool r) ∧ Below w.heap.size w w' := by
  obtain rfl : true = r := Option.some.inj h
  clear h
  have hb0 := Below.refl w.heap.size w
  go_enter Tryd.func18, Tryd.ntmps18
  go_wp2_with (first | (go_at_call 10; with_reducible refine (of811 _).mono ?_; rintro e w' ⟨rfl, hb⟩; replace hb0 := hb0.trans (hb.mono hb0.size); clear hb) | (go_at_call 14; with_reducible refine (has833 _).mono ?_; rintro e w' ⟨rfl, hb⟩; replace hb0 := hb0.trans (hb.mono hb0.size); clear hb) | (go_at_call 16; with_reducible refine (congr_Text.calls false 8 3 _ _ rfl).mono ?_; rintro e w' ⟨rfl, hb⟩; replace hb0 := hb0.trans (hb.mono hb0.size); clear hb))
  go_ret
  exact ⟨rfl, hb0⟩
end Go.Proofs.YtfmmjekhknaniaaDoor.Given

namespace Go.Proofs.YtfmmjekhknaniaaDoor.Lr
open Go.ChangeShapes Go.WideShapes Go.ChangeAt Go.RowKit Go.Deep Go.Proofs.YtfmmjekhknaniaaDoor.Core Go.Proofs.YtfmmjekhknaniaaDoor.Pr Go.Proofs.YtfmmjekhknaniaaDoor.Given Go.Proofs.YtfmmjekhknaniaaDoorW.PrintWords
set_option maxRecDepth 100000

theorem fitB_false {c : Cg} (h : ¬ Fit c) : fitB c = false := by
  cases hb : fitB c with
  | false => rfl
  | true => exact absurd (fitB_iff.mp hb) h
theorem fit_t {c : Cg} (h : Fit c) (h1 : I64 c.2.1) (h2 : I64 c.2.2) (w : World) : Calls Tryd.prog 13 #[.agg #[.bool c.1, .int .i64 c.2.1, .int .i64 c.2.2]] w fun e w' => e = .returned (.bool true) ∧ Below w.heap.size w w' :=
  gimbalref31_Fit.calls 8 _ _ _ _ w (by rw [rFit_f c h1 h2 0, fitB_iff.mpr h])
theorem fit_n {c : Cg} (h : ¬ Fit c) (h1 : I64 c.2.1) (h2 : I64 c.2.2) (w : World) : Calls Tryd.prog 13 #[.agg #[.bool c.1, .int .i64 c.2.1, .int .i64 c.2.2]] w fun e w' => e = .returned (.bool false) ∧ Below w.heap.size w w' :=
  gimbalref31_Fit.calls 8 _ _ _ _ w (by rw [rFit_f c h1 h2 0, fitB_false h])
theorem of_c (i : Iv) (w : World) : Calls Tryd.prog 23 #[.int .i64 i.1, .int .i64 i.2] w fun e w' => e = .returned (.agg #[.int .i64 (ofI i.1 i.2).1, .int .i64 (ofI i.1 i.2).2]) ∧ Below w.heap.size w w' :=
  gimbalref02_Of.calls _ _ _ _ w rfl
theorem of_t {i : Iv} (h : Sound i) (w : World) : Calls Tryd.prog 23 #[.int .i64 i.1, .int .i64 i.2] w fun e w' => e = .returned (.agg #[.int .i64 i.1, .int .i64 i.2]) ∧ Below w.heap.size w w' :=
  gimbalref02_Of.calls _ _ _ _ w (congrArg some (show ofI i.1 i.2 = (i.1, i.2) from h))
theorem unsound {i : Iv} (h : ¬ Sound i) : (i.1 == (ofI i.1 i.2).1 && (i.2 == (ofI i.1 i.2).2)) = false := by
  cases hb : (i.1 == (ofI i.1 i.2).1 && (i.2 == (ofI i.1 i.2).2)) with
  | false => rfl
  | true =>
    simp only [Bool.and_eq_true, beq_iff_eq] at hb
    exact absurd (Prod.ext hb.1.symm hb.2.symm : ofI i.1 i.2 = i) h
theorem aw (w : World) : Calls Tryd.prog 18 #[] w fun e w' => e = .returned (.bool true) ∧ Below w.heap.size w w' := gimballaw31_awake.calls true w rfl

theorem cells38 : Tryd.prog.cellsOf 38 = 2 := by kernel_rfl
theorem read38 : Tryd.prog.readableRec 38 = true := by kernel_rfl
theorem size38 : 38 < Tryd.prog.types.size := of_decide_eq_true (by kernel_rfl)
theorem one38 : oneCellFields Tryd.prog #[⟨"Lo", 2, 0, false, "", "", 0⟩, ⟨"Hi", 2, 1, false, "", "", 8⟩] = true := by kernel_rfl
/-- An interval handed over by value, opened. -/
theorem open_iv {H : Type} {enc : TypeId × Value → H} {W : World} {base : Nat} {v : Value} {d : DataW H} {p : List MemPlace}
    (hval : Value.okWide Tryd.prog W .any base 38 v) (h : DataW.Trod enc Tryd.prog W 0 (fun _ => true) true 38 v d p) :
    ∃ i : Iv, v = .agg #[.int .i64 i.1, .int .i64 i.2] ∧ I64 i.1 ∧ I64 i.2 := by
  obtain ⟨v0, v1, y0, y1, n, rfl, _, _, h0, h1⟩ := Go.Joins.open_agg2 Tryd.underlying38 one38 cells38 hval h
  obtain ⟨m1, hm1, _, w1⟩ := DataW.trod_int Tryd.underlying2 h0
  obtain ⟨m2, hm2, _, w2⟩ := DataW.trod_int Tryd.underlying2 h1
  simp only [List.cons.injEq, and_true] at hm1 hm2
  exact ⟨(m1, m2), by rw [hm1, hm2], i64_of w1, i64_of w2⟩
end Go.Proofs.YtfmmjekhknaniaaDoor.Lr

