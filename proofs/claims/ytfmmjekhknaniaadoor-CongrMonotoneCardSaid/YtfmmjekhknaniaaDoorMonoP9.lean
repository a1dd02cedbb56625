/- This claim's own texts, joined, with only what the claim uses: Hx68, FnG, FnH, Awake, LawR. -/
import Derived.Test.YtfmmjekhknaniaaDoorMonoP5
import Derived.Test.YtfmmjekhknaniaaDoorMonoP8
import Derived.Test.YtfmmjekhknaniaaDoorMonoP7
namespace Go.Proofs.YtfmmjekhknaniaaDoor.Pr
open Go.RowKit Go.Proofs.YtfmmjekhknaniaaDoor.Given Go.Proofs.YtfmmjekhknaniaaDoorW.PrintWords Go.Proofs.YtfmmjekhknaniaaDoorW.PrintLast Go.Proofs.YtfmmjekhknaniaaDoorW.PrintMore
attribute [local go_sem] max2_int min2_int max_two min_two max_three min_three max_four min_four   -- for this text's walks alone
set_option linter.unusedVariables false
set_option linter.unusedSimpArgs false

def gimbalref02_Leq.f (a0_0 : Int) (a0_1 : Int) (a1_0 : Int) (a1_1 : Int) : Option (Bool) := (gimbalref02_norm.f a0_0 a0_1).bind fun bt633 => ((gimbalref02_norm.f a1_0 a1_1).bind fun bt635 => ((gimbalref02_None.f bt633.1 bt633.2).bind fun t637 => (if t637 = true then (some true) else ((gimbalref02_None.f bt635.1 bt635.2).bind fun t638 => (if t638 = true then (some false) else (if bt635.1 ≤ bt633.1 then (some (decide (bt633.2 ≤ bt635.2))) else (some false)))))))
set_option maxHeartbeats 8000000 in
set_option maxRecDepth 100000 in
theorem gimbalref02_Leq.calls (a0_0 : Int) (a0_1 : Int) (a1_0 : Int) (a1_1 : Int) (r : Bool) (w : World) (h : gimbalref02_Leq.f a0_0 a0_1 a1_0 a1_1 = some r) :
  Calls Tryd.prog 49 #[.agg #[.int .i64 a0_0, .int .i64 a0_1], .agg #[.int .i64 a1_0, .int .i64 a1_1]] w fun e w' => e = .returned (.bool r) ∧ Below w.heap.size w w' := by
 have hu38 := Tryd.underlying38
 have HB := Aside0.mk (Below.refl w.heap.size w)
 have H : ((gimbalref02_norm.f a0_0 a0_1).bind fun bt633 => ((gimbalref02_norm.f a1_0 a1_1).bind fun bt635 => ((gimbalref02_None.f bt633.1 bt633.2).bind fun t637 => (if t637 = true then (some true) else ((gimbalref02_None.f bt635.1 bt635.2).bind fun t638 => (if t638 = true then (some false) else (if bt635.1 ≤ bt633.1 then (some (decide (bt633.2 ≤ bt635.2))) else (some false)))))))) = some r := h
 clear h
 replace H := Option.bind_eq_some_iff.mp H
 obtain ⟨⟨t633, t634⟩, A30, H⟩ := H
 replace H : ((gimbalref02_norm.f a1_0 a1_1).bind fun bt635 => ((gimbalref02_None.f t633 t634).bind fun t637 => (if t637 = true then (some true) else ((gimbalref02_None.f bt635.1 bt635.2).bind fun t638 => (if t638 = true then (some false) else (if bt635.1 ≤ t633 then (some (decide (t634 ≤ bt635.2))) else (some false))))))) = some r := H
 have A3 := Aside0.mk A30
 clear A30
 replace H := Option.bind_eq_some_iff.mp H
 obtain ⟨⟨t635, t636⟩, A40, H⟩ := H
 replace H : ((gimbalref02_None.f t633 t634).bind fun t637 => (if t637 = true then (some true) else ((gimbalref02_None.f t635 t636).bind fun t638 => (if t638 = true then (some false) else (if t635 ≤ t633 then (some (decide (t634 ≤ t636))) else (some false)))))) = some r := H
 have A4 := Aside0.mk A40
 clear A40
 replace H := Option.bind_eq_some_iff.mp H
 obtain ⟨t637, A50, H⟩ := H
 replace H : (if t637 = true then (some true) else ((gimbalref02_None.f t635 t636).bind fun t638 => (if t638 = true then (some false) else (if t635 ≤ t633 then (some (decide (t634 ≤ t636))) else (some false))))) = some r := H
 have A5 := Aside0.mk A50
 clear A50
 by_cases c6 : t637 = true
 ·
  subst c6
  have H1 : (some true) = some r := by rw [if_pos rfl] at H; exact H
  clear H
  have H := H1
  clear H1
  obtain rfl := Option.some.inj H
  go_enter Tryd.func49, Tryd.ntmps49
  go_wp2_with (first | ((with_reducible refine gate_dst (N := 2) rfl ?_); refine box_event ?hg (N := 2) ?hd (cs := #[.int .i64 a0_0, .int .i64 a0_1]) (t := 38) ?hr ?_; (case hd => rfl); (case hg => rfl); (case hr => first | (go_simp; done) | (go_simp; rfl)); intro gb631 hg w7 hbox hb; have n0_ := kW HB hb; have n1_ := Aside0.mk (hbox); have n2_ := Aside0.mk ((by rw [hg]; exact (below_size (bS HB)) : w.heap.size ≤ gb631)); have n3_ := Aside0.mk ((by rw [hg]; exact (below_size (bS HB)) : w.heap.size ≤ gb631)); clear HB; have HB := n0_; have BK631 := n1_; have GW631 := n2_; have GE631 := n3_; clear n0_ n1_ n2_ n3_; clear hb hbox hg) | ((with_reducible refine gate_dst (N := 3) rfl ?_); refine box_event ?hg (N := 3) ?hd (cs := #[.int .i64 a1_0, .int .i64 a1_1]) (t := 38) ?hr ?_; (case hd => rfl); (case hg => rfl); (case hr => first | (go_simp; done) | (go_simp; rfl)); intro gb632 hg w8 hbox hb; have n0_ := kB BK631 hb; have n1_ := kW HB hb; have n2_ := Aside0.mk (hbox); have n3_ := Aside0.mk ((by rw [hg]; exact (below_size (bS HB)) : w.heap.size ≤ gb632)); have n4_ := Aside0.mk ((by rw [hg]; exact (below_size (bS HB)) : w.heap.size ≤ gb632)); have n5_ := Aside0.mk ((by rw [hg]; exact Nat.ne_of_lt (blk_lt (bkS BK631)) : gb631 ≠ gb632)); have n6_ := Aside0.mk ((by rw [hg]; exact Nat.ne_of_gt (blk_lt (bkS BK631)) : gb632 ≠ gb631)); clear BK631; clear HB; have BK631 := n0_; have HB := n1_; have BK632 := n2_; have GW632 := n3_; have GE632 := n4_; have NB631_632 := n5_; have NB632_631 := n6_; clear n0_ n1_ n2_ n3_ n4_ n5_ n6_; clear hb hbox hg; have hnb9 := NB631_632.out; have hnc9 := NB632_631.out; have hcz10_0 := cz0 BK631; have hcz10_1 := cz1 BK631; have hfz10_0 := fz BK631 0; have hfz10_1 := fz BK631 1) | ((with_reducible refine gate_callee (f := 87) rfl ?_); refine goesL_ (some 6) rfl rfl Tryd.func87 (by kernel_rfl) rfl #[.agg #[.int .i64 a0_0, .int .i64 a0_1]] rfl mS ?_; (with_reducible refine (gimbalref02_norm.calls a0_0 a0_1 t633 t634 _ A3.out).mono ?_); rintro e w11 ⟨rfl, hb⟩; refine ⟨_, rfl, ?_⟩; replace BK631 := kB BK631 hb; replace BK632 := kB BK632 hb; replace HB := kW HB hb; (try clear hb); (try clear hb2); (try clear hk); (try clear hi); have hcz12_0 := cz0 BK631; have hcz12_1 := cz1 BK631; have hfz12_0 := fz BK631 0; have hfz12_1 := fz BK631 1; have hcz13_0 := cz0 BK632; have hcz13_1 := cz1 BK632; have hfz13_0 := fz BK632 0; have hfz13_1 := fz BK632 1) | ((with_reducible refine gate_callee (f := 87) rfl ?_); refine goesL_ (some 8) rfl rfl Tryd.func87 (by kernel_rfl) rfl #[.agg #[.int .i64 a1_0, .int .i64 a1_1]] rfl mS ?_; (with_reducible refine (gimbalref02_norm.calls a1_0 a1_1 t635 t636 _ A4.out).mono ?_); rintro e w14 ⟨rfl, hb⟩; refine ⟨_, rfl, ?_⟩; have n0_ := Aside0.mk (blk_below (g := gb631) (o := .cells #[.int .i64 t633, .int .i64 t634] 38 (0, 0)) (by (with_reducible repeat (first | refine b1 ?_ _ | refine b2 ?_ | refine b3 ?_ _)); refine blk_put (cs := #[.int .i64 t633, .int .i64 a0_1]) ?_ 1 _ rfl; (with_reducible repeat (first | refine b1 ?_ _ | refine b2 ?_ | refine b3 ?_ _)); refine blk_put (cs := #[.int .i64 a0_0, .int .i64 a0_1]) ?_ 0 _ rfl; (with_reducible repeat (first | refine b1 ?_ _ | refine b2 ?_ | refine b3 ?_ _)); exact BK631.out) hb); have n1_ := kB BK632 hb; have n2_ := kW HB hb; clear BK631; clear BK632; clear HB; have BK631 := n0_; have BK632 := n1_; have HB := n2_; clear n0_ n1_ n2_; (try clear hb); (try clear hb2); (try clear hk); (try clear hi); have hcz15_0 := cz0 BK632; have hcz15_1 := cz1 BK632; have hfz15_0 := fz BK632 0; have hfz15_1 := fz BK632 1; have hcz16_0 := cz0 BK631; have hcz16_1 := cz1 BK631; have hfz16_0 := fz BK631 0; have hfz16_1 := fz BK631 1) | ((with_reducible refine gate_callee (f := 78) rfl ?_); refine goesL_ (some 10) rfl rfl Tryd.func78 (by kernel_rfl) rfl #[.agg #[.int .i64 t633, .int .i64 t634]] rfl mS ?_; (with_reducible refine (gimbalref02_None.calls t633 t634 true _ A5.out).mono ?_); rintro e w17 ⟨rfl, hb⟩; refine ⟨_, rfl, ?_⟩; have n0_ := kB BK631 hb; have n1_ := Aside0.mk (blk_below (g := gb632) (o := .cells #[.int .i64 t635, .int .i64 t636] 38 (0, 0)) (by (with_reducible repeat (first | refine b1 ?_ _ | refine b2 ?_ | refine b3 ?_ _)); refine blk_put (cs := #[.int .i64 t635, .int .i64 a1_1]) ?_ 1 _ rfl; (with_reducible repeat (first | refine b1 ?_ _ | refine b2 ?_ | refine b3 ?_ _)); refine blk_put (cs := #[.int .i64 a1_0, .int .i64 a1_1]) ?_ 0 _ rfl; (with_reducible repeat (first | refine b1 ?_ _ | refine b2 ?_ | refine b3 ?_ _)); exact BK632.out) hb); have n2_ := kW HB hb; clear BK631; clear BK632; clear HB; have BK631 := n0_; have BK632 := n1_; have HB := n2_; clear n0_ n1_ n2_; (try clear hb); (try clear hb2); (try clear hk); (try clear hi)))
  go_ret
  exact ⟨eS, bS HB⟩
 ·
  replace c6 := Bool.eq_false_iff.mpr c6
  subst c6
  have H1 : ((gimbalref02_None.f t635 t636).bind fun t638 => (if t638 = true then (some false) else (if t635 ≤ t633 then (some (decide (t634 ≤ t636))) else (some false)))) = some r := by rw [if_neg (show ¬ (false = true) by decide)] at H; exact H
  clear H
  have H := H1
  clear H1
  replace H := Option.bind_eq_some_iff.mp H
  obtain ⟨t638, A180, H⟩ := H
  replace H : (if t638 = true then (some false) else (if t635 ≤ t633 then (some (decide (t634 ≤ t636))) else (some false))) = some r := H
  have A18 := Aside0.mk A180
  clear A180
  by_cases c19 : t638 = true
  ·
   subst c19
   have H1 : (some false) = some r := by rw [if_pos rfl] at H; exact H
   clear H
   have H := H1
   clear H1
   obtain rfl := Option.some.inj H
   go_enter Tryd.func49, Tryd.ntmps49
   go_wp2_with (first | ((with_reducible refine gate_dst (N := 2) rfl ?_); refine box_event ?hg (N := 2) ?hd (cs := #[.int .i64 a0_0, .int .i64 a0_1]) (t := 38) ?hr ?_; (case hd => rfl); (case hg => rfl); (case hr => first | (go_simp; done) | (go_simp; rfl)); intro gb631 hg w20 hbox hb; have n0_ := kW HB hb; have n1_ := Aside0.mk (hbox); have n2_ := Aside0.mk ((by rw [hg]; exact (below_size (bS HB)) : w.heap.size ≤ gb631)); have n3_ := Aside0.mk ((by rw [hg]; exact (below_size (bS HB)) : w.heap.size ≤ gb631)); clear HB; have HB := n0_; have BK631 := n1_; have GW631 := n2_; have GE631 := n3_; clear n0_ n1_ n2_ n3_; clear hb hbox hg) | ((with_reducible refine gate_dst (N := 3) rfl ?_); refine box_event ?hg (N := 3) ?hd (cs := #[.int .i64 a1_0, .int .i64 a1_1]) (t := 38) ?hr ?_; (case hd => rfl); (case hg => rfl); (case hr => first | (go_simp; done) | (go_simp; rfl)); intro gb632 hg w21 hbox hb; have n0_ := kB BK631 hb; have n1_ := kW HB hb; have n2_ := Aside0.mk (hbox); have n3_ := Aside0.mk ((by rw [hg]; exact (below_size (bS HB)) : w.heap.size ≤ gb632)); have n4_ := Aside0.mk ((by rw [hg]; exact (below_size (bS HB)) : w.heap.size ≤ gb632)); have n5_ := Aside0.mk ((by rw [hg]; exact Nat.ne_of_lt (blk_lt (bkS BK631)) : gb631 ≠ gb632)); have n6_ := Aside0.mk ((by rw [hg]; exact Nat.ne_of_gt (blk_lt (bkS BK631)) : gb632 ≠ gb631)); clear BK631; clear HB; have BK631 := n0_; have HB := n1_; have BK632 := n2_; have GW632 := n3_; have GE632 := n4_; have NB631_632 := n5_; have NB632_631 := n6_; clear n0_ n1_ n2_ n3_ n4_ n5_ n6_; clear hb hbox hg; have hnb22 := NB631_632.out; have hnc22 := NB632_631.out; have hcz23_0 := cz0 BK631; have hcz23_1 := cz1 BK631; have hfz23_0 := fz BK631 0; have hfz23_1 := fz BK631 1) | ((with_reducible refine gate_callee (f := 87) rfl ?_); refine goesL_ (some 6) rfl rfl Tryd.func87 (by kernel_rfl) rfl #[.agg #[.int .i64 a0_0, .int .i64 a0_1]] rfl mS ?_; (with_reducible refine (gimbalref02_norm.calls a0_0 a0_1 t633 t634 _ A3.out).mono ?_); rintro e w24 ⟨rfl, hb⟩; refine ⟨_, rfl, ?_⟩; replace BK631 := kB BK631 hb; replace BK632 := kB BK632 hb; replace HB := kW HB hb; (try clear hb); (try clear hb2); (try clear hk); (try clear hi); have hcz25_0 := cz0 BK631; have hcz25_1 := cz1 BK631; have hfz25_0 := fz BK631 0; have hfz25_1 := fz BK631 1; have hcz26_0 := cz0 BK632; have hcz26_1 := cz1 BK632; have hfz26_0 := fz BK632 0; have hfz26_1 := fz BK632 1) | ((with_reducible refine gate_callee (f := 87) rfl ?_); refine goesL_ (some 8) rfl rfl Tryd.func87 (by kernel_rfl) rfl #[.agg #[.int .i64 a1_0, .int .i64 a1_1]] rfl mS ?_; (with_reducible refine (gimbalref02_norm.calls a1_0 a1_1 t635 t636 _ A4.out).mono ?_); rintro e w27 ⟨rfl, hb⟩; refine ⟨_, rfl, ?_⟩; have n0_ := Aside0.mk (blk_below (g := gb631) (o := .cells #[.int .i64 t633, .int .i64 t634] 38 (0, 0)) (by (with_reducible repeat (first | refine b1 ?_ _ | refine b2 ?_ | refine b3 ?_ _)); refine blk_put (cs := #[.int .i64 t633, .int .i64 a0_1]) ?_ 1 _ rfl; (with_reducible repeat (first | refine b1 ?_ _ | refine b2 ?_ | refine b3 ?_ _)); refine blk_put (cs := #[.int .i64 a0_0, .int .i64 a0_1]) ?_ 0 _ rfl; (with_reducible repeat (first | refine b1 ?_ _ | refine b2 ?_ | refine b3 ?_ _)); exact BK631.out) hb); have n1_ := kB BK632 hb; have n2_ := kW HB hb; clear BK631; clear BK632; clear HB; have BK631 := n0_; have BK632 := n1_; have HB := n2_; clear n0_ n1_ n2_; (try clear hb); (try clear hb2); (try clear hk); (try clear hi); have hcz28_0 := cz0 BK632; have hcz28_1 := cz1 BK632; have hfz28_0 := fz BK632 0; have hfz28_1 := fz BK632 1; have hcz29_0 := cz0 BK631; have hcz29_1 := cz1 BK631; have hfz29_0 := fz BK631 0; have hfz29_1 := fz BK631 1) | ((with_reducible refine gate_callee (f := 78) rfl ?_); refine goesL_ (some 10) rfl rfl Tryd.func78 (by kernel_rfl) rfl #[.agg #[.int .i64 t633, .int .i64 t634]] rfl mS ?_; (with_reducible refine (gimbalref02_None.calls t633 t634 false _ A5.out).mono ?_); rintro e w30 ⟨rfl, hb⟩; refine ⟨_, rfl, ?_⟩; have n0_ := kB BK631 hb; have n1_ := Aside0.mk (blk_below (g := gb632) (o := .cells #[.int .i64 t635, .int .i64 t636] 38 (0, 0)) (by (with_reducible repeat (first | refine b1 ?_ _ | refine b2 ?_ | refine b3 ?_ _)); refine blk_put (cs := #[.int .i64 t635, .int .i64 a1_1]) ?_ 1 _ rfl; (with_reducible repeat (first | refine b1 ?_ _ | refine b2 ?_ | refine b3 ?_ _)); refine blk_put (cs := #[.int .i64 a1_0, .int .i64 a1_1]) ?_ 0 _ rfl; (with_reducible repeat (first | refine b1 ?_ _ | refine b2 ?_ | refine b3 ?_ _)); exact BK632.out) hb); have n2_ := kW HB hb; clear BK631; clear BK632; clear HB; have BK631 := n0_; have BK632 := n1_; have HB := n2_; clear n0_ n1_ n2_; (try clear hb); (try clear hb2); (try clear hk); (try clear hi); have hcz31_0 := cz0 BK632; have hcz31_1 := cz1 BK632; have hfz31_0 := fz BK632 0; have hfz31_1 := fz BK632 1) | (go_at_call 78; (with_reducible refine (gimbalref02_None.calls t635 t636 true _ A18.out).mono ?_); rintro e w32 ⟨rfl, hb⟩; replace BK631 := kB BK631 hb; replace BK632 := kB BK632 hb; replace HB := kW HB hb; (try clear hb); (try clear hb2); (try clear hk); (try clear hi)))
   go_ret
   exact ⟨eS, bS HB⟩
  ·
   replace c19 := Bool.eq_false_iff.mpr c19
   subst c19
   have H1 : (if t635 ≤ t633 then (some (decide (t634 ≤ t636))) else (some false)) = some r := by rw [if_neg (show ¬ (false = true) by decide)] at H; exact H
   clear H
   have H := H1
   clear H1
   by_cases c33 : t635 ≤ t633
   ·
    rw [if_pos c33] at H
    have c33b0 : decide (t635 ≤ t633) = true := decide_eq_true c33
    clear c33
    obtain rfl := Option.some.inj H
    go_enter Tryd.func49, Tryd.ntmps49
    go_wp2_with (first | ((with_reducible refine gate_dst (N := 2) rfl ?_); refine box_event ?hg (N := 2) ?hd (cs := #[.int .i64 a0_0, .int .i64 a0_1]) (t := 38) ?hr ?_; (case hd => rfl); (case hg => rfl); (case hr => first | (go_simp; done) | (go_simp; rfl)); intro gb631 hg w34 hbox hb; have n0_ := kW HB hb; have n1_ := Aside0.mk (hbox); have n2_ := Aside0.mk ((by rw [hg]; exact (below_size (bS HB)) : w.heap.size ≤ gb631)); have n3_ := Aside0.mk ((by rw [hg]; exact (below_size (bS HB)) : w.heap.size ≤ gb631)); clear HB; have HB := n0_; have BK631 := n1_; have GW631 := n2_; have GE631 := n3_; clear n0_ n1_ n2_ n3_; clear hb hbox hg) | ((with_reducible refine gate_dst (N := 3) rfl ?_); refine box_event ?hg (N := 3) ?hd (cs := #[.int .i64 a1_0, .int .i64 a1_1]) (t := 38) ?hr ?_; (case hd => rfl); (case hg => rfl); (case hr => first | (go_simp; done) | (go_simp; rfl)); intro gb632 hg w35 hbox hb; have n0_ := kB BK631 hb; have n1_ := kW HB hb; have n2_ := Aside0.mk (hbox); have n3_ := Aside0.mk ((by rw [hg]; exact (below_size (bS HB)) : w.heap.size ≤ gb632)); have n4_ := Aside0.mk ((by rw [hg]; exact (below_size (bS HB)) : w.heap.size ≤ gb632)); have n5_ := Aside0.mk ((by rw [hg]; exact Nat.ne_of_lt (blk_lt (bkS BK631)) : gb631 ≠ gb632)); have n6_ := Aside0.mk ((by rw [hg]; exact Nat.ne_of_gt (blk_lt (bkS BK631)) : gb632 ≠ gb631)); clear BK631; clear HB; have BK631 := n0_; have HB := n1_; have BK632 := n2_; have GW632 := n3_; have GE632 := n4_; have NB631_632 := n5_; have NB632_631 := n6_; clear n0_ n1_ n2_ n3_ n4_ n5_ n6_; clear hb hbox hg; have hnb36 := NB631_632.out; have hnc36 := NB632_631.out; have hcz37_0 := cz0 BK631; have hcz37_1 := cz1 BK631; have hfz37_0 := fz BK631 0; have hfz37_1 := fz BK631 1) | ((with_reducible refine gate_callee (f := 87) rfl ?_); refine goesL_ (some 6) rfl rfl Tryd.func87 (by kernel_rfl) rfl #[.agg #[.int .i64 a0_0, .int .i64 a0_1]] rfl mS ?_; (with_reducible refine (gimbalref02_norm.calls a0_0 a0_1 t633 t634 _ A3.out).mono ?_); rintro e w38 ⟨rfl, hb⟩; refine ⟨_, rfl, ?_⟩; replace BK631 := kB BK631 hb; replace BK632 := kB BK632 hb; replace HB := kW HB hb; (try clear hb); (try clear hb2); (try clear hk); (try clear hi); have hcz39_0 := cz0 BK631; have hcz39_1 := cz1 BK631; have hfz39_0 := fz BK631 0; have hfz39_1 := fz BK631 1; have hcz40_0 := cz0 BK632; have hcz40_1 := cz1 BK632; have hfz40_0 := fz BK632 0; have hfz40_1 := fz BK632 1) | ((with_reducible refine gate_callee (f := 87) rfl ?_); refine goesL_ (some 8) rfl rfl Tryd.func87 (by kernel_rfl) rfl #[.agg #[.int .i64 a1_0, .int .i64 a1_1]] rfl mS ?_; (with_reducible refine (gimbalref02_norm.calls a1_0 a1_1 t635 t636 _ A4.out).mono ?_); rintro e w41 ⟨rfl, hb⟩; refine ⟨_, rfl, ?_⟩; have n0_ := Aside0.mk (blk_below (g := gb631) (o := .cells #[.int .i64 t633, .int .i64 t634] 38 (0, 0)) (by (with_reducible repeat (first | refine b1 ?_ _ | refine b2 ?_ | refine b3 ?_ _)); refine blk_put (cs := #[.int .i64 t633, .int .i64 a0_1]) ?_ 1 _ rfl; (with_reducible repeat (first | refine b1 ?_ _ | refine b2 ?_ | refine b3 ?_ _)); refine blk_put (cs := #[.int .i64 a0_0, .int .i64 a0_1]) ?_ 0 _ rfl; (with_reducible repeat (first | refine b1 ?_ _ | refine b2 ?_ | refine b3 ?_ _)); exact BK631.out) hb); have n1_ := kB BK632 hb; have n2_ := kW HB hb; clear BK631; clear BK632; clear HB; have BK631 := n0_; have BK632 := n1_; have HB := n2_; clear n0_ n1_ n2_; (try clear hb); (try clear hb2); (try clear hk); (try clear hi); have hcz42_0 := cz0 BK632; have hcz42_1 := cz1 BK632; have hfz42_0 := fz BK632 0; have hfz42_1 := fz BK632 1; have hcz43_0 := cz0 BK631; have hcz43_1 := cz1 BK631; have hfz43_0 := fz BK631 0; have hfz43_1 := fz BK631 1) | ((with_reducible refine gate_callee (f := 78) rfl ?_); refine goesL_ (some 10) rfl rfl Tryd.func78 (by kernel_rfl) rfl #[.agg #[.int .i64 t633, .int .i64 t634]] rfl mS ?_; (with_reducible refine (gimbalref02_None.calls t633 t634 false _ A5.out).mono ?_); rintro e w44 ⟨rfl, hb⟩; refine ⟨_, rfl, ?_⟩; have n0_ := kB BK631 hb; have n1_ := Aside0.mk (blk_below (g := gb632) (o := .cells #[.int .i64 t635, .int .i64 t636] 38 (0, 0)) (by (with_reducible repeat (first | refine b1 ?_ _ | refine b2 ?_ | refine b3 ?_ _)); refine blk_put (cs := #[.int .i64 t635, .int .i64 a1_1]) ?_ 1 _ rfl; (with_reducible repeat (first | refine b1 ?_ _ | refine b2 ?_ | refine b3 ?_ _)); refine blk_put (cs := #[.int .i64 a1_0, .int .i64 a1_1]) ?_ 0 _ rfl; (with_reducible repeat (first | refine b1 ?_ _ | refine b2 ?_ | refine b3 ?_ _)); exact BK632.out) hb); have n2_ := kW HB hb; clear BK631; clear BK632; clear HB; have BK631 := n0_; have BK632 := n1_; have HB := n2_; clear n0_ n1_ n2_; (try clear hb); (try clear hb2); (try clear hk); (try clear hi); have hcz45_0 := cz0 BK632; have hcz45_1 := cz1 BK632; have hfz45_0 := fz BK632 0; have hfz45_1 := fz BK632 1) | (go_at_call 78; (with_reducible refine (gimbalref02_None.calls t635 t636 false _ A18.out).mono ?_); rintro e w46 ⟨rfl, hb⟩; replace BK631 := kB BK631 hb; replace BK632 := kB BK632 hb; replace HB := kW HB hb; (try clear hb); (try clear hb2); (try clear hk); (try clear hi); have hcz47_0 := cz0 BK632; have hcz47_1 := cz1 BK632; have hfz47_0 := fz BK632 0; have hfz47_1 := fz BK632 1; have hcz48_0 := cz0 BK631; have hcz48_1 := cz1 BK631; have hfz48_0 := fz BK631 0; have hfz48_1 := fz BK631 1))
    go_ret
    exact ⟨eS, bS HB⟩
   ·
    rw [if_neg c33] at H
    have c33b0 : decide (t635 ≤ t633) = false := decide_eq_false c33
    clear c33
    obtain rfl := Option.some.inj H
    go_enter Tryd.func49, Tryd.ntmps49
    go_wp2_with (first | ((with_reducible refine gate_dst (N := 2) rfl ?_); refine box_event ?hg (N := 2) ?hd (cs := #[.int .i64 a0_0, .int .i64 a0_1]) (t := 38) ?hr ?_; (case hd => rfl); (case hg => rfl); (case hr => first | (go_simp; done) | (go_simp; rfl)); intro gb631 hg w49 hbox hb; have n0_ := kW HB hb; have n1_ := Aside0.mk (hbox); have n2_ := Aside0.mk ((by rw [hg]; exact (below_size (bS HB)) : w.heap.size ≤ gb631)); have n3_ := Aside0.mk ((by rw [hg]; exact (below_size (bS HB)) : w.heap.size ≤ gb631)); clear HB; have HB := n0_; have BK631 := n1_; have GW631 := n2_; have GE631 := n3_; clear n0_ n1_ n2_ n3_; clear hb hbox hg) | ((with_reducible refine gate_dst (N := 3) rfl ?_); refine box_event ?hg (N := 3) ?hd (cs := #[.int .i64 a1_0, .int .i64 a1_1]) (t := 38) ?hr ?_; (case hd => rfl); (case hg => rfl); (case hr => first | (go_simp; done) | (go_simp; rfl)); intro gb632 hg w50 hbox hb; have n0_ := kB BK631 hb; have n1_ := kW HB hb; have n2_ := Aside0.mk (hbox); have n3_ := Aside0.mk ((by rw [hg]; exact (below_size (bS HB)) : w.heap.size ≤ gb632)); have n4_ := Aside0.mk ((by rw [hg]; exact (below_size (bS HB)) : w.heap.size ≤ gb632)); have n5_ := Aside0.mk ((by rw [hg]; exact Nat.ne_of_lt (blk_lt (bkS BK631)) : gb631 ≠ gb632)); have n6_ := Aside0.mk ((by rw [hg]; exact Nat.ne_of_gt (blk_lt (bkS BK631)) : gb632 ≠ gb631)); clear BK631; clear HB; have BK631 := n0_; have HB := n1_; have BK632 := n2_; have GW632 := n3_; have GE632 := n4_; have NB631_632 := n5_; have NB632_631 := n6_; clear n0_ n1_ n2_ n3_ n4_ n5_ n6_; clear hb hbox hg; have hnb51 := NB631_632.out; have hnc51 := NB632_631.out; have hcz52_0 := cz0 BK631; have hcz52_1 := cz1 BK631; have hfz52_0 := fz BK631 0; have hfz52_1 := fz BK631 1) | ((with_reducible refine gate_callee (f := 87) rfl ?_); refine goesL_ (some 6) rfl rfl Tryd.func87 (by kernel_rfl) rfl #[.agg #[.int .i64 a0_0, .int .i64 a0_1]] rfl mS ?_; (with_reducible refine (gimbalref02_norm.calls a0_0 a0_1 t633 t634 _ A3.out).mono ?_); rintro e w53 ⟨rfl, hb⟩; refine ⟨_, rfl, ?_⟩; replace BK631 := kB BK631 hb; replace BK632 := kB BK632 hb; replace HB := kW HB hb; (try clear hb); (try clear hb2); (try clear hk); (try clear hi); have hcz54_0 := cz0 BK631; have hcz54_1 := cz1 BK631; have hfz54_0 := fz BK631 0; have hfz54_1 := fz BK631 1; have hcz55_0 := cz0 BK632; have hcz55_1 := cz1 BK632; have hfz55_0 := fz BK632 0; have hfz55_1 := fz BK632 1) | ((with_reducible refine gate_callee (f := 87) rfl ?_); refine goesL_ (some 8) rfl rfl Tryd.func87 (by kernel_rfl) rfl #[.agg #[.int .i64 a1_0, .int .i64 a1_1]] rfl mS ?_; (with_reducible refine (gimbalref02_norm.calls a1_0 a1_1 t635 t636 _ A4.out).mono ?_); rintro e w56 ⟨rfl, hb⟩; refine ⟨_, rfl, ?_⟩; have n0_ := Aside0.mk (blk_below (g := gb631) (o := .cells #[.int .i64 t633, .int .i64 t634] 38 (0, 0)) (by (with_reducible repeat (first | refine b1 ?_ _ | refine b2 ?_ | refine b3 ?_ _)); refine blk_put (cs := #[.int .i64 t633, .int .i64 a0_1]) ?_ 1 _ rfl; (with_reducible repeat (first | refine b1 ?_ _ | refine b2 ?_ | refine b3 ?_ _)); refine blk_put (cs := #[.int .i64 a0_0, .int .i64 a0_1]) ?_ 0 _ rfl; (with_reducible repeat (first | refine b1 ?_ _ | refine b2 ?_ | refine b3 ?_ _)); exact BK631.out) hb); have n1_ := kB BK632 hb; have n2_ := kW HB hb; clear BK631; clear BK632; clear HB; have BK631 := n0_; have BK632 := n1_; have HB := n2_; clear n0_ n1_ n2_; (try clear hb); (try clear hb2); (try clear hk); (try clear hi); have hcz57_0 := cz0 BK632; have hcz57_1 := cz1 BK632; have hfz57_0 := fz BK632 0; have hfz57_1 := fz BK632 1; have hcz58_0 := cz0 BK631; have hcz58_1 := cz1 BK631; have hfz58_0 := fz BK631 0; have hfz58_1 := fz BK631 1) | ((with_reducible refine gate_callee (f := 78) rfl ?_); refine goesL_ (some 10) rfl rfl Tryd.func78 (by kernel_rfl) rfl #[.agg #[.int .i64 t633, .int .i64 t634]] rfl mS ?_; (with_reducible refine (gimbalref02_None.calls t633 t634 false _ A5.out).mono ?_); rintro e w59 ⟨rfl, hb⟩; refine ⟨_, rfl, ?_⟩; have n0_ := kB BK631 hb; have n1_ := Aside0.mk (blk_below (g := gb632) (o := .cells #[.int .i64 t635, .int .i64 t636] 38 (0, 0)) (by (with_reducible repeat (first | refine b1 ?_ _ | refine b2 ?_ | refine b3 ?_ _)); refine blk_put (cs := #[.int .i64 t635, .int .i64 a1_1]) ?_ 1 _ rfl; (with_reducible repeat (first | refine b1 ?_ _ | refine b2 ?_ | refine b3 ?_ _)); refine blk_put (cs := #[.int .i64 a1_0, .int .i64 a1_1]) ?_ 0 _ rfl; (with_reducible repeat (first | refine b1 ?_ _ | refine b2 ?_ | refine b3 ?_ _)); exact BK632.out) hb); have n2_ := kW HB hb; clear BK631; clear BK632; clear HB; have BK631 := n0_; have BK632 := n1_; have HB := n2_; clear n0_ n1_ n2_; (try clear hb); (try clear hb2); (try clear hk); (try clear hi); have hcz60_0 := cz0 BK632; have hcz60_1 := cz1 BK632; have hfz60_0 := fz BK632 0; have hfz60_1 := fz BK632 1) | (go_at_call 78; (with_reducible refine (gimbalref02_None.calls t635 t636 false _ A18.out).mono ?_); rintro e w61 ⟨rfl, hb⟩; replace BK631 := kB BK631 hb; replace BK632 := kB BK632 hb; replace HB := kW HB hb; (try clear hb); (try clear hb2); (try clear hk); (try clear hi); have hcz62_0 := cz0 BK632; have hcz62_1 := cz1 BK632; have hfz62_0 := fz BK632 0; have hfz62_1 := fz BK632 1; have hcz63_0 := cz0 BK631; have hcz63_1 := cz1 BK631; have hfz63_0 := fz BK631 0; have hfz63_1 := fz BK631 1))
    go_ret
    exact ⟨eS, bS HB⟩

end Go.Proofs.YtfmmjekhknaniaaDoor.Pr

namespace Go.Proofs.YtfmmjekhknaniaaDoor.Core
open Go.RowKit Go.Proofs.YtfmmjekhknaniaaDoor.Pr Go.Proofs.YtfmmjekhknaniaaDoor.Given Go.Proofs.YtfmmjekhknaniaaDoorW.PrintWords

abbrev Iv := Int × Int
def Sound (i : Iv) : Prop := ofI i.1 i.2 = i

theorem sound_iff {i : Iv} : Sound i ↔ i = (1, 0) ∨ (i.1 ≤ i.2 ∧ -4611686018427387904 ≤ i.1 ∧ i.1 < 4611686018427387904 ∧ -4611686018427387904 < i.2 ∧ i.2 ≤ 4611686018427387904) := by
  obtain ⟨a, b⟩ := i
  unfold Sound ofI
  simp only
  by_cases h : b < a
  · rw [if_pos h]
    constructor
    · intro e; exact Or.inl e.symm
    · rintro (e | e)
      · exact e.symm
      · omega
  · rw [if_neg h]
    constructor
    · intro e
      right
      obtain ⟨e1, e2⟩ := Prod.mk.inj e
      split at e1 <;> (split at e2 <;> (try split at e1) <;> (try split at e2) <;> omega)
    · rintro (e | e)
      · obtain ⟨e1, e2⟩ := Prod.mk.inj e; omega
      · obtain ⟨_, h1, h2, h3, h4⟩ := e
        congr 1
        · split <;> (try split) <;> omega
        · split <;> (try split) <;> omega

theorem ofI_id {a b : Int} (h : a ≤ b) (h1 : -4611686018427387904 ≤ a) (h2 : a < 4611686018427387904) (h3 : -4611686018427387904 < b) (h4 : b ≤ 4611686018427387904) : ofI a b = (a, b) :=
  (sound_iff (i := (a, b))).mpr (Or.inr ⟨h, h1, h2, h3, h4⟩)
theorem ofI_none {a b : Int} (h : b < a) : ofI a b = (1, 0) := by unfold ofI; rw [if_pos h]

/-- an interval's int32. -/
def mi (i : Iv) : Iv :=
  if i.2 < i.1 then (1, 0)
  else if min i.2 2147483647 < max i.1 (-2147483648) then (1, 0)
  else (max i.1 (-2147483648), min i.2 2147483647)

theorem mi_range (i : Iv) : mi i = (1, 0) ∨ (-2147483648 ≤ (mi i).1 ∧ (mi i).1 ≤ (mi i).2 ∧ (mi i).2 ≤ 2147483647) := by
  unfold mi
  by_cases h : i.2 < i.1
  · rw [if_pos h]; exact Or.inl rfl
  · rw [if_neg h]
    by_cases g : min i.2 2147483647 < max i.1 (-2147483648)
    · rw [if_pos g]; exact Or.inl rfl
    · rw [if_neg g]
      right
      dsimp only
      omega

theorem mi_mem {i : Iv} {x : Int} (hx : In32 x) : ((mi i).1 ≤ x ∧ x ≤ (mi i).2) ↔ (i.1 ≤ x ∧ x ≤ i.2) := by
  unfold In32 at hx
  unfold mi
  by_cases h : i.2 < i.1
  · rw [if_pos h]; dsimp only; omega
  · rw [if_neg h]
    by_cases g : min i.2 2147483647 < max i.1 (-2147483648)
    · rw [if_pos g]; dsimp only; omega
    · rw [if_neg g]; dsimp only; omega

theorem mx_max (a b : Int) : mx a b = max a b := by unfold mx; split <;> omega
theorem mn_min (a b : Int) : mn a b = min a b := by unfold mn; split <;> omega

theorem mi_of {i : Iv} (hr : i.1 ≤ i.2) : ofI (max i.1 (-2147483648)) (min i.2 2147483647) = mi i := by
  unfold mi
  rw [if_neg (by omega)]
  by_cases g : min i.2 2147483647 < max i.1 (-2147483648)
  · rw [if_pos g, ofI_none g]
  · rw [if_neg g, ofI_id (by omega) (by omega) (by omega) (by omega) (by omega)]

theorem itvMeet_f {i : Iv} (h : Sound i) (k : Nat) : itv_Meet.f (k + 1) i.1 i.2 (-2147483648) 2147483647 = some (mi i) := by
  unfold Sound at h
  unfold itv_Meet.f itv_sound.f itv_Of.f itv_None.f
  rw [h, ofI_id (a := -2147483648) (b := 2147483647) (by omega) (by omega) (by omega) (by omega) (by omega)]
  simp only [Option.bind_some]
  by_cases c : i.2 < i.1
  · unfold mi
    rw [if_pos c, if_pos (by simp; omega)]
    simp [itv_Meet.j0, itv_Empty.f]
  · rw [if_neg (by simp; omega)]
    simp only [itv_Meet.j0, itv_Of.f]
    rw [if_neg (by simp), mx_max, mn_min, mi_of (by omega)]; rfl
theorem itvType_f : itv_Type.f 3 = some (-2147483648, 2147483647) := by decide +kernel
/-- is a number in an interval of int32? -/
theorem itvHas_f {i : Iv} (h : i = (1, 0) ∨ (-2147483648 ≤ i.1 ∧ i.1 ≤ i.2 ∧ i.2 ≤ 2147483647)) (x : Int) : itv_Has.f i.1 i.2 x = some (decide (i.1 ≤ x ∧ x ≤ i.2)) := by
  have hs : ofI i.1 i.2 = i := by
    rcases h with e | e
    · rw [e]; rfl
    · exact sound_iff.mpr (Or.inr (by omega))
  unfold itv_Has.f itv_sound.f itv_Of.f itv_None.f
  rw [hs]
  simp only [Option.bind_some]
  rcases h with e | e
  · subst e
    simp
    omega
  · rw [if_neg (by simp; omega), if_neg (by omega)]
    by_cases c : i.1 ≤ x
    · rw [if_pos c, if_neg (by omega)]; simp [c]
    · rw [if_neg c]; simp [c]
/-- a congruence and an interval, tightened by one another. -/
def tightS (c : Cg) (i : Iv) : Cg × Iv :=
  if c.1 = true ∨ (mi i).2 < (mi i).1 then ((true, 0, 0), (1, 0))
  else if c.2.1 = 0 then (if (mi i).1 ≤ c.2.2 ∧ c.2.2 ≤ (mi i).2 then (c, (c.2.2, c.2.2)) else ((true, 0, 0), (1, 0)))
  else if (mi i).2 - ((mi i).2 - c.2.2) % c.2.1 < (mi i).1 + (c.2.2 - (mi i).1) % c.2.1 then ((true, 0, 0), (1, 0))
  else if (mi i).1 + (c.2.2 - (mi i).1) % c.2.1 = (mi i).2 - ((mi i).2 - c.2.2) % c.2.1 then ((false, 0, (mi i).1 + (c.2.2 - (mi i).1) % c.2.1), ((mi i).1 + (c.2.2 - (mi i).1) % c.2.1, (mi i).1 + (c.2.2 - (mi i).1) % c.2.1))
  else (c, ((mi i).1 + (c.2.2 - (mi i).1) % c.2.1, (mi i).2 - ((mi i).2 - c.2.2) % c.2.1))

def flat5 (t : Cg × Iv) : Bool × Int × Int × Int × Int := (t.1.1, t.1.2.1, t.1.2.2, t.2.1, t.2.2)

theorem const32 {x : Int} (h : In32 x) : norm 0 x = (false, 0, x) := by unfold norm; rw [if_pos rfl, if_pos h]

theorem Tighten_f {c : Cg} (hc : Fit c) {i : Iv} (hi : Sound i) (k : Nat) : congr_Tighten.f (k + 2) c.1 c.2.1 c.2.2 i.1 i.2 = some (flat5 (tightS c i)) := by
  have mc := fit_mod hc
  have fc := fit_rem hc
  have hr := mi_range i
  unfold congr_Tighten.f tightS
  rw [itvType_f]
  simp only [Option.bind_some]
  rw [show k + 2 = (k + 1) + 1 by omega, itvMeet_f hi]
  simp only [Option.bind_some]
  generalize mi i = j at *
  by_cases h1 : c.1 = true
  · rw [if_pos h1, if_pos (Or.inl h1)]; simp [congr_Tighten.j0, congr_none.f, itv_Empty.f, flat5]
  rw [if_neg h1]
  simp only [itv_None.f, Option.bind_some, congr_Tighten.j0]
  by_cases h2 : j.2 < j.1
  · rw [if_pos (by simp; omega), if_pos (Or.inr h2)]; simp [congr_none.f, itv_Empty.f, flat5]
  have hj : -2147483648 ≤ j.1 ∧ j.1 ≤ j.2 ∧ j.2 ≤ 2147483647 := by
    rcases hr with e | e
    · rw [e] at h2; simp at h2
    · exact e
  have hor : ¬ (c.1 = true ∨ j.2 < j.1) := fun e => e.elim h1 h2
  rw [if_neg (by simp; omega), if_neg hor]
  by_cases h3 : c.2.1 = 0
  · rw [if_pos h3, if_pos h3, itvHas_f hr]
    simp only [Option.bind_some]
    by_cases h4 : j.1 ≤ c.2.2 ∧ c.2.2 ≤ j.2
    · rw [if_pos (by simp [h4]), if_pos h4]
      simp only [itv_Of.f, Option.bind_some]
      rw [ofI_id (by omega) (by omega) (by omega) (by omega) (by omega)]; rfl
    · rw [if_neg (by simp; omega), if_neg h4]; rfl
  · have hm0 : 0 < c.2.1 := by omega
    have a0 := Int.emod_nonneg (c.2.2 - j.1) h3
    have a1 := Int.emod_lt_of_pos (c.2.2 - j.1) hm0
    have b0 := Int.emod_nonneg (j.2 - c.2.2) h3
    have b1 := Int.emod_lt_of_pos (j.2 - c.2.2) hm0
    rw [if_neg h3, if_neg h3, u64_id (n := c.2.1) (by omega) (by omega), w64_id (n := c.2.2 - j.1) (by omega) (by omega), w64_id (n := j.2 - c.2.2) (by omega) (by omega),
      rest_f (by omega) (by omega) hm0 (by omega), rest_f (by omega) (by omega) hm0 (by omega)]
    simp only [Option.bind_some]
    generalize (c.2.2 - j.1) % c.2.1 = p at *
    generalize (j.2 - c.2.2) % c.2.1 = q at *
    rw [w64_id (n := p) (by omega) (by omega), w64_id (n := q) (by omega) (by omega), w64_id (n := j.1 + p) (by omega) (by omega), w64_id (n := j.2 - q) (by omega) (by omega)]
    by_cases h4 : j.1 + p > j.2 - q
    · rw [if_pos h4, if_pos (show j.2 - q < j.1 + p by omega)]; rfl
    · rw [if_neg h4, if_neg (show ¬ j.2 - q < j.1 + p by omega)]
      by_cases h5 : j.1 + p = j.2 - q
      · rw [if_pos h5, if_pos h5, constant_f, const32 (by unfold In32; omega)]
        simp only [itv_Of.f, Option.bind_some]
        rw [ofI_id (by omega) (by omega) (by omega) (by omega) (by omega)]; rfl
      · rw [if_neg h5, if_neg h5]
        simp only [itv_Of.f, Option.bind_some]
        rw [ofI_id (by omega) (by omega) (by omega) (by omega) (by omega)]; rfl

/-- what a tightened pair says. -/
def InJ (i : Iv) (x : Int) : Prop := (mi i).1 ≤ x ∧ x ≤ (mi i).2
theorem tight_spec {c : Cg} (hc : Fit c) (i : Iv) :
    (tightS c i = ((true, 0, 0), (1, 0)) ∧ ∀ x, Mem c x → ¬ InJ i x) ∨
    ∃ lo hi, Mem c lo ∧ Mem c hi ∧ InJ i lo ∧ InJ i hi ∧ lo ≤ hi ∧ (∀ x, Mem c x → InJ i x → lo ≤ x ∧ x ≤ hi) ∧ (tightS c i).2 = (lo, hi) ∧ (tightS c i).1 = if lo = hi then (false, 0, lo) else c := by
  have mc := fit_mod hc
  have fc := fit_rem hc
  have hr := mi_range i
  unfold tightS InJ
  generalize mi i = j at *
  by_cases h1 : c.1 = true
  · left; rw [if_pos (Or.inl h1)]
    exact ⟨rfl, fun x hx => by rw [hx.1] at h1; cases h1⟩
  by_cases h2 : j.2 < j.1
  · left; rw [if_pos (Or.inr h2)]
    exact ⟨rfl, fun x _ => by omega⟩
  have hj : -2147483648 ≤ j.1 ∧ j.1 ≤ j.2 ∧ j.2 ≤ 2147483647 := by
    rcases hr with e | e
    · rw [e] at h2; simp at h2
    · exact e
  have hor : ¬ (c.1 = true ∨ j.2 < j.1) := fun e => e.elim h1 h2
  rw [if_neg hor]
  by_cases h3 : c.2.1 = 0
  · have only : ∀ x, Mem c x → x = c.2.2 := fun x hx => by
      have := hx.2.2
      rw [h3, Int.zero_dvd] at this
      omega
    rw [if_pos h3]
    by_cases h4 : j.1 ≤ c.2.2 ∧ c.2.2 ≤ j.2
    · right
      have hm : Mem c c.2.2 := ⟨bfalse h1, by unfold In32; omega, by rw [Int.sub_self]; exact Int.dvd_zero _⟩
      rw [if_pos h4]
      refine ⟨c.2.2, c.2.2, hm, hm, h4, h4, Int.le_refl _, fun x hx _ => by rw [only x hx]; omega, rfl, ?_⟩
      rw [if_pos rfl]
      have := bfalse h1
      obtain ⟨c1, c2, c3⟩ := c
      dsimp only at this h3 ⊢
      rw [this, h3]
    · left; rw [if_neg h4]
      exact ⟨rfl, fun x hx => by rw [only x hx]; exact h4⟩
  · have hm0 : 0 < c.2.1 := by omega
    have a0 := Int.emod_nonneg (c.2.2 - j.1) h3
    have a1 := Int.emod_lt_of_pos (c.2.2 - j.1) hm0
    have a2 := emod_dvd_sub c.2.1 (c.2.2 - j.1)
    have b0 := Int.emod_nonneg (j.2 - c.2.2) h3
    have b1 := Int.emod_lt_of_pos (j.2 - c.2.2) hm0
    have b2 := emod_dvd_sub c.2.1 (j.2 - c.2.2)
    rw [if_neg h3]
    generalize (c.2.2 - j.1) % c.2.1 = p at *
    generalize (j.2 - c.2.2) % c.2.1 = q at *
    have dl : c.2.1 ∣ j.1 + p - c.2.2 := by
      have := dvd_sub_comm' a2
      rwa [show p - (c.2.2 - j.1) = j.1 + p - c.2.2 by omega] at this
    have dh : c.2.1 ∣ j.2 - q - c.2.2 := by
      rwa [show j.2 - c.2.2 - q = j.2 - q - c.2.2 by omega] at b2
    have bound : ∀ x, Mem c x → (j.1 ≤ x ∧ x ≤ j.2) → j.1 + p ≤ x ∧ x ≤ j.2 - q := fun x hx hj' => by
      constructor
      · exact ge_of_dvd hm0 (dvd_sub_trans hx.2.2 (dvd_sub_comm' dl)) (by omega)
      · exact ge_of_dvd hm0 (dvd_sub_trans dh (dvd_sub_comm' hx.2.2)) (by omega)
    by_cases h4 : j.2 - q < j.1 + p
    · left; rw [if_pos h4]
      exact ⟨rfl, fun x hx hj' => by have := bound x hx hj'; omega⟩
    · right
      rw [if_neg h4]
      refine ⟨j.1 + p, j.2 - q, ⟨bfalse h1, by unfold In32; omega, dl⟩, ⟨bfalse h1, by unfold In32; omega, dh⟩, by omega, by omega, by omega, bound, ?_, ?_⟩
      · by_cases h5 : j.1 + p = j.2 - q
        · rw [if_pos h5]; exact congrArg (Prod.mk (j.1 + p)) h5
        · rw [if_neg h5]
      · by_cases h5 : j.1 + p = j.2 - q
        · rw [if_pos h5, if_pos h5]
        · rw [if_neg h5, if_neg h5]

def Holds (op x y : Int) : Prop := if op = 14 then x = y else if op = 15 then x ≠ y else if op = 16 then x < y else if op = 17 then x ≤ y else if op = 18 then y < x else y ≤ x
instance (op x y : Int) : Decidable (Holds op x y) := by unfold Holds; infer_instance
theorem holds_f (op x y : Int) : congr_holds.f op x y = some (decide (Holds op x y)) := by
  unfold congr_holds.f Holds
  (repeat' split) <;> simp
  all_goals (first | exact beq_bool (by simp) | rfl | skip)
/-- what is left where a comparison holds; r: what both have. -/
def testS (op : Int) (a b r : Cg) : Cg × Cg :=
  if op < 14 ∨ 19 < op then (a, b)
  else if a.1 = true ∨ b.1 = true ∨ (a.2.1 = 0 ∧ b.2.1 = 0 ∧ ¬ Holds op a.2.2 b.2.2) then ((true, 0, 0), (true, 0, 0))
  else if op = 14 then (r, r) else (a, b)
def flat6 (t : Cg × Cg) : Bool × Int × Int × Bool × Int × Int := (t.1.1, t.1.2.1, t.1.2.2, t.2.1, t.2.2.1, t.2.2.2)

theorem Test_f {a b r : Cg} (op : Int) (hr : Ev (fun k => congr_Meet.f k a.1 a.2.1 a.2.2 b.1 b.2.1 b.2.2) r) :
    Ev (fun k => congr_Test.f k op a.1 a.2.1 a.2.2 b.1 b.2.1 b.2.2) (flat6 (testS op a b r)) := by
  obtain ⟨K, hK⟩ := hr
  refine ⟨K + 5, fun k hk => ?_⟩
  obtain ⟨j, rfl⟩ : ∃ j, k = j + 2 := ⟨k - 2, by omega⟩
  dsimp only at hK ⊢
  unfold congr_Test.f testS
  by_cases h1 : op < 14
  · rw [if_pos h1, if_pos (Or.inl h1)]; simp [congr_Test.j0, flat6]
  rw [if_neg h1]
  by_cases h2 : op > 19
  · rw [show decide (op > 19) = true by simp [h2], if_pos (Or.inr h2)]; simp [congr_Test.j0, flat6]
  rw [show decide (op > 19) = false by simp [h2], if_neg (show ¬ (op < 14 ∨ 19 < op) by omega)]
  simp only [congr_Test.j0, Bool.false_eq_true, if_false]
  have none1 : congr_Test.j1 (j + 1) op true a.1 a.2.1 a.2.2 b.1 b.2.1 b.2.2 = some (flat6 ((true, 0, 0), (true, 0, 0))) := by
    simp [congr_Test.j1, congr_none.f, flat6]
  have rest1 : congr_Test.j1 (j + 1) op false a.1 a.2.1 a.2.2 b.1 b.2.1 b.2.2 = some (flat6 (if op = 14 then (r, r) else (a, b))) := by
    simp only [congr_Test.j1, Bool.false_eq_true, if_false]
    split
    · rw [hK _ (by omega)]; rfl
    · rfl
  by_cases h3 : a.1 = true
  · rw [if_pos h3, if_pos (Or.inl h3), none1]
  rw [if_neg h3]
  by_cases h4 : b.1 = true
  · rw [if_pos h4, if_pos (Or.inr (Or.inl h4)), none1]
  rw [if_neg h4]
  have neg : ¬ (a.2.1 = 0 ∧ b.2.1 = 0 ∧ ¬ Holds op a.2.2 b.2.2) → ¬ (a.1 = true ∨ b.1 = true ∨ (a.2.1 = 0 ∧ b.2.1 = 0 ∧ ¬ Holds op a.2.2 b.2.2)) := fun n e => e.elim h3 (fun e => e.elim h4 n)
  by_cases h5 : a.2.1 = 0
  · rw [if_pos h5]
    by_cases h6 : b.2.1 = 0
    · rw [if_pos h6, holds_f]
      simp only [Option.bind_some]
      by_cases h7 : Holds op a.2.2 b.2.2
      · rw [show (!decide (Holds op a.2.2 b.2.2)) = false by simp [h7], rest1, if_neg (neg fun e => e.2.2 h7)]
      · rw [show (!decide (Holds op a.2.2 b.2.2)) = true by simp [h7], none1, if_pos (Or.inr (Or.inr ⟨h5, h6, h7⟩))]
    · rw [if_neg h6, rest1, if_neg (neg fun e => h6 e.2.1)]
  · rw [if_neg h5, rest1, if_neg (neg fun e => h5 e.1)]

theorem fit_test {op : Int} {a b r : Cg} (ha : Fit a) (hb : Fit b) (hr : Fit r) : Fit (testS op a b r).1 ∧ Fit (testS op a b r).2 := by
  unfold testS
  (repeat' split) <;> first | exact ⟨ha, hb⟩ | exact ⟨fit_none, fit_none⟩ | exact ⟨hr, hr⟩

theorem test_mono {op : Int} {a b x y r s : Cg} (ha : Fit a) (hb : Fit b) (hr : IsMeet a b r) (hs : IsMeet x y s) (h : Sub a x) (k : Sub b y) :
    Sub (testS op a b r).1 (testS op x y s).1 ∧ Sub (testS op a b r).2 (testS op x y s).2 := by
  unfold testS
  by_cases h1 : op < 14 ∨ 19 < op
  · rw [if_pos h1, if_pos h1]; exact ⟨h, k⟩
  rw [if_neg h1, if_neg h1]
  by_cases h2 : a.1 = true ∨ b.1 = true ∨ (a.2.1 = 0 ∧ b.2.1 = 0 ∧ ¬ Holds op a.2.2 b.2.2)
  · rw [if_pos h2]; exact ⟨Sub.none _ rfl, Sub.none _ rfl⟩
  rw [if_neg h2]
  have na : a.1 = false := by cases e : a.1; rfl; exact absurd (Or.inl e) h2
  have nb : b.1 = false := by cases e : b.1; rfl; exact absurd (Or.inr (Or.inl e)) h2
  obtain ⟨c0, c1, c2⟩ := sub_dvd ha na h
  obtain ⟨d0, d1, d2⟩ := sub_dvd hb nb k
  have neg : ¬ (x.1 = true ∨ y.1 = true ∨ (x.2.1 = 0 ∧ y.2.1 = 0 ∧ ¬ Holds op x.2.2 y.2.2)) := by
    rintro (e | e | ⟨e1, e2, e3⟩)
    · rw [c0] at e; cases e
    · rw [d0] at e; cases e
    · rw [e1, Int.zero_dvd] at c1 c2
      rw [e2, Int.zero_dvd] at d1 d2
      rw [show x.2.2 = a.2.2 by omega, show y.2.2 = b.2.2 by omega] at e3
      exact h2 (Or.inr (Or.inr ⟨c1, d1, e3⟩))
  rw [if_neg neg]
  by_cases h3 : op = 14
  · rw [if_pos h3, if_pos h3]
    have : Sub r s := fun z hz => (hs.2 z).mpr ⟨h z ((hr.2 z).mp hz).1, k z ((hr.2 z).mp hz).2⟩
    exact ⟨this, this⟩
  · rw [if_neg h3, if_neg h3]; exact ⟨h, k⟩

/-- does a sound interval have a number? -/
def hasI (i : Iv) (x : Int) : Prop := i.1 ≤ i.2 ∧ (i.1 = -4611686018427387904 ∨ i.1 ≤ x) ∧ (i.2 = 4611686018427387904 ∨ x ≤ i.2)
instance (i : Iv) (x : Int) : Decidable (hasI i x) := by unfold hasI; infer_instance
theorem fit_tight {c : Cg} (hc : Fit c) (i : Iv) : Fit (tightS c i).1 ∧ Sound (tightS c i).2 := by
  rcases tight_spec hc i with ⟨e, _⟩ | ⟨lo, hi, h1, h2, h3, h4, h5, _, e2, e1⟩
  · rw [e]; exact ⟨fit_none, rfl⟩
  · have a := h1.2.1
    have b := h2.2.1
    unfold In32 at a b
    rw [e1, e2]
    refine ⟨?_, ofI_id (by omega) (by omega) (by omega) (by omega) (by omega)⟩
    split
    · exact Or.inr (Or.inl ⟨rfl, rfl, h1.2.1⟩)
    · exact hc

def joinI (i j : Iv) : Iv := if i.2 < i.1 then j else if j.2 < j.1 then i else (min i.1 j.1, max i.2 j.2)
theorem r02Join_f {i j : Iv} (hi : Sound i) (hj : Sound j) : gimbalref02_Join.f i.1 i.2 j.1 j.2 = some (joinI i j) := by
  unfold Sound at hi hj
  unfold gimbalref02_Join.f gimbalref02_norm.f gimbalref02_Of.f gimbalref02_None.f joinI
  rw [hi, hj]
  simp only [Option.bind_some]
  by_cases h1 : i.2 < i.1
  · rw [if_pos (by simp; omega), if_pos h1]
  · rw [if_neg (by simp; omega), if_neg h1]
    by_cases h2 : j.2 < j.1
    · rw [if_pos (by simp; omega), if_pos h2]
    · rw [if_neg (by simp; omega), if_neg h2]
      have e1 : gimbalref02_less.f i.1 j.1 = some (min i.1 j.1) := by unfold gimbalref02_less.f; split <;> (congr 1; omega)
      have e2 : gimbalref02_more.f i.2 j.2 = some (max i.2 j.2) := by unfold gimbalref02_more.f; split <;> (congr 1; omega)
      rw [e1, e2]; rfl
theorem sound_join {i j : Iv} (hi : Sound i) (hj : Sound j) : Sound (joinI i j) := by
  have a := sound_iff.mp hi
  have b := sound_iff.mp hj
  unfold joinI
  by_cases c1 : i.2 < i.1
  · rw [if_pos c1]; exact hj
  · rw [if_neg c1]
    by_cases c2 : j.2 < j.1
    · rw [if_pos c2]; exact hi
    · rw [if_neg c2]
      refine sound_iff.mpr (Or.inr ?_)
      rcases a with a | a
      · have : i.1 = 1 ∧ i.2 = 0 := by rw [a]; exact ⟨rfl, rfl⟩
        omega
      · rcases b with b | b
        · have : j.1 = 1 ∧ j.2 = 0 := by rw [b]; exact ⟨rfl, rfl⟩
          omega
        · dsimp only; omega
def leqI (i j : Iv) : Prop := i.2 < i.1 ∨ (¬ j.2 < j.1 ∧ j.1 ≤ i.1 ∧ i.2 ≤ j.2)
theorem r02Leq_f {i j : Iv} (hi : Sound i) (hj : Sound j) (h : leqI i j) : gimbalref02_Leq.f i.1 i.2 j.1 j.2 = some true := by
  unfold Sound at hi hj
  unfold leqI at h
  unfold gimbalref02_Leq.f gimbalref02_norm.f gimbalref02_Of.f gimbalref02_None.f
  rw [hi, hj]
  simp only [Option.bind_some]
  by_cases h1 : i.2 < i.1
  · rw [if_pos (by simp; omega)]
  · rw [if_neg (by simp; omega), if_neg (by simp; omega), if_pos (by omega)]
    simp; omega

theorem tight_mono {a x : Cg} (ha : Fit a) (hx : Fit x) {i j : Iv} (h : Sub a x) :
    Sub (tightS a i).1 (tightS x (joinI i j)).1 ∧ leqI (tightS a i).2 (tightS x (joinI i j)).2 := by
  have hJ : ∀ z, In32 z → InJ i z → InJ (joinI i j) z := fun z hz hz' => by
    unfold InJ at *
    rw [mi_mem hz] at *
    unfold joinI
    split
    · omega
    · split
      · exact hz'
      · dsimp only; omega
  rcases tight_spec ha i with ⟨e, _⟩ | ⟨lo, hi, h1, h2, h3, h4, h5, _, e2, e1⟩
  · rw [e]; exact ⟨Sub.none _ rfl, Or.inl (by simp)⟩
  · rcases tight_spec hx (joinI i j) with ⟨_, n⟩ | ⟨lo', hi', h1', h2', h3', h4', h5', h6', e2', e1'⟩
    · exact absurd (hJ lo h1.2.1 h3) (n lo (h lo h1))
    · have b1 := h6' lo (h lo h1) (hJ lo h1.2.1 h3)
      have b2 := h6' hi (h hi h2) (hJ hi h2.2.1 h4)
      rw [e1, e2, e1', e2']
      refine ⟨?_, Or.inr ⟨by dsimp only; omega, by dsimp only; omega, by dsimp only; omega⟩⟩
      by_cases c' : lo' = hi'
      · rw [if_pos c', if_pos (by omega), show lo = lo' by omega]; exact Sub.refl _
      · rw [if_neg c']
        split
        · intro z hz
          have := hz.2.2
          dsimp only at this
          rw [Int.zero_dvd] at this
          rw [show z = lo by omega]
          exact h lo h1
        · exact h

end Go.Proofs.YtfmmjekhknaniaaDoor.Core

namespace Go.Proofs.YtfmmjekhknaniaaDoor.Given
open Go.RowKit Go.Proofs.YtfmmjekhknaniaaDoor.Pr Go.Proofs.YtfmmjekhknaniaaDoor.Core
attribute [local go_sem high] eqA23

theorem of811 (w : World) : Calls Tryd.prog 10 #[.int .i64 8, .int .i64 11] w fun e w' => e = .returned (.agg #[.bool false, .int .i64 8, .int .i64 3]) ∧ Below w.heap.size w w' :=
  congr_Of.calls 1 8 11 false 8 3 w (by rw [Of_f (by omega) (by omega) (by omega) (by omega) 0]; decide +kernel)
theorem has833 (w : World) : Calls Tryd.prog 14 #[.agg #[.bool false, .int .i64 8, .int .i64 3], .int .i64 (-5)] w fun e w' => e = .returned (.bool true) ∧ Below w.heap.size w w' :=
  congr_Has.calls 8 false 8 3 (-5) true w (by decide +kernel)

def gimballaw31_awake.f : Option Bool := some true
set_option maxRecDepth 100000 in
theorem gimballaw31_awake.calls (r : Bool) (w : World) (h : gimballaw31_awake.f = some r) :
    Calls Tryd.prog 18 #[] w fun e w' => e = .returned (.bool r) ∧ Below w.heap.size w w' := by
  obtain rfl : true = r := Option.some.inj h
  clear h
  have hb0 := Below.refl w.heap.size w
  go_enter Tryd.func18, Tryd.ntmps18
  go_wp2_with (first | (go_at_call 10; with_reducible refine (of811 _).mono ?_; rintro e w' ⟨rfl, hb⟩; replace hb0 := hb0.trans (hb.mono hb0.size); clear hb) | (go_at_call 14; with_reducible refine (has833 _).mono ?_; rintro e w' ⟨rfl, hb⟩; replace hb0 := hb0.trans (hb.mono hb0.size); clear hb) | (go_at_call 16; with_reducible refine (congr_Text.calls false 8 3 _ _ rfl).mono ?_; rintro e w' ⟨rfl, hb⟩; replace hb0 := hb0.trans (hb.mono hb0.size); clear hb))
  go_ret
  exact ⟨rfl, hb0⟩
end Go.Proofs.YtfmmjekhknaniaaDoor.Given

namespace Go.Proofs.YtfmmjekhknaniaaDoor.Lr
open Go.ChangeShapes Go.WideShapes Go.ChangeAt Go.RowKit Go.Deep Go.Proofs.YtfmmjekhknaniaaDoor.Core Go.Proofs.YtfmmjekhknaniaaDoor.Pr Go.Proofs.YtfmmjekhknaniaaDoor.Given Go.Proofs.YtfmmjekhknaniaaDoorW.PrintWords
set_option maxRecDepth 100000

theorem fitB_false {c : Cg} (h : ¬ Fit c) : fitB c = false := by
  cases hb : fitB c with
  | false => rfl
  | true => exact absurd (fitB_iff.mp hb) h
theorem fit_t {c : Cg} (h : Fit c) (h1 : I64 c.2.1) (h2 : I64 c.2.2) (w : World) : Calls Tryd.prog 13 #[.agg #[.bool c.1, .int .i64 c.2.1, .int .i64 c.2.2]] w fun e w' => e = .returned (.bool true) ∧ Below w.heap.size w w' :=
  gimbalref31_Fit.calls 8 _ _ _ _ w (by rw [rFit_f c h1 h2 0, fitB_iff.mpr h])
theorem fit_n {c : Cg} (h : ¬ Fit c) (h1 : I64 c.2.1) (h2 : I64 c.2.2) (w : World) : Calls Tryd.prog 13 #[.agg #[.bool c.1, .int .i64 c.2.1, .int .i64 c.2.2]] w fun e w' => e = .returned (.bool false) ∧ Below w.heap.size w w' :=
  gimbalref31_Fit.calls 8 _ _ _ _ w (by rw [rFit_f c h1 h2 0, fitB_false h])
theorem of_c (i : Iv) (w : World) : Calls Tryd.prog 23 #[.int .i64 i.1, .int .i64 i.2] w fun e w' => e = .returned (.agg #[.int .i64 (ofI i.1 i.2).1, .int .i64 (ofI i.1 i.2).2]) ∧ Below w.heap.size w w' :=
  gimbalref02_Of.calls _ _ _ _ w rfl
theorem of_t {i : Iv} (h : Sound i) (w : World) : Calls Tryd.prog 23 #[.int .i64 i.1, .int .i64 i.2] w fun e w' => e = .returned (.agg #[.int .i64 i.1, .int .i64 i.2]) ∧ Below w.heap.size w w' :=
  gimbalref02_Of.calls _ _ _ _ w (congrArg some (show ofI i.1 i.2 = (i.1, i.2) from h))
theorem unsound {i : Iv} (h : ¬ Sound i) : (i.1 == (ofI i.1 i.2).1 && (i.2 == (ofI i.1 i.2).2)) = false := by
  cases hb : (i.1 == (ofI i.1 i.2).1 && (i.2 == (ofI i.1 i.2).2)) with
  | false => rfl
  | true =>
    simp only [Bool.and_eq_true, beq_iff_eq] at hb
    exact absurd (Prod.ext hb.1.symm hb.2.symm : ofI i.1 i.2 = i) h
theorem aw (w : World) : Calls Tryd.prog 18 #[] w fun e w' => e = .returned (.bool true) ∧ Below w.heap.size w w' := gimballaw31_awake.calls true w rfl

theorem cells38 : Tryd.prog.cellsOf 38 = 2 := by kernel_rfl
theorem read38 : Tryd.prog.readableRec 38 = true := by kernel_rfl
theorem size38 : 38 < Tryd.prog.types.size := of_decide_eq_true (by kernel_rfl)
theorem one38 : oneCellFields Tryd.prog #[⟨"Lo", 2, 0, false, "", "", 0⟩, ⟨"Hi", 2, 1, false, "", "", 8⟩] = true := by kernel_rfl
/-- An interval handed over by value, opened. -/
theorem open_iv {H : Type} {enc : TypeId × Value → H} {W : World} {base : Nat} {v : Value} {d : DataW H} {p : List MemPlace}
    (hval : Value.okWide Tryd.prog W .any base 38 v) (h : DataW.Trod enc Tryd.prog W 0 (fun _ => true) true 38 v d p) :
    ∃ i : Iv, v = .agg #[.int .i64 i.1, .int .i64 i.2] ∧ I64 i.1 ∧ I64 i.2 := by
  obtain ⟨v0, v1, y0, y1, n, rfl, _, _, h0, h1⟩ := Go.Joins.open_agg2 Tryd.underlying38 one38 cells38 hval h
  obtain ⟨m1, hm1, _, w1⟩ := DataW.trod_int Tryd.underlying2 h0
  obtain ⟨m2, hm2, _, w2⟩ := DataW.trod_int Tryd.underlying2 h1
  simp only [List.cons.injEq, and_true] at hm1 hm2
  exact ⟨(m1, m2), by rw [hm1, hm2], i64_of w1, i64_of w2⟩
end Go.Proofs.YtfmmjekhknaniaaDoor.Lr

