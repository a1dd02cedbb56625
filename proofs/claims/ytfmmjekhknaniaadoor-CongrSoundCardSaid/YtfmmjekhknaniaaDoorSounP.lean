/-
  gimballaw31.CongrSound returns true, whatever the two congruences, the counts, the operation and the interval, in every world in which the listed tables read as listed: the row, and its card (the tables tied to the program's text). No further condition.
-/
import Derived.Test.YtfmmjekhknaniaaDoorSounP5
import Derived.Test.YtfmmjekhknaniaaDoorSounP7
import Derived.Test.YtfmmjekhknaniaaDoorSounP8
import Derived.Test.YtfmmjekhknaniaaDoorSounP11
import Derived.Test.YtfmmjekhknaniaaDoorSounP12
import Derived.Test.YtfmmjekhknaniaaDoorSounP13
namespace Go.Proofs.YtfmmjekhknaniaaDoor.Core
open Go.RowKit Go.Proofs.YtfmmjekhknaniaaDoor.Pr Go.Proofs.YtfmmjekhknaniaaDoorW.PrintWords

/-- one of a congruence, by a count. -/
theorem number_f {c : Cg} (hc : Fit c) {i : Int} : (c.1 = true ∧ gimballaw31_number.f c.1 c.2.1 c.2.2 i = some (0, false)) ∨ ∃ x, Mem c x ∧ gimballaw31_number.f c.1 c.2.1 c.2.2 i = some (x, true) := by
  have mc := fit_mod hc
  have fc := fit_rem hc
  unfold gimballaw31_number.f
  by_cases h1 : c.1 = true
  · left; rw [if_pos h1]; exact ⟨h1, rfl⟩
  right
  rw [if_neg h1]
  by_cases h2 : c.2.1 = 0
  · rw [if_pos h2]
    exact ⟨c.2.2, ⟨bfalse h1, by unfold In32; omega, by rw [Int.sub_self]; exact Int.dvd_zero _⟩, rfl⟩
  have m0 : 0 < c.2.1 := by omega
  rw [if_neg h2]
  have key : ∀ (n m : Int), -1 ≤ n → n ≤ 2147483647 → 0 ≤ m → m ≤ 8589934592 → 0 < n + m + 1 → c.2.2 + n * c.2.1 ≤ 2147483647 → -2147483648 ≤ c.2.2 - m * c.2.1 → (n = -1 → c.2.2 - c.2.1 ≤ 2147483647) →
      IntKind.u64.wrap (wrap64 ((wrap64 (n + m)) + 1)) ≠ 0 ∧
      Mem c (wrap64 (c.2.2 + (wrap64 ((wrap64 ((wrap64 (Int.tmod (IntKind.u64.wrap i) (IntKind.u64.wrap (wrap64 ((wrap64 (n + m)) + 1))))) - m)) * c.2.1)))) := fun n m n0 n1 m0' m1 hp hu hl hneg => by
    have w0 : 0 ≤ IntKind.u64.wrap i := by rw [IntKind.wrap_u64]; omega
    rw [w64_id (n := n + m) (by omega) (by omega), w64_id (n := n + m + 1) (by omega) (by omega), u64_id (n := n + m + 1) (by omega) (by omega), Int.tmod_eq_emod_of_nonneg w0]
    refine ⟨by omega, ?_⟩
    have t0 := Int.emod_nonneg (IntKind.u64.wrap i) (show n + m + 1 ≠ 0 by omega)
    have t1 := Int.emod_lt_of_pos (IntKind.u64.wrap i) hp
    generalize IntKind.u64.wrap i % (n + m + 1) = t at *
    have q1 : (t - m) * c.2.1 ≤ n * c.2.1 := Int.mul_le_mul_of_nonneg_right (by omega) (by omega)
    have q2 : -m * c.2.1 ≤ (t - m) * c.2.1 := Int.mul_le_mul_of_nonneg_right (by omega) (by omega)
    rw [Int.neg_mul] at q2
    have q3 : -2147483648 ≤ c.2.2 + (t - m) * c.2.1 ∧ c.2.2 + (t - m) * c.2.1 ≤ 2147483647 := by omega
    rw [w64_id (n := t) (by omega) (by omega), w64_id (n := t - m) (by omega) (by omega), w64_id (n := (t - m) * c.2.1) (by omega) (by omega), w64_id (by omega) (by omega)]
    refine ⟨bfalse h1, q3, ⟨t - m, ?_⟩⟩
    rw [Int.mul_comm c.2.1]; omega
  have em := Int.mul_ediv_add_emod (c.2.2 + 2147483648) c.2.1
  have em0 := Int.emod_nonneg (c.2.2 + 2147483648) h2
  have em1 := Int.emod_lt_of_pos (c.2.2 + 2147483648) m0
  have d0 : 0 ≤ (c.2.2 + 2147483648) / c.2.1 := Int.ediv_nonneg (by omega) (by omega)
  have d1 : (c.2.2 + 2147483648) / c.2.1 ≤ c.2.2 + 2147483648 := Int.ediv_le_self _ (by omega)
  rw [w64_id (n := c.2.2 + 2147483648) (by omega) (by omega), Int.tdiv_eq_ediv_of_nonneg (show 0 ≤ c.2.2 + 2147483648 by omega), w64_id (n := (c.2.2 + 2147483648) / c.2.1) (by omega) (by omega)]
  have hne : ∃ y, In32 y ∧ c.2.1 ∣ y - c.2.2 := by
    obtain ⟨y, hy⟩ := fit_some hc (bfalse h1)
    exact ⟨y, hy.2.1, hy.2.2⟩
  generalize (c.2.2 + 2147483648) / c.2.1 = m at *
  generalize (c.2.2 + 2147483648) % c.2.1 = mr at *
  have hmm : m * c.2.1 = c.2.1 * m := Int.mul_comm _ _
  by_cases h3 : c.2.2 > 2147483647
  · rw [if_pos h3]
    -- one step down is an int32: so there is one
    obtain ⟨y, hy, hd⟩ := hne
    unfold In32 at hy
    have hm1 : 1 ≤ m := by
      have g1 := ge_of_dvd m0 (dvd_sub_comm' hd) (show y - c.2.1 < c.2.2 by omega)
      have g2 : y ≤ c.2.2 - c.2.1 := by
        rcases eq_or_step m0 (dvd_sub_comm' hd) g1 with e | e <;> omega
      by_cases h : 1 ≤ m
      · exact h
      · have : m = 0 := by omega
        subst this
        omega
    obtain ⟨k1, k2⟩ := key (-1) m (by omega) (by omega) d0 (by omega) (by omega) (by omega) (by omega) (by omega)
    rw [if_neg k1]
    exact ⟨_, k2, rfl⟩
  · have en := Int.mul_ediv_add_emod (2147483647 - c.2.2) c.2.1
    have en0 := Int.emod_nonneg (2147483647 - c.2.2) h2
    have e0 : 0 ≤ (2147483647 - c.2.2) / c.2.1 := Int.ediv_nonneg (by omega) (by omega)
    have e1 : (2147483647 - c.2.2) / c.2.1 ≤ 2147483647 - c.2.2 := Int.ediv_le_self _ (by omega)
    rw [if_neg h3, w64_id (n := 2147483647 - c.2.2) (by omega) (by omega), Int.tdiv_eq_ediv_of_nonneg (show 0 ≤ 2147483647 - c.2.2 by omega), w64_id (n := (2147483647 - c.2.2) / c.2.1) (by omega) (by omega)]
    generalize (2147483647 - c.2.2) / c.2.1 = n at *
    have hnn : n * c.2.1 = c.2.1 * n := Int.mul_comm _ _
    obtain ⟨k1, k2⟩ := key n m (by omega) (by omega) d0 (by omega) (by omega) (by omega) (by omega) (by omega)
    rw [if_neg k1]
    exact ⟨_, k2, rfl⟩

end Go.Proofs.YtfmmjekhknaniaaDoor.Core

namespace Go.Proofs.YtfmmjekhknaniaaDoor.Pr
open Go.RowKit Go.Proofs.YtfmmjekhknaniaaDoor.Given Go.Proofs.YtfmmjekhknaniaaDoorW.PrintWords Go.Proofs.YtfmmjekhknaniaaDoorW.PrintLast Go.Proofs.YtfmmjekhknaniaaDoorW.PrintMore
attribute [local go_sem] max2_int min2_int max_two min_two max_three min_three max_four min_four   -- for this text's walks alone
set_option linter.unusedVariables false
set_option linter.unusedSimpArgs false

def gimballaw31_in.f (k : Nat) (a0_0 : Bool) (a0_1 : Int) (a0_2 : Int) (a1 : Int) : Option (Bool) := (gimballaw31_int32s.f a1).bind fun t618 => (if t618 = true then ((congr_Has.f k a0_0 a0_1 a0_2 a1).bind fun t619 => (some t619)) else (some true))
set_option maxHeartbeats 8000000 in
set_option maxRecDepth 100000 in
theorem gimballaw31_in.calls (k : Nat) (a0_0 : Bool) (a0_1 : Int) (a0_2 : Int) (a1 : Int) (r : Bool) (w : World) (h : gimballaw31_in.f k a0_0 a0_1 a0_2 a1 = some r) :
  Calls Tryd.prog 45 #[.agg #[.bool a0_0, .int .i64 a0_1, .int .i64 a0_2], .int .i64 a1] w fun e w' => e = .returned (.bool r) ∧ Below w.heap.size w w' := by
 have hu23 := Tryd.underlying23
 have HB := Aside0.mk (Below.refl w.heap.size w)
 have H : ((gimballaw31_int32s.f a1).bind fun t618 => (if t618 = true then ((congr_Has.f k a0_0 a0_1 a0_2 a1).bind fun t619 => (some t619)) else (some true))) = some r := h
 clear h
 replace H := Option.bind_eq_some_iff.mp H
 obtain ⟨t618, A30, H⟩ := H
 replace H : (if t618 = true then ((congr_Has.f k a0_0 a0_1 a0_2 a1).bind fun t619 => (some t619)) else (some true)) = some r := H
 have A3 := Aside0.mk A30
 clear A30
 by_cases c4 : t618 = true
 ·
  subst c4
  have H1 : ((congr_Has.f k a0_0 a0_1 a0_2 a1).bind fun t619 => (some t619)) = some r := by rw [if_pos rfl] at H; exact H
  clear H
  have H := H1
  clear H1
  replace H := Option.bind_eq_some_iff.mp H
  obtain ⟨t619, A50, H⟩ := H
  replace H : (some t619) = some r := H
  have A5 := Aside0.mk A50
  clear A50
  obtain rfl := Option.some.inj H
  go_enter Tryd.func45, Tryd.ntmps45
  go_wp2_with (first | ((with_reducible refine gate_dst (N := 2) rfl ?_); refine box_event ?hg (N := 2) ?hd (cs := #[.bool a0_0, .int .i64 a0_1, .int .i64 a0_2]) (t := 23) ?hr ?_; (case hd => rfl); (case hg => rfl); (case hr => first | (go_simp; done) | (go_simp; rfl)); intro gb617 hg w6 hbox hb; have n0_ := kW HB hb; have n1_ := Aside0.mk (hbox); have n2_ := Aside0.mk ((by rw [hg]; exact (below_size (bS HB)) : w.heap.size ≤ gb617)); have n3_ := Aside0.mk ((by rw [hg]; exact (below_size (bS HB)) : w.heap.size ≤ gb617)); clear HB; have HB := n0_; have BK617 := n1_; have GW617 := n2_; have GE617 := n3_; clear n0_ n1_ n2_ n3_; clear hb hbox hg) | ((with_reducible refine gate_callee (f := 86) rfl ?_); refine goesL_ (some 6) rfl rfl Tryd.func86 (by kernel_rfl) rfl #[.int .i64 a1] rfl mS ?_; (with_reducible refine (gimballaw31_int32s.calls a1 true _ A3.out).mono ?_); rintro e w' ⟨rfl, ⟨nd, rfl⟩⟩; refine ⟨_, rfl, ?_⟩; have hcz7_0 := cz0 BK617; have hcz7_1 := cz1 BK617; have hcz7_2 := cz2 BK617; have hfz7_0 := fz BK617 0; have hfz7_1 := fz BK617 1; have hfz7_2 := fz BK617 2) | (go_at_call 14; (with_reducible refine (congr_Has.calls k a0_0 a0_1 a0_2 a1 t619 _ A5.out).mono ?_); rintro e w8 ⟨rfl, hb⟩; replace BK617 := kB BK617 hb; replace HB := kW HB hb; (try clear hb); (try clear hb2); (try clear hk); (try clear hi)))
  go_ret
  exact ⟨eS, bS HB⟩
 ·
  replace c4 := Bool.eq_false_iff.mpr c4
  subst c4
  have H1 : (some true) = some r := by rw [if_neg (show ¬ (false = true) by decide)] at H; exact H
  clear H
  have H := H1
  clear H1
  obtain rfl := Option.some.inj H
  go_enter Tryd.func45, Tryd.ntmps45
  go_wp2_with (first | ((with_reducible refine gate_dst (N := 2) rfl ?_); refine box_event ?hg (N := 2) ?hd (cs := #[.bool a0_0, .int .i64 a0_1, .int .i64 a0_2]) (t := 23) ?hr ?_; (case hd => rfl); (case hg => rfl); (case hr => first | (go_simp; done) | (go_simp; rfl)); intro gb617 hg w9 hbox hb; have n0_ := kW HB hb; have n1_ := Aside0.mk (hbox); have n2_ := Aside0.mk ((by rw [hg]; exact (below_size (bS HB)) : w.heap.size ≤ gb617)); have n3_ := Aside0.mk ((by rw [hg]; exact (below_size (bS HB)) : w.heap.size ≤ gb617)); clear HB; have HB := n0_; have BK617 := n1_; have GW617 := n2_; have GE617 := n3_; clear n0_ n1_ n2_ n3_; clear hb hbox hg) | ((with_reducible refine gate_callee (f := 86) rfl ?_); refine goesL_ (some 6) rfl rfl Tryd.func86 (by kernel_rfl) rfl #[.int .i64 a1] rfl mS ?_; (with_reducible refine (gimballaw31_int32s.calls a1 false _ A3.out).mono ?_); rintro e w' ⟨rfl, ⟨nd, rfl⟩⟩; refine ⟨_, rfl, ?_⟩))
  go_ret
  exact ⟨eS, bS HB⟩

end Go.Proofs.YtfmmjekhknaniaaDoor.Pr

namespace Go.Proofs.YtfmmjekhknaniaaDoor.Sd
open Go.ChangeShapes Go.WideShapes Go.ChangeAt Go.RowKit Go.Deep Go.Proofs.YtfmmjekhknaniaaDoor.Core Go.Proofs.YtfmmjekhknaniaaDoor.Pr Go.Proofs.YtfmmjekhknaniaaDoor.Given Lr Go.Proofs.YtfmmjekhknaniaaDoorW.PrintWords Go.Proofs.YtfmmjekhknaniaaDoorW.PrintLast
set_option maxRecDepth 100000

theorem in_c {c : Cg} (hc : Fit c) {z : Int} (h : In32 z → Mem c z) (w : World) : Calls Tryd.prog 45 #[.agg #[.bool c.1, .int .i64 c.2.1, .int .i64 c.2.2], .int .i64 z] w fun e w' => e = .returned (.bool true) ∧ Below w.heap.size w w' := by
  refine gimballaw31_in.calls 8 _ _ _ _ _ w ?_
  unfold gimballaw31_in.f gimballaw31_int32s.f
  by_cases h1 : z ≥ -2147483648
  · rw [if_pos h1]
    by_cases h2 : z ≤ 2147483647
    · have hz : In32 z := ⟨h1, h2⟩
      have hi : I64 z := by unfold I64; omega
      simp only [Option.bind_some, h2, decide_true, if_true]
      rw [Has_f hc hi 0, memB_iff.mpr (h hz)]
      rfl
    · simp [h2]
  · simp [h1]
theorem mul_range {x y : Int} (hx : In32 x) (hy : In32 y) : -4611686018427387904 ≤ x * y ∧ x * y ≤ 4611686018427387904 := by
  unfold In32 at hx hy
  have h1 := ab_le (x := x) (m := 2147483648) (by omega) (by omega)
  have h2 := ab_le (x := y) (m := 2147483648) (by omega) (by omega)
  have h3 : ab x * ab y ≤ 2147483648 * 2147483648 := Int.mul_le_mul h1 h2 (ab_nonneg _) (by omega)
  rw [ab_mul] at h3
  unfold ab at h3
  split at h3 <;> omega
theorem has_c {i : Iv} (h : Sound i) (x : Int) (w : World) : Calls Tryd.prog 47 #[.agg #[.int .i64 i.1, .int .i64 i.2], .int .i64 x] w fun e w' => e = .returned (.bool (decide (hasI i x))) ∧ Below w.heap.size w w' :=
  gimbalref02_Has.calls _ _ _ _ w (r02HasI_f h x)
theorem has_t {i : Iv} (h : Sound i) {x : Int} (hx : hasI i x) (w : World) : Calls Tryd.prog 47 #[.agg #[.int .i64 i.1, .int .i64 i.2], .int .i64 x] w fun e w' => e = .returned (.bool true) ∧ Below w.heap.size w w' := by
  have := has_c h x w
  rw [decide_eq_true hx] at this
  exact this
theorem holds_c (op x y : Int) (w : World) : Calls Tryd.prog 46 #[.int .i64 op, .int .i64 x, .int .i64 y] w fun e w' => e = .returned (.bool (decide (Holds op x y))) ∧ Below w.heap.size w w' :=
  (gimballaw31_holds.calls op x y _ w (lholds_f op x y)).mono fun _ _ ⟨h, hd⟩ => ⟨h, hd.below⟩

theorem law (op ii jj : Int) (a b : Cg) (i : Iv) (a1 : I64 a.2.1) (a2 : I64 a.2.2) (b1 : I64 b.2.1) (b2 : I64 b.2.2) (w : World) :
    Calls Tryd.prog 8 #[.agg #[.bool a.1, .int .i64 a.2.1, .int .i64 a.2.2], .agg #[.bool b.1, .int .i64 b.2.1, .int .i64 b.2.2], .int .i64 ii, .int .i64 jj, .int .i64 op, .agg #[.int .i64 i.1, .int .i64 i.2]] w fun e w' => e = .returned (.bool true) ∧ Below w.heap.size w w' := by
  by_cases fa : Fit a
  case neg => exact unfit_a op ii jj _ _ _ _ _ _ _ _ (fit_n fa a1 a2) aw w
  by_cases fb : Fit b
  case neg => exact unfit_b op ii jj _ _ _ _ _ _ _ _ (fit_t fa a1 a2) (fit_n fb b1 b2) aw w
  by_cases fi : Sound i
  case neg => exact Sd.unsound op ii jj _ _ _ _ _ _ _ _ _ _ (Lr.unsound fi) (fit_t fa a1 a2) (fit_t fb b1 b2) (of_c i) aw w
  have fta := fit_t fa a1 a2
  have ftb := fit_t fb b1 b2
  have fti := of_t fi
  rcases number_f fa (i := ii) with ⟨_, na⟩ | ⟨x, hx, na⟩
  · have := fun w => gimballaw31_number.calls _ _ _ _ _ _ w na
    rcases number_f fb (i := jj) with ⟨_, nb⟩ | ⟨y, hy, nb⟩
    · exact nonum op ii jj _ _ _ _ _ _ _ _ _ _ _ _ rfl fta ftb fti aw this (fun w => gimballaw31_number.calls _ _ _ _ _ _ w nb) w
    · exact nonum op ii jj _ _ _ _ _ _ _ _ _ _ _ _ rfl fta ftb fti aw this (fun w => gimballaw31_number.calls _ _ _ _ _ _ w nb) w
  have ca := fun w => gimballaw31_number.calls _ _ _ _ _ _ w na
  rcases number_f fb (i := jj) with ⟨_, nb⟩ | ⟨y, hy, nb⟩
  · exact nonum op ii jj _ _ _ _ _ _ _ _ _ _ _ _ rfl fta ftb fti aw ca (fun w => gimballaw31_number.calls _ _ _ _ _ _ w nb) w
  have cb := fun w => gimballaw31_number.calls _ _ _ _ _ _ w nb
  have rx := hx.2.1
  have ry := hy.2.1
  have rm := mul_range rx ry
  have rd := tdiv_range (x := x) (d := y) (m := 2147483648) (by have := rx.1; omega) (by have := rx.2; omega)
  have rx' := rx
  have ry' := ry
  unfold In32 at rx' ry'
  obtain ⟨m, hm, em⟩ := Meet_f fa fb
  obtain ⟨km, hkm⟩ := em.rounds
  obtain ⟨kj, hj⟩ := (Join_f fa fb).rounds
  obtain ⟨ks, hs⟩ := (Abs_f fa).rounds
  obtain ⟨kp, hp⟩ := (Add_f fa fb).rounds
  obtain ⟨kq, hq⟩ := (Sub_f fa fb).rounds
  obtain ⟨kt, ht⟩ := (Mul_f fa fb).rounds
  obtain ⟨ko, ho⟩ := (Mod_f fa fb).rounds
  obtain ⟨ktt, htt⟩ := (Test_f op em).rounds
  have ft := fit_test (op := op) fa fb hm.1
  have fg := fit_tight fa i
  have wn : wrap64 (-x) = -x := w64_id (by omega) (by omega)
  have ip : ∀ w, Calls Tryd.prog 45 #[.agg #[.bool (addS a b).1, .int .i64 (addS a b).2.1, .int .i64 (addS a b).2.2], .int .i64 (wrap64 (x + y))] w fun e w' => e = .returned (.bool true) ∧ Below w.heap.size w w' := by
    rw [w64_id (n := x + y) (by omega) (by omega)]; exact in_c (fit_add a b) fun h => mem_add hx hy h
  have iq : ∀ w, Calls Tryd.prog 45 #[.agg #[.bool (subS a b).1, .int .i64 (subS a b).2.1, .int .i64 (subS a b).2.2], .int .i64 (wrap64 (x - y))] w fun e w' => e = .returned (.bool true) ∧ Below w.heap.size w w' := by
    rw [w64_id (n := x - y) (by omega) (by omega)]; exact in_c (fit_sub a b) fun h => mem_sub hx hy h
  have im : ∀ w, Calls Tryd.prog 45 #[.agg #[.bool (mulS a b).1, .int .i64 (mulS a b).2.1, .int .i64 (mulS a b).2.2], .int .i64 (wrap64 (x * y))] w fun e w' => e = .returned (.bool true) ∧ Below w.heap.size w w' := by
    rw [w64_id (n := x * y) (by omega) (by omega)]; exact in_c (fit_mul a b) fun h => mem_mul hx hy h
  have iN : ∀ w, Calls Tryd.prog 45 #[.agg #[.bool (negS a).1, .int .i64 (negS a).2.1, .int .i64 (negS a).2.2], .int .i64 (wrap64 (-x))] w fun e w' => e = .returned (.bool true) ∧ Below w.heap.size w w' := by
    rw [wn]; exact in_c (fit_neg fa) fun h => mem_neg fa hx h
  have is1 : x < wrap64 (-x) → ∀ w, Calls Tryd.prog 45 #[.agg #[.bool (absS a).1, .int .i64 (absS a).2.1, .int .i64 (absS a).2.2], .int .i64 (wrap64 (-x))] w fun e w' => e = .returned (.bool true) ∧ Below w.heap.size w w' := by
    rw [wn]
    intro hl
    have e : ab x = -x := by unfold ab; rw [if_pos (by omega)]
    exact in_c (fit_abs fa) fun h => e ▸ mem_abs fa hx (e.symm ▸ h)
  have is2 : wrap64 (-x) ≤ x → ∀ w, Calls Tryd.prog 45 #[.agg #[.bool (absS a).1, .int .i64 (absS a).2.1, .int .i64 (absS a).2.2], .int .i64 x] w fun e w' => e = .returned (.bool true) ∧ Below w.heap.size w w' := by
    rw [wn]
    intro hl
    have e : ab x = x := by unfold ab; rw [if_neg (by omega)]
    exact in_c (fit_abs fa) fun h => by
      have := mem_abs fa hx (e.symm ▸ h)
      rwa [e] at this
  have iD : ¬ y = 0 → ∀ w, Calls Tryd.prog 45 #[.agg #[.bool (divS a b).1, .int .i64 (divS a b).2.1, .int .i64 (divS a b).2.2], .int .i64 (IntKind.i64.wrap (Int.tdiv x y))] w fun e w' => e = .returned (.bool true) ∧ Below w.heap.size w w' := by
    intro hy0
    rw [i64_w, w64_id (n := Int.tdiv x y) (by omega) (by omega)]; exact in_c (fit_div a b) fun h => mem_div hx hy hy0 h
  have iO : ¬ y = 0 → ∀ w, Calls Tryd.prog 45 #[.agg #[.bool (modS a b).1, .int .i64 (modS a b).2.1, .int .i64 (modS a b).2.2], .int .i64 (Int.tmod x y)] w fun e w' => e = .returned (.bool true) ∧ Below w.heap.size w w' :=
    fun hy0 => in_c (fit_mds a b) fun h => mem_mds hx hy hy0 h
  have hop : op < 14 ∨ 19 < op ∨ decide (Holds op x y) = true → op < 14 ∨ 19 < op ∨ Holds op x y := by simp
  have ix : I64 x := by unfold I64; omega
  by_cases y0 : y = 0
  · exact main0 op ii jj _ _ _ _ _ _ _ _ x y y0 (memB b x) _ _ _ _ _ _ _ _ _ _ _ _ _ _ _ _ _ _ _ _ _ _ _ _ _ _ _ _ _ _ (decide (Holds op x y)) (decide (hasI i x)) _ _ _ _ _ _ _ _
      fta ftb fti aw ca cb
      (fun w => congr_Add.calls kp _ _ _ _ _ _ _ _ _ w hp) ip (fun w => congr_Sub.calls kq _ _ _ _ _ _ _ _ _ w hq) iq (fun w => congr_Mul.calls kt _ _ _ _ _ _ _ _ _ w ht) im
      (fun w => congr_Neg.calls 1 _ _ _ _ _ _ w (Neg_f fa 0)) iN (fun w => congr_Abs.calls ks _ _ _ _ _ _ w hs) is1 is2
      (fun w => congr_Join.calls kj _ _ _ _ _ _ _ _ _ w hj) (in_c (fit_join fa fb) fun _ => sub_join_l x hx) (in_c (fit_join fa fb) fun _ => sub_join_r y hy)
      (fun w => congr_Div.calls 9 _ _ _ _ _ _ _ _ _ w (Div_f fa fb 0)) iD (fun w => congr_Mod.calls ko _ _ _ _ _ _ _ _ _ w ho) iO
      (fun w => congr_Has.calls 8 _ _ _ _ _ w (Has_f fb ix 0)) (fun w => congr_Meet.calls km _ _ _ _ _ _ _ _ _ w hkm) (fun h => in_c hm.1 fun _ => (hm.2 x).mpr ⟨hx, memB_iff.mp h⟩)
      (fun w => congr_Test.calls ktt _ _ _ _ _ _ _ _ _ _ _ _ _ w htt) (holds_c op x y) (fun h => in_c ft.1 fun _ => (mem_test hm hx hy (hop h)).1) (fun h => in_c ft.2 fun _ => (mem_test hm hx hy (hop h)).2)
      (fun w => congr_Tighten.calls 2 _ _ _ _ _ _ _ _ _ _ w (Tighten_f fa fi 0)) (has_c fi x) (fun h => in_c fg.1 fun _ => (mem_tight fa hx (of_decide_eq_true h)).1) (fun h => has_t fg.2 (mem_tight fa hx (of_decide_eq_true h)).2) w
  · exact main1 op ii jj _ _ _ _ _ _ _ _ x y y0 (memB b x) _ _ _ _ _ _ _ _ _ _ _ _ _ _ _ _ _ _ _ _ _ _ _ _ _ _ _ _ _ _ (decide (Holds op x y)) (decide (hasI i x)) _ _ _ _ _ _ _ _
      fta ftb fti aw ca cb
      (fun w => congr_Add.calls kp _ _ _ _ _ _ _ _ _ w hp) ip (fun w => congr_Sub.calls kq _ _ _ _ _ _ _ _ _ w hq) iq (fun w => congr_Mul.calls kt _ _ _ _ _ _ _ _ _ w ht) im
      (fun w => congr_Neg.calls 1 _ _ _ _ _ _ w (Neg_f fa 0)) iN (fun w => congr_Abs.calls ks _ _ _ _ _ _ w hs) is1 is2
      (fun w => congr_Join.calls kj _ _ _ _ _ _ _ _ _ w hj) (in_c (fit_join fa fb) fun _ => sub_join_l x hx) (in_c (fit_join fa fb) fun _ => sub_join_r y hy)
      (fun w => congr_Div.calls 9 _ _ _ _ _ _ _ _ _ w (Div_f fa fb 0)) iD (fun w => congr_Mod.calls ko _ _ _ _ _ _ _ _ _ w ho) iO
      (fun w => congr_Has.calls 8 _ _ _ _ _ w (Has_f fb ix 0)) (fun w => congr_Meet.calls km _ _ _ _ _ _ _ _ _ w hkm) (fun h => in_c hm.1 fun _ => (hm.2 x).mpr ⟨hx, memB_iff.mp h⟩)
      (fun w => congr_Test.calls ktt _ _ _ _ _ _ _ _ _ _ _ _ _ w htt) (holds_c op x y) (fun h => in_c ft.1 fun _ => (mem_test hm hx hy (hop h)).1) (fun h => in_c ft.2 fun _ => (mem_test hm hx hy (hop h)).2)
      (fun w => congr_Tighten.calls 2 _ _ _ _ _ _ _ _ _ _ w (Tighten_f fa fi 0)) (has_c fi x) (fun h => in_c fg.1 fun _ => (mem_tight fa hx (of_decide_eq_true h)).1) (fun h => has_t fg.2 (mem_tight fa hx (of_decide_eq_true h)).2) w

theorem sound_contract (H : Type) (enc : TypeId × Value → H) (W : World) (base : Nat) (args : Array Value) (ds gs : List (DataW H)) (before : List MemPlace)
    (hval : ∀ (j : Nat) t v, Tryd.f8.params[j]? = some t → args[j]? = some v → Value.okWide Tryd.prog W .any base t v)
    (hW : DataW.Whole enc Tryd.prog Tryd.f8.params.toList Rows.congrSoundSpec.vars false W args.toList ds gs before) (_hL : laidMetH Tryd.prog Rows.congrSoundRow.laid W) :
    Calls Tryd.prog 8 args W fun e W' => ∃ v, e = .returned v ∧ Rows.congrSoundSpec.post enc Tryd.prog Tryd.f8 false true false false W args v W' := by
  have hW' := hW
  have hlt := hW.lt
  obtain ⟨p, q, hA0, hV, rfl, hfz, hnd⟩ := hW
  have hA : DataW.TrodAll enc Tryd.prog W 0 (fun _ => true) true Tryd.f8.params.toList args.toList ds p := hA0
  rw [Tryd.params8] at hA hval
  obtain ⟨v0, s0, d0, e0, p0, q0, as0, rfl, rfl, h0, g0⟩ := trodAll_cons hA
  obtain ⟨v1, s1, d1, e1, p1, q1, rfl, rfl, rfl, h1, g1⟩ := trodAll_cons g0
  obtain ⟨v2, s2, d2, e2, p2, q2, rfl, rfl, rfl, h2, g2⟩ := trodAll_cons g1
  obtain ⟨v3, s3, d3, e3, p3, q3, rfl, rfl, rfl, h3, g3⟩ := trodAll_cons g2
  obtain ⟨v4, s4, d4, e4, p4, q4, rfl, rfl, rfl, h4, g4⟩ := trodAll_cons g3
  obtain ⟨v5, s5, d5, e5, p5, q5, rfl, rfl, rfl, h5, g5⟩ := trodAll_cons g4
  obtain ⟨rfl, rfl, rfl⟩ := trodAll_nil g5
  obtain rfl : args = #[v0, v1, v2, v3, v4, v5] := Array.toList_inj.mp as0
  obtain ⟨rfl, rfl⟩ := trodVars_none hV
  clear hA0 g0 g1 g2 g3 g4
  obtain ⟨a, hv0, i1, i2⟩ := open_cg (hval 0 23 v0 rfl rfl) h0
  subst hv0
  obtain ⟨b, hv1, i3, i4⟩ := open_cg (hval 1 23 v1 rfl rfl) h1
  subst hv1
  obtain ⟨ii, rfl, rfl, rfl, wi⟩ := open_int Tryd.underlying2 (hval 2 2 v2 rfl rfl) h2
  obtain ⟨jj, rfl, rfl, rfl, wj⟩ := open_int Tryd.underlying2 (hval 3 2 v3 rfl rfl) h3
  obtain ⟨op, rfl, rfl, rfl, wo⟩ := open_int Tryd.underlying3 (hval 4 3 v4 rfl rfl) h4
  obtain ⟨i, hv5, _, _⟩ := open_iv (hval 5 38 v5 rfl rfl) h5
  subst hv5
  refine (law op ii jj a b i i1 i2 i3 i4 W).mono fun e W' ⟨he, hb⟩ => ?_
  subst he
  have h0' := hb.trod laidOut read23 size23 h0 (fun y hy => hlt y (by simp [hy]))
  have h1' := hb.trod laidOut read23 size23 h1 (fun y hy => hlt y (by simp [hy]))
  have h5' := hb.trod laidOut read38 size38 h5 (fun y hy => hlt y (by simp [hy]))
  exact ⟨_, rfl, _, _, _, [], _, [], hW', trodAll_mk1 (shut_bool Tryd.underlying4 _), trodAll_cons_mk h0' (trodAll_cons_mk h1' (trodAll_cons_mk (shut_int Tryd.underlying2 wi) (trodAll_cons_mk (shut_int Tryd.underlying2 wj) (trodAll_cons_mk (shut_int Tryd.underlying3 wo) (trodAll_cons_mk h5' trodAll_mk0))))), rfl, hb.frame _, fun h => by cases h⟩
noncomputable def congrSound_world (os : Os) : World := World.laidAll Tryd.prog os Rows.congrSoundRow.laid
theorem congrSound_laid_met (os : Os) : laidMet Tryd.prog Rows.congrSoundRow.laid ((congrSound_world os).forCall (fun _ _ => 0) ⟨#[], #[.agg #[.bool false, .int .i64 0, .int .i64 0], .agg #[.bool false, .int .i64 0, .int .i64 0], .int .i64 0, .int .i64 0, .int .i64 0, .agg #[.int .i64 0, .int .i64 0]], []⟩).memory :=
  laidMet_laidAll _ (by kernel_rfl) (by kernel_rfl)
theorem congrSound_reads (os : Os) {H : Type} (enc : TypeId × Value → H) : ∃ places, DataW.whole enc Tryd.prog ((congrSound_world os).forCall (fun _ _ => 0) ⟨#[], #[.agg #[.bool false, .int .i64 0, .int .i64 0], .agg #[.bool false, .int .i64 0, .int .i64 0], .int .i64 0, .int .i64 0, .int .i64 0, .agg #[.int .i64 0, .int .i64 0]], []⟩).memory Tryd.f8.params.toList Rows.congrSoundSpec.vars false (#[.agg #[.bool false, .int .i64 0, .int .i64 0], .agg #[.bool false, .int .i64 0, .int .i64 0], .int .i64 0, .int .i64 0, .int .i64 0, .agg #[.int .i64 0, .int .i64 0]] : Array Value).toList 8 = some ([.agg [.lit (.bool false), .lit (.int .i64 0), .lit (.int .i64 0)], .agg [.lit (.bool false), .lit (.int .i64 0), .lit (.int .i64 0)], .lit (.int .i64 0), .lit (.int .i64 0), .lit (.int .i64 0), .agg [.lit (.int .i64 0), .lit (.int .i64 0)]], [], places) :=
  ⟨[], by kernel_rfl⟩
theorem congrSound_lifted (os : Os) (started : os.Started) (H : Type) (enc : TypeId × Value → H) (F : Stop.Interp) :
    ReturnsInHanded {} Tryd.checked os 8 .any ((OpenSpec.ofChange Rows.congrSoundSpec).preRow enc Tryd.prog Tryd.f8 Rows.congrSoundRow.domain false Rows.congrSoundRow.laid) (((OpenSpec.ofChange Rows.congrSoundSpec).at F).post enc Tryd.prog Tryd.f8 false true false false) := by
  obtain ⟨places, hx⟩ := congrSound_reads os enc
  refine returnsInHanded_of_row (C := Tryd.checked) (s := OpenSpec.ofChange Rows.congrSoundSpec) own started (by kernel_rfl) Tryd.func8
    (witness_row_at (enc := enc) (C := Tryd.checked) false (congrSound_world os) #[.agg #[.bool false, .int .i64 0, .int .i64 0], .agg #[.bool false, .int .i64 0, .int .i64 0], .int .i64 0, .int .i64 0, .int .i64 0, .agg #[.int .i64 0, .int .i64 0]] (World.laidAll_os _ _ _) (by kernel_rfl) (by kernel_rfl) (by kernel_rfl)
      (OpenSpec.preRow_of_cond 8 hx (by kernel_rfl) (fun k hk => by cases hk) (by kernel_rfl) (congrSound_laid_met os))) ?_
  intro W base args ds gs before hval hW _ _ _ hL _ _
  exact sound_contract H enc W base args ds gs before hval hW hL
theorem congrSound_said : Rows.CongrSoundSaid :=
  OpenClaim.holds_of_cond 8 Tryd.f8 rfl rfl rfl rfl rfl rfl rfl ⟨rfl, rfl, rfl, rfl, rfl⟩ rfl rfl rfl rfl rfl (by kernel_rfl) Tryd.func8 (by kernel_rfl)
    (of_decide_eq_true (by kernel_rfl)) (by unfold Func.isWrapper; first | (rw [if_pos (by decide +kernel)]; kernel_rfl) | (rw [if_neg (by decide +kernel)]; exact ⟨rfl, rfl⟩))
    (fun os started H enc _ F => by rw [OpenClaim.pre_eq_preRow]; exact congrSound_lifted os started H enc F)
theorem congrSound_plain (f : FuncId) (fn : Func) (hf : Tryd.pinned.checked.prog.funcNamed "gimbal/gimballaw31.CongrSound" = some f) (hfn : Tryd.pinned.checked.prog.funcs[f]? = some fn) :
    false = Tryd.pinned.checked.prog.looks [] ∧ ∀ (j : Nat) t, fn.params[j]? = some t → Tryd.pinned.checked.prog.wantsStandIn t = false := by
  obtain rfl : f = 8 := Option.some.inj ((show Tryd.prog.funcNamed "gimbal/gimballaw31.CongrSound" = some 8 by kernel_rfl).symm.trans hf) |>.symm
  obtain rfl : fn = Tryd.f8 := (Option.some.inj (Tryd.func8.symm.trans hfn)).symm
  refine ⟨by kernel_rfl, fun j t ht => ?_⟩
  rw [Tryd.params8] at ht
  have hts : t = 23 ∨ t = 2 ∨ t = 3 ∨ t = 38 := by simpa using Array.mem_of_getElem? ht
  rcases hts with rfl | rfl | rfl | rfl
  · exact (show Tryd.prog.wantsStandIn 23 = false by kernel_rfl)
  · exact (show Tryd.prog.wantsStandIn 2 = false by kernel_rfl)
  · exact (show Tryd.prog.wantsStandIn 3 = false by kernel_rfl)
  · exact (show Tryd.prog.wantsStandIn 38 = false by kernel_rfl)

/-- The card. -/
theorem congrSound_card : Rows.CongrSoundCardSaid :=
  Claim7.holds_tied_plain_at .later [] _ _ _ _ congrSound_said (fun _ h => by cases h) (by kernel_rfl) (fun _ h => by cases h) congrSound_row_tie rfl ⟨rfl, rfl⟩ (by kernel_rfl) rfl congrSound_plain (by kernel_rfl)
end Go.Proofs.YtfmmjekhknaniaaDoor.Sd
namespace Go.Proofs.YtfmmjekhknaniaaDoor
theorem CongrSound_holds : Rows.CongrSoundCardSaid := Sd.congrSound_card
end Go.Proofs.YtfmmjekhknaniaaDoor

