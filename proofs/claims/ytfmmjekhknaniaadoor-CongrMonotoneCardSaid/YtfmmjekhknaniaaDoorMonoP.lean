/-
  gimballaw31.CongrMonotone returns true, whatever the four congruences, the operation and the two intervals, in every world in which the listed tables read as listed: the row, and its card (the tables tied to the program's text). No further condition.
-/
import Derived.Test.YtfmmjekhknaniaaDoorMonoP9
import Derived.Test.YtfmmjekhknaniaaDoorMonoP14
import Derived.Test.YtfmmjekhknaniaaDoorMonoP7
import Derived.Test.YtfmmjekhknaniaaDoorMonoP5
import Derived.Test.YtfmmjekhknaniaaDoorMonoP8
namespace Go.Proofs.YtfmmjekhknaniaaDoor.Mn
open Go.ChangeShapes Go.WideShapes Go.ChangeAt Go.RowKit Go.Deep Go.Proofs.YtfmmjekhknaniaaDoor.Core Go.Proofs.YtfmmjekhknaniaaDoor.Pr Go.Proofs.YtfmmjekhknaniaaDoor.Given Lr
set_option maxRecDepth 100000

theorem leq_c {a b : Cg} (ha : Fit a) (hb : Fit b) (h : Sub a b) (w : World) : Calls Tryd.prog 21 #[.agg #[.bool a.1, .int .i64 a.2.1, .int .i64 a.2.2], .agg #[.bool b.1, .int .i64 b.2.1, .int .i64 b.2.2]] w fun e w' => e = .returned (.bool true) ∧ Below w.heap.size w w' := by
  obtain ⟨k, hk⟩ := (Leq_f ha hb).rounds
  rw [leqB_iff.mpr h] at hk
  exact congr_Leq.calls k _ _ _ _ _ _ _ w hk
abbrev CC (f : Nat) (a b r : Cg) : Prop := ∀ w, Calls Tryd.prog f #[.agg #[.bool a.1, .int .i64 a.2.1, .int .i64 a.2.2], .agg #[.bool b.1, .int .i64 b.2.1, .int .i64 b.2.2]] w fun e w' => e = .returned (.agg #[.bool r.1, .int .i64 r.2.1, .int .i64 r.2.2]) ∧ Below w.heap.size w w'
theorem add_c {a b : Cg} (ha : Fit a) (hb : Fit b) : CC 35 a b (addS a b) := fun w => by
  obtain ⟨k, hk⟩ := (Add_f ha hb).rounds
  exact congr_Add.calls k _ _ _ _ _ _ _ _ _ w hk
theorem sub_c {a b : Cg} (ha : Fit a) (hb : Fit b) : CC 37 a b (subS a b) := fun w => by
  obtain ⟨k, hk⟩ := (Sub_f ha hb).rounds
  exact congr_Sub.calls k _ _ _ _ _ _ _ _ _ w hk
theorem mul_c {a b : Cg} (ha : Fit a) (hb : Fit b) : CC 39 a b (mulS a b) := fun w => by
  obtain ⟨k, hk⟩ := (Mul_f ha hb).rounds
  exact congr_Mul.calls k _ _ _ _ _ _ _ _ _ w hk
theorem div_c {a b : Cg} (ha : Fit a) (hb : Fit b) : CC 41 a b (divS a b) := fun w => congr_Div.calls 9 _ _ _ _ _ _ _ _ _ w (Div_f ha hb 0)
theorem mds_c {a b : Cg} (ha : Fit a) (hb : Fit b) : CC 43 a b (modS a b) := fun w => by
  obtain ⟨k, hk⟩ := (Mod_f ha hb).rounds
  exact congr_Mod.calls k _ _ _ _ _ _ _ _ _ w hk
theorem join_c {a b : Cg} (ha : Fit a) (hb : Fit b) : CC 19 a b (joinS a b) := fun w => by
  obtain ⟨k, hk⟩ := (Join_f ha hb).rounds
  exact congr_Join.calls k _ _ _ _ _ _ _ _ _ w hk
theorem rjoin_c {a b : Cg} (ha : Fit a) (hb : Fit b) : CC 29 a b (joinS a b) := fun w => by
  obtain ⟨k, hk⟩ := (rJoin_f ha hb).rounds
  exact gimbalref31_Join.calls k _ _ _ _ _ _ _ _ _ w hk
theorem neg_c {a : Cg} (ha : Fit a) (w : World) : Calls Tryd.prog 31 #[.agg #[.bool a.1, .int .i64 a.2.1, .int .i64 a.2.2]] w fun e w' => e = .returned (.agg #[.bool (negS a).1, .int .i64 (negS a).2.1, .int .i64 (negS a).2.2]) ∧ Below w.heap.size w w' :=
  congr_Neg.calls 1 _ _ _ _ _ _ w (Neg_f ha 0)
theorem abs_c {a : Cg} (ha : Fit a) (w : World) : Calls Tryd.prog 33 #[.agg #[.bool a.1, .int .i64 a.2.1, .int .i64 a.2.2]] w fun e w' => e = .returned (.agg #[.bool (absS a).1, .int .i64 (absS a).2.1, .int .i64 (absS a).2.2]) ∧ Below w.heap.size w w' := by
  obtain ⟨k, hk⟩ := (Abs_f ha).rounds
  exact congr_Abs.calls k _ _ _ _ _ _ w hk

theorem law (op : Int) (a b c d : Cg) (i r : Iv) (a1 : I64 a.2.1) (a2 : I64 a.2.2) (b1 : I64 b.2.1) (b2 : I64 b.2.2) (c1 : I64 c.2.1) (c2 : I64 c.2.2) (d1 : I64 d.2.1) (d2 : I64 d.2.2) (w : World) :
    Calls Tryd.prog 9 #[.agg #[.bool a.1, .int .i64 a.2.1, .int .i64 a.2.2], .agg #[.bool b.1, .int .i64 b.2.1, .int .i64 b.2.2], .agg #[.bool c.1, .int .i64 c.2.1, .int .i64 c.2.2], .agg #[.bool d.1, .int .i64 d.2.1, .int .i64 d.2.2], .int .i64 op, .agg #[.int .i64 i.1, .int .i64 i.2], .agg #[.int .i64 r.1, .int .i64 r.2]] w fun e w' => e = .returned (.bool true) ∧ Below w.heap.size w w' := by
  by_cases fa : Fit a
  case neg => exact bad_a op _ _ _ _ _ _ _ _ _ _ _ _ _ _ _ _ (fit_n fa a1 a2) aw w
  have ta := fit_t fa a1 a2
  by_cases fb : Fit b
  case neg => exact bad_b op _ _ _ _ _ _ _ _ _ _ _ _ _ _ _ _ ta (fit_n fb b1 b2) aw w
  have tb := fit_t fb b1 b2
  by_cases fc : Fit c
  case neg => exact bad_c op _ _ _ _ _ _ _ _ _ _ _ _ _ _ _ _ ta tb (fit_n fc c1 c2) aw w
  have tc := fit_t fc c1 c2
  by_cases fd : Fit d
  case neg => exact bad_d op _ _ _ _ _ _ _ _ _ _ _ _ _ _ _ _ ta tb tc (fit_n fd d1 d2) aw w
  have td := fit_t fd d1 d2
  by_cases fi : Sound i
  case neg => exact bad_i op _ _ _ _ _ _ _ _ _ _ _ _ _ _ _ _ _ _ (Lr.unsound fi) ta tb tc td (of_c i) aw w
  by_cases fr : Sound r
  case neg => exact bad_r op _ _ _ _ _ _ _ _ _ _ _ _ _ _ _ _ _ _ (Lr.unsound fr) ta tb tc td (of_t fi) (of_c r) aw w
  have fx := fit_join fa fc
  have fy := fit_join fb fd
  have sx : Sub a (joinS a c) := sub_join_l
  have sy : Sub b (joinS b d) := sub_join_l
  obtain ⟨m, hm, em⟩ := Meet_f fa fb
  obtain ⟨km, hkm⟩ := em.rounds
  obtain ⟨n, hn, en⟩ := Meet_f fx fy
  obtain ⟨kn, hkn⟩ := en.rounds
  obtain ⟨kt, ht⟩ := (Test_f op em).rounds
  obtain ⟨ku, hu⟩ := (Test_f op en).rounds
  have f1 := fit_test (op := op) fa fb hm.1
  have f2 := fit_test (op := op) fx fy hn.1
  have f3 := fit_tight fa i
  have fl := sound_join fi fr
  have f4 := fit_tight fx (joinI i r)
  have smn : Sub m n := fun z hz => (hn.2 z).mpr ⟨sx z ((hm.2 z).mp hz).1, sy z ((hm.2 z).mp hz).2⟩
  have mt := test_mono (op := op) fa fb hm hn sx sy
  have mg := tight_mono (i := i) (j := r) fa fx sx
  exact main op _ _ _ _ _ _ _ _ _ _ _ _ _ _ _ _ _ _ _ _ _ _ _ _ _ _ _ _ _ _ _ _ _ _ _ _ _ _ _ _ _ _ _ _ _ _ _ _ _ _ _ _ _ _ _ _ _ _ _ _ _ _ _ _ _ _ _ _ _ _ _ _ _ _ _ _ _ _ _ _ _ _ _ _ _ _ _ _ _ _ _ _ _ _ _ _ _ _ _ _
    ta tb tc td (of_t fi) (of_t fr) aw (rjoin_c fa fc) (rjoin_c fb fd)
    (add_c fa fb) (add_c fx fy) (leq_c (fit_add _ _) (fit_add _ _) (add_mono fa fb sx sy))
    (sub_c fa fb) (sub_c fx fy) (leq_c (fit_sub _ _) (fit_sub _ _) (sub_mono fa fb sx sy))
    (mul_c fa fb) (mul_c fx fy) (leq_c (fit_mul _ _) (fit_mul _ _) (mul_mono fa fb sx sy))
    (div_c fa fb) (div_c fx fy) (leq_c (fit_div _ _) (fit_div _ _) (div_mono fa fb sx sy))
    (mds_c fa fb) (mds_c fx fy) (leq_c (fit_mds _ _) (fit_mds _ _) (mds_mono fa fb sx sy))
    (join_c fa fb) (join_c fx fy) (leq_c (fit_join fa fb) (fit_join fx fy) (join_mono fa fb sx sy))
    (fun w => congr_Meet.calls km _ _ _ _ _ _ _ _ _ w hkm) (fun w => congr_Meet.calls kn _ _ _ _ _ _ _ _ _ w hkn) (leq_c hm.1 hn.1 smn)
    (neg_c fa) (neg_c fx) (leq_c (fit_neg fa) (fit_neg fx) (neg_mono fa fx sx))
    (abs_c fa) (abs_c fx) (leq_c (fit_abs fa) (fit_abs fx) (abs_mono fa fx sx))
    (fun w => congr_Test.calls kt _ _ _ _ _ _ _ _ _ _ _ _ _ w ht) (fun w => congr_Test.calls ku _ _ _ _ _ _ _ _ _ _ _ _ _ w hu)
    (fun w => congr_Tighten.calls 2 _ _ _ _ _ _ _ _ _ _ w (Tighten_f fa fi 0)) (fun w => gimbalref02_Join.calls _ _ _ _ _ _ w (r02Join_f fi fr)) (fun w => congr_Tighten.calls 2 _ _ _ _ _ _ _ _ _ _ w (Tighten_f fx fl 0))
    (leq_c f1.1 f2.1 mt.1) (leq_c f1.2 f2.2 mt.2) (leq_c f3.1 f4.1 mg.1) (fun w => gimbalref02_Leq.calls _ _ _ _ _ w (r02Leq_f f3.2 f4.2 mg.2)) w

theorem monotone_contract (H : Type) (enc : TypeId × Value → H) (W : World) (base : Nat) (args : Array Value) (ds gs : List (DataW H)) (before : List MemPlace)
    (hval : ∀ (j : Nat) t v, Tryd.f9.params[j]? = some t → args[j]? = some v → Value.okWide Tryd.prog W .any base t v)
    (hW : DataW.Whole enc Tryd.prog Tryd.f9.params.toList Rows.congrMonotoneSpec.vars false W args.toList ds gs before) (_hL : laidMetH Tryd.prog Rows.congrMonotoneRow.laid W) :
    Calls Tryd.prog 9 args W fun e W' => ∃ v, e = .returned v ∧ Rows.congrMonotoneSpec.post enc Tryd.prog Tryd.f9 false true false false W args v W' := by
  have hW' := hW
  have hlt := hW.lt
  obtain ⟨p, q, hA0, hV, rfl, hfz, hnd⟩ := hW
  have hA : DataW.TrodAll enc Tryd.prog W 0 (fun _ => true) true Tryd.f9.params.toList args.toList ds p := hA0
  rw [Tryd.params9] at hA hval
  obtain ⟨v0, s0, d0, e0, p0, q0, as0, rfl, rfl, h0, g0⟩ := trodAll_cons hA
  obtain ⟨v1, s1, d1, e1, p1, q1, rfl, rfl, rfl, h1, g1⟩ := trodAll_cons g0
  obtain ⟨v2, s2, d2, e2, p2, q2, rfl, rfl, rfl, h2, g2⟩ := trodAll_cons g1
  obtain ⟨v3, s3, d3, e3, p3, q3, rfl, rfl, rfl, h3, g3⟩ := trodAll_cons g2
  obtain ⟨v4, s4, d4, e4, p4, q4, rfl, rfl, rfl, h4, g4⟩ := trodAll_cons g3
  obtain ⟨v5, s5, d5, e5, p5, q5, rfl, rfl, rfl, h5, g5⟩ := trodAll_cons g4
  obtain ⟨v6, s6, d6, e6, p6, q6, rfl, rfl, rfl, h6, g6⟩ := trodAll_cons g5
  obtain ⟨rfl, rfl, rfl⟩ := trodAll_nil g6
  obtain rfl : args = #[v0, v1, v2, v3, v4, v5, v6] := Array.toList_inj.mp as0
  obtain ⟨rfl, rfl⟩ := trodVars_none hV
  clear hA0 g0 g1 g2 g3 g4 g5
  obtain ⟨a, hv0, i1, i2⟩ := open_cg (hval 0 23 v0 rfl rfl) h0
  subst hv0
  obtain ⟨b, hv1, i3, i4⟩ := open_cg (hval 1 23 v1 rfl rfl) h1
  subst hv1
  obtain ⟨c, hv2, i5, i6⟩ := open_cg (hval 2 23 v2 rfl rfl) h2
  subst hv2
  obtain ⟨d, hv3, i7, i8⟩ := open_cg (hval 3 23 v3 rfl rfl) h3
  subst hv3
  obtain ⟨op, rfl, rfl, rfl, wo⟩ := open_int Tryd.underlying3 (hval 4 3 v4 rfl rfl) h4
  obtain ⟨i, hv5, _, _⟩ := open_iv (hval 5 38 v5 rfl rfl) h5
  subst hv5
  obtain ⟨r, hv6, _, _⟩ := open_iv (hval 6 38 v6 rfl rfl) h6
  subst hv6
  refine (law op a b c d i r i1 i2 i3 i4 i5 i6 i7 i8 W).mono fun e W' ⟨he, hb⟩ => ?_
  subst he
  have h0' := hb.trod laidOut read23 size23 h0 (fun y hy => hlt y (by simp [hy]))
  have h1' := hb.trod laidOut read23 size23 h1 (fun y hy => hlt y (by simp [hy]))
  have h2' := hb.trod laidOut read23 size23 h2 (fun y hy => hlt y (by simp [hy]))
  have h3' := hb.trod laidOut read23 size23 h3 (fun y hy => hlt y (by simp [hy]))
  have h5' := hb.trod laidOut read38 size38 h5 (fun y hy => hlt y (by simp [hy]))
  have h6' := hb.trod laidOut read38 size38 h6 (fun y hy => hlt y (by simp [hy]))
  exact ⟨_, rfl, _, _, _, [], _, [], hW', trodAll_mk1 (shut_bool Tryd.underlying4 _), trodAll_cons_mk h0' (trodAll_cons_mk h1' (trodAll_cons_mk h2' (trodAll_cons_mk h3' (trodAll_cons_mk (shut_int Tryd.underlying3 wo) (trodAll_cons_mk h5' (trodAll_cons_mk h6' trodAll_mk0)))))), rfl, hb.frame _, fun h => by cases h⟩
noncomputable def congrMonotone_world (os : Os) : World := World.laidAll Tryd.prog os Rows.congrMonotoneRow.laid
theorem congrMonotone_laid_met (os : Os) : laidMet Tryd.prog Rows.congrMonotoneRow.laid ((congrMonotone_world os).forCall (fun _ _ => 0) ⟨#[], #[.agg #[.bool false, .int .i64 0, .int .i64 0], .agg #[.bool false, .int .i64 0, .int .i64 0], .agg #[.bool false, .int .i64 0, .int .i64 0], .agg #[.bool false, .int .i64 0, .int .i64 0], .int .i64 0, .agg #[.int .i64 0, .int .i64 0], .agg #[.int .i64 0, .int .i64 0]], []⟩).memory :=
  laidMet_laidAll _ (by kernel_rfl) (by kernel_rfl)
theorem congrMonotone_reads (os : Os) {H : Type} (enc : TypeId × Value → H) : ∃ places, DataW.whole enc Tryd.prog ((congrMonotone_world os).forCall (fun _ _ => 0) ⟨#[], #[.agg #[.bool false, .int .i64 0, .int .i64 0], .agg #[.bool false, .int .i64 0, .int .i64 0], .agg #[.bool false, .int .i64 0, .int .i64 0], .agg #[.bool false, .int .i64 0, .int .i64 0], .int .i64 0, .agg #[.int .i64 0, .int .i64 0], .agg #[.int .i64 0, .int .i64 0]], []⟩).memory Tryd.f9.params.toList Rows.congrMonotoneSpec.vars false (#[.agg #[.bool false, .int .i64 0, .int .i64 0], .agg #[.bool false, .int .i64 0, .int .i64 0], .agg #[.bool false, .int .i64 0, .int .i64 0], .agg #[.bool false, .int .i64 0, .int .i64 0], .int .i64 0, .agg #[.int .i64 0, .int .i64 0], .agg #[.int .i64 0, .int .i64 0]] : Array Value).toList 8 = some ([.agg [.lit (.bool false), .lit (.int .i64 0), .lit (.int .i64 0)], .agg [.lit (.bool false), .lit (.int .i64 0), .lit (.int .i64 0)], .agg [.lit (.bool false), .lit (.int .i64 0), .lit (.int .i64 0)], .agg [.lit (.bool false), .lit (.int .i64 0), .lit (.int .i64 0)], .lit (.int .i64 0), .agg [.lit (.int .i64 0), .lit (.int .i64 0)], .agg [.lit (.int .i64 0), .lit (.int .i64 0)]], [], places) :=
  ⟨[], by kernel_rfl⟩
theorem congrMonotone_lifted (os : Os) (started : os.Started) (H : Type) (enc : TypeId × Value → H) (F : Stop.Interp) :
    ReturnsInHanded {} Tryd.checked os 9 .any ((OpenSpec.ofChange Rows.congrMonotoneSpec).preRow enc Tryd.prog Tryd.f9 Rows.congrMonotoneRow.domain false Rows.congrMonotoneRow.laid) (((OpenSpec.ofChange Rows.congrMonotoneSpec).at F).post enc Tryd.prog Tryd.f9 false true false false) := by
  obtain ⟨places, hx⟩ := congrMonotone_reads os enc
  refine returnsInHanded_of_row (C := Tryd.checked) (s := OpenSpec.ofChange Rows.congrMonotoneSpec) own started (by kernel_rfl) Tryd.func9
    (witness_row_at (enc := enc) (C := Tryd.checked) false (congrMonotone_world os) #[.agg #[.bool false, .int .i64 0, .int .i64 0], .agg #[.bool false, .int .i64 0, .int .i64 0], .agg #[.bool false, .int .i64 0, .int .i64 0], .agg #[.bool false, .int .i64 0, .int .i64 0], .int .i64 0, .agg #[.int .i64 0, .int .i64 0], .agg #[.int .i64 0, .int .i64 0]] (World.laidAll_os _ _ _) (by kernel_rfl) (by kernel_rfl) (by kernel_rfl)
      (OpenSpec.preRow_of_cond 8 hx (by kernel_rfl) (fun k hk => by cases hk) (by kernel_rfl) (congrMonotone_laid_met os))) ?_
  intro W base args ds gs before hval hW _ _ _ hL _ _
  exact monotone_contract H enc W base args ds gs before hval hW hL
theorem congrMonotone_said : Rows.CongrMonotoneSaid :=
  OpenClaim.holds_of_cond 9 Tryd.f9 rfl rfl rfl rfl rfl rfl rfl ⟨rfl, rfl, rfl, rfl, rfl⟩ rfl rfl rfl rfl rfl (by kernel_rfl) Tryd.func9 (by kernel_rfl)
    (of_decide_eq_true (by kernel_rfl)) (by unfold Func.isWrapper; first | (rw [if_pos (by decide +kernel)]; kernel_rfl) | (rw [if_neg (by decide +kernel)]; exact ⟨rfl, rfl⟩))
    (fun os started H enc _ F => by rw [OpenClaim.pre_eq_preRow]; exact congrMonotone_lifted os started H enc F)
theorem congrMonotone_plain (f : FuncId) (fn : Func) (hf : Tryd.pinned.checked.prog.funcNamed "gimbal/gimballaw31.CongrMonotone" = some f) (hfn : Tryd.pinned.checked.prog.funcs[f]? = some fn) :
    false = Tryd.pinned.checked.prog.looks [] ∧ ∀ (j : Nat) t, fn.params[j]? = some t → Tryd.pinned.checked.prog.wantsStandIn t = false := by
  obtain rfl : f = 9 := Option.some.inj ((show Tryd.prog.funcNamed "gimbal/gimballaw31.CongrMonotone" = some 9 by kernel_rfl).symm.trans hf) |>.symm
  obtain rfl : fn = Tryd.f9 := (Option.some.inj (Tryd.func9.symm.trans hfn)).symm
  refine ⟨by kernel_rfl, fun j t ht => ?_⟩
  rw [Tryd.params9] at ht
  have hts : t = 23 ∨ t = 3 ∨ t = 38 := by simpa using Array.mem_of_getElem? ht
  rcases hts with rfl | rfl | rfl
  · exact (show Tryd.prog.wantsStandIn 23 = false by kernel_rfl)
  · exact (show Tryd.prog.wantsStandIn 3 = false by kernel_rfl)
  · exact (show Tryd.prog.wantsStandIn 38 = false by kernel_rfl)

/-- The card. -/
theorem congrMonotone_card : Rows.CongrMonotoneCardSaid :=
  Claim7.holds_tied_plain_at .later [] _ _ _ _ congrMonotone_said (fun _ h => by cases h) (by kernel_rfl) (fun _ h => by cases h) congrMonotone_row_tie rfl ⟨rfl, rfl⟩ (by kernel_rfl) rfl congrMonotone_plain (by kernel_rfl)
end Go.Proofs.YtfmmjekhknaniaaDoor.Mn
namespace Go.Proofs.YtfmmjekhknaniaaDoor
theorem CongrMonotone_holds : Rows.CongrMonotoneCardSaid := Mn.congrMonotone_card
end Go.Proofs.YtfmmjekhknaniaaDoor

