/- This claim's own texts, joined, with only what the claim uses: MonoC. -/
import Derived.Test.YtfmmjekhknaniaaDoorMonoP11
import Derived.Test.YtfmmjekhknaniaaDoorMonoP12
import Derived.Test.YtfmmjekhknaniaaDoorMonoP13
namespace Go.Proofs.YtfmmjekhknaniaaDoor.Mn
open Go.RowKit Lk
set_option linter.unusedSimpArgs false
attribute [local go_sem high] eqS23 eqS38
set_option maxRecDepth 100000 in
set_option maxHeartbeats 16000000 in
theorem main (op : Int) (a0 b0 c0 d0 : Bool) (a1 a2 b1 b2 c1 c2 d1 d2 i1 i2 r1 r2 : Int) (x0 y0 pa0 qa0 ps0 qs0 pm0 qm0 pd0 qd0 po0 qo0 pj0 qj0 pe0 qe0 pn0 qn0 pb0 qb0 tu0 tv0 ts0 tt0 tf0 tg0 : Bool) (x1 x2 y1 y2 pa1 pa2 qa1 qa2 ps1 ps2 qs1 qs2 pm1 pm2 qm1 qm2 pd1 pd2 qd1 qd2 po1 po2 qo1 qo2 pj1 pj2 qj1 qj2 pe1 pe2 qe1 qe2 pn1 pn2 qn1 qn2 pb1 pb2 qb1 qb2 tu1 tu2 tv1 tv2 ts1 ts2 tt1 tt2 tf1 tf2 tg1 tg2 tj1 tj2 tk1 tk2 tl1 tl2 : Int)
  (hFa : ∀ w, Calls Tryd.prog 13 #[.agg #[.bool a0, .int .i64 a1, .int .i64 a2]] w fun e w' => e = .returned (.bool true) ∧ Below w.heap.size w w')
  (hFb : ∀ w, Calls Tryd.prog 13 #[.agg #[.bool b0, .int .i64 b1, .int .i64 b2]] w fun e w' => e = .returned (.bool true) ∧ Below w.heap.size w w')
  (hFc : ∀ w, Calls Tryd.prog 13 #[.agg #[.bool c0, .int .i64 c1, .int .i64 c2]] w fun e w' => e = .returned (.bool true) ∧ Below w.heap.size w w')
  (hFd : ∀ w, Calls Tryd.prog 13 #[.agg #[.bool d0, .int .i64 d1, .int .i64 d2]] w fun e w' => e = .returned (.bool true) ∧ Below w.heap.size w w')
  (hOi : ∀ w, Calls Tryd.prog 23 #[.int .i64 i1, .int .i64 i2] w fun e w' => e = .returned (.agg #[.int .i64 i1, .int .i64 i2]) ∧ Below w.heap.size w w')
  (hOr : ∀ w, Calls Tryd.prog 23 #[.int .i64 r1, .int .i64 r2] w fun e w' => e = .returned (.agg #[.int .i64 r1, .int .i64 r2]) ∧ Below w.heap.size w w')
  (hAw : ∀ w, Calls Tryd.prog 18 #[] w fun e w' => e = .returned (.bool true) ∧ Below w.heap.size w w')
  (hX : ∀ w, Calls Tryd.prog 29 #[.agg #[.bool a0, .int .i64 a1, .int .i64 a2], .agg #[.bool c0, .int .i64 c1, .int .i64 c2]] w fun e w' => e = .returned (.agg #[.bool x0, .int .i64 x1, .int .i64 x2]) ∧ Below w.heap.size w w')
  (hY : ∀ w, Calls Tryd.prog 29 #[.agg #[.bool b0, .int .i64 b1, .int .i64 b2], .agg #[.bool d0, .int .i64 d1, .int .i64 d2]] w fun e w' => e = .returned (.agg #[.bool y0, .int .i64 y1, .int .i64 y2]) ∧ Below w.heap.size w w')
  (hpa : ∀ w, Calls Tryd.prog 35 #[.agg #[.bool a0, .int .i64 a1, .int .i64 a2], .agg #[.bool b0, .int .i64 b1, .int .i64 b2]] w fun e w' => e = .returned (.agg #[.bool pa0, .int .i64 pa1, .int .i64 pa2]) ∧ Below w.heap.size w w')
  (hqa : ∀ w, Calls Tryd.prog 35 #[.agg #[.bool x0, .int .i64 x1, .int .i64 x2], .agg #[.bool y0, .int .i64 y1, .int .i64 y2]] w fun e w' => e = .returned (.agg #[.bool qa0, .int .i64 qa1, .int .i64 qa2]) ∧ Below w.heap.size w w')
  (hLa : ∀ w, Calls Tryd.prog 21 #[.agg #[.bool pa0, .int .i64 pa1, .int .i64 pa2], .agg #[.bool qa0, .int .i64 qa1, .int .i64 qa2]] w fun e w' => e = .returned (.bool true) ∧ Below w.heap.size w w')
  (hps : ∀ w, Calls Tryd.prog 37 #[.agg #[.bool a0, .int .i64 a1, .int .i64 a2], .agg #[.bool b0, .int .i64 b1, .int .i64 b2]] w fun e w' => e = .returned (.agg #[.bool ps0, .int .i64 ps1, .int .i64 ps2]) ∧ Below w.heap.size w w')
  (hqs : ∀ w, Calls Tryd.prog 37 #[.agg #[.bool x0, .int .i64 x1, .int .i64 x2], .agg #[.bool y0, .int .i64 y1, .int .i64 y2]] w fun e w' => e = .returned (.agg #[.bool qs0, .int .i64 qs1, .int .i64 qs2]) ∧ Below w.heap.size w w')
  (hLs : ∀ w, Calls Tryd.prog 21 #[.agg #[.bool ps0, .int .i64 ps1, .int .i64 ps2], .agg #[.bool qs0, .int .i64 qs1, .int .i64 qs2]] w fun e w' => e = .returned (.bool true) ∧ Below w.heap.size w w')
  (hpm : ∀ w, Calls Tryd.prog 39 #[.agg #[.bool a0, .int .i64 a1, .int .i64 a2], .agg #[.bool b0, .int .i64 b1, .int .i64 b2]] w fun e w' => e = .returned (.agg #[.bool pm0, .int .i64 pm1, .int .i64 pm2]) ∧ Below w.heap.size w w')
  (hqm : ∀ w, Calls Tryd.prog 39 #[.agg #[.bool x0, .int .i64 x1, .int .i64 x2], .agg #[.bool y0, .int .i64 y1, .int .i64 y2]] w fun e w' => e = .returned (.agg #[.bool qm0, .int .i64 qm1, .int .i64 qm2]) ∧ Below w.heap.size w w')
  (hLm : ∀ w, Calls Tryd.prog 21 #[.agg #[.bool pm0, .int .i64 pm1, .int .i64 pm2], .agg #[.bool qm0, .int .i64 qm1, .int .i64 qm2]] w fun e w' => e = .returned (.bool true) ∧ Below w.heap.size w w')
  (hpd : ∀ w, Calls Tryd.prog 41 #[.agg #[.bool a0, .int .i64 a1, .int .i64 a2], .agg #[.bool b0, .int .i64 b1, .int .i64 b2]] w fun e w' => e = .returned (.agg #[.bool pd0, .int .i64 pd1, .int .i64 pd2]) ∧ Below w.heap.size w w')
  (hqd : ∀ w, Calls Tryd.prog 41 #[.agg #[.bool x0, .int .i64 x1, .int .i64 x2], .agg #[.bool y0, .int .i64 y1, .int .i64 y2]] w fun e w' => e = .returned (.agg #[.bool qd0, .int .i64 qd1, .int .i64 qd2]) ∧ Below w.heap.size w w')
  (hLd : ∀ w, Calls Tryd.prog 21 #[.agg #[.bool pd0, .int .i64 pd1, .int .i64 pd2], .agg #[.bool qd0, .int .i64 qd1, .int .i64 qd2]] w fun e w' => e = .returned (.bool true) ∧ Below w.heap.size w w')
  (hpo : ∀ w, Calls Tryd.prog 43 #[.agg #[.bool a0, .int .i64 a1, .int .i64 a2], .agg #[.bool b0, .int .i64 b1, .int .i64 b2]] w fun e w' => e = .returned (.agg #[.bool po0, .int .i64 po1, .int .i64 po2]) ∧ Below w.heap.size w w')
  (hqo : ∀ w, Calls Tryd.prog 43 #[.agg #[.bool x0, .int .i64 x1, .int .i64 x2], .agg #[.bool y0, .int .i64 y1, .int .i64 y2]] w fun e w' => e = .returned (.agg #[.bool qo0, .int .i64 qo1, .int .i64 qo2]) ∧ Below w.heap.size w w')
  (hLo : ∀ w, Calls Tryd.prog 21 #[.agg #[.bool po0, .int .i64 po1, .int .i64 po2], .agg #[.bool qo0, .int .i64 qo1, .int .i64 qo2]] w fun e w' => e = .returned (.bool true) ∧ Below w.heap.size w w')
  (hpj : ∀ w, Calls Tryd.prog 19 #[.agg #[.bool a0, .int .i64 a1, .int .i64 a2], .agg #[.bool b0, .int .i64 b1, .int .i64 b2]] w fun e w' => e = .returned (.agg #[.bool pj0, .int .i64 pj1, .int .i64 pj2]) ∧ Below w.heap.size w w')
  (hqj : ∀ w, Calls Tryd.prog 19 #[.agg #[.bool x0, .int .i64 x1, .int .i64 x2], .agg #[.bool y0, .int .i64 y1, .int .i64 y2]] w fun e w' => e = .returned (.agg #[.bool qj0, .int .i64 qj1, .int .i64 qj2]) ∧ Below w.heap.size w w')
  (hLj : ∀ w, Calls Tryd.prog 21 #[.agg #[.bool pj0, .int .i64 pj1, .int .i64 pj2], .agg #[.bool qj0, .int .i64 qj1, .int .i64 qj2]] w fun e w' => e = .returned (.bool true) ∧ Below w.heap.size w w')
  (hpe : ∀ w, Calls Tryd.prog 20 #[.agg #[.bool a0, .int .i64 a1, .int .i64 a2], .agg #[.bool b0, .int .i64 b1, .int .i64 b2]] w fun e w' => e = .returned (.agg #[.bool pe0, .int .i64 pe1, .int .i64 pe2]) ∧ Below w.heap.size w w')
  (hqe : ∀ w, Calls Tryd.prog 20 #[.agg #[.bool x0, .int .i64 x1, .int .i64 x2], .agg #[.bool y0, .int .i64 y1, .int .i64 y2]] w fun e w' => e = .returned (.agg #[.bool qe0, .int .i64 qe1, .int .i64 qe2]) ∧ Below w.heap.size w w')
  (hLe : ∀ w, Calls Tryd.prog 21 #[.agg #[.bool pe0, .int .i64 pe1, .int .i64 pe2], .agg #[.bool qe0, .int .i64 qe1, .int .i64 qe2]] w fun e w' => e = .returned (.bool true) ∧ Below w.heap.size w w')
  (hpn : ∀ w, Calls Tryd.prog 31 #[.agg #[.bool a0, .int .i64 a1, .int .i64 a2]] w fun e w' => e = .returned (.agg #[.bool pn0, .int .i64 pn1, .int .i64 pn2]) ∧ Below w.heap.size w w')
  (hqn : ∀ w, Calls Tryd.prog 31 #[.agg #[.bool x0, .int .i64 x1, .int .i64 x2]] w fun e w' => e = .returned (.agg #[.bool qn0, .int .i64 qn1, .int .i64 qn2]) ∧ Below w.heap.size w w')
  (hLn : ∀ w, Calls Tryd.prog 21 #[.agg #[.bool pn0, .int .i64 pn1, .int .i64 pn2], .agg #[.bool qn0, .int .i64 qn1, .int .i64 qn2]] w fun e w' => e = .returned (.bool true) ∧ Below w.heap.size w w')
  (hpb : ∀ w, Calls Tryd.prog 33 #[.agg #[.bool a0, .int .i64 a1, .int .i64 a2]] w fun e w' => e = .returned (.agg #[.bool pb0, .int .i64 pb1, .int .i64 pb2]) ∧ Below w.heap.size w w')
  (hqb : ∀ w, Calls Tryd.prog 33 #[.agg #[.bool x0, .int .i64 x1, .int .i64 x2]] w fun e w' => e = .returned (.agg #[.bool qb0, .int .i64 qb1, .int .i64 qb2]) ∧ Below w.heap.size w w')
  (hLb : ∀ w, Calls Tryd.prog 21 #[.agg #[.bool pb0, .int .i64 pb1, .int .i64 pb2], .agg #[.bool qb0, .int .i64 qb1, .int .i64 qb2]] w fun e w' => e = .returned (.bool true) ∧ Below w.heap.size w w')
  (hT1 : ∀ w, Calls Tryd.prog 24 #[.int .i64 op, .agg #[.bool a0, .int .i64 a1, .int .i64 a2], .agg #[.bool b0, .int .i64 b1, .int .i64 b2]] w fun e w' => e = .returned (.tuple #[.agg #[.bool tu0, .int .i64 tu1, .int .i64 tu2], .agg #[.bool tv0, .int .i64 tv1, .int .i64 tv2]]) ∧ Below w.heap.size w w')
  (hT2 : ∀ w, Calls Tryd.prog 24 #[.int .i64 op, .agg #[.bool x0, .int .i64 x1, .int .i64 x2], .agg #[.bool y0, .int .i64 y1, .int .i64 y2]] w fun e w' => e = .returned (.tuple #[.agg #[.bool ts0, .int .i64 ts1, .int .i64 ts2], .agg #[.bool tt0, .int .i64 tt1, .int .i64 tt2]]) ∧ Below w.heap.size w w')
  (hG1 : ∀ w, Calls Tryd.prog 26 #[.agg #[.bool a0, .int .i64 a1, .int .i64 a2], .agg #[.int .i64 i1, .int .i64 i2]] w fun e w' => e = .returned (.tuple #[.agg #[.bool tf0, .int .i64 tf1, .int .i64 tf2], .agg #[.int .i64 tj1, .int .i64 tj2]]) ∧ Below w.heap.size w w')
  (hJ : ∀ w, Calls Tryd.prog 48 #[.agg #[.int .i64 i1, .int .i64 i2], .agg #[.int .i64 r1, .int .i64 r2]] w fun e w' => e = .returned (.agg #[.int .i64 tl1, .int .i64 tl2]) ∧ Below w.heap.size w w')
  (hG2 : ∀ w, Calls Tryd.prog 26 #[.agg #[.bool x0, .int .i64 x1, .int .i64 x2], .agg #[.int .i64 tl1, .int .i64 tl2]] w fun e w' => e = .returned (.tuple #[.agg #[.bool tg0, .int .i64 tg1, .int .i64 tg2], .agg #[.int .i64 tk1, .int .i64 tk2]]) ∧ Below w.heap.size w w')
  (hL1 : ∀ w, Calls Tryd.prog 21 #[.agg #[.bool tu0, .int .i64 tu1, .int .i64 tu2], .agg #[.bool ts0, .int .i64 ts1, .int .i64 ts2]] w fun e w' => e = .returned (.bool true) ∧ Below w.heap.size w w')
  (hL2 : ∀ w, Calls Tryd.prog 21 #[.agg #[.bool tv0, .int .i64 tv1, .int .i64 tv2], .agg #[.bool tt0, .int .i64 tt1, .int .i64 tt2]] w fun e w' => e = .returned (.bool true) ∧ Below w.heap.size w w')
  (hL3 : ∀ w, Calls Tryd.prog 21 #[.agg #[.bool tf0, .int .i64 tf1, .int .i64 tf2], .agg #[.bool tg0, .int .i64 tg1, .int .i64 tg2]] w fun e w' => e = .returned (.bool true) ∧ Below w.heap.size w w')
  (hR : ∀ w, Calls Tryd.prog 49 #[.agg #[.int .i64 tj1, .int .i64 tj2], .agg #[.int .i64 tk1, .int .i64 tk2]] w fun e w' => e = .returned (.bool true) ∧ Below w.heap.size w w') (w : World) :
  Calls Tryd.prog 9 #[.agg #[.bool a0, .int .i64 a1, .int .i64 a2], .agg #[.bool b0, .int .i64 b1, .int .i64 b2], .agg #[.bool c0, .int .i64 c1, .int .i64 c2], .agg #[.bool d0, .int .i64 d1, .int .i64 d2], .int .i64 op, .agg #[.int .i64 i1, .int .i64 i2], .agg #[.int .i64 r1, .int .i64 r2]] w fun e w' => e = .returned (.bool true) ∧ Below w.heap.size w w' := by
 have HFa := Lib.hid hFa
 clear hFa
 have HFb := Lib.hid hFb
 clear hFb
 have HFc := Lib.hid hFc
 clear hFc
 have HFd := Lib.hid hFd
 clear hFd
 have HOi := Lib.hid hOi
 clear hOi
 have HOr := Lib.hid hOr
 clear hOr
 have HAw := Lib.hid hAw
 clear hAw
 have HX := Lib.hid hX
 clear hX
 have HY := Lib.hid hY
 clear hY
 have Hpa := Lib.hid hpa
 clear hpa
 have Hqa := Lib.hid hqa
 clear hqa
 have HLa := Lib.hid hLa
 clear hLa
 have Hps := Lib.hid hps
 clear hps
 have Hqs := Lib.hid hqs
 clear hqs
 have HLs := Lib.hid hLs
 clear hLs
 have Hpm := Lib.hid hpm
 clear hpm
 have Hqm := Lib.hid hqm
 clear hqm
 have HLm := Lib.hid hLm
 clear hLm
 have Hpd := Lib.hid hpd
 clear hpd
 have Hqd := Lib.hid hqd
 clear hqd
 have HLd := Lib.hid hLd
 clear hLd
 have Hpo := Lib.hid hpo
 clear hpo
 have Hqo := Lib.hid hqo
 clear hqo
 have HLo := Lib.hid hLo
 clear hLo
 have Hpj := Lib.hid hpj
 clear hpj
 have Hqj := Lib.hid hqj
 clear hqj
 have HLj := Lib.hid hLj
 clear hLj
 have Hpe := Lib.hid hpe
 clear hpe
 have Hqe := Lib.hid hqe
 clear hqe
 have HLe := Lib.hid hLe
 clear hLe
 have Hpn := Lib.hid hpn
 clear hpn
 have Hqn := Lib.hid hqn
 clear hqn
 have HLn := Lib.hid hLn
 clear hLn
 have Hpb := Lib.hid hpb
 clear hpb
 have Hqb := Lib.hid hqb
 clear hqb
 have HLb := Lib.hid hLb
 clear hLb
 have HT1 := Lib.hid hT1
 clear hT1
 have HT2 := Lib.hid hT2
 clear hT2
 have HG1 := Lib.hid hG1
 clear hG1
 have HJ := Lib.hid hJ
 clear hJ
 have HG2 := Lib.hid hG2
 clear hG2
 have HL1 := Lib.hid hL1
 clear hL1
 have HL2 := Lib.hid hL2
 clear hL2
 have HL3 := Lib.hid hL3
 clear hL3
 have HR := Lib.hid hR
 clear hR
 have hS := start6 w a0 b0 c0 d0 a1 a2 b1 b2 c1 c2 d1 d2 i1 i2 r1 r2 _ rfl
 go_enter Tryd.func9, Tryd.ntmps9
 go_upto_region 1 with fail
 refine wp_region_held_drew (S := (fun w' => Held w [(w.heap.size, 0, .bool a0), (w.heap.size, 1, .int .i64 a1), (w.heap.size, 2, .int .i64 a2), (w.heap.size + 1, 0, .bool b0), (w.heap.size + 1, 1, .int .i64 b1), (w.heap.size + 1, 2, .int .i64 b2), (w.heap.size + 1 + 1, 0, .bool c0), (w.heap.size + 1 + 1, 1, .int .i64 c1), (w.heap.size + 1 + 1, 2, .int .i64 c2), (w.heap.size + 1 + 1 + 1, 0, .bool d0), (w.heap.size + 1 + 1 + 1, 1, .int .i64 d1), (w.heap.size + 1 + 1 + 1, 2, .int .i64 d2), (w.heap.size + 1 + 1 + 1 + 1, 0, .int .i64 i1), (w.heap.size + 1 + 1 + 1 + 1, 1, .int .i64 i2), (w.heap.size + 1 + 1 + 1 + 1 + 1, 0, .int .i64 r1), (w.heap.size + 1 + 1 + 1 + 1 + 1, 1, .int .i64 r2)] w')) (by kernel_rfl) (Held.drew hS) (fun hHeld => ?_)
 refine take1 0 25 (.agg #[.bool a0, .int .i64 a1, .int .i64 a2]) rfl rfl (by kernel_rfl) (by kernel_rfl) (by kernel_rfl) (fun _ _ _ h => h) (Or.inl ⟨by kernel_rfl, fun w hSw => by simp only [Held, List.forall_mem_cons, List.not_mem_nil, false_implies, implies_true, and_true] at hSw; go_simp⟩) (by assumption) ?_
 simp only [lA, lB, lC]
 refine wpAnyH_ready (rs := [1]) (by kernel_rfl) (by simp) ?_
 refine AllReadyH.cons rfl (fun K hK => ?_) AllReadyH.nil
 refine ready_call 26 ?A ?B (HFa.out _) ?C ?_
 case A => kernel_rfl
 case C => rfl
 case B => exact run_call rfl Tryd.call13 (by kernel_rfl)
 rintro e w1 ⟨rfl, hb⟩
 refine ⟨_, rfl, hK.out _ _ (Held.keep hb (by assumption)) (fun hHeld => ?_)⟩
 clear hK K hb
 simp only [lA, lB, lC]
 refine take1 2 27 (.bool false) rfl rfl (by kernel_rfl) (by kernel_rfl) (by kernel_rfl) (fun _ _ _ h => h) (Or.inl ⟨by kernel_rfl, fun w hSw => by (try dsimp only at hSw); go_simp⟩) (by assumption) ?_
 simp only [lA, lB, lC]
 refine take1 3 28 (.bool false) rfl rfl (by kernel_rfl) (by kernel_rfl) (by kernel_rfl) (fun _ _ _ h => h) (Or.inl ⟨by kernel_rfl, fun w hSw => by (try dsimp only at hSw); go_simp⟩) (by assumption) ?_
 simp only [lA, lB, lC]
 refine take1 4 29 (.agg #[.bool b0, .int .i64 b1, .int .i64 b2]) rfl rfl (by kernel_rfl) (by kernel_rfl) (by kernel_rfl) (fun _ _ _ h => h) (Or.inl ⟨by kernel_rfl, fun w hSw => by simp only [Held, List.forall_mem_cons, List.not_mem_nil, false_implies, implies_true, and_true] at hSw; go_simp⟩) (by assumption) ?_
 simp only [lA, lB, lC]
 refine wpAnyH_ready (rs := [5]) (by kernel_rfl) (by simp) ?_
 refine AllReadyH.cons rfl (fun K hK => ?_) AllReadyH.nil
 refine ready_call 30 ?A ?B (HFb.out _) ?C ?_
 case A => kernel_rfl
 case C => rfl
 case B => exact run_call rfl Tryd.call13 (by kernel_rfl)
 rintro e w1 ⟨rfl, hb⟩
 refine ⟨_, rfl, hK.out _ _ (Held.keep hb (by assumption)) (fun hHeld => ?_)⟩
 clear hK K hb
 simp only [lA, lB, lC]
 refine take1 6 31 (.bool false) rfl rfl (by kernel_rfl) (by kernel_rfl) (by kernel_rfl) (fun _ _ _ h => h) (Or.inl ⟨by kernel_rfl, fun w hSw => by (try dsimp only at hSw); go_simp⟩) (by assumption) ?_
 simp only [lA, lB, lC]
 refine take1 7 32 (.bool false) rfl rfl (by kernel_rfl) (by kernel_rfl) (by kernel_rfl) (fun _ _ _ h => h) (Or.inl ⟨by kernel_rfl, fun w hSw => by (try dsimp only at hSw); go_simp⟩) (by assumption) ?_
 simp only [lA, lB, lC]
 refine take1 8 33 (.bool false) rfl rfl (by kernel_rfl) (by kernel_rfl) (by kernel_rfl) (fun _ _ _ h => h) (Or.inl ⟨by kernel_rfl, fun w hSw => by (try dsimp only at hSw); go_simp⟩) (by assumption) ?_
 simp only [lA, lB, lC]
 refine take1 9 34 (.agg #[.bool c0, .int .i64 c1, .int .i64 c2]) rfl rfl (by kernel_rfl) (by kernel_rfl) (by kernel_rfl) (fun _ _ _ h => h) (Or.inl ⟨by kernel_rfl, fun w hSw => by simp only [Held, List.forall_mem_cons, List.not_mem_nil, false_implies, implies_true, and_true] at hSw; go_simp⟩) (by assumption) ?_
 simp only [lA, lB, lC]
 refine wpAnyH_ready (rs := [10]) (by kernel_rfl) (by simp) ?_
 refine AllReadyH.cons rfl (fun K hK => ?_) AllReadyH.nil
 refine ready_call 35 ?A ?B (HFc.out _) ?C ?_
 case A => kernel_rfl
 case C => rfl
 case B => exact run_call rfl Tryd.call13 (by kernel_rfl)
 rintro e w1 ⟨rfl, hb⟩
 refine ⟨_, rfl, hK.out _ _ (Held.keep hb (by assumption)) (fun hHeld => ?_)⟩
 clear hK K hb
 simp only [lA, lB, lC]
 refine take1 11 36 (.bool false) rfl rfl (by kernel_rfl) (by kernel_rfl) (by kernel_rfl) (fun _ _ _ h => h) (Or.inl ⟨by kernel_rfl, fun w hSw => by (try dsimp only at hSw); go_simp⟩) (by assumption) ?_
 simp only [lA, lB, lC]
 refine take1 12 37 (.bool false) rfl rfl (by kernel_rfl) (by kernel_rfl) (by kernel_rfl) (fun _ _ _ h => h) (Or.inl ⟨by kernel_rfl, fun w hSw => by (try dsimp only at hSw); go_simp⟩) (by assumption) ?_
 simp only [lA, lB, lC]
 refine take1 13 38 (.bool false) rfl rfl (by kernel_rfl) (by kernel_rfl) (by kernel_rfl) (fun _ _ _ h => h) (Or.inl ⟨by kernel_rfl, fun w hSw => by (try dsimp only at hSw); go_simp⟩) (by assumption) ?_
 simp only [lA, lB, lC]
 refine take1 14 39 (.agg #[.bool d0, .int .i64 d1, .int .i64 d2]) rfl rfl (by kernel_rfl) (by kernel_rfl) (by kernel_rfl) (fun _ _ _ h => h) (Or.inl ⟨by kernel_rfl, fun w hSw => by simp only [Held, List.forall_mem_cons, List.not_mem_nil, false_implies, implies_true, and_true] at hSw; go_simp⟩) (by assumption) ?_
 simp only [lA, lB, lC]
 refine wpAnyH_ready (rs := [15]) (by kernel_rfl) (by simp) ?_
 refine AllReadyH.cons rfl (fun K hK => ?_) AllReadyH.nil
 refine ready_call 40 ?A ?B (HFd.out _) ?C ?_
 case A => kernel_rfl
 case C => rfl
 case B => exact run_call rfl Tryd.call13 (by kernel_rfl)
 rintro e w1 ⟨rfl, hb⟩
 refine ⟨_, rfl, hK.out _ _ (Held.keep hb (by assumption)) (fun hHeld => ?_)⟩
 clear hK K hb
 simp only [lA, lB, lC]
 refine take1 16 41 (.bool false) rfl rfl (by kernel_rfl) (by kernel_rfl) (by kernel_rfl) (fun _ _ _ h => h) (Or.inl ⟨by kernel_rfl, fun w hSw => by (try dsimp only at hSw); go_simp⟩) (by assumption) ?_
 simp only [lA, lB, lC]
 refine take1 17 42 (.bool false) rfl rfl (by kernel_rfl) (by kernel_rfl) (by kernel_rfl) (fun _ _ _ h => h) (Or.inl ⟨by kernel_rfl, fun w hSw => by (try dsimp only at hSw); go_simp⟩) (by assumption) ?_
 simp only [lA, lB, lC]
 refine take1 18 43 (.bool false) rfl rfl (by kernel_rfl) (by kernel_rfl) (by kernel_rfl) (fun _ _ _ h => h) (Or.inl ⟨by kernel_rfl, fun w hSw => by (try dsimp only at hSw); go_simp⟩) (by assumption) ?_
 simp only [lA, lB, lC]
 refine take1 19 44 (.agg #[.int .i64 i1, .int .i64 i2]) rfl rfl (by kernel_rfl) (by kernel_rfl) (by kernel_rfl) (fun _ _ _ h => h) (Or.inl ⟨by kernel_rfl, fun w hSw => by simp only [Held, List.forall_mem_cons, List.not_mem_nil, false_implies, implies_true, and_true] at hSw; go_simp⟩) (by assumption) ?_
 simp only [lA, lB, lC]
 refine take1 20 45 (.pointer (some ⟨w.heap.size + 1 + 1 + 1 + 1, 0, none⟩)) rfl rfl (by kernel_rfl) (by kernel_rfl) (by kernel_rfl) (fun _ _ _ h => h) (Or.inl ⟨by kernel_rfl, fun w hSw => by (try dsimp only at hSw); go_simp⟩) (by assumption) ?_
 simp only [lA, lB, lC]
 refine take1 21 46 (.int .i64 i1) rfl rfl (by kernel_rfl) (by kernel_rfl) (by kernel_rfl) (fun _ _ _ h => h) (Or.inl ⟨by kernel_rfl, fun w hSw => by simp only [Held, List.forall_mem_cons, List.not_mem_nil, false_implies, implies_true, and_true] at hSw; go_simp⟩) (by assumption) ?_
 simp only [lA, lB, lC]
 refine take1 22 47 (.pointer (some ⟨w.heap.size + 1 + 1 + 1 + 1, 1, none⟩)) rfl rfl (by kernel_rfl) (by kernel_rfl) (by kernel_rfl) (fun _ _ _ h => h) (Or.inl ⟨by kernel_rfl, fun w hSw => by (try dsimp only at hSw); go_simp⟩) (by assumption) ?_
 simp only [lA, lB, lC]
 refine take1 23 48 (.int .i64 i2) rfl rfl (by kernel_rfl) (by kernel_rfl) (by kernel_rfl) (fun _ _ _ h => h) (Or.inl ⟨by kernel_rfl, fun w hSw => by simp only [Held, List.forall_mem_cons, List.not_mem_nil, false_implies, implies_true, and_true] at hSw; go_simp⟩) (by assumption) ?_
 simp only [lA, lB, lC]
 refine wpAnyH_ready (rs := [24]) (by kernel_rfl) (by simp) ?_
 refine AllReadyH.cons rfl (fun K hK => ?_) AllReadyH.nil
 refine ready_call 49 ?A ?B (HOi.out _) ?C ?_
 case A => kernel_rfl
 case C => rfl
 case B => exact run_call rfl Tryd.call23 (by kernel_rfl)
 rintro e w1 ⟨rfl, hb⟩
 refine ⟨_, rfl, hK.out _ _ (Held.keep hb (by assumption)) (fun hHeld => ?_)⟩
 clear hK K hb
 simp only [lA, lB, lC]
 refine take1 25 50 (.bool false) rfl rfl (by kernel_rfl) (by kernel_rfl) (by kernel_rfl) (fun _ _ _ h => h) (Or.inl ⟨by kernel_rfl, fun w hSw => by (try dsimp only at hSw); go_simp⟩) (by assumption) ?_
 simp only [lA, lB, lC]
 refine take1 26 51 (.bool false) rfl rfl (by kernel_rfl) (by kernel_rfl) (by kernel_rfl) (fun _ _ _ h => h) (Or.inl ⟨by kernel_rfl, fun w hSw => by (try dsimp only at hSw); go_simp⟩) (by assumption) ?_
 simp only [lA, lB, lC]
 refine take1 27 52 (.bool false) rfl rfl (by kernel_rfl) (by kernel_rfl) (by kernel_rfl) (fun _ _ _ h => h) (Or.inl ⟨by kernel_rfl, fun w hSw => by (try dsimp only at hSw); go_simp⟩) (by assumption) ?_
 simp only [lA, lB, lC]
 refine take1 28 53 (.agg #[.int .i64 r1, .int .i64 r2]) rfl rfl (by kernel_rfl) (by kernel_rfl) (by kernel_rfl) (fun _ _ _ h => h) (Or.inl ⟨by kernel_rfl, fun w hSw => by simp only [Held, List.forall_mem_cons, List.not_mem_nil, false_implies, implies_true, and_true] at hSw; go_simp⟩) (by assumption) ?_
 simp only [lA, lB, lC]
 refine take1 29 54 (.pointer (some ⟨w.heap.size + 1 + 1 + 1 + 1 + 1, 0, none⟩)) rfl rfl (by kernel_rfl) (by kernel_rfl) (by kernel_rfl) (fun _ _ _ h => h) (Or.inl ⟨by kernel_rfl, fun w hSw => by (try dsimp only at hSw); go_simp⟩) (by assumption) ?_
 simp only [lA, lB, lC]
 refine take1 30 55 (.int .i64 r1) rfl rfl (by kernel_rfl) (by kernel_rfl) (by kernel_rfl) (fun _ _ _ h => h) (Or.inl ⟨by kernel_rfl, fun w hSw => by simp only [Held, List.forall_mem_cons, List.not_mem_nil, false_implies, implies_true, and_true] at hSw; go_simp⟩) (by assumption) ?_
 simp only [lA, lB, lC]
 refine take1 31 56 (.pointer (some ⟨w.heap.size + 1 + 1 + 1 + 1 + 1, 1, none⟩)) rfl rfl (by kernel_rfl) (by kernel_rfl) (by kernel_rfl) (fun _ _ _ h => h) (Or.inl ⟨by kernel_rfl, fun w hSw => by (try dsimp only at hSw); go_simp⟩) (by assumption) ?_
 simp only [lA, lB, lC]
 refine take1 32 57 (.int .i64 r2) rfl rfl (by kernel_rfl) (by kernel_rfl) (by kernel_rfl) (fun _ _ _ h => h) (Or.inl ⟨by kernel_rfl, fun w hSw => by simp only [Held, List.forall_mem_cons, List.not_mem_nil, false_implies, implies_true, and_true] at hSw; go_simp⟩) (by assumption) ?_
 simp only [lA, lB, lC]
 refine wpAnyH_ready (rs := [33]) (by kernel_rfl) (by simp) ?_
 refine AllReadyH.cons rfl (fun K hK => ?_) AllReadyH.nil
 refine ready_call 58 ?A ?B (HOr.out _) ?C ?_
 case A => kernel_rfl
 case C => rfl
 case B => exact run_call rfl Tryd.call23 (by kernel_rfl)
 rintro e w1 ⟨rfl, hb⟩
 refine ⟨_, rfl, hK.out _ _ (Held.keep hb (by assumption)) (fun hHeld => ?_)⟩
 clear hK K hb
 simp only [lA, lB, lC]
 refine take1 34 59 (.bool false) rfl rfl (by kernel_rfl) (by kernel_rfl) (by kernel_rfl) (fun _ _ _ h => h) (Or.inl ⟨by kernel_rfl, fun w hSw => by (try dsimp only at hSw); go_simp⟩) (by assumption) ?_
 simp only [lA, lB, lC]
 refine take1 35 60 (.bool false) rfl rfl (by kernel_rfl) (by kernel_rfl) (by kernel_rfl) (fun _ _ _ h => h) (Or.inl ⟨by kernel_rfl, fun w hSw => by (try dsimp only at hSw); go_simp⟩) (by assumption) ?_
 simp only [lA, lB, lC]
 refine wpAnyH_done (by kernel_rfl) ?_ _
 try simp only [Act.put, List.getElem_toArray, List.getElem_cons_succ, List.getElem_cons_zero, lA, lB, lC]
 replace hS := hHeld
 clear hHeld
 go_upto_region 3 with fail
 have hN : w.heap.size + 6 ≤ w1.heap.size := by
  have hq := (Held.open hS).2
  simp only [List.forall_mem_cons, List.not_mem_nil, false_implies, implies_true, and_true] at hq
  omega
 go_cut [15, 16] from 62 to 67 (fun s15 s16 wc => ∃ n15 n16 : Nat, s15 = .pointer (some ⟨n15, 0, none⟩) ∧ s16 = .pointer (some ⟨n16, 0, none⟩) ∧ Held w [(n16, 0, .bool y0), (n16, 1, .int .i64 y1), (n16, 2, .int .i64 y2), (n15, 0, .bool x0), (n15, 1, .int .i64 x1), (n15, 2, .int .i64 x2), (w.heap.size, 0, .bool a0), (w.heap.size, 1, .int .i64 a1), (w.heap.size, 2, .int .i64 a2), (w.heap.size + 1, 0, .bool b0), (w.heap.size + 1, 1, .int .i64 b1), (w.heap.size + 1, 2, .int .i64 b2), (w.heap.size + 1 + 1, 0, .bool c0), (w.heap.size + 1 + 1, 1, .int .i64 c1), (w.heap.size + 1 + 1, 2, .int .i64 c2), (w.heap.size + 1 + 1 + 1, 0, .bool d0), (w.heap.size + 1 + 1 + 1, 1, .int .i64 d1), (w.heap.size + 1 + 1 + 1, 2, .int .i64 d2), (w.heap.size + 1 + 1 + 1 + 1, 0, .int .i64 i1), (w.heap.size + 1 + 1 + 1 + 1, 1, .int .i64 i2), (w.heap.size + 1 + 1 + 1 + 1 + 1, 0, .int .i64 r1), (w.heap.size + 1 + 1 + 1 + 1 + 1, 1, .int .i64 r2)] wc)
 case first =>
  refine wp_region_held_drew (S := (fun w' => Held w [(w.heap.size, 0, .bool a0), (w.heap.size, 1, .int .i64 a1), (w.heap.size, 2, .int .i64 a2), (w.heap.size + 1, 0, .bool b0), (w.heap.size + 1, 1, .int .i64 b1), (w.heap.size + 1, 2, .int .i64 b2), (w.heap.size + 1 + 1, 0, .bool c0), (w.heap.size + 1 + 1, 1, .int .i64 c1), (w.heap.size + 1 + 1, 2, .int .i64 c2), (w.heap.size + 1 + 1 + 1, 0, .bool d0), (w.heap.size + 1 + 1 + 1, 1, .int .i64 d1), (w.heap.size + 1 + 1 + 1, 2, .int .i64 d2), (w.heap.size + 1 + 1 + 1 + 1, 0, .int .i64 i1), (w.heap.size + 1 + 1 + 1 + 1, 1, .int .i64 i2), (w.heap.size + 1 + 1 + 1 + 1 + 1, 0, .int .i64 r1), (w.heap.size + 1 + 1 + 1 + 1 + 1, 1, .int .i64 r2)] w')) (by kernel_rfl) (Held.drew hS) (fun hH2 => ?_)
  have hN3 : w.heap.size + 6 ≤ w1.drew.heap.size := hN
  generalize w1.drew = X1 at hH2 hN3 ⊢
  refine take1 0 62 (.agg #[.bool a0, .int .i64 a1, .int .i64 a2]) rfl rfl (by kernel_rfl) (by kernel_rfl) (by kernel_rfl) (fun _ _ _ h => h) (Or.inl ⟨by kernel_rfl, fun w hSw => by simp only [Held, List.forall_mem_cons, List.not_mem_nil, false_implies, implies_true, and_true] at hSw; go_simp⟩) (by assumption) ?_
  simp only [lA, lB, lC]
  refine take1 1 63 (.agg #[.bool c0, .int .i64 c1, .int .i64 c2]) rfl rfl (by kernel_rfl) (by kernel_rfl) (by kernel_rfl) (fun _ _ _ h => h) (Or.inl ⟨by kernel_rfl, fun w hSw => by simp only [Held, List.forall_mem_cons, List.not_mem_nil, false_implies, implies_true, and_true] at hSw; go_simp⟩) (by assumption) ?_
  simp only [lA, lB, lC]
  refine take1 3 65 (.agg #[.bool b0, .int .i64 b1, .int .i64 b2]) rfl rfl (by kernel_rfl) (by kernel_rfl) (by kernel_rfl) (fun _ _ _ h => h) (Or.inl ⟨by kernel_rfl, fun w hSw => by simp only [Held, List.forall_mem_cons, List.not_mem_nil, false_implies, implies_true, and_true] at hSw; go_simp⟩) (by assumption) ?_
  simp only [lA, lB, lC]
  refine take1 4 66 (.agg #[.bool d0, .int .i64 d1, .int .i64 d2]) rfl rfl (by kernel_rfl) (by kernel_rfl) (by kernel_rfl) (fun _ _ _ h => h) (Or.inl ⟨by kernel_rfl, fun w hSw => by simp only [Held, List.forall_mem_cons, List.not_mem_nil, false_implies, implies_true, and_true] at hSw; go_simp⟩) (by assumption) ?_
  simp only [lA, lB, lC]
  refine wpAnyH_ready (rs := [2, 6, 7]) (by kernel_rfl) (by simp) ?_
  refine AllReadyH.cons rfl (fun K hK => ?_) (AllReadyH.cons rfl (fun K hK => ?_) (AllReadyH.cons rfl (fun K hK => ?_) AllReadyH.nil))
  ·
   refine ready_call 64 ?A ?B (HX.out _) ?C ?_
   case A => kernel_rfl
   case C => rfl
   case B => exact run_call rfl Tryd.call29 (by kernel_rfl)
   rintro e X4 ⟨rfl, hb⟩
   refine ⟨_, rfl, hK.out _ _ (Held.keep hb hH2) (fun hH5 => ?_)⟩
   clear hK K
   simp only [lA, lB, lC]
   have hN6 := Nat.le_trans hN3 hb.size
   clear hb
   refine wpAnyH_ready (rs := [5, 6, 7]) (by kernel_rfl) (by simp) ?_
   refine AllReadyH.cons rfl (fun K hK => ?_) (AllReadyH.cons rfl (fun K hK => ?_) (AllReadyH.cons rfl (fun K hK => ?_) AllReadyH.nil))
   ·
    refine ready_call 67 ?A ?B (HY.out _) ?C ?_
    case A => kernel_rfl
    case C => rfl
    case B => exact run_call rfl Tryd.call29 (by kernel_rfl)
    rintro e X7 ⟨rfl, hb⟩
    refine ⟨_, rfl, hK.out _ _ (Held.keep hb hH5) (fun hH8 => ?_)⟩
    clear hK K
    simp only [lA, lB, lC]
    have hN9 := Nat.le_trans hN6 hb.size
    clear hb
    refine wpAnyH_ready (rs := [6, 7]) (by kernel_rfl) (by simp) ?_
    refine AllReadyH.cons rfl (fun K hK => ?_) (AllReadyH.cons rfl (fun K hK => ?_) AllReadyH.nil)
    ·
     refine ready_value 15 (v := .pointer (some ⟨X7.heap.size, 0, none⟩)) (w' := X7.alloc (.cells #[.bool false, .int .i64 0, .int .i64 0] 23)) ?A ?B ?C ?_
     case A => kernel_rfl
     case C => rfl
     case B => exact run_alloc rfl (by go_simp)
     refine hK.out _ _ (Held.alloc _ hH8) (fun hH11 => ?_)
     clear hK K
     simp only [lA, lB, lC]
     have hN12 := size_alloc (.cells #[.bool false, .int .i64 0, .int .i64 0] 23) hN9
     have g13 := G.new X7 hN9
     generalize X7.alloc (.cells #[.bool false, .int .i64 0, .int .i64 0] 23) = X10 at hH11 hN12 g13 ⊢
     refine wpAnyH_ready (rs := [7]) (by kernel_rfl) (by simp) ?_
     refine AllReadyH.cons rfl (fun K hK => ?_) AllReadyH.nil
     refine ready_value 16 (v := .pointer (some ⟨X10.heap.size, 0, none⟩)) (w' := X10.alloc (.cells #[.bool false, .int .i64 0, .int .i64 0] 23)) ?A ?B ?C ?_
     case A => kernel_rfl
     case C => rfl
     case B => exact run_alloc rfl (by go_simp)
     refine hK.out _ _ (Held.alloc _ hH11) (fun hH15 => ?_)
     clear hK K
     simp only [lA, lB, lC]
     have hN16 := size_alloc (.cells #[.bool false, .int .i64 0, .int .i64 0] 23) hN12
     have g17 := G.new X10 hN12
     have lt18 := g13.2.1
     have g19 := g13.alloc (.cells #[.bool false, .int .i64 0, .int .i64 0] 23)
     generalize X10.alloc (.cells #[.bool false, .int .i64 0, .int .i64 0] 23) = X14 at hH15 hN16 g17 g19 ⊢
     refine wpAnyH_ready (rs := [8]) (by kernel_rfl) (by simp) ?_
     refine AllReadyH.cons rfl (fun K hK => ?_) AllReadyH.nil
     have sz15 := g19.2.1
     have md15 := g19.2.2
     have sz16 := g17.2.1
     have md16 := g17.2.2
     have nq1 : X7.heap.size ≠ X10.heap.size := by omega
     have nq2 : X10.heap.size ≠ X7.heap.size := by omega
     have hF20 := fill3 x0 x1 x2 g19 (by omega) (by simp only [List.forall_mem_cons, List.not_mem_nil, false_implies, implies_true, and_true]; omega) hH15
     have g22 := g17.store3 x0 x1 x2 g19 (by omega) (by omega)
     obtain ⟨⟨g19_0, g19_1, g19_2, g19_3, g19_4, g19_5⟩, _, _⟩ := g19
     go_simp
     refine hK.out _ _ hF20.rest.rest.rest (fun hH21 => ?_)
     clear hK K g19_0 g19_1 g19_2 g19_3 g19_4 g19_5
     try simp only [lA, lB, lC]
     refine wpAnyH_ready (rs := [9]) (by kernel_rfl) (by simp) ?_
     refine AllReadyH.cons rfl (fun K hK => ?_) AllReadyH.nil
     have hF24 := fill3 y0 y1 y2 g22 (by omega) (by simp only [List.forall_mem_cons, List.not_mem_nil, false_implies, implies_true, and_true]; omega) hF20
     obtain ⟨⟨g22_0, g22_1, g22_2, g22_3, g22_4, g22_5⟩, _, _⟩ := g22
     go_simp
     refine hK.out _ _ hF24.rest.rest.rest.rest.rest.rest (fun hH25 => ?_)
     clear hK K g22_0 g22_1 g22_2 g22_3 g22_4 g22_5
     try simp only [lA, lB, lC]
     refine wpAnyH_done (by kernel_rfl) ?_ _
     try simp only [Act.put, List.getElem_toArray, List.getElem_cons_succ, List.getElem_cons_zero, lA, lB, lC]
     go_wp2_with fail
     go_meet
     exact ⟨_, _, rfl, rfl, hF24⟩
    ·
     refine ready_value 16 (v := .pointer (some ⟨X7.heap.size, 0, none⟩)) (w' := X7.alloc (.cells #[.bool false, .int .i64 0, .int .i64 0] 23)) ?A ?B ?C ?_
     case A => kernel_rfl
     case C => rfl
     case B => exact run_alloc rfl (by go_simp)
     refine hK.out _ _ (Held.alloc _ hH8) (fun hH28 => ?_)
     clear hK K
     simp only [lA, lB, lC]
     have hN29 := size_alloc (.cells #[.bool false, .int .i64 0, .int .i64 0] 23) hN9
     have g30 := G.new X7 hN9
     generalize X7.alloc (.cells #[.bool false, .int .i64 0, .int .i64 0] 23) = X27 at hH28 hN29 g30 ⊢
     refine wpAnyH_ready (rs := [6]) (by kernel_rfl) (by simp) ?_
     refine AllReadyH.cons rfl (fun K hK => ?_) AllReadyH.nil
     refine ready_value 15 (v := .pointer (some ⟨X27.heap.size, 0, none⟩)) (w' := X27.alloc (.cells #[.bool false, .int .i64 0, .int .i64 0] 23)) ?A ?B ?C ?_
     case A => kernel_rfl
     case C => rfl
     case B => exact run_alloc rfl (by go_simp)
     refine hK.out _ _ (Held.alloc _ hH28) (fun hH32 => ?_)
     clear hK K
     simp only [lA, lB, lC]
     have hN33 := size_alloc (.cells #[.bool false, .int .i64 0, .int .i64 0] 23) hN29
     have g34 := G.new X27 hN29
     have lt35 := g30.2.1
     have g36 := g30.alloc (.cells #[.bool false, .int .i64 0, .int .i64 0] 23)
     generalize X27.alloc (.cells #[.bool false, .int .i64 0, .int .i64 0] 23) = X31 at hH32 hN33 g34 g36 ⊢
     refine wpAnyH_ready (rs := [8]) (by kernel_rfl) (by simp) ?_
     refine AllReadyH.cons rfl (fun K hK => ?_) AllReadyH.nil
     have sz16 := g36.2.1
     have md16 := g36.2.2
     have sz15 := g34.2.1
     have md15 := g34.2.2
     have nq1 : X7.heap.size ≠ X27.heap.size := by omega
     have nq2 : X27.heap.size ≠ X7.heap.size := by omega
     have hF37 := fill3 x0 x1 x2 g34 (by omega) (by simp only [List.forall_mem_cons, List.not_mem_nil, false_implies, implies_true, and_true]; omega) hH32
     have g39 := g36.store3 x0 x1 x2 g34 (by omega) (by omega)
     obtain ⟨⟨g34_0, g34_1, g34_2, g34_3, g34_4, g34_5⟩, _, _⟩ := g34
     go_simp
     refine hK.out _ _ hF37.rest.rest.rest (fun hH38 => ?_)
     clear hK K g34_0 g34_1 g34_2 g34_3 g34_4 g34_5
     try simp only [lA, lB, lC]
     refine wpAnyH_ready (rs := [9]) (by kernel_rfl) (by simp) ?_
     refine AllReadyH.cons rfl (fun K hK => ?_) AllReadyH.nil
     have hF41 := fill3 y0 y1 y2 g39 (by omega) (by simp only [List.forall_mem_cons, List.not_mem_nil, false_implies, implies_true, and_true]; omega) hF37
     obtain ⟨⟨g39_0, g39_1, g39_2, g39_3, g39_4, g39_5⟩, _, _⟩ := g39
     go_simp
     refine hK.out _ _ hF41.rest.rest.rest.rest.rest.rest (fun hH42 => ?_)
     clear hK K g39_0 g39_1 g39_2 g39_3 g39_4 g39_5
     try simp only [lA, lB, lC]
     refine wpAnyH_done (by kernel_rfl) ?_ _
     try simp only [Act.put, List.getElem_toArray, List.getElem_cons_succ, List.getElem_cons_zero, lA, lB, lC]
     go_wp2_with fail
     go_meet
     exact ⟨_, _, rfl, rfl, hF41⟩
   ·
    refine ready_value 15 (v := .pointer (some ⟨X4.heap.size, 0, none⟩)) (w' := X4.alloc (.cells #[.bool false, .int .i64 0, .int .i64 0] 23)) ?A ?B ?C ?_
    case A => kernel_rfl
    case C => rfl
    case B => exact run_alloc rfl (by go_simp)
    refine hK.out _ _ (Held.alloc _ hH5) (fun hH45 => ?_)
    clear hK K
    simp only [lA, lB, lC]
    have hN46 := size_alloc (.cells #[.bool false, .int .i64 0, .int .i64 0] 23) hN6
    have g47 := G.new X4 hN6
    generalize X4.alloc (.cells #[.bool false, .int .i64 0, .int .i64 0] 23) = X44 at hH45 hN46 g47 ⊢
    refine wpAnyH_ready (rs := [5, 7]) (by kernel_rfl) (by simp) ?_
    refine AllReadyH.cons rfl (fun K hK => ?_) (AllReadyH.cons rfl (fun K hK => ?_) AllReadyH.nil)
    ·
     refine ready_call 67 ?A ?B (HY.out _) ?C ?_
     case A => kernel_rfl
     case C => rfl
     case B => exact run_call rfl Tryd.call29 (by kernel_rfl)
     rintro e X48 ⟨rfl, hb⟩
     refine ⟨_, rfl, hK.out _ _ (Held.keep hb hH45) (fun hH49 => ?_)⟩
     clear hK K
     simp only [lA, lB, lC]
     have hN50 := Nat.le_trans hN46 hb.size
     have g51 := g47.below hb
     clear hb
     refine wpAnyH_ready (rs := [7]) (by kernel_rfl) (by simp) ?_
     refine AllReadyH.cons rfl (fun K hK => ?_) AllReadyH.nil
     refine ready_value 16 (v := .pointer (some ⟨X48.heap.size, 0, none⟩)) (w' := X48.alloc (.cells #[.bool false, .int .i64 0, .int .i64 0] 23)) ?A ?B ?C ?_
     case A => kernel_rfl
     case C => rfl
     case B => exact run_alloc rfl (by go_simp)
     refine hK.out _ _ (Held.alloc _ hH49) (fun hH53 => ?_)
     clear hK K
     simp only [lA, lB, lC]
     have hN54 := size_alloc (.cells #[.bool false, .int .i64 0, .int .i64 0] 23) hN50
     have g55 := G.new X48 hN50
     have lt56 := g51.2.1
     have g57 := g51.alloc (.cells #[.bool false, .int .i64 0, .int .i64 0] 23)
     generalize X48.alloc (.cells #[.bool false, .int .i64 0, .int .i64 0] 23) = X52 at hH53 hN54 g55 g57 ⊢
     refine wpAnyH_ready (rs := [8]) (by kernel_rfl) (by simp) ?_
     refine AllReadyH.cons rfl (fun K hK => ?_) AllReadyH.nil
     have sz15 := g57.2.1
     have md15 := g57.2.2
     have sz16 := g55.2.1
     have md16 := g55.2.2
     have nq1 : X4.heap.size ≠ X48.heap.size := by omega
     have nq2 : X48.heap.size ≠ X4.heap.size := by omega
     have hF58 := fill3 x0 x1 x2 g57 (by omega) (by simp only [List.forall_mem_cons, List.not_mem_nil, false_implies, implies_true, and_true]; omega) hH53
     have g60 := g55.store3 x0 x1 x2 g57 (by omega) (by omega)
     obtain ⟨⟨g57_0, g57_1, g57_2, g57_3, g57_4, g57_5⟩, _, _⟩ := g57
     go_simp
     refine hK.out _ _ hF58.rest.rest.rest (fun hH59 => ?_)
     clear hK K g57_0 g57_1 g57_2 g57_3 g57_4 g57_5
     try simp only [lA, lB, lC]
     refine wpAnyH_ready (rs := [9]) (by kernel_rfl) (by simp) ?_
     refine AllReadyH.cons rfl (fun K hK => ?_) AllReadyH.nil
     have hF62 := fill3 y0 y1 y2 g60 (by omega) (by simp only [List.forall_mem_cons, List.not_mem_nil, false_implies, implies_true, and_true]; omega) hF58
     obtain ⟨⟨g60_0, g60_1, g60_2, g60_3, g60_4, g60_5⟩, _, _⟩ := g60
     go_simp
     refine hK.out _ _ hF62.rest.rest.rest.rest.rest.rest (fun hH63 => ?_)
     clear hK K g60_0 g60_1 g60_2 g60_3 g60_4 g60_5
     try simp only [lA, lB, lC]
     refine wpAnyH_done (by kernel_rfl) ?_ _
     try simp only [Act.put, List.getElem_toArray, List.getElem_cons_succ, List.getElem_cons_zero, lA, lB, lC]
     go_wp2_with fail
     go_meet
     exact ⟨_, _, rfl, rfl, hF62⟩
    ·
     refine ready_value 16 (v := .pointer (some ⟨X44.heap.size, 0, none⟩)) (w' := X44.alloc (.cells #[.bool false, .int .i64 0, .int .i64 0] 23)) ?A ?B ?C ?_
     case A => kernel_rfl
     case C => rfl
     case B => exact run_alloc rfl (by go_simp)
     refine hK.out _ _ (Held.alloc _ hH45) (fun hH66 => ?_)
     clear hK K
     simp only [lA, lB, lC]
     have hN67 := size_alloc (.cells #[.bool false, .int .i64 0, .int .i64 0] 23) hN46
     have g68 := G.new X44 hN46
     have lt69 := g47.2.1
     have g70 := g47.alloc (.cells #[.bool false, .int .i64 0, .int .i64 0] 23)
     generalize X44.alloc (.cells #[.bool false, .int .i64 0, .int .i64 0] 23) = X65 at hH66 hN67 g68 g70 ⊢
     refine wpAnyH_ready (rs := [5]) (by kernel_rfl) (by simp) ?_
     refine AllReadyH.cons rfl (fun K hK => ?_) AllReadyH.nil
     refine ready_call 67 ?A ?B (HY.out _) ?C ?_
     case A => kernel_rfl
     case C => rfl
     case B => exact run_call rfl Tryd.call29 (by kernel_rfl)
     rintro e X71 ⟨rfl, hb⟩
     refine ⟨_, rfl, hK.out _ _ (Held.keep hb hH66) (fun hH72 => ?_)⟩
     clear hK K
     simp only [lA, lB, lC]
     have hN73 := Nat.le_trans hN67 hb.size
     have g74 := g70.below hb
     have g75 := g68.below hb
     clear hb
     refine wpAnyH_ready (rs := [8]) (by kernel_rfl) (by simp) ?_
     refine AllReadyH.cons rfl (fun K hK => ?_) AllReadyH.nil
     have sz15 := g74.2.1
     have md15 := g74.2.2
     have sz16 := g75.2.1
     have md16 := g75.2.2
     have nq1 : X4.heap.size ≠ X44.heap.size := by omega
     have nq2 : X44.heap.size ≠ X4.heap.size := by omega
     have hF76 := fill3 x0 x1 x2 g74 (by omega) (by simp only [List.forall_mem_cons, List.not_mem_nil, false_implies, implies_true, and_true]; omega) hH72
     have g78 := g75.store3 x0 x1 x2 g74 (by omega) (by omega)
     obtain ⟨⟨g74_0, g74_1, g74_2, g74_3, g74_4, g74_5⟩, _, _⟩ := g74
     go_simp
     refine hK.out _ _ hF76.rest.rest.rest (fun hH77 => ?_)
     clear hK K g74_0 g74_1 g74_2 g74_3 g74_4 g74_5
     try simp only [lA, lB, lC]
     refine wpAnyH_ready (rs := [9]) (by kernel_rfl) (by simp) ?_
     refine AllReadyH.cons rfl (fun K hK => ?_) AllReadyH.nil
     have hF80 := fill3 y0 y1 y2 g78 (by omega) (by simp only [List.forall_mem_cons, List.not_mem_nil, false_implies, implies_true, and_true]; omega) hF76
     obtain ⟨⟨g78_0, g78_1, g78_2, g78_3, g78_4, g78_5⟩, _, _⟩ := g78
     go_simp
     refine hK.out _ _ hF80.rest.rest.rest.rest.rest.rest (fun hH81 => ?_)
     clear hK K g78_0 g78_1 g78_2 g78_3 g78_4 g78_5
     try simp only [lA, lB, lC]
     refine wpAnyH_done (by kernel_rfl) ?_ _
     try simp only [Act.put, List.getElem_toArray, List.getElem_cons_succ, List.getElem_cons_zero, lA, lB, lC]
     go_wp2_with fail
     go_meet
     exact ⟨_, _, rfl, rfl, hF80⟩
   ·
    refine ready_value 16 (v := .pointer (some ⟨X4.heap.size, 0, none⟩)) (w' := X4.alloc (.cells #[.bool false, .int .i64 0, .int .i64 0] 23)) ?A ?B ?C ?_
    case A => kernel_rfl
    case C => rfl
    case B => exact run_alloc rfl (by go_simp)
    refine hK.out _ _ (Held.alloc _ hH5) (fun hH84 => ?_)
    clear hK K
    simp only [lA, lB, lC]
    have hN85 := size_alloc (.cells #[.bool false, .int .i64 0, .int .i64 0] 23) hN6
    have g86 := G.new X4 hN6
    generalize X4.alloc (.cells #[.bool false, .int .i64 0, .int .i64 0] 23) = X83 at hH84 hN85 g86 ⊢
    refine wpAnyH_ready (rs := [5, 6]) (by kernel_rfl) (by simp) ?_
    refine AllReadyH.cons rfl (fun K hK => ?_) (AllReadyH.cons rfl (fun K hK => ?_) AllReadyH.nil)
    ·
     refine ready_call 67 ?A ?B (HY.out _) ?C ?_
     case A => kernel_rfl
     case C => rfl
     case B => exact run_call rfl Tryd.call29 (by kernel_rfl)
     rintro e X87 ⟨rfl, hb⟩
     refine ⟨_, rfl, hK.out _ _ (Held.keep hb hH84) (fun hH88 => ?_)⟩
     clear hK K
     simp only [lA, lB, lC]
     have hN89 := Nat.le_trans hN85 hb.size
     have g90 := g86.below hb
     clear hb
     refine wpAnyH_ready (rs := [6]) (by kernel_rfl) (by simp) ?_
     refine AllReadyH.cons rfl (fun K hK => ?_) AllReadyH.nil
     refine ready_value 15 (v := .pointer (some ⟨X87.heap.size, 0, none⟩)) (w' := X87.alloc (.cells #[.bool false, .int .i64 0, .int .i64 0] 23)) ?A ?B ?C ?_
     case A => kernel_rfl
     case C => rfl
     case B => exact run_alloc rfl (by go_simp)
     refine hK.out _ _ (Held.alloc _ hH88) (fun hH92 => ?_)
     clear hK K
     simp only [lA, lB, lC]
     have hN93 := size_alloc (.cells #[.bool false, .int .i64 0, .int .i64 0] 23) hN89
     have g94 := G.new X87 hN89
     have lt95 := g90.2.1
     have g96 := g90.alloc (.cells #[.bool false, .int .i64 0, .int .i64 0] 23)
     generalize X87.alloc (.cells #[.bool false, .int .i64 0, .int .i64 0] 23) = X91 at hH92 hN93 g94 g96 ⊢
     refine wpAnyH_ready (rs := [8]) (by kernel_rfl) (by simp) ?_
     refine AllReadyH.cons rfl (fun K hK => ?_) AllReadyH.nil
     have sz16 := g96.2.1
     have md16 := g96.2.2
     have sz15 := g94.2.1
     have md15 := g94.2.2
     have nq1 : X4.heap.size ≠ X87.heap.size := by omega
     have nq2 : X87.heap.size ≠ X4.heap.size := by omega
     have hF97 := fill3 x0 x1 x2 g94 (by omega) (by simp only [List.forall_mem_cons, List.not_mem_nil, false_implies, implies_true, and_true]; omega) hH92
     have g99 := g96.store3 x0 x1 x2 g94 (by omega) (by omega)
     obtain ⟨⟨g94_0, g94_1, g94_2, g94_3, g94_4, g94_5⟩, _, _⟩ := g94
     go_simp
     refine hK.out _ _ hF97.rest.rest.rest (fun hH98 => ?_)
     clear hK K g94_0 g94_1 g94_2 g94_3 g94_4 g94_5
     try simp only [lA, lB, lC]
     refine wpAnyH_ready (rs := [9]) (by kernel_rfl) (by simp) ?_
     refine AllReadyH.cons rfl (fun K hK => ?_) AllReadyH.nil
     have hF101 := fill3 y0 y1 y2 g99 (by omega) (by simp only [List.forall_mem_cons, List.not_mem_nil, false_implies, implies_true, and_true]; omega) hF97
     obtain ⟨⟨g99_0, g99_1, g99_2, g99_3, g99_4, g99_5⟩, _, _⟩ := g99
     go_simp
     refine hK.out _ _ hF101.rest.rest.rest.rest.rest.rest (fun hH102 => ?_)
     clear hK K g99_0 g99_1 g99_2 g99_3 g99_4 g99_5
     try simp only [lA, lB, lC]
     refine wpAnyH_done (by kernel_rfl) ?_ _
     try simp only [Act.put, List.getElem_toArray, List.getElem_cons_succ, List.getElem_cons_zero, lA, lB, lC]
     go_wp2_with fail
     go_meet
     exact ⟨_, _, rfl, rfl, hF101⟩
    ·
     refine ready_value 15 (v := .pointer (some ⟨X83.heap.size, 0, none⟩)) (w' := X83.alloc (.cells #[.bool false, .int .i64 0, .int .i64 0] 23)) ?A ?B ?C ?_
     case A => kernel_rfl
     case C => rfl
     case B => exact run_alloc rfl (by go_simp)
     refine hK.out _ _ (Held.alloc _ hH84) (fun hH105 => ?_)
     clear hK K
     simp only [lA, lB, lC]
     have hN106 := size_alloc (.cells #[.bool false, .int .i64 0, .int .i64 0] 23) hN85
     have g107 := G.new X83 hN85
     have lt108 := g86.2.1
     have g109 := g86.alloc (.cells #[.bool false, .int .i64 0, .int .i64 0] 23)
     generalize X83.alloc (.cells #[.bool false, .int .i64 0, .int .i64 0] 23) = X104 at hH105 hN106 g107 g109 ⊢
     refine wpAnyH_ready (rs := [5]) (by kernel_rfl) (by simp) ?_
     refine AllReadyH.cons rfl (fun K hK => ?_) AllReadyH.nil
     refine ready_call 67 ?A ?B (HY.out _) ?C ?_
     case A => kernel_rfl
     case C => rfl
     case B => exact run_call rfl Tryd.call29 (by kernel_rfl)
     rintro e X110 ⟨rfl, hb⟩
     refine ⟨_, rfl, hK.out _ _ (Held.keep hb hH105) (fun hH111 => ?_)⟩
     clear hK K
     simp only [lA, lB, lC]
     have hN112 := Nat.le_trans hN106 hb.size
     have g113 := g109.below hb
     have g114 := g107.below hb
     clear hb
     refine wpAnyH_ready (rs := [8]) (by kernel_rfl) (by simp) ?_
     refine AllReadyH.cons rfl (fun K hK => ?_) AllReadyH.nil
     have sz16 := g113.2.1
     have md16 := g113.2.2
     have sz15 := g114.2.1
     have md15 := g114.2.2
     have nq1 : X4.heap.size ≠ X83.heap.size := by omega
     have nq2 : X83.heap.size ≠ X4.heap.size := by omega
     have hF115 := fill3 x0 x1 x2 g114 (by omega) (by simp only [List.forall_mem_cons, List.not_mem_nil, false_implies, implies_true, and_true]; omega) hH111
     have g117 := g113.store3 x0 x1 x2 g114 (by omega) (by omega)
     obtain ⟨⟨g114_0, g114_1, g114_2, g114_3, g114_4, g114_5⟩, _, _⟩ := g114
     go_simp
     refine hK.out _ _ hF115.rest.rest.rest (fun hH116 => ?_)
     clear hK K g114_0 g114_1 g114_2 g114_3 g114_4 g114_5
     try simp only [lA, lB, lC]
     refine wpAnyH_ready (rs := [9]) (by kernel_rfl) (by simp) ?_
     refine AllReadyH.cons rfl (fun K hK => ?_) AllReadyH.nil
     have hF119 := fill3 y0 y1 y2 g117 (by omega) (by simp only [List.forall_mem_cons, List.not_mem_nil, false_implies, implies_true, and_true]; omega) hF115
     obtain ⟨⟨g117_0, g117_1, g117_2, g117_3, g117_4, g117_5⟩, _, _⟩ := g117
     go_simp
     refine hK.out _ _ hF119.rest.rest.rest.rest.rest.rest (fun hH120 => ?_)
     clear hK K g117_0 g117_1 g117_2 g117_3 g117_4 g117_5
     try simp only [lA, lB, lC]
     refine wpAnyH_done (by kernel_rfl) ?_ _
     try simp only [Act.put, List.getElem_toArray, List.getElem_cons_succ, List.getElem_cons_zero, lA, lB, lC]
     go_wp2_with fail
     go_meet
     exact ⟨_, _, rfl, rfl, hF119⟩
  ·
   refine ready_value 15 (v := .pointer (some ⟨X1.heap.size, 0, none⟩)) (w' := X1.alloc (.cells #[.bool false, .int .i64 0, .int .i64 0] 23)) ?A ?B ?C ?_
   case A => kernel_rfl
   case C => rfl
   case B => exact run_alloc rfl (by go_simp)
   refine hK.out _ _ (Held.alloc _ hH2) (fun hH123 => ?_)
   clear hK K
   simp only [lA, lB, lC]
   have hN124 := size_alloc (.cells #[.bool false, .int .i64 0, .int .i64 0] 23) hN3
   have g125 := G.new X1 hN3
   generalize X1.alloc (.cells #[.bool false, .int .i64 0, .int .i64 0] 23) = X122 at hH123 hN124 g125 ⊢
   refine wpAnyH_ready (rs := [2, 7]) (by kernel_rfl) (by simp) ?_
   refine AllReadyH.cons rfl (fun K hK => ?_) (AllReadyH.cons rfl (fun K hK => ?_) AllReadyH.nil)
   ·
    refine ready_call 64 ?A ?B (HX.out _) ?C ?_
    case A => kernel_rfl
    case C => rfl
    case B => exact run_call rfl Tryd.call29 (by kernel_rfl)
    rintro e X126 ⟨rfl, hb⟩
    refine ⟨_, rfl, hK.out _ _ (Held.keep hb hH123) (fun hH127 => ?_)⟩
    clear hK K
    simp only [lA, lB, lC]
    have hN128 := Nat.le_trans hN124 hb.size
    have g129 := g125.below hb
    clear hb
    refine wpAnyH_ready (rs := [5, 7]) (by kernel_rfl) (by simp) ?_
    refine AllReadyH.cons rfl (fun K hK => ?_) (AllReadyH.cons rfl (fun K hK => ?_) AllReadyH.nil)
    ·
     refine ready_call 67 ?A ?B (HY.out _) ?C ?_
     case A => kernel_rfl
     case C => rfl
     case B => exact run_call rfl Tryd.call29 (by kernel_rfl)
     rintro e X130 ⟨rfl, hb⟩
     refine ⟨_, rfl, hK.out _ _ (Held.keep hb hH127) (fun hH131 => ?_)⟩
     clear hK K
     simp only [lA, lB, lC]
     have hN132 := Nat.le_trans hN128 hb.size
     have g133 := g129.below hb
     clear hb
     refine wpAnyH_ready (rs := [7]) (by kernel_rfl) (by simp) ?_
     refine AllReadyH.cons rfl (fun K hK => ?_) AllReadyH.nil
     refine ready_value 16 (v := .pointer (some ⟨X130.heap.size, 0, none⟩)) (w' := X130.alloc (.cells #[.bool false, .int .i64 0, .int .i64 0] 23)) ?A ?B ?C ?_
     case A => kernel_rfl
     case C => rfl
     case B => exact run_alloc rfl (by go_simp)
     refine hK.out _ _ (Held.alloc _ hH131) (fun hH135 => ?_)
     clear hK K
     simp only [lA, lB, lC]
     have hN136 := size_alloc (.cells #[.bool false, .int .i64 0, .int .i64 0] 23) hN132
     have g137 := G.new X130 hN132
     have lt138 := g133.2.1
     have g139 := g133.alloc (.cells #[.bool false, .int .i64 0, .int .i64 0] 23)
     generalize X130.alloc (.cells #[.bool false, .int .i64 0, .int .i64 0] 23) = X134 at hH135 hN136 g137 g139 ⊢
     refine wpAnyH_ready (rs := [8]) (by kernel_rfl) (by simp) ?_
     refine AllReadyH.cons rfl (fun K hK => ?_) AllReadyH.nil
     have sz15 := g139.2.1
     have md15 := g139.2.2
     have sz16 := g137.2.1
     have md16 := g137.2.2
     have nq1 : X1.heap.size ≠ X130.heap.size := by omega
     have nq2 : X130.heap.size ≠ X1.heap.size := by omega
     have hF140 := fill3 x0 x1 x2 g139 (by omega) (by simp only [List.forall_mem_cons, List.not_mem_nil, false_implies, implies_true, and_true]; omega) hH135
     have g142 := g137.store3 x0 x1 x2 g139 (by omega) (by omega)
     obtain ⟨⟨g139_0, g139_1, g139_2, g139_3, g139_4, g139_5⟩, _, _⟩ := g139
     go_simp
     refine hK.out _ _ hF140.rest.rest.rest (fun hH141 => ?_)
     clear hK K g139_0 g139_1 g139_2 g139_3 g139_4 g139_5
     try simp only [lA, lB, lC]
     refine wpAnyH_ready (rs := [9]) (by kernel_rfl) (by simp) ?_
     refine AllReadyH.cons rfl (fun K hK => ?_) AllReadyH.nil
     have hF144 := fill3 y0 y1 y2 g142 (by omega) (by simp only [List.forall_mem_cons, List.not_mem_nil, false_implies, implies_true, and_true]; omega) hF140
     obtain ⟨⟨g142_0, g142_1, g142_2, g142_3, g142_4, g142_5⟩, _, _⟩ := g142
     go_simp
     refine hK.out _ _ hF144.rest.rest.rest.rest.rest.rest (fun hH145 => ?_)
     clear hK K g142_0 g142_1 g142_2 g142_3 g142_4 g142_5
     try simp only [lA, lB, lC]
     refine wpAnyH_done (by kernel_rfl) ?_ _
     try simp only [Act.put, List.getElem_toArray, List.getElem_cons_succ, List.getElem_cons_zero, lA, lB, lC]
     go_wp2_with fail
     go_meet
     exact ⟨_, _, rfl, rfl, hF144⟩
    ·
     refine ready_value 16 (v := .pointer (some ⟨X126.heap.size, 0, none⟩)) (w' := X126.alloc (.cells #[.bool false, .int .i64 0, .int .i64 0] 23)) ?A ?B ?C ?_
     case A => kernel_rfl
     case C => rfl
     case B => exact run_alloc rfl (by go_simp)
     refine hK.out _ _ (Held.alloc _ hH127) (fun hH148 => ?_)
     clear hK K
     simp only [lA, lB, lC]
     have hN149 := size_alloc (.cells #[.bool false, .int .i64 0, .int .i64 0] 23) hN128
     have g150 := G.new X126 hN128
     have lt151 := g129.2.1
     have g152 := g129.alloc (.cells #[.bool false, .int .i64 0, .int .i64 0] 23)
     generalize X126.alloc (.cells #[.bool false, .int .i64 0, .int .i64 0] 23) = X147 at hH148 hN149 g150 g152 ⊢
     refine wpAnyH_ready (rs := [5]) (by kernel_rfl) (by simp) ?_
     refine AllReadyH.cons rfl (fun K hK => ?_) AllReadyH.nil
     refine ready_call 67 ?A ?B (HY.out _) ?C ?_
     case A => kernel_rfl
     case C => rfl
     case B => exact run_call rfl Tryd.call29 (by kernel_rfl)
     rintro e X153 ⟨rfl, hb⟩
     refine ⟨_, rfl, hK.out _ _ (Held.keep hb hH148) (fun hH154 => ?_)⟩
     clear hK K
     simp only [lA, lB, lC]
     have hN155 := Nat.le_trans hN149 hb.size
     have g156 := g152.below hb
     have g157 := g150.below hb
     clear hb
     refine wpAnyH_ready (rs := [8]) (by kernel_rfl) (by simp) ?_
     refine AllReadyH.cons rfl (fun K hK => ?_) AllReadyH.nil
     have sz15 := g156.2.1
     have md15 := g156.2.2
     have sz16 := g157.2.1
     have md16 := g157.2.2
     have nq1 : X1.heap.size ≠ X126.heap.size := by omega
     have nq2 : X126.heap.size ≠ X1.heap.size := by omega
     have hF158 := fill3 x0 x1 x2 g156 (by omega) (by simp only [List.forall_mem_cons, List.not_mem_nil, false_implies, implies_true, and_true]; omega) hH154
     have g160 := g157.store3 x0 x1 x2 g156 (by omega) (by omega)
     obtain ⟨⟨g156_0, g156_1, g156_2, g156_3, g156_4, g156_5⟩, _, _⟩ := g156
     go_simp
     refine hK.out _ _ hF158.rest.rest.rest (fun hH159 => ?_)
     clear hK K g156_0 g156_1 g156_2 g156_3 g156_4 g156_5
     try simp only [lA, lB, lC]
     refine wpAnyH_ready (rs := [9]) (by kernel_rfl) (by simp) ?_
     refine AllReadyH.cons rfl (fun K hK => ?_) AllReadyH.nil
     have hF162 := fill3 y0 y1 y2 g160 (by omega) (by simp only [List.forall_mem_cons, List.not_mem_nil, false_implies, implies_true, and_true]; omega) hF158
     obtain ⟨⟨g160_0, g160_1, g160_2, g160_3, g160_4, g160_5⟩, _, _⟩ := g160
     go_simp
     refine hK.out _ _ hF162.rest.rest.rest.rest.rest.rest (fun hH163 => ?_)
     clear hK K g160_0 g160_1 g160_2 g160_3 g160_4 g160_5
     try simp only [lA, lB, lC]
     refine wpAnyH_done (by kernel_rfl) ?_ _
     try simp only [Act.put, List.getElem_toArray, List.getElem_cons_succ, List.getElem_cons_zero, lA, lB, lC]
     go_wp2_with fail
     go_meet
     exact ⟨_, _, rfl, rfl, hF162⟩
   ·
    refine ready_value 16 (v := .pointer (some ⟨X122.heap.size, 0, none⟩)) (w' := X122.alloc (.cells #[.bool false, .int .i64 0, .int .i64 0] 23)) ?A ?B ?C ?_
    case A => kernel_rfl
    case C => rfl
    case B => exact run_alloc rfl (by go_simp)
    refine hK.out _ _ (Held.alloc _ hH123) (fun hH166 => ?_)
    clear hK K
    simp only [lA, lB, lC]
    have hN167 := size_alloc (.cells #[.bool false, .int .i64 0, .int .i64 0] 23) hN124
    have g168 := G.new X122 hN124
    have lt169 := g125.2.1
    have g170 := g125.alloc (.cells #[.bool false, .int .i64 0, .int .i64 0] 23)
    generalize X122.alloc (.cells #[.bool false, .int .i64 0, .int .i64 0] 23) = X165 at hH166 hN167 g168 g170 ⊢
    refine wpAnyH_ready (rs := [2]) (by kernel_rfl) (by simp) ?_
    refine AllReadyH.cons rfl (fun K hK => ?_) AllReadyH.nil
    refine ready_call 64 ?A ?B (HX.out _) ?C ?_
    case A => kernel_rfl
    case C => rfl
    case B => exact run_call rfl Tryd.call29 (by kernel_rfl)
    rintro e X171 ⟨rfl, hb⟩
    refine ⟨_, rfl, hK.out _ _ (Held.keep hb hH166) (fun hH172 => ?_)⟩
    clear hK K
    simp only [lA, lB, lC]
    have hN173 := Nat.le_trans hN167 hb.size
    have g174 := g170.below hb
    have g175 := g168.below hb
    clear hb
    refine wpAnyH_ready (rs := [5]) (by kernel_rfl) (by simp) ?_
    refine AllReadyH.cons rfl (fun K hK => ?_) AllReadyH.nil
    refine ready_call 67 ?A ?B (HY.out _) ?C ?_
    case A => kernel_rfl
    case C => rfl
    case B => exact run_call rfl Tryd.call29 (by kernel_rfl)
    rintro e X176 ⟨rfl, hb⟩
    refine ⟨_, rfl, hK.out _ _ (Held.keep hb hH172) (fun hH177 => ?_)⟩
    clear hK K
    simp only [lA, lB, lC]
    have hN178 := Nat.le_trans hN173 hb.size
    have g179 := g174.below hb
    have g180 := g175.below hb
    clear hb
    refine wpAnyH_ready (rs := [8]) (by kernel_rfl) (by simp) ?_
    refine AllReadyH.cons rfl (fun K hK => ?_) AllReadyH.nil
    have sz15 := g179.2.1
    have md15 := g179.2.2
    have sz16 := g180.2.1
    have md16 := g180.2.2
    have nq1 : X1.heap.size ≠ X122.heap.size := by omega
    have nq2 : X122.heap.size ≠ X1.heap.size := by omega
    have hF181 := fill3 x0 x1 x2 g179 (by omega) (by simp only [List.forall_mem_cons, List.not_mem_nil, false_implies, implies_true, and_true]; omega) hH177
    have g183 := g180.store3 x0 x1 x2 g179 (by omega) (by omega)
    obtain ⟨⟨g179_0, g179_1, g179_2, g179_3, g179_4, g179_5⟩, _, _⟩ := g179
    go_simp
    refine hK.out _ _ hF181.rest.rest.rest (fun hH182 => ?_)
    clear hK K g179_0 g179_1 g179_2 g179_3 g179_4 g179_5
    try simp only [lA, lB, lC]
    refine wpAnyH_ready (rs := [9]) (by kernel_rfl) (by simp) ?_
    refine AllReadyH.cons rfl (fun K hK => ?_) AllReadyH.nil
    have hF185 := fill3 y0 y1 y2 g183 (by omega) (by simp only [List.forall_mem_cons, List.not_mem_nil, false_implies, implies_true, and_true]; omega) hF181
    obtain ⟨⟨g183_0, g183_1, g183_2, g183_3, g183_4, g183_5⟩, _, _⟩ := g183
    go_simp
    refine hK.out _ _ hF185.rest.rest.rest.rest.rest.rest (fun hH186 => ?_)
    clear hK K g183_0 g183_1 g183_2 g183_3 g183_4 g183_5
    try simp only [lA, lB, lC]
    refine wpAnyH_done (by kernel_rfl) ?_ _
    try simp only [Act.put, List.getElem_toArray, List.getElem_cons_succ, List.getElem_cons_zero, lA, lB, lC]
    go_wp2_with fail
    go_meet
    exact ⟨_, _, rfl, rfl, hF185⟩
  ·
   refine ready_value 16 (v := .pointer (some ⟨X1.heap.size, 0, none⟩)) (w' := X1.alloc (.cells #[.bool false, .int .i64 0, .int .i64 0] 23)) ?A ?B ?C ?_
   case A => kernel_rfl
   case C => rfl
   case B => exact run_alloc rfl (by go_simp)
   refine hK.out _ _ (Held.alloc _ hH2) (fun hH189 => ?_)
   clear hK K
   simp only [lA, lB, lC]
   have hN190 := size_alloc (.cells #[.bool false, .int .i64 0, .int .i64 0] 23) hN3
   have g191 := G.new X1 hN3
   generalize X1.alloc (.cells #[.bool false, .int .i64 0, .int .i64 0] 23) = X188 at hH189 hN190 g191 ⊢
   refine wpAnyH_ready (rs := [2, 6]) (by kernel_rfl) (by simp) ?_
   refine AllReadyH.cons rfl (fun K hK => ?_) (AllReadyH.cons rfl (fun K hK => ?_) AllReadyH.nil)
   ·
    refine ready_call 64 ?A ?B (HX.out _) ?C ?_
    case A => kernel_rfl
    case C => rfl
    case B => exact run_call rfl Tryd.call29 (by kernel_rfl)
    rintro e X192 ⟨rfl, hb⟩
    refine ⟨_, rfl, hK.out _ _ (Held.keep hb hH189) (fun hH193 => ?_)⟩
    clear hK K
    simp only [lA, lB, lC]
    have hN194 := Nat.le_trans hN190 hb.size
    have g195 := g191.below hb
    clear hb
    refine wpAnyH_ready (rs := [5, 6]) (by kernel_rfl) (by simp) ?_
    refine AllReadyH.cons rfl (fun K hK => ?_) (AllReadyH.cons rfl (fun K hK => ?_) AllReadyH.nil)
    ·
     refine ready_call 67 ?A ?B (HY.out _) ?C ?_
     case A => kernel_rfl
     case C => rfl
     case B => exact run_call rfl Tryd.call29 (by kernel_rfl)
     rintro e X196 ⟨rfl, hb⟩
     refine ⟨_, rfl, hK.out _ _ (Held.keep hb hH193) (fun hH197 => ?_)⟩
     clear hK K
     simp only [lA, lB, lC]
     have hN198 := Nat.le_trans hN194 hb.size
     have g199 := g195.below hb
     clear hb
     refine wpAnyH_ready (rs := [6]) (by kernel_rfl) (by simp) ?_
     refine AllReadyH.cons rfl (fun K hK => ?_) AllReadyH.nil
     refine ready_value 15 (v := .pointer (some ⟨X196.heap.size, 0, none⟩)) (w' := X196.alloc (.cells #[.bool false, .int .i64 0, .int .i64 0] 23)) ?A ?B ?C ?_
     case A => kernel_rfl
     case C => rfl
     case B => exact run_alloc rfl (by go_simp)
     refine hK.out _ _ (Held.alloc _ hH197) (fun hH201 => ?_)
     clear hK K
     simp only [lA, lB, lC]
     have hN202 := size_alloc (.cells #[.bool false, .int .i64 0, .int .i64 0] 23) hN198
     have g203 := G.new X196 hN198
     have lt204 := g199.2.1
     have g205 := g199.alloc (.cells #[.bool false, .int .i64 0, .int .i64 0] 23)
     generalize X196.alloc (.cells #[.bool false, .int .i64 0, .int .i64 0] 23) = X200 at hH201 hN202 g203 g205 ⊢
     refine wpAnyH_ready (rs := [8]) (by kernel_rfl) (by simp) ?_
     refine AllReadyH.cons rfl (fun K hK => ?_) AllReadyH.nil
     have sz16 := g205.2.1
     have md16 := g205.2.2
     have sz15 := g203.2.1
     have md15 := g203.2.2
     have nq1 : X1.heap.size ≠ X196.heap.size := by omega
     have nq2 : X196.heap.size ≠ X1.heap.size := by omega
     have hF206 := fill3 x0 x1 x2 g203 (by omega) (by simp only [List.forall_mem_cons, List.not_mem_nil, false_implies, implies_true, and_true]; omega) hH201
     have g208 := g205.store3 x0 x1 x2 g203 (by omega) (by omega)
     obtain ⟨⟨g203_0, g203_1, g203_2, g203_3, g203_4, g203_5⟩, _, _⟩ := g203
     go_simp
     refine hK.out _ _ hF206.rest.rest.rest (fun hH207 => ?_)
     clear hK K g203_0 g203_1 g203_2 g203_3 g203_4 g203_5
     try simp only [lA, lB, lC]
     refine wpAnyH_ready (rs := [9]) (by kernel_rfl) (by simp) ?_
     refine AllReadyH.cons rfl (fun K hK => ?_) AllReadyH.nil
     have hF210 := fill3 y0 y1 y2 g208 (by omega) (by simp only [List.forall_mem_cons, List.not_mem_nil, false_implies, implies_true, and_true]; omega) hF206
     obtain ⟨⟨g208_0, g208_1, g208_2, g208_3, g208_4, g208_5⟩, _, _⟩ := g208
     go_simp
     refine hK.out _ _ hF210.rest.rest.rest.rest.rest.rest (fun hH211 => ?_)
     clear hK K g208_0 g208_1 g208_2 g208_3 g208_4 g208_5
     try simp only [lA, lB, lC]
     refine wpAnyH_done (by kernel_rfl) ?_ _
     try simp only [Act.put, List.getElem_toArray, List.getElem_cons_succ, List.getElem_cons_zero, lA, lB, lC]
     go_wp2_with fail
     go_meet
     exact ⟨_, _, rfl, rfl, hF210⟩
    ·
     refine ready_value 15 (v := .pointer (some ⟨X192.heap.size, 0, none⟩)) (w' := X192.alloc (.cells #[.bool false, .int .i64 0, .int .i64 0] 23)) ?A ?B ?C ?_
     case A => kernel_rfl
     case C => rfl
     case B => exact run_alloc rfl (by go_simp)
     refine hK.out _ _ (Held.alloc _ hH193) (fun hH214 => ?_)
     clear hK K
     simp only [lA, lB, lC]
     have hN215 := size_alloc (.cells #[.bool false, .int .i64 0, .int .i64 0] 23) hN194
     have g216 := G.new X192 hN194
     have lt217 := g195.2.1
     have g218 := g195.alloc (.cells #[.bool false, .int .i64 0, .int .i64 0] 23)
     generalize X192.alloc (.cells #[.bool false, .int .i64 0, .int .i64 0] 23) = X213 at hH214 hN215 g216 g218 ⊢
     refine wpAnyH_ready (rs := [5]) (by kernel_rfl) (by simp) ?_
     refine AllReadyH.cons rfl (fun K hK => ?_) AllReadyH.nil
     refine ready_call 67 ?A ?B (HY.out _) ?C ?_
     case A => kernel_rfl
     case C => rfl
     case B => exact run_call rfl Tryd.call29 (by kernel_rfl)
     rintro e X219 ⟨rfl, hb⟩
     refine ⟨_, rfl, hK.out _ _ (Held.keep hb hH214) (fun hH220 => ?_)⟩
     clear hK K
     simp only [lA, lB, lC]
     have hN221 := Nat.le_trans hN215 hb.size
     have g222 := g218.below hb
     have g223 := g216.below hb
     clear hb
     refine wpAnyH_ready (rs := [8]) (by kernel_rfl) (by simp) ?_
     refine AllReadyH.cons rfl (fun K hK => ?_) AllReadyH.nil
     have sz16 := g222.2.1
     have md16 := g222.2.2
     have sz15 := g223.2.1
     have md15 := g223.2.2
     have nq1 : X1.heap.size ≠ X192.heap.size := by omega
     have nq2 : X192.heap.size ≠ X1.heap.size := by omega
     have hF224 := fill3 x0 x1 x2 g223 (by omega) (by simp only [List.forall_mem_cons, List.not_mem_nil, false_implies, implies_true, and_true]; omega) hH220
     have g226 := g222.store3 x0 x1 x2 g223 (by omega) (by omega)
     obtain ⟨⟨g223_0, g223_1, g223_2, g223_3, g223_4, g223_5⟩, _, _⟩ := g223
     go_simp
     refine hK.out _ _ hF224.rest.rest.rest (fun hH225 => ?_)
     clear hK K g223_0 g223_1 g223_2 g223_3 g223_4 g223_5
     try simp only [lA, lB, lC]
     refine wpAnyH_ready (rs := [9]) (by kernel_rfl) (by simp) ?_
     refine AllReadyH.cons rfl (fun K hK => ?_) AllReadyH.nil
     have hF228 := fill3 y0 y1 y2 g226 (by omega) (by simp only [List.forall_mem_cons, List.not_mem_nil, false_implies, implies_true, and_true]; omega) hF224
     obtain ⟨⟨g226_0, g226_1, g226_2, g226_3, g226_4, g226_5⟩, _, _⟩ := g226
     go_simp
     refine hK.out _ _ hF228.rest.rest.rest.rest.rest.rest (fun hH229 => ?_)
     clear hK K g226_0 g226_1 g226_2 g226_3 g226_4 g226_5
     try simp only [lA, lB, lC]
     refine wpAnyH_done (by kernel_rfl) ?_ _
     try simp only [Act.put, List.getElem_toArray, List.getElem_cons_succ, List.getElem_cons_zero, lA, lB, lC]
     go_wp2_with fail
     go_meet
     exact ⟨_, _, rfl, rfl, hF228⟩
   ·
    refine ready_value 15 (v := .pointer (some ⟨X188.heap.size, 0, none⟩)) (w' := X188.alloc (.cells #[.bool false, .int .i64 0, .int .i64 0] 23)) ?A ?B ?C ?_
    case A => kernel_rfl
    case C => rfl
    case B => exact run_alloc rfl (by go_simp)
    refine hK.out _ _ (Held.alloc _ hH189) (fun hH232 => ?_)
    clear hK K
    simp only [lA, lB, lC]
    have hN233 := size_alloc (.cells #[.bool false, .int .i64 0, .int .i64 0] 23) hN190
    have g234 := G.new X188 hN190
    have lt235 := g191.2.1
    have g236 := g191.alloc (.cells #[.bool false, .int .i64 0, .int .i64 0] 23)
    generalize X188.alloc (.cells #[.bool false, .int .i64 0, .int .i64 0] 23) = X231 at hH232 hN233 g234 g236 ⊢
    refine wpAnyH_ready (rs := [2]) (by kernel_rfl) (by simp) ?_
    refine AllReadyH.cons rfl (fun K hK => ?_) AllReadyH.nil
    refine ready_call 64 ?A ?B (HX.out _) ?C ?_
    case A => kernel_rfl
    case C => rfl
    case B => exact run_call rfl Tryd.call29 (by kernel_rfl)
    rintro e X237 ⟨rfl, hb⟩
    refine ⟨_, rfl, hK.out _ _ (Held.keep hb hH232) (fun hH238 => ?_)⟩
    clear hK K
    simp only [lA, lB, lC]
    have hN239 := Nat.le_trans hN233 hb.size
    have g240 := g236.below hb
    have g241 := g234.below hb
    clear hb
    refine wpAnyH_ready (rs := [5]) (by kernel_rfl) (by simp) ?_
    refine AllReadyH.cons rfl (fun K hK => ?_) AllReadyH.nil
    refine ready_call 67 ?A ?B (HY.out _) ?C ?_
    case A => kernel_rfl
    case C => rfl
    case B => exact run_call rfl Tryd.call29 (by kernel_rfl)
    rintro e X242 ⟨rfl, hb⟩
    refine ⟨_, rfl, hK.out _ _ (Held.keep hb hH238) (fun hH243 => ?_)⟩
    clear hK K
    simp only [lA, lB, lC]
    have hN244 := Nat.le_trans hN239 hb.size
    have g245 := g240.below hb
    have g246 := g241.below hb
    clear hb
    refine wpAnyH_ready (rs := [8]) (by kernel_rfl) (by simp) ?_
    refine AllReadyH.cons rfl (fun K hK => ?_) AllReadyH.nil
    have sz16 := g245.2.1
    have md16 := g245.2.2
    have sz15 := g246.2.1
    have md15 := g246.2.2
    have nq1 : X1.heap.size ≠ X188.heap.size := by omega
    have nq2 : X188.heap.size ≠ X1.heap.size := by omega
    have hF247 := fill3 x0 x1 x2 g246 (by omega) (by simp only [List.forall_mem_cons, List.not_mem_nil, false_implies, implies_true, and_true]; omega) hH243
    have g249 := g245.store3 x0 x1 x2 g246 (by omega) (by omega)
    obtain ⟨⟨g246_0, g246_1, g246_2, g246_3, g246_4, g246_5⟩, _, _⟩ := g246
    go_simp
    refine hK.out _ _ hF247.rest.rest.rest (fun hH248 => ?_)
    clear hK K g246_0 g246_1 g246_2 g246_3 g246_4 g246_5
    try simp only [lA, lB, lC]
    refine wpAnyH_ready (rs := [9]) (by kernel_rfl) (by simp) ?_
    refine AllReadyH.cons rfl (fun K hK => ?_) AllReadyH.nil
    have hF251 := fill3 y0 y1 y2 g249 (by omega) (by simp only [List.forall_mem_cons, List.not_mem_nil, false_implies, implies_true, and_true]; omega) hF247
    obtain ⟨⟨g249_0, g249_1, g249_2, g249_3, g249_4, g249_5⟩, _, _⟩ := g249
    go_simp
    refine hK.out _ _ hF251.rest.rest.rest.rest.rest.rest (fun hH252 => ?_)
    clear hK K g249_0 g249_1 g249_2 g249_3 g249_4 g249_5
    try simp only [lA, lB, lC]
    refine wpAnyH_done (by kernel_rfl) ?_ _
    try simp only [Act.put, List.getElem_toArray, List.getElem_cons_succ, List.getElem_cons_zero, lA, lB, lC]
    go_wp2_with fail
    go_meet
    exact ⟨_, _, rfl, rfl, hF251⟩
 case rest =>
  obtain ⟨n15, n16, rfl, rfl, hS⟩ := hcut
  go_upto_region 4 with fail
  refine wp_region_held_drew (S := (fun w' => Held w [(n16, 0, .bool y0), (n16, 1, .int .i64 y1), (n16, 2, .int .i64 y2), (n15, 0, .bool x0), (n15, 1, .int .i64 x1), (n15, 2, .int .i64 x2), (w.heap.size, 0, .bool a0), (w.heap.size, 1, .int .i64 a1), (w.heap.size, 2, .int .i64 a2), (w.heap.size + 1, 0, .bool b0), (w.heap.size + 1, 1, .int .i64 b1), (w.heap.size + 1, 2, .int .i64 b2), (w.heap.size + 1 + 1, 0, .bool c0), (w.heap.size + 1 + 1, 1, .int .i64 c1), (w.heap.size + 1 + 1, 2, .int .i64 c2), (w.heap.size + 1 + 1 + 1, 0, .bool d0), (w.heap.size + 1 + 1 + 1, 1, .int .i64 d1), (w.heap.size + 1 + 1 + 1, 2, .int .i64 d2), (w.heap.size + 1 + 1 + 1 + 1, 0, .int .i64 i1), (w.heap.size + 1 + 1 + 1 + 1, 1, .int .i64 i2), (w.heap.size + 1 + 1 + 1 + 1 + 1, 0, .int .i64 r1), (w.heap.size + 1 + 1 + 1 + 1 + 1, 1, .int .i64 r2)] w')) (by kernel_rfl) (Held.drew hS) (fun hHeld => ?_)
  refine take1 0 68 (.agg #[.bool a0, .int .i64 a1, .int .i64 a2]) rfl rfl (by kernel_rfl) (by kernel_rfl) (by kernel_rfl) (fun _ _ _ h => h) (Or.inl ⟨by kernel_rfl, fun w hSw => by simp only [Held, List.forall_mem_cons, List.not_mem_nil, false_implies, implies_true, and_true] at hSw; go_simp⟩) (by assumption) ?_
  simp only [lA, lB, lC]
  refine take1 1 69 (.agg #[.bool b0, .int .i64 b1, .int .i64 b2]) rfl rfl (by kernel_rfl) (by kernel_rfl) (by kernel_rfl) (fun _ _ _ h => h) (Or.inl ⟨by kernel_rfl, fun w hSw => by simp only [Held, List.forall_mem_cons, List.not_mem_nil, false_implies, implies_true, and_true] at hSw; go_simp⟩) (by assumption) ?_
  simp only [lA, lB, lC]
  refine take1 3 71 (.agg #[.bool x0, .int .i64 x1, .int .i64 x2]) rfl rfl (by kernel_rfl) (by kernel_rfl) (by kernel_rfl) (fun _ _ _ h => h) (Or.inl ⟨by kernel_rfl, fun w hSw => by simp only [Held, List.forall_mem_cons, List.not_mem_nil, false_implies, implies_true, and_true] at hSw; go_simp⟩) (by assumption) ?_
  simp only [lA, lB, lC]
  refine take1 4 72 (.agg #[.bool y0, .int .i64 y1, .int .i64 y2]) rfl rfl (by kernel_rfl) (by kernel_rfl) (by kernel_rfl) (fun _ _ _ h => h) (Or.inl ⟨by kernel_rfl, fun w hSw => by simp only [Held, List.forall_mem_cons, List.not_mem_nil, false_implies, implies_true, and_true] at hSw; go_simp⟩) (by assumption) ?_
  simp only [lA, lB, lC]
  refine wpAnyH_ready (rs := [2]) (by kernel_rfl) (by simp) ?_
  refine AllReadyH.cons rfl (fun K hK => ?_) AllReadyH.nil
  refine ready_call 70 ?A ?B (Hpa.out _) ?C ?_
  case A => kernel_rfl
  case C => rfl
  case B => exact run_call rfl Tryd.call35 (by kernel_rfl)
  rintro e w1 ⟨rfl, hb⟩
  refine ⟨_, rfl, hK.out _ _ (Held.keep hb (by assumption)) (fun hHeld => ?_)⟩
  clear hK K hb
  simp only [lA, lB, lC]
  refine wpAnyH_ready (rs := [5]) (by kernel_rfl) (by simp) ?_
  refine AllReadyH.cons rfl (fun K hK => ?_) AllReadyH.nil
  refine ready_call 73 ?A ?B (Hqa.out _) ?C ?_
  case A => kernel_rfl
  case C => rfl
  case B => exact run_call rfl Tryd.call35 (by kernel_rfl)
  rintro e w1 ⟨rfl, hb⟩
  refine ⟨_, rfl, hK.out _ _ (Held.keep hb (by assumption)) (fun hHeld => ?_)⟩
  clear hK K hb
  simp only [lA, lB, lC]
  refine wpAnyH_ready (rs := [6]) (by kernel_rfl) (by simp) ?_
  refine AllReadyH.cons rfl (fun K hK => ?_) AllReadyH.nil
  refine ready_call 74 ?A ?B (HLa.out _) ?C ?_
  case A => kernel_rfl
  case C => rfl
  case B => exact run_call rfl Tryd.call21 (by kernel_rfl)
  rintro e w1 ⟨rfl, hb⟩
  refine ⟨_, rfl, hK.out _ _ (Held.keep hb (by assumption)) (fun hHeld => ?_)⟩
  clear hK K hb
  simp only [lA, lB, lC]
  refine take1 7 75 (.bool false) rfl rfl (by kernel_rfl) (by kernel_rfl) (by kernel_rfl) (fun _ _ _ h => h) (Or.inl ⟨by kernel_rfl, fun w hSw => by (try dsimp only at hSw); go_simp⟩) (by assumption) ?_
  simp only [lA, lB, lC]
  refine take1 8 76 (.bool false) rfl rfl (by kernel_rfl) (by kernel_rfl) (by kernel_rfl) (fun _ _ _ h => h) (Or.inl ⟨by kernel_rfl, fun w hSw => by (try dsimp only at hSw); go_simp⟩) (by assumption) ?_
  simp only [lA, lB, lC]
  refine take1 9 77 (.agg #[.bool a0, .int .i64 a1, .int .i64 a2]) rfl rfl (by kernel_rfl) (by kernel_rfl) (by kernel_rfl) (fun _ _ _ h => h) (Or.inl ⟨by kernel_rfl, fun w hSw => by simp only [Held, List.forall_mem_cons, List.not_mem_nil, false_implies, implies_true, and_true] at hSw; go_simp⟩) (by assumption) ?_
  simp only [lA, lB, lC]
  refine take1 10 78 (.agg #[.bool b0, .int .i64 b1, .int .i64 b2]) rfl rfl (by kernel_rfl) (by kernel_rfl) (by kernel_rfl) (fun _ _ _ h => h) (Or.inl ⟨by kernel_rfl, fun w hSw => by simp only [Held, List.forall_mem_cons, List.not_mem_nil, false_implies, implies_true, and_true] at hSw; go_simp⟩) (by assumption) ?_
  simp only [lA, lB, lC]
  refine take1 12 80 (.agg #[.bool x0, .int .i64 x1, .int .i64 x2]) rfl rfl (by kernel_rfl) (by kernel_rfl) (by kernel_rfl) (fun _ _ _ h => h) (Or.inl ⟨by kernel_rfl, fun w hSw => by simp only [Held, List.forall_mem_cons, List.not_mem_nil, false_implies, implies_true, and_true] at hSw; go_simp⟩) (by assumption) ?_
  simp only [lA, lB, lC]
  refine take1 13 81 (.agg #[.bool y0, .int .i64 y1, .int .i64 y2]) rfl rfl (by kernel_rfl) (by kernel_rfl) (by kernel_rfl) (fun _ _ _ h => h) (Or.inl ⟨by kernel_rfl, fun w hSw => by simp only [Held, List.forall_mem_cons, List.not_mem_nil, false_implies, implies_true, and_true] at hSw; go_simp⟩) (by assumption) ?_
  simp only [lA, lB, lC]
  refine wpAnyH_ready (rs := [11]) (by kernel_rfl) (by simp) ?_
  refine AllReadyH.cons rfl (fun K hK => ?_) AllReadyH.nil
  refine ready_call 79 ?A ?B (Hps.out _) ?C ?_
  case A => kernel_rfl
  case C => rfl
  case B => exact run_call rfl Tryd.call37 (by kernel_rfl)
  rintro e w1 ⟨rfl, hb⟩
  refine ⟨_, rfl, hK.out _ _ (Held.keep hb (by assumption)) (fun hHeld => ?_)⟩
  clear hK K hb
  simp only [lA, lB, lC]
  refine wpAnyH_ready (rs := [14]) (by kernel_rfl) (by simp) ?_
  refine AllReadyH.cons rfl (fun K hK => ?_) AllReadyH.nil
  refine ready_call 82 ?A ?B (Hqs.out _) ?C ?_
  case A => kernel_rfl
  case C => rfl
  case B => exact run_call rfl Tryd.call37 (by kernel_rfl)
  rintro e w1 ⟨rfl, hb⟩
  refine ⟨_, rfl, hK.out _ _ (Held.keep hb (by assumption)) (fun hHeld => ?_)⟩
  clear hK K hb
  simp only [lA, lB, lC]
  refine wpAnyH_ready (rs := [15]) (by kernel_rfl) (by simp) ?_
  refine AllReadyH.cons rfl (fun K hK => ?_) AllReadyH.nil
  refine ready_call 83 ?A ?B (HLs.out _) ?C ?_
  case A => kernel_rfl
  case C => rfl
  case B => exact run_call rfl Tryd.call21 (by kernel_rfl)
  rintro e w1 ⟨rfl, hb⟩
  refine ⟨_, rfl, hK.out _ _ (Held.keep hb (by assumption)) (fun hHeld => ?_)⟩
  clear hK K hb
  simp only [lA, lB, lC]
  refine take1 16 84 (.bool false) rfl rfl (by kernel_rfl) (by kernel_rfl) (by kernel_rfl) (fun _ _ _ h => h) (Or.inl ⟨by kernel_rfl, fun w hSw => by (try dsimp only at hSw); go_simp⟩) (by assumption) ?_
  simp only [lA, lB, lC]
  refine take1 17 85 (.bool false) rfl rfl (by kernel_rfl) (by kernel_rfl) (by kernel_rfl) (fun _ _ _ h => h) (Or.inl ⟨by kernel_rfl, fun w hSw => by (try dsimp only at hSw); go_simp⟩) (by assumption) ?_
  simp only [lA, lB, lC]
  refine take1 18 86 (.bool false) rfl rfl (by kernel_rfl) (by kernel_rfl) (by kernel_rfl) (fun _ _ _ h => h) (Or.inl ⟨by kernel_rfl, fun w hSw => by (try dsimp only at hSw); go_simp⟩) (by assumption) ?_
  simp only [lA, lB, lC]
  refine take1 19 87 (.agg #[.bool a0, .int .i64 a1, .int .i64 a2]) rfl rfl (by kernel_rfl) (by kernel_rfl) (by kernel_rfl) (fun _ _ _ h => h) (Or.inl ⟨by kernel_rfl, fun w hSw => by simp only [Held, List.forall_mem_cons, List.not_mem_nil, false_implies, implies_true, and_true] at hSw; go_simp⟩) (by assumption) ?_
  simp only [lA, lB, lC]
  refine take1 20 88 (.agg #[.bool b0, .int .i64 b1, .int .i64 b2]) rfl rfl (by kernel_rfl) (by kernel_rfl) (by kernel_rfl) (fun _ _ _ h => h) (Or.inl ⟨by kernel_rfl, fun w hSw => by simp only [Held, List.forall_mem_cons, List.not_mem_nil, false_implies, implies_true, and_true] at hSw; go_simp⟩) (by assumption) ?_
  simp only [lA, lB, lC]
  refine take1 22 90 (.agg #[.bool x0, .int .i64 x1, .int .i64 x2]) rfl rfl (by kernel_rfl) (by kernel_rfl) (by kernel_rfl) (fun _ _ _ h => h) (Or.inl ⟨by kernel_rfl, fun w hSw => by simp only [Held, List.forall_mem_cons, List.not_mem_nil, false_implies, implies_true, and_true] at hSw; go_simp⟩) (by assumption) ?_
  simp only [lA, lB, lC]
  refine take1 23 91 (.agg #[.bool y0, .int .i64 y1, .int .i64 y2]) rfl rfl (by kernel_rfl) (by kernel_rfl) (by kernel_rfl) (fun _ _ _ h => h) (Or.inl ⟨by kernel_rfl, fun w hSw => by simp only [Held, List.forall_mem_cons, List.not_mem_nil, false_implies, implies_true, and_true] at hSw; go_simp⟩) (by assumption) ?_
  simp only [lA, lB, lC]
  refine wpAnyH_ready (rs := [21]) (by kernel_rfl) (by simp) ?_
  refine AllReadyH.cons rfl (fun K hK => ?_) AllReadyH.nil
  refine ready_call 89 ?A ?B (Hpm.out _) ?C ?_
  case A => kernel_rfl
  case C => rfl
  case B => exact run_call rfl Tryd.call39 (by kernel_rfl)
  rintro e w1 ⟨rfl, hb⟩
  refine ⟨_, rfl, hK.out _ _ (Held.keep hb (by assumption)) (fun hHeld => ?_)⟩
  clear hK K hb
  simp only [lA, lB, lC]
  refine wpAnyH_ready (rs := [24]) (by kernel_rfl) (by simp) ?_
  refine AllReadyH.cons rfl (fun K hK => ?_) AllReadyH.nil
  refine ready_call 92 ?A ?B (Hqm.out _) ?C ?_
  case A => kernel_rfl
  case C => rfl
  case B => exact run_call rfl Tryd.call39 (by kernel_rfl)
  rintro e w1 ⟨rfl, hb⟩
  refine ⟨_, rfl, hK.out _ _ (Held.keep hb (by assumption)) (fun hHeld => ?_)⟩
  clear hK K hb
  simp only [lA, lB, lC]
  refine wpAnyH_ready (rs := [25]) (by kernel_rfl) (by simp) ?_
  refine AllReadyH.cons rfl (fun K hK => ?_) AllReadyH.nil
  refine ready_call 93 ?A ?B (HLm.out _) ?C ?_
  case A => kernel_rfl
  case C => rfl
  case B => exact run_call rfl Tryd.call21 (by kernel_rfl)
  rintro e w1 ⟨rfl, hb⟩
  refine ⟨_, rfl, hK.out _ _ (Held.keep hb (by assumption)) (fun hHeld => ?_)⟩
  clear hK K hb
  simp only [lA, lB, lC]
  refine take1 26 94 (.bool false) rfl rfl (by kernel_rfl) (by kernel_rfl) (by kernel_rfl) (fun _ _ _ h => h) (Or.inl ⟨by kernel_rfl, fun w hSw => by (try dsimp only at hSw); go_simp⟩) (by assumption) ?_
  simp only [lA, lB, lC]
  refine take1 27 95 (.bool false) rfl rfl (by kernel_rfl) (by kernel_rfl) (by kernel_rfl) (fun _ _ _ h => h) (Or.inl ⟨by kernel_rfl, fun w hSw => by (try dsimp only at hSw); go_simp⟩) (by assumption) ?_
  simp only [lA, lB, lC]
  refine take1 28 96 (.bool false) rfl rfl (by kernel_rfl) (by kernel_rfl) (by kernel_rfl) (fun _ _ _ h => h) (Or.inl ⟨by kernel_rfl, fun w hSw => by (try dsimp only at hSw); go_simp⟩) (by assumption) ?_
  simp only [lA, lB, lC]
  refine take1 29 97 (.agg #[.bool a0, .int .i64 a1, .int .i64 a2]) rfl rfl (by kernel_rfl) (by kernel_rfl) (by kernel_rfl) (fun _ _ _ h => h) (Or.inl ⟨by kernel_rfl, fun w hSw => by simp only [Held, List.forall_mem_cons, List.not_mem_nil, false_implies, implies_true, and_true] at hSw; go_simp⟩) (by assumption) ?_
  simp only [lA, lB, lC]
  refine take1 30 98 (.agg #[.bool b0, .int .i64 b1, .int .i64 b2]) rfl rfl (by kernel_rfl) (by kernel_rfl) (by kernel_rfl) (fun _ _ _ h => h) (Or.inl ⟨by kernel_rfl, fun w hSw => by simp only [Held, List.forall_mem_cons, List.not_mem_nil, false_implies, implies_true, and_true] at hSw; go_simp⟩) (by assumption) ?_
  simp only [lA, lB, lC]
  refine take1 32 100 (.agg #[.bool x0, .int .i64 x1, .int .i64 x2]) rfl rfl (by kernel_rfl) (by kernel_rfl) (by kernel_rfl) (fun _ _ _ h => h) (Or.inl ⟨by kernel_rfl, fun w hSw => by simp only [Held, List.forall_mem_cons, List.not_mem_nil, false_implies, implies_true, and_true] at hSw; go_simp⟩) (by assumption) ?_
  simp only [lA, lB, lC]
  refine take1 33 101 (.agg #[.bool y0, .int .i64 y1, .int .i64 y2]) rfl rfl (by kernel_rfl) (by kernel_rfl) (by kernel_rfl) (fun _ _ _ h => h) (Or.inl ⟨by kernel_rfl, fun w hSw => by simp only [Held, List.forall_mem_cons, List.not_mem_nil, false_implies, implies_true, and_true] at hSw; go_simp⟩) (by assumption) ?_
  simp only [lA, lB, lC]
  refine wpAnyH_ready (rs := [31]) (by kernel_rfl) (by simp) ?_
  refine AllReadyH.cons rfl (fun K hK => ?_) AllReadyH.nil
  refine ready_call 99 ?A ?B (Hpd.out _) ?C ?_
  case A => kernel_rfl
  case C => rfl
  case B => exact run_call rfl Tryd.call41 (by kernel_rfl)
  rintro e w1 ⟨rfl, hb⟩
  refine ⟨_, rfl, hK.out _ _ (Held.keep hb (by assumption)) (fun hHeld => ?_)⟩
  clear hK K hb
  simp only [lA, lB, lC]
  refine wpAnyH_ready (rs := [34]) (by kernel_rfl) (by simp) ?_
  refine AllReadyH.cons rfl (fun K hK => ?_) AllReadyH.nil
  refine ready_call 102 ?A ?B (Hqd.out _) ?C ?_
  case A => kernel_rfl
  case C => rfl
  case B => exact run_call rfl Tryd.call41 (by kernel_rfl)
  rintro e w1 ⟨rfl, hb⟩
  refine ⟨_, rfl, hK.out _ _ (Held.keep hb (by assumption)) (fun hHeld => ?_)⟩
  clear hK K hb
  simp only [lA, lB, lC]
  refine wpAnyH_ready (rs := [35]) (by kernel_rfl) (by simp) ?_
  refine AllReadyH.cons rfl (fun K hK => ?_) AllReadyH.nil
  refine ready_call 103 ?A ?B (HLd.out _) ?C ?_
  case A => kernel_rfl
  case C => rfl
  case B => exact run_call rfl Tryd.call21 (by kernel_rfl)
  rintro e w1 ⟨rfl, hb⟩
  refine ⟨_, rfl, hK.out _ _ (Held.keep hb (by assumption)) (fun hHeld => ?_)⟩
  clear hK K hb
  simp only [lA, lB, lC]
  refine take1 36 104 (.bool false) rfl rfl (by kernel_rfl) (by kernel_rfl) (by kernel_rfl) (fun _ _ _ h => h) (Or.inl ⟨by kernel_rfl, fun w hSw => by (try dsimp only at hSw); go_simp⟩) (by assumption) ?_
  simp only [lA, lB, lC]
  refine take1 37 105 (.bool false) rfl rfl (by kernel_rfl) (by kernel_rfl) (by kernel_rfl) (fun _ _ _ h => h) (Or.inl ⟨by kernel_rfl, fun w hSw => by (try dsimp only at hSw); go_simp⟩) (by assumption) ?_
  simp only [lA, lB, lC]
  refine take1 38 106 (.bool false) rfl rfl (by kernel_rfl) (by kernel_rfl) (by kernel_rfl) (fun _ _ _ h => h) (Or.inl ⟨by kernel_rfl, fun w hSw => by (try dsimp only at hSw); go_simp⟩) (by assumption) ?_
  simp only [lA, lB, lC]
  refine take1 39 107 (.agg #[.bool a0, .int .i64 a1, .int .i64 a2]) rfl rfl (by kernel_rfl) (by kernel_rfl) (by kernel_rfl) (fun _ _ _ h => h) (Or.inl ⟨by kernel_rfl, fun w hSw => by simp only [Held, List.forall_mem_cons, List.not_mem_nil, false_implies, implies_true, and_true] at hSw; go_simp⟩) (by assumption) ?_
  simp only [lA, lB, lC]
  refine take1 40 108 (.agg #[.bool b0, .int .i64 b1, .int .i64 b2]) rfl rfl (by kernel_rfl) (by kernel_rfl) (by kernel_rfl) (fun _ _ _ h => h) (Or.inl ⟨by kernel_rfl, fun w hSw => by simp only [Held, List.forall_mem_cons, List.not_mem_nil, false_implies, implies_true, and_true] at hSw; go_simp⟩) (by assumption) ?_
  simp only [lA, lB, lC]
  refine take1 42 110 (.agg #[.bool x0, .int .i64 x1, .int .i64 x2]) rfl rfl (by kernel_rfl) (by kernel_rfl) (by kernel_rfl) (fun _ _ _ h => h) (Or.inl ⟨by kernel_rfl, fun w hSw => by simp only [Held, List.forall_mem_cons, List.not_mem_nil, false_implies, implies_true, and_true] at hSw; go_simp⟩) (by assumption) ?_
  simp only [lA, lB, lC]
  refine take1 43 111 (.agg #[.bool y0, .int .i64 y1, .int .i64 y2]) rfl rfl (by kernel_rfl) (by kernel_rfl) (by kernel_rfl) (fun _ _ _ h => h) (Or.inl ⟨by kernel_rfl, fun w hSw => by simp only [Held, List.forall_mem_cons, List.not_mem_nil, false_implies, implies_true, and_true] at hSw; go_simp⟩) (by assumption) ?_
  simp only [lA, lB, lC]
  refine wpAnyH_ready (rs := [41]) (by kernel_rfl) (by simp) ?_
  refine AllReadyH.cons rfl (fun K hK => ?_) AllReadyH.nil
  refine ready_call 109 ?A ?B (Hpo.out _) ?C ?_
  case A => kernel_rfl
  case C => rfl
  case B => exact run_call rfl Tryd.call43 (by kernel_rfl)
  rintro e w1 ⟨rfl, hb⟩
  refine ⟨_, rfl, hK.out _ _ (Held.keep hb (by assumption)) (fun hHeld => ?_)⟩
  clear hK K hb
  simp only [lA, lB, lC]
  refine wpAnyH_ready (rs := [44]) (by kernel_rfl) (by simp) ?_
  refine AllReadyH.cons rfl (fun K hK => ?_) AllReadyH.nil
  refine ready_call 112 ?A ?B (Hqo.out _) ?C ?_
  case A => kernel_rfl
  case C => rfl
  case B => exact run_call rfl Tryd.call43 (by kernel_rfl)
  rintro e w1 ⟨rfl, hb⟩
  refine ⟨_, rfl, hK.out _ _ (Held.keep hb (by assumption)) (fun hHeld => ?_)⟩
  clear hK K hb
  simp only [lA, lB, lC]
  refine wpAnyH_ready (rs := [45]) (by kernel_rfl) (by simp) ?_
  refine AllReadyH.cons rfl (fun K hK => ?_) AllReadyH.nil
  refine ready_call 113 ?A ?B (HLo.out _) ?C ?_
  case A => kernel_rfl
  case C => rfl
  case B => exact run_call rfl Tryd.call21 (by kernel_rfl)
  rintro e w1 ⟨rfl, hb⟩
  refine ⟨_, rfl, hK.out _ _ (Held.keep hb (by assumption)) (fun hHeld => ?_)⟩
  clear hK K hb
  simp only [lA, lB, lC]
  refine take1 46 114 (.bool false) rfl rfl (by kernel_rfl) (by kernel_rfl) (by kernel_rfl) (fun _ _ _ h => h) (Or.inl ⟨by kernel_rfl, fun w hSw => by (try dsimp only at hSw); go_simp⟩) (by assumption) ?_
  simp only [lA, lB, lC]
  refine take1 47 115 (.bool false) rfl rfl (by kernel_rfl) (by kernel_rfl) (by kernel_rfl) (fun _ _ _ h => h) (Or.inl ⟨by kernel_rfl, fun w hSw => by (try dsimp only at hSw); go_simp⟩) (by assumption) ?_
  simp only [lA, lB, lC]
  refine wpAnyH_done (by kernel_rfl) ?_ _
  try simp only [Act.put, List.getElem_toArray, List.getElem_cons_succ, List.getElem_cons_zero, lA, lB, lC]
  replace hS := hHeld
  clear hHeld
  go_upto_region 6 with fail
  refine wp_region_held_drew (S := (fun w' => Held w [(n16, 0, .bool y0), (n16, 1, .int .i64 y1), (n16, 2, .int .i64 y2), (n15, 0, .bool x0), (n15, 1, .int .i64 x1), (n15, 2, .int .i64 x2), (w.heap.size, 0, .bool a0), (w.heap.size, 1, .int .i64 a1), (w.heap.size, 2, .int .i64 a2), (w.heap.size + 1, 0, .bool b0), (w.heap.size + 1, 1, .int .i64 b1), (w.heap.size + 1, 2, .int .i64 b2), (w.heap.size + 1 + 1, 0, .bool c0), (w.heap.size + 1 + 1, 1, .int .i64 c1), (w.heap.size + 1 + 1, 2, .int .i64 c2), (w.heap.size + 1 + 1 + 1, 0, .bool d0), (w.heap.size + 1 + 1 + 1, 1, .int .i64 d1), (w.heap.size + 1 + 1 + 1, 2, .int .i64 d2), (w.heap.size + 1 + 1 + 1 + 1, 0, .int .i64 i1), (w.heap.size + 1 + 1 + 1 + 1, 1, .int .i64 i2), (w.heap.size + 1 + 1 + 1 + 1 + 1, 0, .int .i64 r1), (w.heap.size + 1 + 1 + 1 + 1 + 1, 1, .int .i64 r2)] w')) (by kernel_rfl) (Held.drew hS) (fun hHeld => ?_)
  refine take1 0 116 (.agg #[.bool a0, .int .i64 a1, .int .i64 a2]) rfl rfl (by kernel_rfl) (by kernel_rfl) (by kernel_rfl) (fun _ _ _ h => h) (Or.inl ⟨by kernel_rfl, fun w hSw => by simp only [Held, List.forall_mem_cons, List.not_mem_nil, false_implies, implies_true, and_true] at hSw; go_simp⟩) (by assumption) ?_
  simp only [lA, lB, lC]
  refine take1 2 118 (.agg #[.bool x0, .int .i64 x1, .int .i64 x2]) rfl rfl (by kernel_rfl) (by kernel_rfl) (by kernel_rfl) (fun _ _ _ h => h) (Or.inl ⟨by kernel_rfl, fun w hSw => by simp only [Held, List.forall_mem_cons, List.not_mem_nil, false_implies, implies_true, and_true] at hSw; go_simp⟩) (by assumption) ?_
  simp only [lA, lB, lC]
  refine wpAnyH_ready (rs := [1]) (by kernel_rfl) (by simp) ?_
  refine AllReadyH.cons rfl (fun K hK => ?_) AllReadyH.nil
  refine ready_call 117 ?A ?B (Hpn.out _) ?C ?_
  case A => kernel_rfl
  case C => rfl
  case B => exact run_call rfl Tryd.call31 (by kernel_rfl)
  rintro e w1 ⟨rfl, hb⟩
  refine ⟨_, rfl, hK.out _ _ (Held.keep hb (by assumption)) (fun hHeld => ?_)⟩
  clear hK K hb
  simp only [lA, lB, lC]
  refine wpAnyH_ready (rs := [3]) (by kernel_rfl) (by simp) ?_
  refine AllReadyH.cons rfl (fun K hK => ?_) AllReadyH.nil
  refine ready_call 119 ?A ?B (Hqn.out _) ?C ?_
  case A => kernel_rfl
  case C => rfl
  case B => exact run_call rfl Tryd.call31 (by kernel_rfl)
  rintro e w1 ⟨rfl, hb⟩
  refine ⟨_, rfl, hK.out _ _ (Held.keep hb (by assumption)) (fun hHeld => ?_)⟩
  clear hK K hb
  simp only [lA, lB, lC]
  refine wpAnyH_ready (rs := [4]) (by kernel_rfl) (by simp) ?_
  refine AllReadyH.cons rfl (fun K hK => ?_) AllReadyH.nil
  refine ready_call 120 ?A ?B (HLn.out _) ?C ?_
  case A => kernel_rfl
  case C => rfl
  case B => exact run_call rfl Tryd.call21 (by kernel_rfl)
  rintro e w1 ⟨rfl, hb⟩
  refine ⟨_, rfl, hK.out _ _ (Held.keep hb (by assumption)) (fun hHeld => ?_)⟩
  clear hK K hb
  simp only [lA, lB, lC]
  refine take1 5 121 (.bool false) rfl rfl (by kernel_rfl) (by kernel_rfl) (by kernel_rfl) (fun _ _ _ h => h) (Or.inl ⟨by kernel_rfl, fun w hSw => by (try dsimp only at hSw); go_simp⟩) (by assumption) ?_
  simp only [lA, lB, lC]
  refine take1 6 122 (.bool false) rfl rfl (by kernel_rfl) (by kernel_rfl) (by kernel_rfl) (fun _ _ _ h => h) (Or.inl ⟨by kernel_rfl, fun w hSw => by (try dsimp only at hSw); go_simp⟩) (by assumption) ?_
  simp only [lA, lB, lC]
  refine take1 7 123 (.agg #[.bool a0, .int .i64 a1, .int .i64 a2]) rfl rfl (by kernel_rfl) (by kernel_rfl) (by kernel_rfl) (fun _ _ _ h => h) (Or.inl ⟨by kernel_rfl, fun w hSw => by simp only [Held, List.forall_mem_cons, List.not_mem_nil, false_implies, implies_true, and_true] at hSw; go_simp⟩) (by assumption) ?_
  simp only [lA, lB, lC]
  refine take1 9 125 (.agg #[.bool x0, .int .i64 x1, .int .i64 x2]) rfl rfl (by kernel_rfl) (by kernel_rfl) (by kernel_rfl) (fun _ _ _ h => h) (Or.inl ⟨by kernel_rfl, fun w hSw => by simp only [Held, List.forall_mem_cons, List.not_mem_nil, false_implies, implies_true, and_true] at hSw; go_simp⟩) (by assumption) ?_
  simp only [lA, lB, lC]
  refine wpAnyH_ready (rs := [8]) (by kernel_rfl) (by simp) ?_
  refine AllReadyH.cons rfl (fun K hK => ?_) AllReadyH.nil
  refine ready_call 124 ?A ?B (Hpb.out _) ?C ?_
  case A => kernel_rfl
  case C => rfl
  case B => exact run_call rfl Tryd.call33 (by kernel_rfl)
  rintro e w1 ⟨rfl, hb⟩
  refine ⟨_, rfl, hK.out _ _ (Held.keep hb (by assumption)) (fun hHeld => ?_)⟩
  clear hK K hb
  simp only [lA, lB, lC]
  refine wpAnyH_ready (rs := [10]) (by kernel_rfl) (by simp) ?_
  refine AllReadyH.cons rfl (fun K hK => ?_) AllReadyH.nil
  refine ready_call 126 ?A ?B (Hqb.out _) ?C ?_
  case A => kernel_rfl
  case C => rfl
  case B => exact run_call rfl Tryd.call33 (by kernel_rfl)
  rintro e w1 ⟨rfl, hb⟩
  refine ⟨_, rfl, hK.out _ _ (Held.keep hb (by assumption)) (fun hHeld => ?_)⟩
  clear hK K hb
  simp only [lA, lB, lC]
  refine wpAnyH_ready (rs := [11]) (by kernel_rfl) (by simp) ?_
  refine AllReadyH.cons rfl (fun K hK => ?_) AllReadyH.nil
  refine ready_call 127 ?A ?B (HLb.out _) ?C ?_
  case A => kernel_rfl
  case C => rfl
  case B => exact run_call rfl Tryd.call21 (by kernel_rfl)
  rintro e w1 ⟨rfl, hb⟩
  refine ⟨_, rfl, hK.out _ _ (Held.keep hb (by assumption)) (fun hHeld => ?_)⟩
  clear hK K hb
  simp only [lA, lB, lC]
  refine take1 12 128 (.bool false) rfl rfl (by kernel_rfl) (by kernel_rfl) (by kernel_rfl) (fun _ _ _ h => h) (Or.inl ⟨by kernel_rfl, fun w hSw => by (try dsimp only at hSw); go_simp⟩) (by assumption) ?_
  simp only [lA, lB, lC]
  refine take1 13 129 (.bool false) rfl rfl (by kernel_rfl) (by kernel_rfl) (by kernel_rfl) (fun _ _ _ h => h) (Or.inl ⟨by kernel_rfl, fun w hSw => by (try dsimp only at hSw); go_simp⟩) (by assumption) ?_
  simp only [lA, lB, lC]
  refine take1 14 130 (.bool false) rfl rfl (by kernel_rfl) (by kernel_rfl) (by kernel_rfl) (fun _ _ _ h => h) (Or.inl ⟨by kernel_rfl, fun w hSw => by (try dsimp only at hSw); go_simp⟩) (by assumption) ?_
  simp only [lA, lB, lC]
  refine take1 15 131 (.agg #[.bool a0, .int .i64 a1, .int .i64 a2]) rfl rfl (by kernel_rfl) (by kernel_rfl) (by kernel_rfl) (fun _ _ _ h => h) (Or.inl ⟨by kernel_rfl, fun w hSw => by simp only [Held, List.forall_mem_cons, List.not_mem_nil, false_implies, implies_true, and_true] at hSw; go_simp⟩) (by assumption) ?_
  simp only [lA, lB, lC]
  refine take1 16 132 (.agg #[.bool b0, .int .i64 b1, .int .i64 b2]) rfl rfl (by kernel_rfl) (by kernel_rfl) (by kernel_rfl) (fun _ _ _ h => h) (Or.inl ⟨by kernel_rfl, fun w hSw => by simp only [Held, List.forall_mem_cons, List.not_mem_nil, false_implies, implies_true, and_true] at hSw; go_simp⟩) (by assumption) ?_
  simp only [lA, lB, lC]
  refine take1 18 134 (.agg #[.bool x0, .int .i64 x1, .int .i64 x2]) rfl rfl (by kernel_rfl) (by kernel_rfl) (by kernel_rfl) (fun _ _ _ h => h) (Or.inl ⟨by kernel_rfl, fun w hSw => by simp only [Held, List.forall_mem_cons, List.not_mem_nil, false_implies, implies_true, and_true] at hSw; go_simp⟩) (by assumption) ?_
  simp only [lA, lB, lC]
  refine take1 19 135 (.agg #[.bool y0, .int .i64 y1, .int .i64 y2]) rfl rfl (by kernel_rfl) (by kernel_rfl) (by kernel_rfl) (fun _ _ _ h => h) (Or.inl ⟨by kernel_rfl, fun w hSw => by simp only [Held, List.forall_mem_cons, List.not_mem_nil, false_implies, implies_true, and_true] at hSw; go_simp⟩) (by assumption) ?_
  simp only [lA, lB, lC]
  refine wpAnyH_ready (rs := [17]) (by kernel_rfl) (by simp) ?_
  refine AllReadyH.cons rfl (fun K hK => ?_) AllReadyH.nil
  refine ready_call 133 ?A ?B (Hpj.out _) ?C ?_
  case A => kernel_rfl
  case C => rfl
  case B => exact run_call rfl Tryd.call19 (by kernel_rfl)
  rintro e w1 ⟨rfl, hb⟩
  refine ⟨_, rfl, hK.out _ _ (Held.keep hb (by assumption)) (fun hHeld => ?_)⟩
  clear hK K hb
  simp only [lA, lB, lC]
  refine wpAnyH_ready (rs := [20]) (by kernel_rfl) (by simp) ?_
  refine AllReadyH.cons rfl (fun K hK => ?_) AllReadyH.nil
  refine ready_call 136 ?A ?B (Hqj.out _) ?C ?_
  case A => kernel_rfl
  case C => rfl
  case B => exact run_call rfl Tryd.call19 (by kernel_rfl)
  rintro e w1 ⟨rfl, hb⟩
  refine ⟨_, rfl, hK.out _ _ (Held.keep hb (by assumption)) (fun hHeld => ?_)⟩
  clear hK K hb
  simp only [lA, lB, lC]
  refine wpAnyH_ready (rs := [21]) (by kernel_rfl) (by simp) ?_
  refine AllReadyH.cons rfl (fun K hK => ?_) AllReadyH.nil
  refine ready_call 137 ?A ?B (HLj.out _) ?C ?_
  case A => kernel_rfl
  case C => rfl
  case B => exact run_call rfl Tryd.call21 (by kernel_rfl)
  rintro e w1 ⟨rfl, hb⟩
  refine ⟨_, rfl, hK.out _ _ (Held.keep hb (by assumption)) (fun hHeld => ?_)⟩
  clear hK K hb
  simp only [lA, lB, lC]
  refine take1 22 138 (.bool false) rfl rfl (by kernel_rfl) (by kernel_rfl) (by kernel_rfl) (fun _ _ _ h => h) (Or.inl ⟨by kernel_rfl, fun w hSw => by (try dsimp only at hSw); go_simp⟩) (by assumption) ?_
  simp only [lA, lB, lC]
  refine take1 23 139 (.bool false) rfl rfl (by kernel_rfl) (by kernel_rfl) (by kernel_rfl) (fun _ _ _ h => h) (Or.inl ⟨by kernel_rfl, fun w hSw => by (try dsimp only at hSw); go_simp⟩) (by assumption) ?_
  simp only [lA, lB, lC]
  refine take1 24 140 (.bool false) rfl rfl (by kernel_rfl) (by kernel_rfl) (by kernel_rfl) (fun _ _ _ h => h) (Or.inl ⟨by kernel_rfl, fun w hSw => by (try dsimp only at hSw); go_simp⟩) (by assumption) ?_
  simp only [lA, lB, lC]
  refine take1 25 141 (.agg #[.bool a0, .int .i64 a1, .int .i64 a2]) rfl rfl (by kernel_rfl) (by kernel_rfl) (by kernel_rfl) (fun _ _ _ h => h) (Or.inl ⟨by kernel_rfl, fun w hSw => by simp only [Held, List.forall_mem_cons, List.not_mem_nil, false_implies, implies_true, and_true] at hSw; go_simp⟩) (by assumption) ?_
  simp only [lA, lB, lC]
  refine take1 26 142 (.agg #[.bool b0, .int .i64 b1, .int .i64 b2]) rfl rfl (by kernel_rfl) (by kernel_rfl) (by kernel_rfl) (fun _ _ _ h => h) (Or.inl ⟨by kernel_rfl, fun w hSw => by simp only [Held, List.forall_mem_cons, List.not_mem_nil, false_implies, implies_true, and_true] at hSw; go_simp⟩) (by assumption) ?_
  simp only [lA, lB, lC]
  refine take1 28 144 (.agg #[.bool x0, .int .i64 x1, .int .i64 x2]) rfl rfl (by kernel_rfl) (by kernel_rfl) (by kernel_rfl) (fun _ _ _ h => h) (Or.inl ⟨by kernel_rfl, fun w hSw => by simp only [Held, List.forall_mem_cons, List.not_mem_nil, false_implies, implies_true, and_true] at hSw; go_simp⟩) (by assumption) ?_
  simp only [lA, lB, lC]
  refine take1 29 145 (.agg #[.bool y0, .int .i64 y1, .int .i64 y2]) rfl rfl (by kernel_rfl) (by kernel_rfl) (by kernel_rfl) (fun _ _ _ h => h) (Or.inl ⟨by kernel_rfl, fun w hSw => by simp only [Held, List.forall_mem_cons, List.not_mem_nil, false_implies, implies_true, and_true] at hSw; go_simp⟩) (by assumption) ?_
  simp only [lA, lB, lC]
  refine wpAnyH_ready (rs := [27]) (by kernel_rfl) (by simp) ?_
  refine AllReadyH.cons rfl (fun K hK => ?_) AllReadyH.nil
  refine ready_call 143 ?A ?B (Hpe.out _) ?C ?_
  case A => kernel_rfl
  case C => rfl
  case B => exact run_call rfl Tryd.call20 (by kernel_rfl)
  rintro e w1 ⟨rfl, hb⟩
  refine ⟨_, rfl, hK.out _ _ (Held.keep hb (by assumption)) (fun hHeld => ?_)⟩
  clear hK K hb
  simp only [lA, lB, lC]
  refine wpAnyH_ready (rs := [30]) (by kernel_rfl) (by simp) ?_
  refine AllReadyH.cons rfl (fun K hK => ?_) AllReadyH.nil
  refine ready_call 146 ?A ?B (Hqe.out _) ?C ?_
  case A => kernel_rfl
  case C => rfl
  case B => exact run_call rfl Tryd.call20 (by kernel_rfl)
  rintro e w1 ⟨rfl, hb⟩
  refine ⟨_, rfl, hK.out _ _ (Held.keep hb (by assumption)) (fun hHeld => ?_)⟩
  clear hK K hb
  simp only [lA, lB, lC]
  refine wpAnyH_ready (rs := [31]) (by kernel_rfl) (by simp) ?_
  refine AllReadyH.cons rfl (fun K hK => ?_) AllReadyH.nil
  refine ready_call 147 ?A ?B (HLe.out _) ?C ?_
  case A => kernel_rfl
  case C => rfl
  case B => exact run_call rfl Tryd.call21 (by kernel_rfl)
  rintro e w1 ⟨rfl, hb⟩
  refine ⟨_, rfl, hK.out _ _ (Held.keep hb (by assumption)) (fun hHeld => ?_)⟩
  clear hK K hb
  simp only [lA, lB, lC]
  refine take1 32 148 (.bool false) rfl rfl (by kernel_rfl) (by kernel_rfl) (by kernel_rfl) (fun _ _ _ h => h) (Or.inl ⟨by kernel_rfl, fun w hSw => by (try dsimp only at hSw); go_simp⟩) (by assumption) ?_
  simp only [lA, lB, lC]
  refine take1 33 149 (.bool false) rfl rfl (by kernel_rfl) (by kernel_rfl) (by kernel_rfl) (fun _ _ _ h => h) (Or.inl ⟨by kernel_rfl, fun w hSw => by (try dsimp only at hSw); go_simp⟩) (by assumption) ?_
  simp only [lA, lB, lC]
  refine wpAnyH_done (by kernel_rfl) ?_ _
  try simp only [Act.put, List.getElem_toArray, List.getElem_cons_succ, List.getElem_cons_zero, lA, lB, lC]
  replace hS := hHeld
  clear hHeld
  clear Hpa Hqa HLa Hps Hqs HLs Hpm Hqm HLm Hpd Hqd HLd Hpo Hqo HLo Hpj Hqj HLj Hpe Hqe HLe Hpn Hqn HLn Hpb Hqb HLb HFa HFb HFc HFd HOi HOr HX HY
  go_upto_region 8 with fail
  go_cut [17, 18] from 150 to 156 (fun s17 s18 wc => ∃ n17 n18 : Nat, s17 = .pointer (some ⟨n17, 0, none⟩) ∧ s18 = .pointer (some ⟨n18, 0, none⟩) ∧ Held w [(n17, 0, .bool tu0), (n17, 1, .int .i64 tu1), (n17, 2, .int .i64 tu2), (n18, 0, .bool tv0), (n18, 1, .int .i64 tv1), (n18, 2, .int .i64 tv2), (n16, 0, .bool y0), (n16, 1, .int .i64 y1), (n16, 2, .int .i64 y2), (n15, 0, .bool x0), (n15, 1, .int .i64 x1), (n15, 2, .int .i64 x2), (w.heap.size, 0, .bool a0), (w.heap.size, 1, .int .i64 a1), (w.heap.size, 2, .int .i64 a2), (w.heap.size + 1, 0, .bool b0), (w.heap.size + 1, 1, .int .i64 b1), (w.heap.size + 1, 2, .int .i64 b2), (w.heap.size + 1 + 1, 0, .bool c0), (w.heap.size + 1 + 1, 1, .int .i64 c1), (w.heap.size + 1 + 1, 2, .int .i64 c2), (w.heap.size + 1 + 1 + 1, 0, .bool d0), (w.heap.size + 1 + 1 + 1, 1, .int .i64 d1), (w.heap.size + 1 + 1 + 1, 2, .int .i64 d2), (w.heap.size + 1 + 1 + 1 + 1, 0, .int .i64 i1), (w.heap.size + 1 + 1 + 1 + 1, 1, .int .i64 i2), (w.heap.size + 1 + 1 + 1 + 1 + 1, 0, .int .i64 r1), (w.heap.size + 1 + 1 + 1 + 1 + 1, 1, .int .i64 r2)] wc)
  case first =>
   obtain ⟨kB, kk⟩ := Held.open hS; simp only [List.forall_mem_cons, List.not_mem_nil, false_implies, implies_true, and_true] at kk; obtain ⟨⟨l0, k0⟩, ⟨l1, k1⟩, ⟨l2, k2⟩, ⟨l3, k3⟩, ⟨l4, k4⟩, ⟨l5, k5⟩, ⟨l6, k6⟩, ⟨l7, k7⟩, ⟨l8, k8⟩, ⟨l9, k9⟩, ⟨l10, k10⟩, ⟨l11, k11⟩, ⟨l12, k12⟩, ⟨l13, k13⟩, ⟨l14, k14⟩, ⟨l15, k15⟩, ⟨l16, k16⟩, ⟨l17, k17⟩, ⟨l18, k18⟩, ⟨l19, k19⟩, ⟨l20, k20⟩, ⟨l21, k21⟩⟩ := kk
   go_wp2_with (go_at_call 24; with_reducible refine (HT1.out _).mono ?_; rintro e w1 ⟨rfl, hb⟩; replace hS := Held.keep hb hS; clear hb kB k0 l0 k1 l1 k2 l2 k3 l3 k4 l4 k5 l5 k6 l6 k7 l7 k8 l8 k9 l9 k10 l10 k11 l11 k12 l12 k13 l13 k14 l14 k15 l15 k16 l16 k17 l17 k18 l18 k19 l19 k20 l20 k21 l21; obtain ⟨kB, kk⟩ := Held.open hS; simp only [List.forall_mem_cons, List.not_mem_nil, false_implies, implies_true, and_true] at kk; obtain ⟨⟨l0, k0⟩, ⟨l1, k1⟩, ⟨l2, k2⟩, ⟨l3, k3⟩, ⟨l4, k4⟩, ⟨l5, k5⟩, ⟨l6, k6⟩, ⟨l7, k7⟩, ⟨l8, k8⟩, ⟨l9, k9⟩, ⟨l10, k10⟩, ⟨l11, k11⟩, ⟨l12, k12⟩, ⟨l13, k13⟩, ⟨l14, k14⟩, ⟨l15, k15⟩, ⟨l16, k16⟩, ⟨l17, k17⟩, ⟨l18, k18⟩, ⟨l19, k19⟩, ⟨l20, k20⟩, ⟨l21, k21⟩⟩ := kk)
   go_meet
   refine ⟨_, _, rfl, rfl, ?_⟩
   refine Held.cons ?_ ?_ (Held.cons ?_ ?_ (Held.cons ?_ ?_ (Held.cons ?_ ?_ (Held.cons ?_ ?_ (Held.cons ?_ ?_ (Held.alloc _ (Held.alloc _ hS)))))))
   all_goals go_simp
  case rest =>
   obtain ⟨n17, n18, rfl, rfl, hS⟩ := hcut
   go_upto_region 9 with fail
   go_cut [19, 20] from 157 to 163 (fun s19 s20 wc => ∃ n19 n20 : Nat, s19 = .pointer (some ⟨n19, 0, none⟩) ∧ s20 = .pointer (some ⟨n20, 0, none⟩) ∧ Held w [(n19, 0, .bool ts0), (n19, 1, .int .i64 ts1), (n19, 2, .int .i64 ts2), (n20, 0, .bool tt0), (n20, 1, .int .i64 tt1), (n20, 2, .int .i64 tt2), (n17, 0, .bool tu0), (n17, 1, .int .i64 tu1), (n17, 2, .int .i64 tu2), (n18, 0, .bool tv0), (n18, 1, .int .i64 tv1), (n18, 2, .int .i64 tv2), (n16, 0, .bool y0), (n16, 1, .int .i64 y1), (n16, 2, .int .i64 y2), (n15, 0, .bool x0), (n15, 1, .int .i64 x1), (n15, 2, .int .i64 x2), (w.heap.size, 0, .bool a0), (w.heap.size, 1, .int .i64 a1), (w.heap.size, 2, .int .i64 a2), (w.heap.size + 1, 0, .bool b0), (w.heap.size + 1, 1, .int .i64 b1), (w.heap.size + 1, 2, .int .i64 b2), (w.heap.size + 1 + 1, 0, .bool c0), (w.heap.size + 1 + 1, 1, .int .i64 c1), (w.heap.size + 1 + 1, 2, .int .i64 c2), (w.heap.size + 1 + 1 + 1, 0, .bool d0), (w.heap.size + 1 + 1 + 1, 1, .int .i64 d1), (w.heap.size + 1 + 1 + 1, 2, .int .i64 d2), (w.heap.size + 1 + 1 + 1 + 1, 0, .int .i64 i1), (w.heap.size + 1 + 1 + 1 + 1, 1, .int .i64 i2), (w.heap.size + 1 + 1 + 1 + 1 + 1, 0, .int .i64 r1), (w.heap.size + 1 + 1 + 1 + 1 + 1, 1, .int .i64 r2)] wc)
   case first =>
    obtain ⟨kB, kk⟩ := Held.open hS; simp only [List.forall_mem_cons, List.not_mem_nil, false_implies, implies_true, and_true] at kk; obtain ⟨⟨l0, k0⟩, ⟨l1, k1⟩, ⟨l2, k2⟩, ⟨l3, k3⟩, ⟨l4, k4⟩, ⟨l5, k5⟩, ⟨l6, k6⟩, ⟨l7, k7⟩, ⟨l8, k8⟩, ⟨l9, k9⟩, ⟨l10, k10⟩, ⟨l11, k11⟩, ⟨l12, k12⟩, ⟨l13, k13⟩, ⟨l14, k14⟩, ⟨l15, k15⟩, ⟨l16, k16⟩, ⟨l17, k17⟩, ⟨l18, k18⟩, ⟨l19, k19⟩, ⟨l20, k20⟩, ⟨l21, k21⟩, ⟨l22, k22⟩, ⟨l23, k23⟩, ⟨l24, k24⟩, ⟨l25, k25⟩, ⟨l26, k26⟩, ⟨l27, k27⟩⟩ := kk
    go_wp2_with (go_at_call 24; with_reducible refine (HT2.out _).mono ?_; rintro e w1 ⟨rfl, hb⟩; replace hS := Held.keep hb hS; clear hb kB k0 l0 k1 l1 k2 l2 k3 l3 k4 l4 k5 l5 k6 l6 k7 l7 k8 l8 k9 l9 k10 l10 k11 l11 k12 l12 k13 l13 k14 l14 k15 l15 k16 l16 k17 l17 k18 l18 k19 l19 k20 l20 k21 l21 k22 l22 k23 l23 k24 l24 k25 l25 k26 l26 k27 l27; obtain ⟨kB, kk⟩ := Held.open hS; simp only [List.forall_mem_cons, List.not_mem_nil, false_implies, implies_true, and_true] at kk; obtain ⟨⟨l0, k0⟩, ⟨l1, k1⟩, ⟨l2, k2⟩, ⟨l3, k3⟩, ⟨l4, k4⟩, ⟨l5, k5⟩, ⟨l6, k6⟩, ⟨l7, k7⟩, ⟨l8, k8⟩, ⟨l9, k9⟩, ⟨l10, k10⟩, ⟨l11, k11⟩, ⟨l12, k12⟩, ⟨l13, k13⟩, ⟨l14, k14⟩, ⟨l15, k15⟩, ⟨l16, k16⟩, ⟨l17, k17⟩, ⟨l18, k18⟩, ⟨l19, k19⟩, ⟨l20, k20⟩, ⟨l21, k21⟩, ⟨l22, k22⟩, ⟨l23, k23⟩, ⟨l24, k24⟩, ⟨l25, k25⟩, ⟨l26, k26⟩, ⟨l27, k27⟩⟩ := kk)
    go_meet
    refine ⟨_, _, rfl, rfl, ?_⟩
    refine Held.cons ?_ ?_ (Held.cons ?_ ?_ (Held.cons ?_ ?_ (Held.cons ?_ ?_ (Held.cons ?_ ?_ (Held.cons ?_ ?_ (Held.alloc _ (Held.alloc _ hS)))))))
    all_goals go_simp
   case rest =>
    obtain ⟨n19, n20, rfl, rfl, hS⟩ := hcut
    go_upto_region 10 with fail
    go_cut [21, 22] from 164 to 169 (fun s21 s22 wc => ∃ n21 n22 : Nat, s21 = .pointer (some ⟨n21, 0, none⟩) ∧ s22 = .pointer (some ⟨n22, 0, none⟩) ∧ Held w [(n21, 0, .bool tf0), (n21, 1, .int .i64 tf1), (n21, 2, .int .i64 tf2), (n22, 0, .int .i64 tj1), (n22, 1, .int .i64 tj2), (n19, 0, .bool ts0), (n19, 1, .int .i64 ts1), (n19, 2, .int .i64 ts2), (n20, 0, .bool tt0), (n20, 1, .int .i64 tt1), (n20, 2, .int .i64 tt2), (n17, 0, .bool tu0), (n17, 1, .int .i64 tu1), (n17, 2, .int .i64 tu2), (n18, 0, .bool tv0), (n18, 1, .int .i64 tv1), (n18, 2, .int .i64 tv2), (n16, 0, .bool y0), (n16, 1, .int .i64 y1), (n16, 2, .int .i64 y2), (n15, 0, .bool x0), (n15, 1, .int .i64 x1), (n15, 2, .int .i64 x2), (w.heap.size, 0, .bool a0), (w.heap.size, 1, .int .i64 a1), (w.heap.size, 2, .int .i64 a2), (w.heap.size + 1, 0, .bool b0), (w.heap.size + 1, 1, .int .i64 b1), (w.heap.size + 1, 2, .int .i64 b2), (w.heap.size + 1 + 1, 0, .bool c0), (w.heap.size + 1 + 1, 1, .int .i64 c1), (w.heap.size + 1 + 1, 2, .int .i64 c2), (w.heap.size + 1 + 1 + 1, 0, .bool d0), (w.heap.size + 1 + 1 + 1, 1, .int .i64 d1), (w.heap.size + 1 + 1 + 1, 2, .int .i64 d2), (w.heap.size + 1 + 1 + 1 + 1, 0, .int .i64 i1), (w.heap.size + 1 + 1 + 1 + 1, 1, .int .i64 i2), (w.heap.size + 1 + 1 + 1 + 1 + 1, 0, .int .i64 r1), (w.heap.size + 1 + 1 + 1 + 1 + 1, 1, .int .i64 r2)] wc)
    case first =>
     obtain ⟨kB, kk⟩ := Held.open hS; simp only [List.forall_mem_cons, List.not_mem_nil, false_implies, implies_true, and_true] at kk; obtain ⟨⟨l0, k0⟩, ⟨l1, k1⟩, ⟨l2, k2⟩, ⟨l3, k3⟩, ⟨l4, k4⟩, ⟨l5, k5⟩, ⟨l6, k6⟩, ⟨l7, k7⟩, ⟨l8, k8⟩, ⟨l9, k9⟩, ⟨l10, k10⟩, ⟨l11, k11⟩, ⟨l12, k12⟩, ⟨l13, k13⟩, ⟨l14, k14⟩, ⟨l15, k15⟩, ⟨l16, k16⟩, ⟨l17, k17⟩, ⟨l18, k18⟩, ⟨l19, k19⟩, ⟨l20, k20⟩, ⟨l21, k21⟩, ⟨l22, k22⟩, ⟨l23, k23⟩, ⟨l24, k24⟩, ⟨l25, k25⟩, ⟨l26, k26⟩, ⟨l27, k27⟩, ⟨l28, k28⟩, ⟨l29, k29⟩, ⟨l30, k30⟩, ⟨l31, k31⟩, ⟨l32, k32⟩, ⟨l33, k33⟩⟩ := kk
     go_wp2_with (go_at_call 26; with_reducible refine (HG1.out _).mono ?_; rintro e w1 ⟨rfl, hb⟩; replace hS := Held.keep hb hS; clear hb kB k0 l0 k1 l1 k2 l2 k3 l3 k4 l4 k5 l5 k6 l6 k7 l7 k8 l8 k9 l9 k10 l10 k11 l11 k12 l12 k13 l13 k14 l14 k15 l15 k16 l16 k17 l17 k18 l18 k19 l19 k20 l20 k21 l21 k22 l22 k23 l23 k24 l24 k25 l25 k26 l26 k27 l27 k28 l28 k29 l29 k30 l30 k31 l31 k32 l32 k33 l33; obtain ⟨kB, kk⟩ := Held.open hS; simp only [List.forall_mem_cons, List.not_mem_nil, false_implies, implies_true, and_true] at kk; obtain ⟨⟨l0, k0⟩, ⟨l1, k1⟩, ⟨l2, k2⟩, ⟨l3, k3⟩, ⟨l4, k4⟩, ⟨l5, k5⟩, ⟨l6, k6⟩, ⟨l7, k7⟩, ⟨l8, k8⟩, ⟨l9, k9⟩, ⟨l10, k10⟩, ⟨l11, k11⟩, ⟨l12, k12⟩, ⟨l13, k13⟩, ⟨l14, k14⟩, ⟨l15, k15⟩, ⟨l16, k16⟩, ⟨l17, k17⟩, ⟨l18, k18⟩, ⟨l19, k19⟩, ⟨l20, k20⟩, ⟨l21, k21⟩, ⟨l22, k22⟩, ⟨l23, k23⟩, ⟨l24, k24⟩, ⟨l25, k25⟩, ⟨l26, k26⟩, ⟨l27, k27⟩, ⟨l28, k28⟩, ⟨l29, k29⟩, ⟨l30, k30⟩, ⟨l31, k31⟩, ⟨l32, k32⟩, ⟨l33, k33⟩⟩ := kk)
     go_meet
     refine ⟨_, _, rfl, rfl, ?_⟩
     refine Held.cons ?_ ?_ (Held.cons ?_ ?_ (Held.cons ?_ ?_ (Held.cons ?_ ?_ (Held.cons ?_ ?_ (Held.alloc _ (Held.alloc _ hS))))))
     all_goals go_simp
    case rest =>
     obtain ⟨n21, n22, rfl, rfl, hS⟩ := hcut
     go_upto_region 11 with fail
     have hN : (w.heap.size + 6 ≤ wc.heap.size ∧ n15 < wc.heap.size ∧ n16 < wc.heap.size ∧ n17 < wc.heap.size ∧ n18 < wc.heap.size ∧ n19 < wc.heap.size ∧ n20 < wc.heap.size ∧ n21 < wc.heap.size ∧ n22 < wc.heap.size) := by
      have hq := (Held.open hS).2
      simp only [List.forall_mem_cons, List.not_mem_nil, false_implies, implies_true, and_true] at hq
      omega
     obtain ⟨N, hN, hNs⟩ : ∃ N, N ≤ wc.heap.size ∧ (w.heap.size + 6 ≤ N ∧ n15 < N ∧ n16 < N ∧ n17 < N ∧ n18 < N ∧ n19 < N ∧ n20 < N ∧ n21 < N ∧ n22 < N) := ⟨wc.heap.size, Nat.le_refl _, hN⟩
     go_cut [23, 24] from 170 to 177 (fun s23 s24 wc => ∃ n23 n24 : Nat, s23 = .pointer (some ⟨n23, 0, none⟩) ∧ s24 = .pointer (some ⟨n24, 0, none⟩) ∧ Held w [(n24, 0, .int .i64 tk1), (n24, 1, .int .i64 tk2), (n23, 0, .bool tg0), (n23, 1, .int .i64 tg1), (n23, 2, .int .i64 tg2), (n21, 0, .bool tf0), (n21, 1, .int .i64 tf1), (n21, 2, .int .i64 tf2), (n22, 0, .int .i64 tj1), (n22, 1, .int .i64 tj2), (n19, 0, .bool ts0), (n19, 1, .int .i64 ts1), (n19, 2, .int .i64 ts2), (n20, 0, .bool tt0), (n20, 1, .int .i64 tt1), (n20, 2, .int .i64 tt2), (n17, 0, .bool tu0), (n17, 1, .int .i64 tu1), (n17, 2, .int .i64 tu2), (n18, 0, .bool tv0), (n18, 1, .int .i64 tv1), (n18, 2, .int .i64 tv2), (n16, 0, .bool y0), (n16, 1, .int .i64 y1), (n16, 2, .int .i64 y2), (n15, 0, .bool x0), (n15, 1, .int .i64 x1), (n15, 2, .int .i64 x2), (w.heap.size, 0, .bool a0), (w.heap.size, 1, .int .i64 a1), (w.heap.size, 2, .int .i64 a2), (w.heap.size + 1, 0, .bool b0), (w.heap.size + 1, 1, .int .i64 b1), (w.heap.size + 1, 2, .int .i64 b2), (w.heap.size + 1 + 1, 0, .bool c0), (w.heap.size + 1 + 1, 1, .int .i64 c1), (w.heap.size + 1 + 1, 2, .int .i64 c2), (w.heap.size + 1 + 1 + 1, 0, .bool d0), (w.heap.size + 1 + 1 + 1, 1, .int .i64 d1), (w.heap.size + 1 + 1 + 1, 2, .int .i64 d2), (w.heap.size + 1 + 1 + 1 + 1, 0, .int .i64 i1), (w.heap.size + 1 + 1 + 1 + 1, 1, .int .i64 i2), (w.heap.size + 1 + 1 + 1 + 1 + 1, 0, .int .i64 r1), (w.heap.size + 1 + 1 + 1 + 1 + 1, 1, .int .i64 r2)] wc)
     case first =>
      refine wp_region_held_drew (S := (fun w' => Held w [(n21, 0, .bool tf0), (n21, 1, .int .i64 tf1), (n21, 2, .int .i64 tf2), (n22, 0, .int .i64 tj1), (n22, 1, .int .i64 tj2), (n19, 0, .bool ts0), (n19, 1, .int .i64 ts1), (n19, 2, .int .i64 ts2), (n20, 0, .bool tt0), (n20, 1, .int .i64 tt1), (n20, 2, .int .i64 tt2), (n17, 0, .bool tu0), (n17, 1, .int .i64 tu1), (n17, 2, .int .i64 tu2), (n18, 0, .bool tv0), (n18, 1, .int .i64 tv1), (n18, 2, .int .i64 tv2), (n16, 0, .bool y0), (n16, 1, .int .i64 y1), (n16, 2, .int .i64 y2), (n15, 0, .bool x0), (n15, 1, .int .i64 x1), (n15, 2, .int .i64 x2), (w.heap.size, 0, .bool a0), (w.heap.size, 1, .int .i64 a1), (w.heap.size, 2, .int .i64 a2), (w.heap.size + 1, 0, .bool b0), (w.heap.size + 1, 1, .int .i64 b1), (w.heap.size + 1, 2, .int .i64 b2), (w.heap.size + 1 + 1, 0, .bool c0), (w.heap.size + 1 + 1, 1, .int .i64 c1), (w.heap.size + 1 + 1, 2, .int .i64 c2), (w.heap.size + 1 + 1 + 1, 0, .bool d0), (w.heap.size + 1 + 1 + 1, 1, .int .i64 d1), (w.heap.size + 1 + 1 + 1, 2, .int .i64 d2), (w.heap.size + 1 + 1 + 1 + 1, 0, .int .i64 i1), (w.heap.size + 1 + 1 + 1 + 1, 1, .int .i64 i2), (w.heap.size + 1 + 1 + 1 + 1 + 1, 0, .int .i64 r1), (w.heap.size + 1 + 1 + 1 + 1 + 1, 1, .int .i64 r2)] w')) (by kernel_rfl) (Held.drew hS) (fun hH255 => ?_)
      have hN256 : N ≤ wc.drew.heap.size := hN
      generalize wc.drew = X254 at hH255 hN256 ⊢
      refine take1 0 171 (.agg #[.bool x0, .int .i64 x1, .int .i64 x2]) rfl rfl (by kernel_rfl) (by kernel_rfl) (by kernel_rfl) (fun _ _ _ h => h) (Or.inl ⟨by kernel_rfl, fun w hSw => by simp only [Held, List.forall_mem_cons, List.not_mem_nil, false_implies, implies_true, and_true] at hSw; go_simp⟩) (by assumption) ?_
      simp only [lA, lB, lC]
      refine take1 1 172 (.agg #[.int .i64 i1, .int .i64 i2]) rfl rfl (by kernel_rfl) (by kernel_rfl) (by kernel_rfl) (fun _ _ _ h => h) (Or.inl ⟨by kernel_rfl, fun w hSw => by simp only [Held, List.forall_mem_cons, List.not_mem_nil, false_implies, implies_true, and_true] at hSw; go_simp⟩) (by assumption) ?_
      simp only [lA, lB, lC]
      refine take1 2 173 (.agg #[.int .i64 r1, .int .i64 r2]) rfl rfl (by kernel_rfl) (by kernel_rfl) (by kernel_rfl) (fun _ _ _ h => h) (Or.inl ⟨by kernel_rfl, fun w hSw => by simp only [Held, List.forall_mem_cons, List.not_mem_nil, false_implies, implies_true, and_true] at hSw; go_simp⟩) (by assumption) ?_
      simp only [lA, lB, lC]
      refine wpAnyH_ready (rs := [3, 8, 9]) (by kernel_rfl) (by simp) ?_
      refine AllReadyH.cons rfl (fun K hK => ?_) (AllReadyH.cons rfl (fun K hK => ?_) (AllReadyH.cons rfl (fun K hK => ?_) AllReadyH.nil))
      ·
       refine ready_call 174 ?A ?B (HJ.out _) ?C ?_
       case A => kernel_rfl
       case C => rfl
       case B => exact run_call rfl Tryd.call48 (by kernel_rfl)
       rintro e X257 ⟨rfl, hb⟩
       refine ⟨_, rfl, hK.out _ _ (Held.keep hb hH255) (fun hH258 => ?_)⟩
       clear hK K
       simp only [lA, lB, lC]
       have hN259 := Nat.le_trans hN256 hb.size
       clear hb
       refine wpAnyH_ready (rs := [4, 8, 9]) (by kernel_rfl) (by simp) ?_
       refine AllReadyH.cons rfl (fun K hK => ?_) (AllReadyH.cons rfl (fun K hK => ?_) (AllReadyH.cons rfl (fun K hK => ?_) AllReadyH.nil))
       ·
        refine ready_call 175 ?A ?B (HG2.out _) ?C ?_
        case A => kernel_rfl
        case C => rfl
        case B => exact run_call rfl Tryd.call26 (by kernel_rfl)
        rintro e X260 ⟨rfl, hb⟩
        refine ⟨_, rfl, hK.out _ _ (Held.keep hb hH258) (fun hH261 => ?_)⟩
        clear hK K
        simp only [lA, lB, lC]
        have hN262 := Nat.le_trans hN259 hb.size
        clear hb
        refine take1 5 170 (.tuple #[.agg #[.bool tg0, .int .i64 tg1, .int .i64 tg2], .agg #[.int .i64 tk1, .int .i64 tk2]]) rfl rfl (by kernel_rfl) (by kernel_rfl) (by kernel_rfl) (fun _ _ _ h => h) (Or.inl ⟨by kernel_rfl, fun w hSw => by (try dsimp only at hSw); go_simp⟩) (by assumption) ?_
        simp only [lA, lB, lC]
        refine take1 6 176 (.agg #[.bool tg0, .int .i64 tg1, .int .i64 tg2]) rfl rfl (by kernel_rfl) (by kernel_rfl) (by kernel_rfl) (fun _ _ _ h => h) (Or.inl ⟨by kernel_rfl, fun w hSw => by (try dsimp only at hSw); go_simp⟩) (by assumption) ?_
        simp only [lA, lB, lC]
        refine take1 7 177 (.agg #[.int .i64 tk1, .int .i64 tk2]) rfl rfl (by kernel_rfl) (by kernel_rfl) (by kernel_rfl) (fun _ _ _ h => h) (Or.inl ⟨by kernel_rfl, fun w hSw => by (try dsimp only at hSw); go_simp⟩) (by assumption) ?_
        simp only [lA, lB, lC]
        refine wpAnyH_ready (rs := [8, 9]) (by kernel_rfl) (by simp) ?_
        refine AllReadyH.cons rfl (fun K hK => ?_) (AllReadyH.cons rfl (fun K hK => ?_) AllReadyH.nil)
        ·
         refine ready_value 23 (v := .pointer (some ⟨X260.heap.size, 0, none⟩)) (w' := X260.alloc (.cells #[.bool false, .int .i64 0, .int .i64 0] 23)) ?A ?B ?C ?_
         case A => kernel_rfl
         case C => rfl
         case B => exact run_alloc rfl (by go_simp)
         refine hK.out _ _ (Held.alloc _ hH261) (fun hH264 => ?_)
         clear hK K
         simp only [lA, lB, lC]
         have hN265 := size_alloc (.cells #[.bool false, .int .i64 0, .int .i64 0] 23) hN262
         have g266 := G.new X260 hN262
         generalize X260.alloc (.cells #[.bool false, .int .i64 0, .int .i64 0] 23) = X263 at hH264 hN265 g266 ⊢
         refine wpAnyH_ready (rs := [9]) (by kernel_rfl) (by simp) ?_
         refine AllReadyH.cons rfl (fun K hK => ?_) AllReadyH.nil
         refine ready_value 24 (v := .pointer (some ⟨X263.heap.size, 0, none⟩)) (w' := X263.alloc (.cells #[.int .i64 0, .int .i64 0] 38)) ?A ?B ?C ?_
         case A => kernel_rfl
         case C => rfl
         case B => exact run_alloc rfl (by go_simp)
         refine hK.out _ _ (Held.alloc _ hH264) (fun hH268 => ?_)
         clear hK K
         simp only [lA, lB, lC]
         have hN269 := size_alloc (.cells #[.int .i64 0, .int .i64 0] 38) hN265
         have g270 := G2.new X263 hN265
         have lt271 := g266.2.1
         have g272 := g266.alloc (.cells #[.int .i64 0, .int .i64 0] 38)
         generalize X263.alloc (.cells #[.int .i64 0, .int .i64 0] 38) = X267 at hH268 hN269 g270 g272 ⊢
         refine wpAnyH_ready (rs := [10]) (by kernel_rfl) (by simp) ?_
         refine AllReadyH.cons rfl (fun K hK => ?_) AllReadyH.nil
         have sz23 := g272.2.1
         have md23 := g272.2.2
         have sz24 := g270.2.1
         have md24 := g270.2.2
         have nq1 : X260.heap.size ≠ X263.heap.size := by omega
         have nq2 : X263.heap.size ≠ X260.heap.size := by omega
         have hF273 := fill3 tg0 tg1 tg2 g272 (by omega) (by simp only [List.forall_mem_cons, List.not_mem_nil, false_implies, implies_true, and_true]; omega) hH268
         have g275 := g270.store3 tg0 tg1 tg2 g272 (by omega) (by omega)
         obtain ⟨⟨g272_0, g272_1, g272_2, g272_3, g272_4, g272_5⟩, _, _⟩ := g272
         go_simp
         refine hK.out _ _ hF273.rest.rest.rest (fun hH274 => ?_)
         clear hK K g272_0 g272_1 g272_2 g272_3 g272_4 g272_5
         try simp only [lA, lB, lC]
         refine wpAnyH_ready (rs := [11]) (by kernel_rfl) (by simp) ?_
         refine AllReadyH.cons rfl (fun K hK => ?_) AllReadyH.nil
         have hF277 := fill2 tk1 tk2 g275 (by omega) (by simp only [List.forall_mem_cons, List.not_mem_nil, false_implies, implies_true, and_true]; omega) hF273
         obtain ⟨⟨g275_0, g275_1, g275_2, g275_3⟩, _, _⟩ := g275
         go_simp
         refine hK.out _ _ hF277.rest.rest.rest.rest.rest (fun hH278 => ?_)
         clear hK K g275_0 g275_1 g275_2 g275_3
         try simp only [lA, lB, lC]
         refine wpAnyH_done (by kernel_rfl) ?_ _
         try simp only [Act.put, List.getElem_toArray, List.getElem_cons_succ, List.getElem_cons_zero, lA, lB, lC]
         go_wp2_with fail
         go_meet
         exact ⟨_, _, rfl, rfl, hF277⟩
        ·
         refine ready_value 24 (v := .pointer (some ⟨X260.heap.size, 0, none⟩)) (w' := X260.alloc (.cells #[.int .i64 0, .int .i64 0] 38)) ?A ?B ?C ?_
         case A => kernel_rfl
         case C => rfl
         case B => exact run_alloc rfl (by go_simp)
         refine hK.out _ _ (Held.alloc _ hH261) (fun hH281 => ?_)
         clear hK K
         simp only [lA, lB, lC]
         have hN282 := size_alloc (.cells #[.int .i64 0, .int .i64 0] 38) hN262
         have g283 := G2.new X260 hN262
         generalize X260.alloc (.cells #[.int .i64 0, .int .i64 0] 38) = X280 at hH281 hN282 g283 ⊢
         refine wpAnyH_ready (rs := [8]) (by kernel_rfl) (by simp) ?_
         refine AllReadyH.cons rfl (fun K hK => ?_) AllReadyH.nil
         refine ready_value 23 (v := .pointer (some ⟨X280.heap.size, 0, none⟩)) (w' := X280.alloc (.cells #[.bool false, .int .i64 0, .int .i64 0] 23)) ?A ?B ?C ?_
         case A => kernel_rfl
         case C => rfl
         case B => exact run_alloc rfl (by go_simp)
         refine hK.out _ _ (Held.alloc _ hH281) (fun hH285 => ?_)
         clear hK K
         simp only [lA, lB, lC]
         have hN286 := size_alloc (.cells #[.bool false, .int .i64 0, .int .i64 0] 23) hN282
         have g287 := G.new X280 hN282
         have lt288 := g283.2.1
         have g289 := g283.alloc (.cells #[.bool false, .int .i64 0, .int .i64 0] 23)
         generalize X280.alloc (.cells #[.bool false, .int .i64 0, .int .i64 0] 23) = X284 at hH285 hN286 g287 g289 ⊢
         refine wpAnyH_ready (rs := [10]) (by kernel_rfl) (by simp) ?_
         refine AllReadyH.cons rfl (fun K hK => ?_) AllReadyH.nil
         have sz24 := g289.2.1
         have md24 := g289.2.2
         have sz23 := g287.2.1
         have md23 := g287.2.2
         have nq1 : X260.heap.size ≠ X280.heap.size := by omega
         have nq2 : X280.heap.size ≠ X260.heap.size := by omega
         have hF290 := fill3 tg0 tg1 tg2 g287 (by omega) (by simp only [List.forall_mem_cons, List.not_mem_nil, false_implies, implies_true, and_true]; omega) hH285
         have g292 := g289.store3 tg0 tg1 tg2 g287 (by omega) (by omega)
         obtain ⟨⟨g287_0, g287_1, g287_2, g287_3, g287_4, g287_5⟩, _, _⟩ := g287
         go_simp
         refine hK.out _ _ hF290.rest.rest.rest (fun hH291 => ?_)
         clear hK K g287_0 g287_1 g287_2 g287_3 g287_4 g287_5
         try simp only [lA, lB, lC]
         refine wpAnyH_ready (rs := [11]) (by kernel_rfl) (by simp) ?_
         refine AllReadyH.cons rfl (fun K hK => ?_) AllReadyH.nil
         have hF294 := fill2 tk1 tk2 g292 (by omega) (by simp only [List.forall_mem_cons, List.not_mem_nil, false_implies, implies_true, and_true]; omega) hF290
         obtain ⟨⟨g292_0, g292_1, g292_2, g292_3⟩, _, _⟩ := g292
         go_simp
         refine hK.out _ _ hF294.rest.rest.rest.rest.rest (fun hH295 => ?_)
         clear hK K g292_0 g292_1 g292_2 g292_3
         try simp only [lA, lB, lC]
         refine wpAnyH_done (by kernel_rfl) ?_ _
         try simp only [Act.put, List.getElem_toArray, List.getElem_cons_succ, List.getElem_cons_zero, lA, lB, lC]
         go_wp2_with fail
         go_meet
         exact ⟨_, _, rfl, rfl, hF294⟩
       ·
        refine ready_value 23 (v := .pointer (some ⟨X257.heap.size, 0, none⟩)) (w' := X257.alloc (.cells #[.bool false, .int .i64 0, .int .i64 0] 23)) ?A ?B ?C ?_
        case A => kernel_rfl
        case C => rfl
        case B => exact run_alloc rfl (by go_simp)
        refine hK.out _ _ (Held.alloc _ hH258) (fun hH298 => ?_)
        clear hK K
        simp only [lA, lB, lC]
        have hN299 := size_alloc (.cells #[.bool false, .int .i64 0, .int .i64 0] 23) hN259
        have g300 := G.new X257 hN259
        generalize X257.alloc (.cells #[.bool false, .int .i64 0, .int .i64 0] 23) = X297 at hH298 hN299 g300 ⊢
        refine wpAnyH_ready (rs := [4, 9]) (by kernel_rfl) (by simp) ?_
        refine AllReadyH.cons rfl (fun K hK => ?_) (AllReadyH.cons rfl (fun K hK => ?_) AllReadyH.nil)
        ·
         refine ready_call 175 ?A ?B (HG2.out _) ?C ?_
         case A => kernel_rfl
         case C => rfl
         case B => exact run_call rfl Tryd.call26 (by kernel_rfl)
         rintro e X301 ⟨rfl, hb⟩
         refine ⟨_, rfl, hK.out _ _ (Held.keep hb hH298) (fun hH302 => ?_)⟩
         clear hK K
         simp only [lA, lB, lC]
         have hN303 := Nat.le_trans hN299 hb.size
         have g304 := g300.below hb
         clear hb
         refine take1 5 170 (.tuple #[.agg #[.bool tg0, .int .i64 tg1, .int .i64 tg2], .agg #[.int .i64 tk1, .int .i64 tk2]]) rfl rfl (by kernel_rfl) (by kernel_rfl) (by kernel_rfl) (fun _ _ _ h => h) (Or.inl ⟨by kernel_rfl, fun w hSw => by (try dsimp only at hSw); go_simp⟩) (by assumption) ?_
         simp only [lA, lB, lC]
         refine take1 6 176 (.agg #[.bool tg0, .int .i64 tg1, .int .i64 tg2]) rfl rfl (by kernel_rfl) (by kernel_rfl) (by kernel_rfl) (fun _ _ _ h => h) (Or.inl ⟨by kernel_rfl, fun w hSw => by (try dsimp only at hSw); go_simp⟩) (by assumption) ?_
         simp only [lA, lB, lC]
         refine take1 7 177 (.agg #[.int .i64 tk1, .int .i64 tk2]) rfl rfl (by kernel_rfl) (by kernel_rfl) (by kernel_rfl) (fun _ _ _ h => h) (Or.inl ⟨by kernel_rfl, fun w hSw => by (try dsimp only at hSw); go_simp⟩) (by assumption) ?_
         simp only [lA, lB, lC]
         refine wpAnyH_ready (rs := [9]) (by kernel_rfl) (by simp) ?_
         refine AllReadyH.cons rfl (fun K hK => ?_) AllReadyH.nil
         refine ready_value 24 (v := .pointer (some ⟨X301.heap.size, 0, none⟩)) (w' := X301.alloc (.cells #[.int .i64 0, .int .i64 0] 38)) ?A ?B ?C ?_
         case A => kernel_rfl
         case C => rfl
         case B => exact run_alloc rfl (by go_simp)
         refine hK.out _ _ (Held.alloc _ hH302) (fun hH306 => ?_)
         clear hK K
         simp only [lA, lB, lC]
         have hN307 := size_alloc (.cells #[.int .i64 0, .int .i64 0] 38) hN303
         have g308 := G2.new X301 hN303
         have lt309 := g304.2.1
         have g310 := g304.alloc (.cells #[.int .i64 0, .int .i64 0] 38)
         generalize X301.alloc (.cells #[.int .i64 0, .int .i64 0] 38) = X305 at hH306 hN307 g308 g310 ⊢
         refine wpAnyH_ready (rs := [10]) (by kernel_rfl) (by simp) ?_
         refine AllReadyH.cons rfl (fun K hK => ?_) AllReadyH.nil
         have sz23 := g310.2.1
         have md23 := g310.2.2
         have sz24 := g308.2.1
         have md24 := g308.2.2
         have nq1 : X257.heap.size ≠ X301.heap.size := by omega
         have nq2 : X301.heap.size ≠ X257.heap.size := by omega
         have hF311 := fill3 tg0 tg1 tg2 g310 (by omega) (by simp only [List.forall_mem_cons, List.not_mem_nil, false_implies, implies_true, and_true]; omega) hH306
         have g313 := g308.store3 tg0 tg1 tg2 g310 (by omega) (by omega)
         obtain ⟨⟨g310_0, g310_1, g310_2, g310_3, g310_4, g310_5⟩, _, _⟩ := g310
         go_simp
         refine hK.out _ _ hF311.rest.rest.rest (fun hH312 => ?_)
         clear hK K g310_0 g310_1 g310_2 g310_3 g310_4 g310_5
         try simp only [lA, lB, lC]
         refine wpAnyH_ready (rs := [11]) (by kernel_rfl) (by simp) ?_
         refine AllReadyH.cons rfl (fun K hK => ?_) AllReadyH.nil
         have hF315 := fill2 tk1 tk2 g313 (by omega) (by simp only [List.forall_mem_cons, List.not_mem_nil, false_implies, implies_true, and_true]; omega) hF311
         obtain ⟨⟨g313_0, g313_1, g313_2, g313_3⟩, _, _⟩ := g313
         go_simp
         refine hK.out _ _ hF315.rest.rest.rest.rest.rest (fun hH316 => ?_)
         clear hK K g313_0 g313_1 g313_2 g313_3
         try simp only [lA, lB, lC]
         refine wpAnyH_done (by kernel_rfl) ?_ _
         try simp only [Act.put, List.getElem_toArray, List.getElem_cons_succ, List.getElem_cons_zero, lA, lB, lC]
         go_wp2_with fail
         go_meet
         exact ⟨_, _, rfl, rfl, hF315⟩
        ·
         refine ready_value 24 (v := .pointer (some ⟨X297.heap.size, 0, none⟩)) (w' := X297.alloc (.cells #[.int .i64 0, .int .i64 0] 38)) ?A ?B ?C ?_
         case A => kernel_rfl
         case C => rfl
         case B => exact run_alloc rfl (by go_simp)
         refine hK.out _ _ (Held.alloc _ hH298) (fun hH319 => ?_)
         clear hK K
         simp only [lA, lB, lC]
         have hN320 := size_alloc (.cells #[.int .i64 0, .int .i64 0] 38) hN299
         have g321 := G2.new X297 hN299
         have lt322 := g300.2.1
         have g323 := g300.alloc (.cells #[.int .i64 0, .int .i64 0] 38)
         generalize X297.alloc (.cells #[.int .i64 0, .int .i64 0] 38) = X318 at hH319 hN320 g321 g323 ⊢
         refine wpAnyH_ready (rs := [4]) (by kernel_rfl) (by simp) ?_
         refine AllReadyH.cons rfl (fun K hK => ?_) AllReadyH.nil
         refine ready_call 175 ?A ?B (HG2.out _) ?C ?_
         case A => kernel_rfl
         case C => rfl
         case B => exact run_call rfl Tryd.call26 (by kernel_rfl)
         rintro e X324 ⟨rfl, hb⟩
         refine ⟨_, rfl, hK.out _ _ (Held.keep hb hH319) (fun hH325 => ?_)⟩
         clear hK K
         simp only [lA, lB, lC]
         have hN326 := Nat.le_trans hN320 hb.size
         have g327 := g323.below hb
         have g328 := g321.below hb
         clear hb
         refine take1 5 170 (.tuple #[.agg #[.bool tg0, .int .i64 tg1, .int .i64 tg2], .agg #[.int .i64 tk1, .int .i64 tk2]]) rfl rfl (by kernel_rfl) (by kernel_rfl) (by kernel_rfl) (fun _ _ _ h => h) (Or.inl ⟨by kernel_rfl, fun w hSw => by (try dsimp only at hSw); go_simp⟩) (by assumption) ?_
         simp only [lA, lB, lC]
         refine take1 6 176 (.agg #[.bool tg0, .int .i64 tg1, .int .i64 tg2]) rfl rfl (by kernel_rfl) (by kernel_rfl) (by kernel_rfl) (fun _ _ _ h => h) (Or.inl ⟨by kernel_rfl, fun w hSw => by (try dsimp only at hSw); go_simp⟩) (by assumption) ?_
         simp only [lA, lB, lC]
         refine take1 7 177 (.agg #[.int .i64 tk1, .int .i64 tk2]) rfl rfl (by kernel_rfl) (by kernel_rfl) (by kernel_rfl) (fun _ _ _ h => h) (Or.inl ⟨by kernel_rfl, fun w hSw => by (try dsimp only at hSw); go_simp⟩) (by assumption) ?_
         simp only [lA, lB, lC]
         refine wpAnyH_ready (rs := [10]) (by kernel_rfl) (by simp) ?_
         refine AllReadyH.cons rfl (fun K hK => ?_) AllReadyH.nil
         have sz23 := g327.2.1
         have md23 := g327.2.2
         have sz24 := g328.2.1
         have md24 := g328.2.2
         have nq1 : X257.heap.size ≠ X297.heap.size := by omega
         have nq2 : X297.heap.size ≠ X257.heap.size := by omega
         have hF329 := fill3 tg0 tg1 tg2 g327 (by omega) (by simp only [List.forall_mem_cons, List.not_mem_nil, false_implies, implies_true, and_true]; omega) hH325
         have g331 := g328.store3 tg0 tg1 tg2 g327 (by omega) (by omega)
         obtain ⟨⟨g327_0, g327_1, g327_2, g327_3, g327_4, g327_5⟩, _, _⟩ := g327
         go_simp
         refine hK.out _ _ hF329.rest.rest.rest (fun hH330 => ?_)
         clear hK K g327_0 g327_1 g327_2 g327_3 g327_4 g327_5
         try simp only [lA, lB, lC]
         refine wpAnyH_ready (rs := [11]) (by kernel_rfl) (by simp) ?_
         refine AllReadyH.cons rfl (fun K hK => ?_) AllReadyH.nil
         have hF333 := fill2 tk1 tk2 g331 (by omega) (by simp only [List.forall_mem_cons, List.not_mem_nil, false_implies, implies_true, and_true]; omega) hF329
         obtain ⟨⟨g331_0, g331_1, g331_2, g331_3⟩, _, _⟩ := g331
         go_simp
         refine hK.out _ _ hF333.rest.rest.rest.rest.rest (fun hH334 => ?_)
         clear hK K g331_0 g331_1 g331_2 g331_3
         try simp only [lA, lB, lC]
         refine wpAnyH_done (by kernel_rfl) ?_ _
         try simp only [Act.put, List.getElem_toArray, List.getElem_cons_succ, List.getElem_cons_zero, lA, lB, lC]
         go_wp2_with fail
         go_meet
         exact ⟨_, _, rfl, rfl, hF333⟩
       ·
        refine ready_value 24 (v := .pointer (some ⟨X257.heap.size, 0, none⟩)) (w' := X257.alloc (.cells #[.int .i64 0, .int .i64 0] 38)) ?A ?B ?C ?_
        case A => kernel_rfl
        case C => rfl
        case B => exact run_alloc rfl (by go_simp)
        refine hK.out _ _ (Held.alloc _ hH258) (fun hH337 => ?_)
        clear hK K
        simp only [lA, lB, lC]
        have hN338 := size_alloc (.cells #[.int .i64 0, .int .i64 0] 38) hN259
        have g339 := G2.new X257 hN259
        generalize X257.alloc (.cells #[.int .i64 0, .int .i64 0] 38) = X336 at hH337 hN338 g339 ⊢
        refine wpAnyH_ready (rs := [4, 8]) (by kernel_rfl) (by simp) ?_
        refine AllReadyH.cons rfl (fun K hK => ?_) (AllReadyH.cons rfl (fun K hK => ?_) AllReadyH.nil)
        ·
         refine ready_call 175 ?A ?B (HG2.out _) ?C ?_
         case A => kernel_rfl
         case C => rfl
         case B => exact run_call rfl Tryd.call26 (by kernel_rfl)
         rintro e X340 ⟨rfl, hb⟩
         refine ⟨_, rfl, hK.out _ _ (Held.keep hb hH337) (fun hH341 => ?_)⟩
         clear hK K
         simp only [lA, lB, lC]
         have hN342 := Nat.le_trans hN338 hb.size
         have g343 := g339.below hb
         clear hb
         refine take1 5 170 (.tuple #[.agg #[.bool tg0, .int .i64 tg1, .int .i64 tg2], .agg #[.int .i64 tk1, .int .i64 tk2]]) rfl rfl (by kernel_rfl) (by kernel_rfl) (by kernel_rfl) (fun _ _ _ h => h) (Or.inl ⟨by kernel_rfl, fun w hSw => by (try dsimp only at hSw); go_simp⟩) (by assumption) ?_
         simp only [lA, lB, lC]
         refine take1 6 176 (.agg #[.bool tg0, .int .i64 tg1, .int .i64 tg2]) rfl rfl (by kernel_rfl) (by kernel_rfl) (by kernel_rfl) (fun _ _ _ h => h) (Or.inl ⟨by kernel_rfl, fun w hSw => by (try dsimp only at hSw); go_simp⟩) (by assumption) ?_
         simp only [lA, lB, lC]
         refine take1 7 177 (.agg #[.int .i64 tk1, .int .i64 tk2]) rfl rfl (by kernel_rfl) (by kernel_rfl) (by kernel_rfl) (fun _ _ _ h => h) (Or.inl ⟨by kernel_rfl, fun w hSw => by (try dsimp only at hSw); go_simp⟩) (by assumption) ?_
         simp only [lA, lB, lC]
         refine wpAnyH_ready (rs := [8]) (by kernel_rfl) (by simp) ?_
         refine AllReadyH.cons rfl (fun K hK => ?_) AllReadyH.nil
         refine ready_value 23 (v := .pointer (some ⟨X340.heap.size, 0, none⟩)) (w' := X340.alloc (.cells #[.bool false, .int .i64 0, .int .i64 0] 23)) ?A ?B ?C ?_
         case A => kernel_rfl
         case C => rfl
         case B => exact run_alloc rfl (by go_simp)
         refine hK.out _ _ (Held.alloc _ hH341) (fun hH345 => ?_)
         clear hK K
         simp only [lA, lB, lC]
         have hN346 := size_alloc (.cells #[.bool false, .int .i64 0, .int .i64 0] 23) hN342
         have g347 := G.new X340 hN342
         have lt348 := g343.2.1
         have g349 := g343.alloc (.cells #[.bool false, .int .i64 0, .int .i64 0] 23)
         generalize X340.alloc (.cells #[.bool false, .int .i64 0, .int .i64 0] 23) = X344 at hH345 hN346 g347 g349 ⊢
         refine wpAnyH_ready (rs := [10]) (by kernel_rfl) (by simp) ?_
         refine AllReadyH.cons rfl (fun K hK => ?_) AllReadyH.nil
         have sz24 := g349.2.1
         have md24 := g349.2.2
         have sz23 := g347.2.1
         have md23 := g347.2.2
         have nq1 : X257.heap.size ≠ X340.heap.size := by omega
         have nq2 : X340.heap.size ≠ X257.heap.size := by omega
         have hF350 := fill3 tg0 tg1 tg2 g347 (by omega) (by simp only [List.forall_mem_cons, List.not_mem_nil, false_implies, implies_true, and_true]; omega) hH345
         have g352 := g349.store3 tg0 tg1 tg2 g347 (by omega) (by omega)
         obtain ⟨⟨g347_0, g347_1, g347_2, g347_3, g347_4, g347_5⟩, _, _⟩ := g347
         go_simp
         refine hK.out _ _ hF350.rest.rest.rest (fun hH351 => ?_)
         clear hK K g347_0 g347_1 g347_2 g347_3 g347_4 g347_5
         try simp only [lA, lB, lC]
         refine wpAnyH_ready (rs := [11]) (by kernel_rfl) (by simp) ?_
         refine AllReadyH.cons rfl (fun K hK => ?_) AllReadyH.nil
         have hF354 := fill2 tk1 tk2 g352 (by omega) (by simp only [List.forall_mem_cons, List.not_mem_nil, false_implies, implies_true, and_true]; omega) hF350
         obtain ⟨⟨g352_0, g352_1, g352_2, g352_3⟩, _, _⟩ := g352
         go_simp
         refine hK.out _ _ hF354.rest.rest.rest.rest.rest (fun hH355 => ?_)
         clear hK K g352_0 g352_1 g352_2 g352_3
         try simp only [lA, lB, lC]
         refine wpAnyH_done (by kernel_rfl) ?_ _
         try simp only [Act.put, List.getElem_toArray, List.getElem_cons_succ, List.getElem_cons_zero, lA, lB, lC]
         go_wp2_with fail
         go_meet
         exact ⟨_, _, rfl, rfl, hF354⟩
        ·
         refine ready_value 23 (v := .pointer (some ⟨X336.heap.size, 0, none⟩)) (w' := X336.alloc (.cells #[.bool false, .int .i64 0, .int .i64 0] 23)) ?A ?B ?C ?_
         case A => kernel_rfl
         case C => rfl
         case B => exact run_alloc rfl (by go_simp)
         refine hK.out _ _ (Held.alloc _ hH337) (fun hH358 => ?_)
         clear hK K
         simp only [lA, lB, lC]
         have hN359 := size_alloc (.cells #[.bool false, .int .i64 0, .int .i64 0] 23) hN338
         have g360 := G.new X336 hN338
         have lt361 := g339.2.1
         have g362 := g339.alloc (.cells #[.bool false, .int .i64 0, .int .i64 0] 23)
         generalize X336.alloc (.cells #[.bool false, .int .i64 0, .int .i64 0] 23) = X357 at hH358 hN359 g360 g362 ⊢
         refine wpAnyH_ready (rs := [4]) (by kernel_rfl) (by simp) ?_
         refine AllReadyH.cons rfl (fun K hK => ?_) AllReadyH.nil
         refine ready_call 175 ?A ?B (HG2.out _) ?C ?_
         case A => kernel_rfl
         case C => rfl
         case B => exact run_call rfl Tryd.call26 (by kernel_rfl)
         rintro e X363 ⟨rfl, hb⟩
         refine ⟨_, rfl, hK.out _ _ (Held.keep hb hH358) (fun hH364 => ?_)⟩
         clear hK K
         simp only [lA, lB, lC]
         have hN365 := Nat.le_trans hN359 hb.size
         have g366 := g362.below hb
         have g367 := g360.below hb
         clear hb
         refine take1 5 170 (.tuple #[.agg #[.bool tg0, .int .i64 tg1, .int .i64 tg2], .agg #[.int .i64 tk1, .int .i64 tk2]]) rfl rfl (by kernel_rfl) (by kernel_rfl) (by kernel_rfl) (fun _ _ _ h => h) (Or.inl ⟨by kernel_rfl, fun w hSw => by (try dsimp only at hSw); go_simp⟩) (by assumption) ?_
         simp only [lA, lB, lC]
         refine take1 6 176 (.agg #[.bool tg0, .int .i64 tg1, .int .i64 tg2]) rfl rfl (by kernel_rfl) (by kernel_rfl) (by kernel_rfl) (fun _ _ _ h => h) (Or.inl ⟨by kernel_rfl, fun w hSw => by (try dsimp only at hSw); go_simp⟩) (by assumption) ?_
         simp only [lA, lB, lC]
         refine take1 7 177 (.agg #[.int .i64 tk1, .int .i64 tk2]) rfl rfl (by kernel_rfl) (by kernel_rfl) (by kernel_rfl) (fun _ _ _ h => h) (Or.inl ⟨by kernel_rfl, fun w hSw => by (try dsimp only at hSw); go_simp⟩) (by assumption) ?_
         simp only [lA, lB, lC]
         refine wpAnyH_ready (rs := [10]) (by kernel_rfl) (by simp) ?_
         refine AllReadyH.cons rfl (fun K hK => ?_) AllReadyH.nil
         have sz24 := g366.2.1
         have md24 := g366.2.2
         have sz23 := g367.2.1
         have md23 := g367.2.2
         have nq1 : X257.heap.size ≠ X336.heap.size := by omega
         have nq2 : X336.heap.size ≠ X257.heap.size := by omega
         have hF368 := fill3 tg0 tg1 tg2 g367 (by omega) (by simp only [List.forall_mem_cons, List.not_mem_nil, false_implies, implies_true, and_true]; omega) hH364
         have g370 := g366.store3 tg0 tg1 tg2 g367 (by omega) (by omega)
         obtain ⟨⟨g367_0, g367_1, g367_2, g367_3, g367_4, g367_5⟩, _, _⟩ := g367
         go_simp
         refine hK.out _ _ hF368.rest.rest.rest (fun hH369 => ?_)
         clear hK K g367_0 g367_1 g367_2 g367_3 g367_4 g367_5
         try simp only [lA, lB, lC]
         refine wpAnyH_ready (rs := [11]) (by kernel_rfl) (by simp) ?_
         refine AllReadyH.cons rfl (fun K hK => ?_) AllReadyH.nil
         have hF372 := fill2 tk1 tk2 g370 (by omega) (by simp only [List.forall_mem_cons, List.not_mem_nil, false_implies, implies_true, and_true]; omega) hF368
         obtain ⟨⟨g370_0, g370_1, g370_2, g370_3⟩, _, _⟩ := g370
         go_simp
         refine hK.out _ _ hF372.rest.rest.rest.rest.rest (fun hH373 => ?_)
         clear hK K g370_0 g370_1 g370_2 g370_3
         try simp only [lA, lB, lC]
         refine wpAnyH_done (by kernel_rfl) ?_ _
         try simp only [Act.put, List.getElem_toArray, List.getElem_cons_succ, List.getElem_cons_zero, lA, lB, lC]
         go_wp2_with fail
         go_meet
         exact ⟨_, _, rfl, rfl, hF372⟩
      ·
       refine ready_value 23 (v := .pointer (some ⟨X254.heap.size, 0, none⟩)) (w' := X254.alloc (.cells #[.bool false, .int .i64 0, .int .i64 0] 23)) ?A ?B ?C ?_
       case A => kernel_rfl
       case C => rfl
       case B => exact run_alloc rfl (by go_simp)
       refine hK.out _ _ (Held.alloc _ hH255) (fun hH376 => ?_)
       clear hK K
       simp only [lA, lB, lC]
       have hN377 := size_alloc (.cells #[.bool false, .int .i64 0, .int .i64 0] 23) hN256
       have g378 := G.new X254 hN256
       generalize X254.alloc (.cells #[.bool false, .int .i64 0, .int .i64 0] 23) = X375 at hH376 hN377 g378 ⊢
       refine wpAnyH_ready (rs := [3, 9]) (by kernel_rfl) (by simp) ?_
       refine AllReadyH.cons rfl (fun K hK => ?_) (AllReadyH.cons rfl (fun K hK => ?_) AllReadyH.nil)
       ·
        refine ready_call 174 ?A ?B (HJ.out _) ?C ?_
        case A => kernel_rfl
        case C => rfl
        case B => exact run_call rfl Tryd.call48 (by kernel_rfl)
        rintro e X379 ⟨rfl, hb⟩
        refine ⟨_, rfl, hK.out _ _ (Held.keep hb hH376) (fun hH380 => ?_)⟩
        clear hK K
        simp only [lA, lB, lC]
        have hN381 := Nat.le_trans hN377 hb.size
        have g382 := g378.below hb
        clear hb
        refine wpAnyH_ready (rs := [4, 9]) (by kernel_rfl) (by simp) ?_
        refine AllReadyH.cons rfl (fun K hK => ?_) (AllReadyH.cons rfl (fun K hK => ?_) AllReadyH.nil)
        ·
         refine ready_call 175 ?A ?B (HG2.out _) ?C ?_
         case A => kernel_rfl
         case C => rfl
         case B => exact run_call rfl Tryd.call26 (by kernel_rfl)
         rintro e X383 ⟨rfl, hb⟩
         refine ⟨_, rfl, hK.out _ _ (Held.keep hb hH380) (fun hH384 => ?_)⟩
         clear hK K
         simp only [lA, lB, lC]
         have hN385 := Nat.le_trans hN381 hb.size
         have g386 := g382.below hb
         clear hb
         refine take1 5 170 (.tuple #[.agg #[.bool tg0, .int .i64 tg1, .int .i64 tg2], .agg #[.int .i64 tk1, .int .i64 tk2]]) rfl rfl (by kernel_rfl) (by kernel_rfl) (by kernel_rfl) (fun _ _ _ h => h) (Or.inl ⟨by kernel_rfl, fun w hSw => by (try dsimp only at hSw); go_simp⟩) (by assumption) ?_
         simp only [lA, lB, lC]
         refine take1 6 176 (.agg #[.bool tg0, .int .i64 tg1, .int .i64 tg2]) rfl rfl (by kernel_rfl) (by kernel_rfl) (by kernel_rfl) (fun _ _ _ h => h) (Or.inl ⟨by kernel_rfl, fun w hSw => by (try dsimp only at hSw); go_simp⟩) (by assumption) ?_
         simp only [lA, lB, lC]
         refine take1 7 177 (.agg #[.int .i64 tk1, .int .i64 tk2]) rfl rfl (by kernel_rfl) (by kernel_rfl) (by kernel_rfl) (fun _ _ _ h => h) (Or.inl ⟨by kernel_rfl, fun w hSw => by (try dsimp only at hSw); go_simp⟩) (by assumption) ?_
         simp only [lA, lB, lC]
         refine wpAnyH_ready (rs := [9]) (by kernel_rfl) (by simp) ?_
         refine AllReadyH.cons rfl (fun K hK => ?_) AllReadyH.nil
         refine ready_value 24 (v := .pointer (some ⟨X383.heap.size, 0, none⟩)) (w' := X383.alloc (.cells #[.int .i64 0, .int .i64 0] 38)) ?A ?B ?C ?_
         case A => kernel_rfl
         case C => rfl
         case B => exact run_alloc rfl (by go_simp)
         refine hK.out _ _ (Held.alloc _ hH384) (fun hH388 => ?_)
         clear hK K
         simp only [lA, lB, lC]
         have hN389 := size_alloc (.cells #[.int .i64 0, .int .i64 0] 38) hN385
         have g390 := G2.new X383 hN385
         have lt391 := g386.2.1
         have g392 := g386.alloc (.cells #[.int .i64 0, .int .i64 0] 38)
         generalize X383.alloc (.cells #[.int .i64 0, .int .i64 0] 38) = X387 at hH388 hN389 g390 g392 ⊢
         refine wpAnyH_ready (rs := [10]) (by kernel_rfl) (by simp) ?_
         refine AllReadyH.cons rfl (fun K hK => ?_) AllReadyH.nil
         have sz23 := g392.2.1
         have md23 := g392.2.2
         have sz24 := g390.2.1
         have md24 := g390.2.2
         have nq1 : X254.heap.size ≠ X383.heap.size := by omega
         have nq2 : X383.heap.size ≠ X254.heap.size := by omega
         have hF393 := fill3 tg0 tg1 tg2 g392 (by omega) (by simp only [List.forall_mem_cons, List.not_mem_nil, false_implies, implies_true, and_true]; omega) hH388
         have g395 := g390.store3 tg0 tg1 tg2 g392 (by omega) (by omega)
         obtain ⟨⟨g392_0, g392_1, g392_2, g392_3, g392_4, g392_5⟩, _, _⟩ := g392
         go_simp
         refine hK.out _ _ hF393.rest.rest.rest (fun hH394 => ?_)
         clear hK K g392_0 g392_1 g392_2 g392_3 g392_4 g392_5
         try simp only [lA, lB, lC]
         refine wpAnyH_ready (rs := [11]) (by kernel_rfl) (by simp) ?_
         refine AllReadyH.cons rfl (fun K hK => ?_) AllReadyH.nil
         have hF397 := fill2 tk1 tk2 g395 (by omega) (by simp only [List.forall_mem_cons, List.not_mem_nil, false_implies, implies_true, and_true]; omega) hF393
         obtain ⟨⟨g395_0, g395_1, g395_2, g395_3⟩, _, _⟩ := g395
         go_simp
         refine hK.out _ _ hF397.rest.rest.rest.rest.rest (fun hH398 => ?_)
         clear hK K g395_0 g395_1 g395_2 g395_3
         try simp only [lA, lB, lC]
         refine wpAnyH_done (by kernel_rfl) ?_ _
         try simp only [Act.put, List.getElem_toArray, List.getElem_cons_succ, List.getElem_cons_zero, lA, lB, lC]
         go_wp2_with fail
         go_meet
         exact ⟨_, _, rfl, rfl, hF397⟩
        ·
         refine ready_value 24 (v := .pointer (some ⟨X379.heap.size, 0, none⟩)) (w' := X379.alloc (.cells #[.int .i64 0, .int .i64 0] 38)) ?A ?B ?C ?_
         case A => kernel_rfl
         case C => rfl
         case B => exact run_alloc rfl (by go_simp)
         refine hK.out _ _ (Held.alloc _ hH380) (fun hH401 => ?_)
         clear hK K
         simp only [lA, lB, lC]
         have hN402 := size_alloc (.cells #[.int .i64 0, .int .i64 0] 38) hN381
         have g403 := G2.new X379 hN381
         have lt404 := g382.2.1
         have g405 := g382.alloc (.cells #[.int .i64 0, .int .i64 0] 38)
         generalize X379.alloc (.cells #[.int .i64 0, .int .i64 0] 38) = X400 at hH401 hN402 g403 g405 ⊢
         refine wpAnyH_ready (rs := [4]) (by kernel_rfl) (by simp) ?_
         refine AllReadyH.cons rfl (fun K hK => ?_) AllReadyH.nil
         refine ready_call 175 ?A ?B (HG2.out _) ?C ?_
         case A => kernel_rfl
         case C => rfl
         case B => exact run_call rfl Tryd.call26 (by kernel_rfl)
         rintro e X406 ⟨rfl, hb⟩
         refine ⟨_, rfl, hK.out _ _ (Held.keep hb hH401) (fun hH407 => ?_)⟩
         clear hK K
         simp only [lA, lB, lC]
         have hN408 := Nat.le_trans hN402 hb.size
         have g409 := g405.below hb
         have g410 := g403.below hb
         clear hb
         refine take1 5 170 (.tuple #[.agg #[.bool tg0, .int .i64 tg1, .int .i64 tg2], .agg #[.int .i64 tk1, .int .i64 tk2]]) rfl rfl (by kernel_rfl) (by kernel_rfl) (by kernel_rfl) (fun _ _ _ h => h) (Or.inl ⟨by kernel_rfl, fun w hSw => by (try dsimp only at hSw); go_simp⟩) (by assumption) ?_
         simp only [lA, lB, lC]
         refine take1 6 176 (.agg #[.bool tg0, .int .i64 tg1, .int .i64 tg2]) rfl rfl (by kernel_rfl) (by kernel_rfl) (by kernel_rfl) (fun _ _ _ h => h) (Or.inl ⟨by kernel_rfl, fun w hSw => by (try dsimp only at hSw); go_simp⟩) (by assumption) ?_
         simp only [lA, lB, lC]
         refine take1 7 177 (.agg #[.int .i64 tk1, .int .i64 tk2]) rfl rfl (by kernel_rfl) (by kernel_rfl) (by kernel_rfl) (fun _ _ _ h => h) (Or.inl ⟨by kernel_rfl, fun w hSw => by (try dsimp only at hSw); go_simp⟩) (by assumption) ?_
         simp only [lA, lB, lC]
         refine wpAnyH_ready (rs := [10]) (by kernel_rfl) (by simp) ?_
         refine AllReadyH.cons rfl (fun K hK => ?_) AllReadyH.nil
         have sz23 := g409.2.1
         have md23 := g409.2.2
         have sz24 := g410.2.1
         have md24 := g410.2.2
         have nq1 : X254.heap.size ≠ X379.heap.size := by omega
         have nq2 : X379.heap.size ≠ X254.heap.size := by omega
         have hF411 := fill3 tg0 tg1 tg2 g409 (by omega) (by simp only [List.forall_mem_cons, List.not_mem_nil, false_implies, implies_true, and_true]; omega) hH407
         have g413 := g410.store3 tg0 tg1 tg2 g409 (by omega) (by omega)
         obtain ⟨⟨g409_0, g409_1, g409_2, g409_3, g409_4, g409_5⟩, _, _⟩ := g409
         go_simp
         refine hK.out _ _ hF411.rest.rest.rest (fun hH412 => ?_)
         clear hK K g409_0 g409_1 g409_2 g409_3 g409_4 g409_5
         try simp only [lA, lB, lC]
         refine wpAnyH_ready (rs := [11]) (by kernel_rfl) (by simp) ?_
         refine AllReadyH.cons rfl (fun K hK => ?_) AllReadyH.nil
         have hF415 := fill2 tk1 tk2 g413 (by omega) (by simp only [List.forall_mem_cons, List.not_mem_nil, false_implies, implies_true, and_true]; omega) hF411
         obtain ⟨⟨g413_0, g413_1, g413_2, g413_3⟩, _, _⟩ := g413
         go_simp
         refine hK.out _ _ hF415.rest.rest.rest.rest.rest (fun hH416 => ?_)
         clear hK K g413_0 g413_1 g413_2 g413_3
         try simp only [lA, lB, lC]
         refine wpAnyH_done (by kernel_rfl) ?_ _
         try simp only [Act.put, List.getElem_toArray, List.getElem_cons_succ, List.getElem_cons_zero, lA, lB, lC]
         go_wp2_with fail
         go_meet
         exact ⟨_, _, rfl, rfl, hF415⟩
       ·
        refine ready_value 24 (v := .pointer (some ⟨X375.heap.size, 0, none⟩)) (w' := X375.alloc (.cells #[.int .i64 0, .int .i64 0] 38)) ?A ?B ?C ?_
        case A => kernel_rfl
        case C => rfl
        case B => exact run_alloc rfl (by go_simp)
        refine hK.out _ _ (Held.alloc _ hH376) (fun hH419 => ?_)
        clear hK K
        simp only [lA, lB, lC]
        have hN420 := size_alloc (.cells #[.int .i64 0, .int .i64 0] 38) hN377
        have g421 := G2.new X375 hN377
        have lt422 := g378.2.1
        have g423 := g378.alloc (.cells #[.int .i64 0, .int .i64 0] 38)
        generalize X375.alloc (.cells #[.int .i64 0, .int .i64 0] 38) = X418 at hH419 hN420 g421 g423 ⊢
        refine wpAnyH_ready (rs := [3]) (by kernel_rfl) (by simp) ?_
        refine AllReadyH.cons rfl (fun K hK => ?_) AllReadyH.nil
        refine ready_call 174 ?A ?B (HJ.out _) ?C ?_
        case A => kernel_rfl
        case C => rfl
        case B => exact run_call rfl Tryd.call48 (by kernel_rfl)
        rintro e X424 ⟨rfl, hb⟩
        refine ⟨_, rfl, hK.out _ _ (Held.keep hb hH419) (fun hH425 => ?_)⟩
        clear hK K
        simp only [lA, lB, lC]
        have hN426 := Nat.le_trans hN420 hb.size
        have g427 := g423.below hb
        have g428 := g421.below hb
        clear hb
        refine wpAnyH_ready (rs := [4]) (by kernel_rfl) (by simp) ?_
        refine AllReadyH.cons rfl (fun K hK => ?_) AllReadyH.nil
        refine ready_call 175 ?A ?B (HG2.out _) ?C ?_
        case A => kernel_rfl
        case C => rfl
        case B => exact run_call rfl Tryd.call26 (by kernel_rfl)
        rintro e X429 ⟨rfl, hb⟩
        refine ⟨_, rfl, hK.out _ _ (Held.keep hb hH425) (fun hH430 => ?_)⟩
        clear hK K
        simp only [lA, lB, lC]
        have hN431 := Nat.le_trans hN426 hb.size
        have g432 := g427.below hb
        have g433 := g428.below hb
        clear hb
        refine take1 5 170 (.tuple #[.agg #[.bool tg0, .int .i64 tg1, .int .i64 tg2], .agg #[.int .i64 tk1, .int .i64 tk2]]) rfl rfl (by kernel_rfl) (by kernel_rfl) (by kernel_rfl) (fun _ _ _ h => h) (Or.inl ⟨by kernel_rfl, fun w hSw => by (try dsimp only at hSw); go_simp⟩) (by assumption) ?_
        simp only [lA, lB, lC]
        refine take1 6 176 (.agg #[.bool tg0, .int .i64 tg1, .int .i64 tg2]) rfl rfl (by kernel_rfl) (by kernel_rfl) (by kernel_rfl) (fun _ _ _ h => h) (Or.inl ⟨by kernel_rfl, fun w hSw => by (try dsimp only at hSw); go_simp⟩) (by assumption) ?_
        simp only [lA, lB, lC]
        refine take1 7 177 (.agg #[.int .i64 tk1, .int .i64 tk2]) rfl rfl (by kernel_rfl) (by kernel_rfl) (by kernel_rfl) (fun _ _ _ h => h) (Or.inl ⟨by kernel_rfl, fun w hSw => by (try dsimp only at hSw); go_simp⟩) (by assumption) ?_
        simp only [lA, lB, lC]
        refine wpAnyH_ready (rs := [10]) (by kernel_rfl) (by simp) ?_
        refine AllReadyH.cons rfl (fun K hK => ?_) AllReadyH.nil
        have sz23 := g432.2.1
        have md23 := g432.2.2
        have sz24 := g433.2.1
        have md24 := g433.2.2
        have nq1 : X254.heap.size ≠ X375.heap.size := by omega
        have nq2 : X375.heap.size ≠ X254.heap.size := by omega
        have hF434 := fill3 tg0 tg1 tg2 g432 (by omega) (by simp only [List.forall_mem_cons, List.not_mem_nil, false_implies, implies_true, and_true]; omega) hH430
        have g436 := g433.store3 tg0 tg1 tg2 g432 (by omega) (by omega)
        obtain ⟨⟨g432_0, g432_1, g432_2, g432_3, g432_4, g432_5⟩, _, _⟩ := g432
        go_simp
        refine hK.out _ _ hF434.rest.rest.rest (fun hH435 => ?_)
        clear hK K g432_0 g432_1 g432_2 g432_3 g432_4 g432_5
        try simp only [lA, lB, lC]
        refine wpAnyH_ready (rs := [11]) (by kernel_rfl) (by simp) ?_
        refine AllReadyH.cons rfl (fun K hK => ?_) AllReadyH.nil
        have hF438 := fill2 tk1 tk2 g436 (by omega) (by simp only [List.forall_mem_cons, List.not_mem_nil, false_implies, implies_true, and_true]; omega) hF434
        obtain ⟨⟨g436_0, g436_1, g436_2, g436_3⟩, _, _⟩ := g436
        go_simp
        refine hK.out _ _ hF438.rest.rest.rest.rest.rest (fun hH439 => ?_)
        clear hK K g436_0 g436_1 g436_2 g436_3
        try simp only [lA, lB, lC]
        refine wpAnyH_done (by kernel_rfl) ?_ _
        try simp only [Act.put, List.getElem_toArray, List.getElem_cons_succ, List.getElem_cons_zero, lA, lB, lC]
        go_wp2_with fail
        go_meet
        exact ⟨_, _, rfl, rfl, hF438⟩
      ·
       refine ready_value 24 (v := .pointer (some ⟨X254.heap.size, 0, none⟩)) (w' := X254.alloc (.cells #[.int .i64 0, .int .i64 0] 38)) ?A ?B ?C ?_
       case A => kernel_rfl
       case C => rfl
       case B => exact run_alloc rfl (by go_simp)
       refine hK.out _ _ (Held.alloc _ hH255) (fun hH442 => ?_)
       clear hK K
       simp only [lA, lB, lC]
       have hN443 := size_alloc (.cells #[.int .i64 0, .int .i64 0] 38) hN256
       have g444 := G2.new X254 hN256
       generalize X254.alloc (.cells #[.int .i64 0, .int .i64 0] 38) = X441 at hH442 hN443 g444 ⊢
       refine wpAnyH_ready (rs := [3, 8]) (by kernel_rfl) (by simp) ?_
       refine AllReadyH.cons rfl (fun K hK => ?_) (AllReadyH.cons rfl (fun K hK => ?_) AllReadyH.nil)
       ·
        refine ready_call 174 ?A ?B (HJ.out _) ?C ?_
        case A => kernel_rfl
        case C => rfl
        case B => exact run_call rfl Tryd.call48 (by kernel_rfl)
        rintro e X445 ⟨rfl, hb⟩
        refine ⟨_, rfl, hK.out _ _ (Held.keep hb hH442) (fun hH446 => ?_)⟩
        clear hK K
        simp only [lA, lB, lC]
        have hN447 := Nat.le_trans hN443 hb.size
        have g448 := g444.below hb
        clear hb
        refine wpAnyH_ready (rs := [4, 8]) (by kernel_rfl) (by simp) ?_
        refine AllReadyH.cons rfl (fun K hK => ?_) (AllReadyH.cons rfl (fun K hK => ?_) AllReadyH.nil)
        ·
         refine ready_call 175 ?A ?B (HG2.out _) ?C ?_
         case A => kernel_rfl
         case C => rfl
         case B => exact run_call rfl Tryd.call26 (by kernel_rfl)
         rintro e X449 ⟨rfl, hb⟩
         refine ⟨_, rfl, hK.out _ _ (Held.keep hb hH446) (fun hH450 => ?_)⟩
         clear hK K
         simp only [lA, lB, lC]
         have hN451 := Nat.le_trans hN447 hb.size
         have g452 := g448.below hb
         clear hb
         refine take1 5 170 (.tuple #[.agg #[.bool tg0, .int .i64 tg1, .int .i64 tg2], .agg #[.int .i64 tk1, .int .i64 tk2]]) rfl rfl (by kernel_rfl) (by kernel_rfl) (by kernel_rfl) (fun _ _ _ h => h) (Or.inl ⟨by kernel_rfl, fun w hSw => by (try dsimp only at hSw); go_simp⟩) (by assumption) ?_
         simp only [lA, lB, lC]
         refine take1 6 176 (.agg #[.bool tg0, .int .i64 tg1, .int .i64 tg2]) rfl rfl (by kernel_rfl) (by kernel_rfl) (by kernel_rfl) (fun _ _ _ h => h) (Or.inl ⟨by kernel_rfl, fun w hSw => by (try dsimp only at hSw); go_simp⟩) (by assumption) ?_
         simp only [lA, lB, lC]
         refine take1 7 177 (.agg #[.int .i64 tk1, .int .i64 tk2]) rfl rfl (by kernel_rfl) (by kernel_rfl) (by kernel_rfl) (fun _ _ _ h => h) (Or.inl ⟨by kernel_rfl, fun w hSw => by (try dsimp only at hSw); go_simp⟩) (by assumption) ?_
         simp only [lA, lB, lC]
         refine wpAnyH_ready (rs := [8]) (by kernel_rfl) (by simp) ?_
         refine AllReadyH.cons rfl (fun K hK => ?_) AllReadyH.nil
         refine ready_value 23 (v := .pointer (some ⟨X449.heap.size, 0, none⟩)) (w' := X449.alloc (.cells #[.bool false, .int .i64 0, .int .i64 0] 23)) ?A ?B ?C ?_
         case A => kernel_rfl
         case C => rfl
         case B => exact run_alloc rfl (by go_simp)
         refine hK.out _ _ (Held.alloc _ hH450) (fun hH454 => ?_)
         clear hK K
         simp only [lA, lB, lC]
         have hN455 := size_alloc (.cells #[.bool false, .int .i64 0, .int .i64 0] 23) hN451
         have g456 := G.new X449 hN451
         have lt457 := g452.2.1
         have g458 := g452.alloc (.cells #[.bool false, .int .i64 0, .int .i64 0] 23)
         generalize X449.alloc (.cells #[.bool false, .int .i64 0, .int .i64 0] 23) = X453 at hH454 hN455 g456 g458 ⊢
         refine wpAnyH_ready (rs := [10]) (by kernel_rfl) (by simp) ?_
         refine AllReadyH.cons rfl (fun K hK => ?_) AllReadyH.nil
         have sz24 := g458.2.1
         have md24 := g458.2.2
         have sz23 := g456.2.1
         have md23 := g456.2.2
         have nq1 : X254.heap.size ≠ X449.heap.size := by omega
         have nq2 : X449.heap.size ≠ X254.heap.size := by omega
         have hF459 := fill3 tg0 tg1 tg2 g456 (by omega) (by simp only [List.forall_mem_cons, List.not_mem_nil, false_implies, implies_true, and_true]; omega) hH454
         have g461 := g458.store3 tg0 tg1 tg2 g456 (by omega) (by omega)
         obtain ⟨⟨g456_0, g456_1, g456_2, g456_3, g456_4, g456_5⟩, _, _⟩ := g456
         go_simp
         refine hK.out _ _ hF459.rest.rest.rest (fun hH460 => ?_)
         clear hK K g456_0 g456_1 g456_2 g456_3 g456_4 g456_5
         try simp only [lA, lB, lC]
         refine wpAnyH_ready (rs := [11]) (by kernel_rfl) (by simp) ?_
         refine AllReadyH.cons rfl (fun K hK => ?_) AllReadyH.nil
         have hF463 := fill2 tk1 tk2 g461 (by omega) (by simp only [List.forall_mem_cons, List.not_mem_nil, false_implies, implies_true, and_true]; omega) hF459
         obtain ⟨⟨g461_0, g461_1, g461_2, g461_3⟩, _, _⟩ := g461
         go_simp
         refine hK.out _ _ hF463.rest.rest.rest.rest.rest (fun hH464 => ?_)
         clear hK K g461_0 g461_1 g461_2 g461_3
         try simp only [lA, lB, lC]
         refine wpAnyH_done (by kernel_rfl) ?_ _
         try simp only [Act.put, List.getElem_toArray, List.getElem_cons_succ, List.getElem_cons_zero, lA, lB, lC]
         go_wp2_with fail
         go_meet
         exact ⟨_, _, rfl, rfl, hF463⟩
        ·
         refine ready_value 23 (v := .pointer (some ⟨X445.heap.size, 0, none⟩)) (w' := X445.alloc (.cells #[.bool false, .int .i64 0, .int .i64 0] 23)) ?A ?B ?C ?_
         case A => kernel_rfl
         case C => rfl
         case B => exact run_alloc rfl (by go_simp)
         refine hK.out _ _ (Held.alloc _ hH446) (fun hH467 => ?_)
         clear hK K
         simp only [lA, lB, lC]
         have hN468 := size_alloc (.cells #[.bool false, .int .i64 0, .int .i64 0] 23) hN447
         have g469 := G.new X445 hN447
         have lt470 := g448.2.1
         have g471 := g448.alloc (.cells #[.bool false, .int .i64 0, .int .i64 0] 23)
         generalize X445.alloc (.cells #[.bool false, .int .i64 0, .int .i64 0] 23) = X466 at hH467 hN468 g469 g471 ⊢
         refine wpAnyH_ready (rs := [4]) (by kernel_rfl) (by simp) ?_
         refine AllReadyH.cons rfl (fun K hK => ?_) AllReadyH.nil
         refine ready_call 175 ?A ?B (HG2.out _) ?C ?_
         case A => kernel_rfl
         case C => rfl
         case B => exact run_call rfl Tryd.call26 (by kernel_rfl)
         rintro e X472 ⟨rfl, hb⟩
         refine ⟨_, rfl, hK.out _ _ (Held.keep hb hH467) (fun hH473 => ?_)⟩
         clear hK K
         simp only [lA, lB, lC]
         have hN474 := Nat.le_trans hN468 hb.size
         have g475 := g471.below hb
         have g476 := g469.below hb
         clear hb
         refine take1 5 170 (.tuple #[.agg #[.bool tg0, .int .i64 tg1, .int .i64 tg2], .agg #[.int .i64 tk1, .int .i64 tk2]]) rfl rfl (by kernel_rfl) (by kernel_rfl) (by kernel_rfl) (fun _ _ _ h => h) (Or.inl ⟨by kernel_rfl, fun w hSw => by (try dsimp only at hSw); go_simp⟩) (by assumption) ?_
         simp only [lA, lB, lC]
         refine take1 6 176 (.agg #[.bool tg0, .int .i64 tg1, .int .i64 tg2]) rfl rfl (by kernel_rfl) (by kernel_rfl) (by kernel_rfl) (fun _ _ _ h => h) (Or.inl ⟨by kernel_rfl, fun w hSw => by (try dsimp only at hSw); go_simp⟩) (by assumption) ?_
         simp only [lA, lB, lC]
         refine take1 7 177 (.agg #[.int .i64 tk1, .int .i64 tk2]) rfl rfl (by kernel_rfl) (by kernel_rfl) (by kernel_rfl) (fun _ _ _ h => h) (Or.inl ⟨by kernel_rfl, fun w hSw => by (try dsimp only at hSw); go_simp⟩) (by assumption) ?_
         simp only [lA, lB, lC]
         refine wpAnyH_ready (rs := [10]) (by kernel_rfl) (by simp) ?_
         refine AllReadyH.cons rfl (fun K hK => ?_) AllReadyH.nil
         have sz24 := g475.2.1
         have md24 := g475.2.2
         have sz23 := g476.2.1
         have md23 := g476.2.2
         have nq1 : X254.heap.size ≠ X445.heap.size := by omega
         have nq2 : X445.heap.size ≠ X254.heap.size := by omega
         have hF477 := fill3 tg0 tg1 tg2 g476 (by omega) (by simp only [List.forall_mem_cons, List.not_mem_nil, false_implies, implies_true, and_true]; omega) hH473
         have g479 := g475.store3 tg0 tg1 tg2 g476 (by omega) (by omega)
         obtain ⟨⟨g476_0, g476_1, g476_2, g476_3, g476_4, g476_5⟩, _, _⟩ := g476
         go_simp
         refine hK.out _ _ hF477.rest.rest.rest (fun hH478 => ?_)
         clear hK K g476_0 g476_1 g476_2 g476_3 g476_4 g476_5
         try simp only [lA, lB, lC]
         refine wpAnyH_ready (rs := [11]) (by kernel_rfl) (by simp) ?_
         refine AllReadyH.cons rfl (fun K hK => ?_) AllReadyH.nil
         have hF481 := fill2 tk1 tk2 g479 (by omega) (by simp only [List.forall_mem_cons, List.not_mem_nil, false_implies, implies_true, and_true]; omega) hF477
         obtain ⟨⟨g479_0, g479_1, g479_2, g479_3⟩, _, _⟩ := g479
         go_simp
         refine hK.out _ _ hF481.rest.rest.rest.rest.rest (fun hH482 => ?_)
         clear hK K g479_0 g479_1 g479_2 g479_3
         try simp only [lA, lB, lC]
         refine wpAnyH_done (by kernel_rfl) ?_ _
         try simp only [Act.put, List.getElem_toArray, List.getElem_cons_succ, List.getElem_cons_zero, lA, lB, lC]
         go_wp2_with fail
         go_meet
         exact ⟨_, _, rfl, rfl, hF481⟩
       ·
        refine ready_value 23 (v := .pointer (some ⟨X441.heap.size, 0, none⟩)) (w' := X441.alloc (.cells #[.bool false, .int .i64 0, .int .i64 0] 23)) ?A ?B ?C ?_
        case A => kernel_rfl
        case C => rfl
        case B => exact run_alloc rfl (by go_simp)
        refine hK.out _ _ (Held.alloc _ hH442) (fun hH485 => ?_)
        clear hK K
        simp only [lA, lB, lC]
        have hN486 := size_alloc (.cells #[.bool false, .int .i64 0, .int .i64 0] 23) hN443
        have g487 := G.new X441 hN443
        have lt488 := g444.2.1
        have g489 := g444.alloc (.cells #[.bool false, .int .i64 0, .int .i64 0] 23)
        generalize X441.alloc (.cells #[.bool false, .int .i64 0, .int .i64 0] 23) = X484 at hH485 hN486 g487 g489 ⊢
        refine wpAnyH_ready (rs := [3]) (by kernel_rfl) (by simp) ?_
        refine AllReadyH.cons rfl (fun K hK => ?_) AllReadyH.nil
        refine ready_call 174 ?A ?B (HJ.out _) ?C ?_
        case A => kernel_rfl
        case C => rfl
        case B => exact run_call rfl Tryd.call48 (by kernel_rfl)
        rintro e X490 ⟨rfl, hb⟩
        refine ⟨_, rfl, hK.out _ _ (Held.keep hb hH485) (fun hH491 => ?_)⟩
        clear hK K
        simp only [lA, lB, lC]
        have hN492 := Nat.le_trans hN486 hb.size
        have g493 := g489.below hb
        have g494 := g487.below hb
        clear hb
        refine wpAnyH_ready (rs := [4]) (by kernel_rfl) (by simp) ?_
        refine AllReadyH.cons rfl (fun K hK => ?_) AllReadyH.nil
        refine ready_call 175 ?A ?B (HG2.out _) ?C ?_
        case A => kernel_rfl
        case C => rfl
        case B => exact run_call rfl Tryd.call26 (by kernel_rfl)
        rintro e X495 ⟨rfl, hb⟩
        refine ⟨_, rfl, hK.out _ _ (Held.keep hb hH491) (fun hH496 => ?_)⟩
        clear hK K
        simp only [lA, lB, lC]
        have hN497 := Nat.le_trans hN492 hb.size
        have g498 := g493.below hb
        have g499 := g494.below hb
        clear hb
        refine take1 5 170 (.tuple #[.agg #[.bool tg0, .int .i64 tg1, .int .i64 tg2], .agg #[.int .i64 tk1, .int .i64 tk2]]) rfl rfl (by kernel_rfl) (by kernel_rfl) (by kernel_rfl) (fun _ _ _ h => h) (Or.inl ⟨by kernel_rfl, fun w hSw => by (try dsimp only at hSw); go_simp⟩) (by assumption) ?_
        simp only [lA, lB, lC]
        refine take1 6 176 (.agg #[.bool tg0, .int .i64 tg1, .int .i64 tg2]) rfl rfl (by kernel_rfl) (by kernel_rfl) (by kernel_rfl) (fun _ _ _ h => h) (Or.inl ⟨by kernel_rfl, fun w hSw => by (try dsimp only at hSw); go_simp⟩) (by assumption) ?_
        simp only [lA, lB, lC]
        refine take1 7 177 (.agg #[.int .i64 tk1, .int .i64 tk2]) rfl rfl (by kernel_rfl) (by kernel_rfl) (by kernel_rfl) (fun _ _ _ h => h) (Or.inl ⟨by kernel_rfl, fun w hSw => by (try dsimp only at hSw); go_simp⟩) (by assumption) ?_
        simp only [lA, lB, lC]
        refine wpAnyH_ready (rs := [10]) (by kernel_rfl) (by simp) ?_
        refine AllReadyH.cons rfl (fun K hK => ?_) AllReadyH.nil
        have sz24 := g498.2.1
        have md24 := g498.2.2
        have sz23 := g499.2.1
        have md23 := g499.2.2
        have nq1 : X254.heap.size ≠ X441.heap.size := by omega
        have nq2 : X441.heap.size ≠ X254.heap.size := by omega
        have hF500 := fill3 tg0 tg1 tg2 g499 (by omega) (by simp only [List.forall_mem_cons, List.not_mem_nil, false_implies, implies_true, and_true]; omega) hH496
        have g502 := g498.store3 tg0 tg1 tg2 g499 (by omega) (by omega)
        obtain ⟨⟨g499_0, g499_1, g499_2, g499_3, g499_4, g499_5⟩, _, _⟩ := g499
        go_simp
        refine hK.out _ _ hF500.rest.rest.rest (fun hH501 => ?_)
        clear hK K g499_0 g499_1 g499_2 g499_3 g499_4 g499_5
        try simp only [lA, lB, lC]
        refine wpAnyH_ready (rs := [11]) (by kernel_rfl) (by simp) ?_
        refine AllReadyH.cons rfl (fun K hK => ?_) AllReadyH.nil
        have hF504 := fill2 tk1 tk2 g502 (by omega) (by simp only [List.forall_mem_cons, List.not_mem_nil, false_implies, implies_true, and_true]; omega) hF500
        obtain ⟨⟨g502_0, g502_1, g502_2, g502_3⟩, _, _⟩ := g502
        go_simp
        refine hK.out _ _ hF504.rest.rest.rest.rest.rest (fun hH505 => ?_)
        clear hK K g502_0 g502_1 g502_2 g502_3
        try simp only [lA, lB, lC]
        refine wpAnyH_done (by kernel_rfl) ?_ _
        try simp only [Act.put, List.getElem_toArray, List.getElem_cons_succ, List.getElem_cons_zero, lA, lB, lC]
        go_wp2_with fail
        go_meet
        exact ⟨_, _, rfl, rfl, hF504⟩
     case rest =>
      obtain ⟨n23, n24, rfl, rfl, hS⟩ := hcut
      obtain ⟨kB, kk⟩ := Held.open hS; simp only [List.forall_mem_cons, List.not_mem_nil, false_implies, implies_true, and_true] at kk; obtain ⟨⟨l0, k0⟩, ⟨l1, k1⟩, ⟨l2, k2⟩, ⟨l3, k3⟩, ⟨l4, k4⟩, ⟨l5, k5⟩, ⟨l6, k6⟩, ⟨l7, k7⟩, ⟨l8, k8⟩, ⟨l9, k9⟩, ⟨l10, k10⟩, ⟨l11, k11⟩, ⟨l12, k12⟩, ⟨l13, k13⟩, ⟨l14, k14⟩, ⟨l15, k15⟩, ⟨l16, k16⟩, ⟨l17, k17⟩, ⟨l18, k18⟩, ⟨l19, k19⟩, ⟨l20, k20⟩, ⟨l21, k21⟩, ⟨l22, k22⟩, ⟨l23, k23⟩, ⟨l24, k24⟩, ⟨l25, k25⟩, ⟨l26, k26⟩, ⟨l27, k27⟩, ⟨l28, k28⟩, ⟨l29, k29⟩, ⟨l30, k30⟩, ⟨l31, k31⟩, ⟨l32, k32⟩, ⟨l33, k33⟩, ⟨l34, k34⟩, ⟨l35, k35⟩, ⟨l36, k36⟩, ⟨l37, k37⟩, ⟨l38, k38⟩, ⟨l39, k39⟩, ⟨l40, k40⟩, ⟨l41, k41⟩, ⟨l42, k42⟩, ⟨l43, k43⟩⟩ := kk
      go_wp2_with (first | (go_at_call 21; with_reducible refine (HL1.out _).mono ?_; rintro e w1 ⟨rfl, hb⟩; replace hS := Held.keep hb hS; clear hb kB k0 l0 k1 l1 k2 l2 k3 l3 k4 l4 k5 l5 k6 l6 k7 l7 k8 l8 k9 l9 k10 l10 k11 l11 k12 l12 k13 l13 k14 l14 k15 l15 k16 l16 k17 l17 k18 l18 k19 l19 k20 l20 k21 l21 k22 l22 k23 l23 k24 l24 k25 l25 k26 l26 k27 l27 k28 l28 k29 l29 k30 l30 k31 l31 k32 l32 k33 l33 k34 l34 k35 l35 k36 l36 k37 l37 k38 l38 k39 l39 k40 l40 k41 l41 k42 l42 k43 l43; obtain ⟨kB, kk⟩ := Held.open hS; simp only [List.forall_mem_cons, List.not_mem_nil, false_implies, implies_true, and_true] at kk; obtain ⟨⟨l0, k0⟩, ⟨l1, k1⟩, ⟨l2, k2⟩, ⟨l3, k3⟩, ⟨l4, k4⟩, ⟨l5, k5⟩, ⟨l6, k6⟩, ⟨l7, k7⟩, ⟨l8, k8⟩, ⟨l9, k9⟩, ⟨l10, k10⟩, ⟨l11, k11⟩, ⟨l12, k12⟩, ⟨l13, k13⟩, ⟨l14, k14⟩, ⟨l15, k15⟩, ⟨l16, k16⟩, ⟨l17, k17⟩, ⟨l18, k18⟩, ⟨l19, k19⟩, ⟨l20, k20⟩, ⟨l21, k21⟩, ⟨l22, k22⟩, ⟨l23, k23⟩, ⟨l24, k24⟩, ⟨l25, k25⟩, ⟨l26, k26⟩, ⟨l27, k27⟩, ⟨l28, k28⟩, ⟨l29, k29⟩, ⟨l30, k30⟩, ⟨l31, k31⟩, ⟨l32, k32⟩, ⟨l33, k33⟩, ⟨l34, k34⟩, ⟨l35, k35⟩, ⟨l36, k36⟩, ⟨l37, k37⟩, ⟨l38, k38⟩, ⟨l39, k39⟩, ⟨l40, k40⟩, ⟨l41, k41⟩, ⟨l42, k42⟩, ⟨l43, k43⟩⟩ := kk) | (go_at_call 21; with_reducible refine (HL2.out _).mono ?_; rintro e w1 ⟨rfl, hb⟩; replace hS := Held.keep hb hS; clear hb kB k0 l0 k1 l1 k2 l2 k3 l3 k4 l4 k5 l5 k6 l6 k7 l7 k8 l8 k9 l9 k10 l10 k11 l11 k12 l12 k13 l13 k14 l14 k15 l15 k16 l16 k17 l17 k18 l18 k19 l19 k20 l20 k21 l21 k22 l22 k23 l23 k24 l24 k25 l25 k26 l26 k27 l27 k28 l28 k29 l29 k30 l30 k31 l31 k32 l32 k33 l33 k34 l34 k35 l35 k36 l36 k37 l37 k38 l38 k39 l39 k40 l40 k41 l41 k42 l42 k43 l43; obtain ⟨kB, kk⟩ := Held.open hS; simp only [List.forall_mem_cons, List.not_mem_nil, false_implies, implies_true, and_true] at kk; obtain ⟨⟨l0, k0⟩, ⟨l1, k1⟩, ⟨l2, k2⟩, ⟨l3, k3⟩, ⟨l4, k4⟩, ⟨l5, k5⟩, ⟨l6, k6⟩, ⟨l7, k7⟩, ⟨l8, k8⟩, ⟨l9, k9⟩, ⟨l10, k10⟩, ⟨l11, k11⟩, ⟨l12, k12⟩, ⟨l13, k13⟩, ⟨l14, k14⟩, ⟨l15, k15⟩, ⟨l16, k16⟩, ⟨l17, k17⟩, ⟨l18, k18⟩, ⟨l19, k19⟩, ⟨l20, k20⟩, ⟨l21, k21⟩, ⟨l22, k22⟩, ⟨l23, k23⟩, ⟨l24, k24⟩, ⟨l25, k25⟩, ⟨l26, k26⟩, ⟨l27, k27⟩, ⟨l28, k28⟩, ⟨l29, k29⟩, ⟨l30, k30⟩, ⟨l31, k31⟩, ⟨l32, k32⟩, ⟨l33, k33⟩, ⟨l34, k34⟩, ⟨l35, k35⟩, ⟨l36, k36⟩, ⟨l37, k37⟩, ⟨l38, k38⟩, ⟨l39, k39⟩, ⟨l40, k40⟩, ⟨l41, k41⟩, ⟨l42, k42⟩, ⟨l43, k43⟩⟩ := kk) | (go_at_call 21; with_reducible refine (HL3.out _).mono ?_; rintro e w1 ⟨rfl, hb⟩; replace hS := Held.keep hb hS; clear hb kB k0 l0 k1 l1 k2 l2 k3 l3 k4 l4 k5 l5 k6 l6 k7 l7 k8 l8 k9 l9 k10 l10 k11 l11 k12 l12 k13 l13 k14 l14 k15 l15 k16 l16 k17 l17 k18 l18 k19 l19 k20 l20 k21 l21 k22 l22 k23 l23 k24 l24 k25 l25 k26 l26 k27 l27 k28 l28 k29 l29 k30 l30 k31 l31 k32 l32 k33 l33 k34 l34 k35 l35 k36 l36 k37 l37 k38 l38 k39 l39 k40 l40 k41 l41 k42 l42 k43 l43; obtain ⟨kB, kk⟩ := Held.open hS; simp only [List.forall_mem_cons, List.not_mem_nil, false_implies, implies_true, and_true] at kk; obtain ⟨⟨l0, k0⟩, ⟨l1, k1⟩, ⟨l2, k2⟩, ⟨l3, k3⟩, ⟨l4, k4⟩, ⟨l5, k5⟩, ⟨l6, k6⟩, ⟨l7, k7⟩, ⟨l8, k8⟩, ⟨l9, k9⟩, ⟨l10, k10⟩, ⟨l11, k11⟩, ⟨l12, k12⟩, ⟨l13, k13⟩, ⟨l14, k14⟩, ⟨l15, k15⟩, ⟨l16, k16⟩, ⟨l17, k17⟩, ⟨l18, k18⟩, ⟨l19, k19⟩, ⟨l20, k20⟩, ⟨l21, k21⟩, ⟨l22, k22⟩, ⟨l23, k23⟩, ⟨l24, k24⟩, ⟨l25, k25⟩, ⟨l26, k26⟩, ⟨l27, k27⟩, ⟨l28, k28⟩, ⟨l29, k29⟩, ⟨l30, k30⟩, ⟨l31, k31⟩, ⟨l32, k32⟩, ⟨l33, k33⟩, ⟨l34, k34⟩, ⟨l35, k35⟩, ⟨l36, k36⟩, ⟨l37, k37⟩, ⟨l38, k38⟩, ⟨l39, k39⟩, ⟨l40, k40⟩, ⟨l41, k41⟩, ⟨l42, k42⟩, ⟨l43, k43⟩⟩ := kk) | (go_at_call 49; with_reducible refine (HR.out _).mono ?_; rintro e w1 ⟨rfl, hb⟩; replace hS := Held.keep hb hS; clear hb kB k0 l0 k1 l1 k2 l2 k3 l3 k4 l4 k5 l5 k6 l6 k7 l7 k8 l8 k9 l9 k10 l10 k11 l11 k12 l12 k13 l13 k14 l14 k15 l15 k16 l16 k17 l17 k18 l18 k19 l19 k20 l20 k21 l21 k22 l22 k23 l23 k24 l24 k25 l25 k26 l26 k27 l27 k28 l28 k29 l29 k30 l30 k31 l31 k32 l32 k33 l33 k34 l34 k35 l35 k36 l36 k37 l37 k38 l38 k39 l39 k40 l40 k41 l41 k42 l42 k43 l43; obtain ⟨kB, kk⟩ := Held.open hS; simp only [List.forall_mem_cons, List.not_mem_nil, false_implies, implies_true, and_true] at kk; obtain ⟨⟨l0, k0⟩, ⟨l1, k1⟩, ⟨l2, k2⟩, ⟨l3, k3⟩, ⟨l4, k4⟩, ⟨l5, k5⟩, ⟨l6, k6⟩, ⟨l7, k7⟩, ⟨l8, k8⟩, ⟨l9, k9⟩, ⟨l10, k10⟩, ⟨l11, k11⟩, ⟨l12, k12⟩, ⟨l13, k13⟩, ⟨l14, k14⟩, ⟨l15, k15⟩, ⟨l16, k16⟩, ⟨l17, k17⟩, ⟨l18, k18⟩, ⟨l19, k19⟩, ⟨l20, k20⟩, ⟨l21, k21⟩, ⟨l22, k22⟩, ⟨l23, k23⟩, ⟨l24, k24⟩, ⟨l25, k25⟩, ⟨l26, k26⟩, ⟨l27, k27⟩, ⟨l28, k28⟩, ⟨l29, k29⟩, ⟨l30, k30⟩, ⟨l31, k31⟩, ⟨l32, k32⟩, ⟨l33, k33⟩, ⟨l34, k34⟩, ⟨l35, k35⟩, ⟨l36, k36⟩, ⟨l37, k37⟩, ⟨l38, k38⟩, ⟨l39, k39⟩, ⟨l40, k40⟩, ⟨l41, k41⟩, ⟨l42, k42⟩, ⟨l43, k43⟩⟩ := kk) | (go_at_call 18; with_reducible refine (HAw.out _).mono ?_; rintro e w1 ⟨rfl, hb⟩; replace hS := Held.keep hb hS; clear hb kB k0 l0 k1 l1 k2 l2 k3 l3 k4 l4 k5 l5 k6 l6 k7 l7 k8 l8 k9 l9 k10 l10 k11 l11 k12 l12 k13 l13 k14 l14 k15 l15 k16 l16 k17 l17 k18 l18 k19 l19 k20 l20 k21 l21 k22 l22 k23 l23 k24 l24 k25 l25 k26 l26 k27 l27 k28 l28 k29 l29 k30 l30 k31 l31 k32 l32 k33 l33 k34 l34 k35 l35 k36 l36 k37 l37 k38 l38 k39 l39 k40 l40 k41 l41 k42 l42 k43 l43; obtain ⟨kB, kk⟩ := Held.open hS; simp only [List.forall_mem_cons, List.not_mem_nil, false_implies, implies_true, and_true] at kk; obtain ⟨⟨l0, k0⟩, ⟨l1, k1⟩, ⟨l2, k2⟩, ⟨l3, k3⟩, ⟨l4, k4⟩, ⟨l5, k5⟩, ⟨l6, k6⟩, ⟨l7, k7⟩, ⟨l8, k8⟩, ⟨l9, k9⟩, ⟨l10, k10⟩, ⟨l11, k11⟩, ⟨l12, k12⟩, ⟨l13, k13⟩, ⟨l14, k14⟩, ⟨l15, k15⟩, ⟨l16, k16⟩, ⟨l17, k17⟩, ⟨l18, k18⟩, ⟨l19, k19⟩, ⟨l20, k20⟩, ⟨l21, k21⟩, ⟨l22, k22⟩, ⟨l23, k23⟩, ⟨l24, k24⟩, ⟨l25, k25⟩, ⟨l26, k26⟩, ⟨l27, k27⟩, ⟨l28, k28⟩, ⟨l29, k29⟩, ⟨l30, k30⟩, ⟨l31, k31⟩, ⟨l32, k32⟩, ⟨l33, k33⟩, ⟨l34, k34⟩, ⟨l35, k35⟩, ⟨l36, k36⟩, ⟨l37, k37⟩, ⟨l38, k38⟩, ⟨l39, k39⟩, ⟨l40, k40⟩, ⟨l41, k41⟩, ⟨l42, k42⟩, ⟨l43, k43⟩⟩ := kk))
      go_ret
      exact ⟨rfl, hS.1⟩
end Go.Proofs.YtfmmjekhknaniaaDoor.Mn

