/- This claim's own texts, joined, with only what the claim uses: ParF. -/
import Derived.Test.YtgaoapnaplgaiaaGreatDoorZf13
namespace Go.Proofs.YtgaoapnaplgaiaaGreatDoor.Sc
set_option maxRecDepth 100000
open Go.RowKit Tk Go.Proofs.YtgaoapnaplgaiaaGreatDoor.Wd

theorem typ_d {c : Ctx} {a a' : Nat} {d d' : Int} {t : Int} (h : typS c a d = .ok t a' d') : d' = d := by
  unfold typS at h
  split at h
  · cases h; rfl
  · split at h
    · cases h; rfl
    · cases ho : wantS c 16 a d with
      | ok t a1 d1 => rw [ho] at h; have := want_d (by omega) ho; cases h; assumption
      | bad p er => rw [ho] at h; cases h
set_option maxHeartbeats 4000000 in
theorem decl14 {c : Ctx} (hG : Good c) {W : World} {a : Nat} {d fp fe : Int} (h : St c W a d fp fe) (hd : -900 ≤ d ∧ d ≤ 900) (k14 : kd c a = 14) (S : Out (Dec × Bool)) (hSp : Aside0 (S = (typS c (a + 1) d).bind fun ty a1 d => (nameS c a1 d).bind fun nm a1 d => (wantS c 12 a1 d).bind fun _ a1 d => (constantS c a1 d).bind fun lo a1 d => (wantS c 38 a1 d).bind fun _ a1 d => (constantS c a1 d).bind fun hi a1 d => semiS c ⟨3, ty, nm, z67, lo, hi, ps c a⟩ a1 d)) :
    Calls Tryz.prog 54 #[c.me] W (Post c W fp fe repD S) := by
  have h0 : ∀ o, St c (W.alloc o) a d fp fe := fun o => h.below ((Below.refl _ _).alloc (Nat.le_refl _) o)
  have h1 : ∀ o q o2, St c (((W.alloc o).drewN q).alloc o2) a d fp fe := fun o q o2 => ((h0 o).drewN q).below ((Below.refl _ _).alloc (Nat.le_refl _) o2)
  have PS := fun o => pos_call (h0 o)
  have KD := fun o q o2 => kind_call (h1 o q o2)
  rw [k14] at KD
  have hal := kd_lt k14 (by omega)
  have wa : IntKind.i64.wrap ((a : Int) + 1) = (a : Int) + 1 := IntWalk.i64_in _ (by have := hG.hl; omega)
  have s2 := fun o q o2 q2 => ((h1 o q o2).drewN q2).c2
  have f2 := fun o q o2 q2 => ((h1 o q o2).drewN q2).fz 2
  clear k14
  go_enter Tryz.func54, Tryz.ntmps54
  go_upto_region 14 with (first | (go_at_call 56; with_reducible refine (PS _).mono ?_; rintro e w' ⟨rfl, q, rfl⟩) | (go_at_call 55; with_reducible refine (KD _ _ _).mono ?_; rintro e w' ⟨rfl, q2, rfl⟩))
  have hT0 := (Two.lit (r := C69 ⟨0, 0, ⟨#[]⟩, z67, z67, z67, 0⟩) (v := C69 ⟨0, 0, ⟨#[]⟩, z67, z67, z67, ps c a⟩) (t := 69) h q q2).at hG h
  generalize ((((W.alloc _).drewN q).alloc _).drewN q2).setCell _ _ = X0 at hT0 ⊢
  clear s2 f2 PS KD h0 h1
  have hS0 := hT0.st hG h
  have CN := typ_call hG hS0 (by omega)
  go_upto_region 15 with (first | (go_at_call 97; (with_reducible refine CN.mono ?_); rintro e w hP; rcases hP.elim with ⟨ty, a1, d1, ho, hg, ⟨v, rfl, rfl⟩, hS⟩ | ⟨p, er, ho, hg, rfl, a', d', hS⟩; (have hT1 := hT0.call h hg hS; have z0 : w.cell? ⟨W.heap.size + 1, 0, none⟩ = some (.int .i64 0) := hT1.vc 0 rfl; have y0 := hT1.vf 0; have z1 : w.cell? ⟨W.heap.size + 1, 1, none⟩ = some (.int .i64 0) := hT1.vc 1 rfl; have y1 := hT1.vf 1; have z2 : w.cell? ⟨W.heap.size + 1, 2, none⟩ = some (.string ⟨#[]⟩) := hT1.vc 2 rfl; have y2 := hT1.vf 2)))
  case inr =>
    rw [show S = .bad p er by simp only [hSp.out, Out.bind, ho]]
    exact ⟨rfl, Post.mk_bad (grown_trans hT0.fr hg) hS⟩
  have ed := typ_d ho
  have q1 : Aside0 (typS c (a + 1) d = .ok ty a1 d1) := ⟨ho⟩
  clear ho hP
  subst ed
  have hT2 := (((hT1.put h 0 (.int .i64 3) (v' := #[.int .i64 3, .int .i64 0, .string ⟨#[]⟩, .string ⟨#[]⟩, .int .i64 0, .int .i64 0, .string ⟨#[]⟩, .int .i64 0, .int .i64 0, .string ⟨#[]⟩, .int .i64 0, .int .i64 0, .int .i64 (ps c a)]) rfl).put h 1 (.int .i64 ty) (v' := #[.int .i64 3, .int .i64 ty, .string ⟨#[]⟩, .string ⟨#[]⟩, .int .i64 0, .int .i64 0, .string ⟨#[]⟩, .int .i64 0, .int .i64 0, .string ⟨#[]⟩, .int .i64 0, .int .i64 0, .int .i64 (ps c a)]) rfl).put h 2 (.string ⟨#[]⟩) (v' := #[.int .i64 3, .int .i64 ty, .string ⟨#[]⟩, .string ⟨#[]⟩, .int .i64 0, .int .i64 0, .string ⟨#[]⟩, .int .i64 0, .int .i64 0, .string ⟨#[]⟩, .int .i64 0, .int .i64 0, .int .i64 (ps c a)]) rfl)
  generalize ((w.setCell _ _).setCell _ _).setCell _ _ = X1 at hT2 ⊢
  clear hT1 hT0 CN hg hS hS0 z0 y0 z1 y1 z2 y2
  have hT0 := hT2
  clear hT2
  have hS0 := hT0.st hG h
  have CN := name_call hG hS0 (by omega)
  go_upto_region 16 with (first | (go_at_call 57; (with_reducible refine CN.mono ?_); rintro e w hP; rcases hP.elim with ⟨nm, a2, d2, ho, hg, ⟨v, rfl, rfl⟩, hS⟩ | ⟨p, er, ho, hg, rfl, a', d', hS⟩; (have hT1 := hT0.call h hg hS; have z2 : w.cell? ⟨W.heap.size + 1, 2, none⟩ = some (.string ⟨#[]⟩) := hT1.vc 2 rfl; have y2 := hT1.vf 2)))
  case inr =>
    rw [show S = .bad p er by simp only [hSp.out, Out.bind, q1.out, ho]]
    exact ⟨rfl, Post.mk_bad (grown_trans hT0.fr hg) hS⟩
  have ed := name_d ho
  have q2 : Aside0 (nameS c a1 d1 = .ok nm a2 d2) := ⟨ho⟩
  clear ho hP
  subst ed
  have hT2 := (hT1.put h 2 (.string nm) (v' := #[.int .i64 3, .int .i64 ty, .string nm, .string ⟨#[]⟩, .int .i64 0, .int .i64 0, .string ⟨#[]⟩, .int .i64 0, .int .i64 0, .string ⟨#[]⟩, .int .i64 0, .int .i64 0, .int .i64 (ps c a)]) rfl)
  generalize w.setCell _ _ = X2 at hT2 ⊢
  clear hT1 hT0 CN hg hS hS0 z2 y2
  have hT0 := hT2
  clear hT2
  have hS0 := hT0.st hG h
  have CN := want_call hG hS0 (by omega) 12 (by omega)
  go_upto_region 17 with (first | (go_at_call 59; (with_reducible refine CN.mono ?_); rintro e w hP; rcases hP.elim with ⟨t1, a3, d3, ho, hg, ⟨v, rfl, rfl⟩, hS⟩ | ⟨p, er, ho, hg, rfl, a', d', hS⟩; (have hT1 := hT0.call h hg hS)))
  case inr =>
    rw [show S = .bad p er by simp only [hSp.out, Out.bind, q1.out, q2.out, ho]]
    exact ⟨rfl, Post.mk_bad (grown_trans hT0.fr hg) hS⟩
  have ed := want_d (by omega) ho
  have q3 : Aside0 (wantS c 12 a2 d2 = .ok t1 a3 d3) := ⟨ho⟩
  clear ho hP
  subst ed
  clear hT0 CN hg hS hS0
  have hT0 := hT1
  clear hT1
  have hS0 := hT0.st hG h
  have CN := constant_call hG hS0 (by omega)
  go_upto_region 18 with (first | (go_at_call 96; (with_reducible refine CN.mono ?_); rintro e w hP; rcases hP.elim with ⟨lo, a4, d4, ho, hg, ⟨v, rfl, rfl⟩, hS⟩ | ⟨p, er, ho, hg, rfl, a', d', hS⟩; (have hT1 := hT0.call h hg hS; have z6 : w.cell? ⟨W.heap.size + 1, 6, none⟩ = some (.string ⟨#[]⟩) := hT1.vc 6 rfl; have y6 := hT1.vf 6; have z7 : w.cell? ⟨W.heap.size + 1, 7, none⟩ = some (.int .i64 0) := hT1.vc 7 rfl; have y7 := hT1.vf 7; have z8 : w.cell? ⟨W.heap.size + 1, 8, none⟩ = some (.int .i64 0) := hT1.vc 8 rfl; have y8 := hT1.vf 8)))
  case inr =>
    rw [show S = .bad p er by simp only [hSp.out, Out.bind, q1.out, q2.out, q3.out, ho]]
    exact ⟨rfl, Post.mk_bad (grown_trans hT0.fr hg) hS⟩
  have ed := constant_d ho
  have q4 : Aside0 (constantS c a3 d3 = .ok lo a4 d4) := ⟨ho⟩
  clear ho hP
  subst ed
  have hT2 := (((hT1.put h 6 (.string lo.1) (v' := #[.int .i64 3, .int .i64 ty, .string nm, .string ⟨#[]⟩, .int .i64 0, .int .i64 0, .string lo.1, .int .i64 0, .int .i64 0, .string ⟨#[]⟩, .int .i64 0, .int .i64 0, .int .i64 (ps c a)]) rfl).put h 7 (.int .i64 lo.2.1) (v' := #[.int .i64 3, .int .i64 ty, .string nm, .string ⟨#[]⟩, .int .i64 0, .int .i64 0, .string lo.1, .int .i64 lo.2.1, .int .i64 0, .string ⟨#[]⟩, .int .i64 0, .int .i64 0, .int .i64 (ps c a)]) rfl).put h 8 (.int .i64 lo.2.2) (v' := #[.int .i64 3, .int .i64 ty, .string nm, .string ⟨#[]⟩, .int .i64 0, .int .i64 0, .string lo.1, .int .i64 lo.2.1, .int .i64 lo.2.2, .string ⟨#[]⟩, .int .i64 0, .int .i64 0, .int .i64 (ps c a)]) rfl)
  generalize ((w.setCell _ _).setCell _ _).setCell _ _ = X4 at hT2 ⊢
  clear hT1 hT0 CN hg hS hS0 z6 y6 z7 y7 z8 y8
  have hT0 := hT2
  clear hT2
  have hS0 := hT0.st hG h
  have CN := want_call hG hS0 (by omega) 38 (by omega)
  go_upto_region 19 with (first | (go_at_call 59; (with_reducible refine CN.mono ?_); rintro e w hP; rcases hP.elim with ⟨t2, a5, d5, ho, hg, ⟨v, rfl, rfl⟩, hS⟩ | ⟨p, er, ho, hg, rfl, a', d', hS⟩; (have hT1 := hT0.call h hg hS)))
  case inr =>
    rw [show S = .bad p er by simp only [hSp.out, Out.bind, q1.out, q2.out, q3.out, q4.out, ho]]
    exact ⟨rfl, Post.mk_bad (grown_trans hT0.fr hg) hS⟩
  have ed := want_d (by omega) ho
  have q5 : Aside0 (wantS c 38 a4 d4 = .ok t2 a5 d5) := ⟨ho⟩
  clear ho hP
  subst ed
  clear hT0 CN hg hS hS0
  have hT0 := hT1
  clear hT1
  have hS0 := hT0.st hG h
  have CN := constant_call hG hS0 (by omega)
  go_upto_region 29 with (first | (go_at_call 96; (with_reducible refine CN.mono ?_); rintro e w hP; rcases hP.elim with ⟨hi, a6, d6, ho, hg, ⟨v, rfl, rfl⟩, hS⟩ | ⟨p, er, ho, hg, rfl, a', d', hS⟩; (have hT1 := hT0.call h hg hS; have z9 : w.cell? ⟨W.heap.size + 1, 9, none⟩ = some (.string ⟨#[]⟩) := hT1.vc 9 rfl; have y9 := hT1.vf 9; have z10 : w.cell? ⟨W.heap.size + 1, 10, none⟩ = some (.int .i64 0) := hT1.vc 10 rfl; have y10 := hT1.vf 10; have z11 : w.cell? ⟨W.heap.size + 1, 11, none⟩ = some (.int .i64 0) := hT1.vc 11 rfl; have y11 := hT1.vf 11)))
  case inr =>
    rw [show S = .bad p er by simp only [hSp.out, Out.bind, q1.out, q2.out, q3.out, q4.out, q5.out, ho]]
    exact ⟨rfl, Post.mk_bad (grown_trans hT0.fr hg) hS⟩
  have ed := constant_d ho
  have q6 : Aside0 (constantS c a5 d5 = .ok hi a6 d6) := ⟨ho⟩
  clear ho hP
  subst ed
  have hT2 := (((hT1.put h 9 (.string hi.1) (v' := #[.int .i64 3, .int .i64 ty, .string nm, .string ⟨#[]⟩, .int .i64 0, .int .i64 0, .string lo.1, .int .i64 lo.2.1, .int .i64 lo.2.2, .string hi.1, .int .i64 0, .int .i64 0, .int .i64 (ps c a)]) rfl).put h 10 (.int .i64 hi.2.1) (v' := #[.int .i64 3, .int .i64 ty, .string nm, .string ⟨#[]⟩, .int .i64 0, .int .i64 0, .string lo.1, .int .i64 lo.2.1, .int .i64 lo.2.2, .string hi.1, .int .i64 hi.2.1, .int .i64 0, .int .i64 (ps c a)]) rfl).put h 11 (.int .i64 hi.2.2) (v' := #[.int .i64 3, .int .i64 ty, .string nm, .string ⟨#[]⟩, .int .i64 0, .int .i64 0, .string lo.1, .int .i64 lo.2.1, .int .i64 lo.2.2, .string hi.1, .int .i64 hi.2.1, .int .i64 hi.2.2, .int .i64 (ps c a)]) rfl)
  generalize ((w.setCell _ _).setCell _ _).setCell _ _ = X6 at hT2 ⊢
  clear hT1 hT0 CN hg hS hS0 z9 y9 z10 y10 z11 y11
  have hT0 := hT2
  clear hT2
  have hS0 := hT0.st hG h
  have CN := want_call hG hS0 (by omega) 41 (by omega)
  go_upto_region 30 with (first | (go_at_call 59; (with_reducible refine CN.mono ?_); rintro e w hP; rcases hP.elim with ⟨t3, a7, d7, ho, hg, ⟨v, rfl, rfl⟩, hS⟩ | ⟨p, er, ho, hg, rfl, a', d', hS⟩; (have hT1 := hT0.call h hg hS)))
  case inr =>
    rw [show S = .bad p er by simp only [hSp.out, semiS, Out.bind, q1.out, q2.out, q3.out, q4.out, q5.out, q6.out, ho]]
    exact ⟨rfl, Post.mk_bad (grown_trans hT0.fr hg) hS⟩
  have q7 : Aside0 (wantS c 41 a6 d6 = .ok t3 a7 d7) := ⟨ho⟩
  clear ho hP
  clear hT0 CN hg hS hS0
  have hT0 := hT1
  clear hT1
  have z0 : w.cell? ⟨W.heap.size + 1, 0, none⟩ = some (.int .i64 3) := hT0.vc 0 rfl; have y0 := hT0.vf 0; have z1 : w.cell? ⟨W.heap.size + 1, 1, none⟩ = some (.int .i64 ty) := hT0.vc 1 rfl; have y1 := hT0.vf 1; have z2 : w.cell? ⟨W.heap.size + 1, 2, none⟩ = some (.string nm) := hT0.vc 2 rfl; have y2 := hT0.vf 2; have z3 : w.cell? ⟨W.heap.size + 1, 3, none⟩ = some (.string ⟨#[]⟩) := hT0.vc 3 rfl; have y3 := hT0.vf 3; have z4 : w.cell? ⟨W.heap.size + 1, 4, none⟩ = some (.int .i64 0) := hT0.vc 4 rfl; have y4 := hT0.vf 4; have z5 : w.cell? ⟨W.heap.size + 1, 5, none⟩ = some (.int .i64 0) := hT0.vc 5 rfl; have y5 := hT0.vf 5; have z6 : w.cell? ⟨W.heap.size + 1, 6, none⟩ = some (.string lo.1) := hT0.vc 6 rfl; have y6 := hT0.vf 6; have z7 : w.cell? ⟨W.heap.size + 1, 7, none⟩ = some (.int .i64 lo.2.1) := hT0.vc 7 rfl; have y7 := hT0.vf 7; have z8 : w.cell? ⟨W.heap.size + 1, 8, none⟩ = some (.int .i64 lo.2.2) := hT0.vc 8 rfl; have y8 := hT0.vf 8; have z9 : w.cell? ⟨W.heap.size + 1, 9, none⟩ = some (.string hi.1) := hT0.vc 9 rfl; have y9 := hT0.vf 9; have z10 : w.cell? ⟨W.heap.size + 1, 10, none⟩ = some (.int .i64 hi.2.1) := hT0.vc 10 rfl; have y10 := hT0.vf 10; have z11 : w.cell? ⟨W.heap.size + 1, 11, none⟩ = some (.int .i64 hi.2.2) := hT0.vc 11 rfl; have y11 := hT0.vf 11; have z12 : w.cell? ⟨W.heap.size + 1, 12, none⟩ = some (.int .i64 (ps c a)) := hT0.vc 12 rfl; have y12 := hT0.vf 12
  have x0 := hT0.rf 0; have r0 : w.cell? ⟨W.heap.size, 0, none⟩ = some (.int .i64 0) := hT0.rc 0 rfl; have x1 := hT0.rf 1; have r1 : w.cell? ⟨W.heap.size, 1, none⟩ = some (.int .i64 0) := hT0.rc 1 rfl; have x2 := hT0.rf 2; have r2 : w.cell? ⟨W.heap.size, 2, none⟩ = some (.string ⟨#[]⟩) := hT0.rc 2 rfl; have x3 := hT0.rf 3; have r3 : w.cell? ⟨W.heap.size, 3, none⟩ = some (.string ⟨#[]⟩) := hT0.rc 3 rfl; have x4 := hT0.rf 4; have r4 : w.cell? ⟨W.heap.size, 4, none⟩ = some (.int .i64 0) := hT0.rc 4 rfl; have x5 := hT0.rf 5; have r5 : w.cell? ⟨W.heap.size, 5, none⟩ = some (.int .i64 0) := hT0.rc 5 rfl; have x6 := hT0.rf 6; have r6 : w.cell? ⟨W.heap.size, 6, none⟩ = some (.string ⟨#[]⟩) := hT0.rc 6 rfl; have x7 := hT0.rf 7; have r7 : w.cell? ⟨W.heap.size, 7, none⟩ = some (.int .i64 0) := hT0.rc 7 rfl; have x8 := hT0.rf 8; have r8 : w.cell? ⟨W.heap.size, 8, none⟩ = some (.int .i64 0) := hT0.rc 8 rfl; have x9 := hT0.rf 9; have r9 : w.cell? ⟨W.heap.size, 9, none⟩ = some (.string ⟨#[]⟩) := hT0.rc 9 rfl; have x10 := hT0.rf 10; have r10 : w.cell? ⟨W.heap.size, 10, none⟩ = some (.int .i64 0) := hT0.rc 10 rfl; have x11 := hT0.rf 11; have r11 : w.cell? ⟨W.heap.size, 11, none⟩ = some (.int .i64 0) := hT0.rc 11 rfl; have x12 := hT0.rf 12; have r12 : w.cell? ⟨W.heap.size, 12, none⟩ = some (.int .i64 0) := hT0.rc 12 rfl
  have hSv : Aside0 (S = .ok (⟨3, ty, nm, z67, lo, hi, ps c a⟩, true) a7 d7) := ⟨by simp only [hSp.out, semiS, Out.bind, q1.out, q2.out, q3.out, q4.out, q5.out, q6.out, q7.out]⟩
  clear hal wa hSp q1 q2 q3 q4 q5 q6 q7
  go_wp2
  have hTR := Two.all69 h (.int .i64 0) (.int .i64 0) (.string ⟨#[]⟩) (.string ⟨#[]⟩) (.int .i64 0) (.int .i64 0) (.string ⟨#[]⟩) (.int .i64 0) (.int .i64 0) (.string ⟨#[]⟩) (.int .i64 0) (.int .i64 0) (.int .i64 0) (.int .i64 3) (.int .i64 ty) (.string nm) (.string ⟨#[]⟩) (.int .i64 0) (.int .i64 0) (.string lo.1) (.int .i64 lo.2.1) (.int .i64 lo.2.2) (.string hi.1) (.int .i64 hi.2.1) (.int .i64 hi.2.2) (.int .i64 (ps c a)) hT0
  rw [hSv.out]
  exact bodyPost_ret (res_ct rfl _ _ W.heap.size 69 _ (0, 0) _ (.bool true) rfl rfl hTR.rb Tryz.underlying69 rfl (by kernel_rfl)) rfl (Post.mk_ok hTR.fr rfl (hTR.st hG h))
end Go.Proofs.YtgaoapnaplgaiaaGreatDoor.Sc

