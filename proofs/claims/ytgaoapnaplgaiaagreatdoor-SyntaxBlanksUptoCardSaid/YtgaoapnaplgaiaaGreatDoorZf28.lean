/- This claim's own texts, joined, with only what the claim uses: ParZd, ParE. -/
import Derived.Test.YtgaoapnaplgaiaaGreatDoorZf27
import Derived.Test.YtgaoapnaplgaiaaGreatDoorZf13
namespace Go.Proofs.YtgaoapnaplgaiaaGreatDoor.Sc
set_option maxRecDepth 100000
open Go.RowKit Tk Go.Proofs.YtgaoapnaplgaiaaGreatDoor.Wd

theorem stmt_reads {c : Ctx} (hG : Good c) (hg1 : 1 < c.g) : ∀ (f a0 : Nat), c.L.length + 1 ≤ f + a0 → ReadsA c 100 repSt (stmtS c f) a0
  | 0, a0, hf => fun W a d fp fe h hO ha hl => by omega
  | f + 1, a0, hf => by
    have ih := stmt_reads hG hg1 f (a0 + 1) (by omega)
    have hFB := blockS_fine (stmtS_fine (c := c) f (a0 + 1))
    have hRB := block_reads hG hg1 (stmtS_fine f (a0 + 1)) ih
    have hFE := exprS_fine (c := c) (a0 + 1)
    have hRE : Reads c 131 (exprS c) (a0 + 1) := (exprS_reads hG hg1).mono (Nat.zero_le _)
    have hFP := parensS_fine hFE
    have hRP := parens_reads hG hg1 hFE hRE
    intro W a d fp fe h hO ha hl h0 h1
    show Calls Tryz.prog 100 #[c.me] W (Post c W fp fe (repSt W.heap.size) (stmtOf c (exprS c) (blockS c (stmtS c f)) a d))
    unfold stmtOf
    by_cases n1 : kd c a = 1
    · rw [if_pos n1]
      exact st_asg hG hg1 hFE hRE W a d fp fe h hO ha hl h0 h1 n1
    rw [if_neg n1]
    by_cases n11 : kd c a = 11
    · rw [if_pos n11]
      exact st_branch (br := fun a d => branchS c (exprS c) (blockS c (stmtS c f)) (c.L.length + 1 - a) a d) hG hg1 (fun W a d fp fe h hO ha hl h0 h1 _ => branch_reads hG hg1 hFP hRP hFB hRB W a d fp fe h hO ha hl h0 h1 _ (by omega)) W a d fp fe h hO ha hl h0 h1 n11
    rw [if_neg n11]
    by_cases n27 : kd c a = 27
    · rw [if_pos n27]
      exact st_while hG hg1 hFP hRP hFB hRB W a d fp fe h hO ha hl h0 h1 n27
    rw [if_neg n27]
    by_cases n24 : kd c a = 24
    · rw [if_pos n24]
      exact st_choice (br := choiceS c (exprS c) (blockS c (stmtS c f))) hG hg1 (fun W a d fp fe h hO ha hl h0 h1 hk => choice_reads hG hg1 hFP hRP hFB hRB W a d fp fe h hO ha hl h0 h1 hk) W a d fp fe h hO ha hl h0 h1 n24
    rw [if_neg n24]
    by_cases n5 : kd c a = 5
    · rw [if_pos n5]
      exact st_call (a0 := a0) hG hg1 W a d fp fe h hO ha hl h0 h1 n5
    rw [if_neg n5]
    by_cases n4 : kd c a = 4
    · rw [if_pos n4]
      exact st_assert hG hg1 hFP hRP W a d fp fe h hO ha hl h0 h1 n4
    rw [if_neg n4]
    exact st_skip (a0 := a0) hG hg1 W a d fp fe h hO ha hl h0 h1 n1 n11 n27 n24 n5 n4
/-- The parser's block. -/
def blkS (c : Ctx) : Rd (List Stm) := blockS c (stmtS c (c.L.length + 1))
theorem blkS_fine {c : Ctx} (a0 : Nat) : Fine c (blkS c) a0 := blockS_fine (stmtS_fine _ _)
theorem blkS_reads {c : Ctx} (hG : Good c) (hg1 : 1 < c.g) (a0 : Nat) : ReadsA c 58 repBlk (blkS c) a0 := block_reads hG hg1 (stmtS_fine _ _) (stmt_reads hG hg1 _ _ (by omega))
end Go.Proofs.YtgaoapnaplgaiaaGreatDoor.Sc

namespace Go.Proofs.YtgaoapnaplgaiaaGreatDoor.Sc
set_option maxRecDepth 100000
open Go.RowKit Tk Go.Proofs.YtgaoapnaplgaiaaGreatDoor.Wd

set_option maxHeartbeats 1500000 in
theorem decl25 {c : Ctx} (hG : Good c) {W : World} {a : Nat} {d fp fe : Int} (h : St c W a d fp fe) (hd : -900 ≤ d ∧ d ≤ 900) (k25 : kd c a = 25) (S : Out (Dec × Bool)) (hSp : Aside0 (S = (constantS c (a + 1) d).bind fun lo a1 d => semiS c ⟨2, 0, ⟨#[]⟩, z67, lo, z67, ps c a⟩ a1 d)) :
    Calls Tryz.prog 54 #[c.me] W (Post c W fp fe repD S) := by
  have h0 : ∀ o, St c (W.alloc o) a d fp fe := fun o => h.below ((Below.refl _ _).alloc (Nat.le_refl _) o)
  have h1 : ∀ o q o2, St c (((W.alloc o).drewN q).alloc o2) a d fp fe := fun o q o2 => ((h0 o).drewN q).below ((Below.refl _ _).alloc (Nat.le_refl _) o2)
  have PS := fun o => pos_call (h0 o)
  have KD := fun o q o2 => kind_call (h1 o q o2)
  rw [k25] at KD
  have hal := kd_lt k25 (by omega)
  have wa : IntKind.i64.wrap ((a : Int) + 1) = (a : Int) + 1 := IntWalk.i64_in _ (by have := hG.hl; omega)
  have s2 := fun o q o2 q2 => ((h1 o q o2).drewN q2).c2
  have f2 := fun o q o2 q2 => ((h1 o q o2).drewN q2).fz 2
  clear k25
  go_enter Tryz.func54, Tryz.ntmps54
  go_upto_region 11 with (first | (go_at_call 56; with_reducible refine (PS _).mono ?_; rintro e w' ⟨rfl, q, rfl⟩) | (go_at_call 55; with_reducible refine (KD _ _ _).mono ?_; rintro e w' ⟨rfl, q2, rfl⟩))
  have hT := (Two.lit (r := C69 ⟨0, 0, ⟨#[]⟩, z67, z67, z67, 0⟩) (v := C69 ⟨0, 0, ⟨#[]⟩, z67, z67, z67, ps c a⟩) (t := 69) h q q2).at hG h
  generalize ((((W.alloc _).drewN q).alloc _).drewN q2).setCell _ _ = X1 at hT ⊢
  clear s2 f2 PS KD h0 h1
  have hS1 := hT.st hG h
  have CN := constant_call hG hS1 (by omega)
  go_upto_region 29 with (first | (go_at_call 96; (with_reducible refine CN.mono ?_); rintro e w3 hP; rcases hP.elim with ⟨lo, a3, d3, ho3, hg3, ⟨v, rfl, rfl⟩, hS⟩ | ⟨p, er, ho3, hg3, rfl, a', d', hS⟩; (have hT4 := hT.call h hg3 hS; have z0 : w3.cell? ⟨W.heap.size + 1, 0, none⟩ = some (.int .i64 0) := hT4.vc 0 rfl; have y0 := hT4.vf 0; have z6 : w3.cell? ⟨W.heap.size + 1, 6, none⟩ = some (.string ⟨#[]⟩) := hT4.vc 6 rfl; have y6 := hT4.vf 6; have z7 : w3.cell? ⟨W.heap.size + 1, 7, none⟩ = some (.int .i64 0) := hT4.vc 7 rfl; have y7 := hT4.vf 7; have z8 : w3.cell? ⟨W.heap.size + 1, 8, none⟩ = some (.int .i64 0) := hT4.vc 8 rfl; have y8 := hT4.vf 8)))
  case inr =>
    rw [show S = .bad p er by simp only [hSp.out, Out.bind, ho3]]
    exact ⟨rfl, Post.mk_bad (grown_trans hT.fr hg3) hS⟩
  have e3 := constant_d ho3
  have q3 : Aside0 (constantS c (a + 1) d = .ok lo a3 d3) := ⟨ho3⟩
  clear ho3
  subst e3
  have hT5 := (((hT4.put h 0 (.int .i64 2) (v' := C69 ⟨2, 0, ⟨#[]⟩, z67, z67, z67, ps c a⟩) rfl).put h 6 (.string lo.1) (v' := C69 ⟨2, 0, ⟨#[]⟩, z67, (lo.1, 0, 0), z67, ps c a⟩) rfl).put h 7 (.int .i64 lo.2.1) (v' := C69 ⟨2, 0, ⟨#[]⟩, z67, (lo.1, lo.2.1, 0), z67, ps c a⟩) rfl).put h 8 (.int .i64 lo.2.2) (v' := C69 ⟨2, 0, ⟨#[]⟩, z67, lo, z67, ps c a⟩) rfl
  generalize (((w3.setCell _ _).setCell _ _).setCell _ _).setCell _ _ = X5 at hT5 ⊢
  clear z0 z6 z7 z8 y0 y6 y7 y8 hT4 hT CN hg3 hS hS1
  have hS5 := hT5.st hG h
  have WE := want_call hG hS5 (by omega) 41 (by omega)
  go_upto_region 30 with (first | (go_at_call 59; (with_reducible refine WE.mono ?_); rintro e w4 hP; rcases hP.elim with ⟨t2, a4, d4, ho4, hg4, ⟨v, rfl, rfl⟩, hS⟩ | ⟨p, er, ho4, hg4, rfl, a', d', hS⟩; (have hT7 := hT5.call h hg4 hS)))
  case inr =>
    rw [show S = .bad p er by simp only [hSp.out, semiS, Out.bind, q3.out, ho4]]
    exact ⟨rfl, Post.mk_bad (grown_trans hT5.fr hg4) hS⟩
  have q4 : Aside0 (wantS c 41 a3 d3 = .ok t2 a4 d4) := ⟨ho4⟩
  clear ho4 hT5 WE hg4 hS hS5
  have z0 : w4.cell? ⟨W.heap.size + 1, 0, none⟩ = some (.int .i64 2) := hT7.vc 0 rfl; have y0 := hT7.vf 0; have z1 : w4.cell? ⟨W.heap.size + 1, 1, none⟩ = some (.int .i64 0) := hT7.vc 1 rfl; have y1 := hT7.vf 1; have z2 : w4.cell? ⟨W.heap.size + 1, 2, none⟩ = some (.string ⟨#[]⟩) := hT7.vc 2 rfl; have y2 := hT7.vf 2; have z3 : w4.cell? ⟨W.heap.size + 1, 3, none⟩ = some (.string ⟨#[]⟩) := hT7.vc 3 rfl; have y3 := hT7.vf 3; have z4 : w4.cell? ⟨W.heap.size + 1, 4, none⟩ = some (.int .i64 0) := hT7.vc 4 rfl; have y4 := hT7.vf 4; have z5 : w4.cell? ⟨W.heap.size + 1, 5, none⟩ = some (.int .i64 0) := hT7.vc 5 rfl; have y5 := hT7.vf 5; have z6 : w4.cell? ⟨W.heap.size + 1, 6, none⟩ = some (.string lo.1) := hT7.vc 6 rfl; have y6 := hT7.vf 6; have z7 : w4.cell? ⟨W.heap.size + 1, 7, none⟩ = some (.int .i64 lo.2.1) := hT7.vc 7 rfl; have y7 := hT7.vf 7; have z8 : w4.cell? ⟨W.heap.size + 1, 8, none⟩ = some (.int .i64 lo.2.2) := hT7.vc 8 rfl; have y8 := hT7.vf 8; have z9 : w4.cell? ⟨W.heap.size + 1, 9, none⟩ = some (.string ⟨#[]⟩) := hT7.vc 9 rfl; have y9 := hT7.vf 9; have z10 : w4.cell? ⟨W.heap.size + 1, 10, none⟩ = some (.int .i64 0) := hT7.vc 10 rfl; have y10 := hT7.vf 10; have z11 : w4.cell? ⟨W.heap.size + 1, 11, none⟩ = some (.int .i64 0) := hT7.vc 11 rfl; have y11 := hT7.vf 11; have z12 : w4.cell? ⟨W.heap.size + 1, 12, none⟩ = some (.int .i64 (ps c a)) := hT7.vc 12 rfl; have y12 := hT7.vf 12
  have x0 := hT7.rf 0; have r0 : w4.cell? ⟨W.heap.size, 0, none⟩ = some (.int .i64 0) := hT7.rc 0 rfl; have x1 := hT7.rf 1; have r1 : w4.cell? ⟨W.heap.size, 1, none⟩ = some (.int .i64 0) := hT7.rc 1 rfl; have x2 := hT7.rf 2; have r2 : w4.cell? ⟨W.heap.size, 2, none⟩ = some (.string ⟨#[]⟩) := hT7.rc 2 rfl; have x3 := hT7.rf 3; have r3 : w4.cell? ⟨W.heap.size, 3, none⟩ = some (.string ⟨#[]⟩) := hT7.rc 3 rfl; have x4 := hT7.rf 4; have r4 : w4.cell? ⟨W.heap.size, 4, none⟩ = some (.int .i64 0) := hT7.rc 4 rfl; have x5 := hT7.rf 5; have r5 : w4.cell? ⟨W.heap.size, 5, none⟩ = some (.int .i64 0) := hT7.rc 5 rfl; have x6 := hT7.rf 6; have r6 : w4.cell? ⟨W.heap.size, 6, none⟩ = some (.string ⟨#[]⟩) := hT7.rc 6 rfl; have x7 := hT7.rf 7; have r7 : w4.cell? ⟨W.heap.size, 7, none⟩ = some (.int .i64 0) := hT7.rc 7 rfl; have x8 := hT7.rf 8; have r8 : w4.cell? ⟨W.heap.size, 8, none⟩ = some (.int .i64 0) := hT7.rc 8 rfl; have x9 := hT7.rf 9; have r9 : w4.cell? ⟨W.heap.size, 9, none⟩ = some (.string ⟨#[]⟩) := hT7.rc 9 rfl; have x10 := hT7.rf 10; have r10 : w4.cell? ⟨W.heap.size, 10, none⟩ = some (.int .i64 0) := hT7.rc 10 rfl; have x11 := hT7.rf 11; have r11 : w4.cell? ⟨W.heap.size, 11, none⟩ = some (.int .i64 0) := hT7.rc 11 rfl; have x12 := hT7.rf 12; have r12 : w4.cell? ⟨W.heap.size, 12, none⟩ = some (.int .i64 0) := hT7.rc 12 rfl
  have hSv : Aside0 (S = .ok (⟨2, 0, ⟨#[]⟩, z67, lo, z67, ps c a⟩, true) a4 d4) := ⟨by simp only [hSp.out, semiS, Out.bind, q3.out, q4.out]⟩
  clear hal wa hSp q3 q4
  go_wp2
  have hTR := Two.all69 h (.int .i64 0) (.int .i64 0) (.string ⟨#[]⟩) (.string ⟨#[]⟩) (.int .i64 0) (.int .i64 0) (.string ⟨#[]⟩) (.int .i64 0) (.int .i64 0) (.string ⟨#[]⟩) (.int .i64 0) (.int .i64 0) (.int .i64 0) (.int .i64 2) (.int .i64 0) (.string ⟨#[]⟩) (.string ⟨#[]⟩) (.int .i64 0) (.int .i64 0) (.string lo.1) (.int .i64 lo.2.1) (.int .i64 lo.2.2) (.string ⟨#[]⟩) (.int .i64 0) (.int .i64 0) (.int .i64 (ps c a)) hT7
  rw [hSv.out]
  exact bodyPost_ret (res_ct rfl _ _ W.heap.size 69 _ (0, 0) _ (.bool true) rfl rfl hTR.rb Tryz.underlying69 rfl (by kernel_rfl)) rfl (Post.mk_ok hTR.fr rfl (hTR.st hG h))
set_option maxHeartbeats 1500000 in
theorem decl0 {c : Ctx} (hG : Good c) {W : World} {a : Nat} {d fp fe : Int} (h : St c W a d fp fe) (n8 : kd c a ≠ 8) (n25 : kd c a ≠ 25) (n14 : kd c a ≠ 14) (n26 : kd c a ≠ 26) :
    Calls Tryz.prog 54 #[c.me] W (Post c W fp fe repD (.ok (⟨0, 0, ⟨#[]⟩, z67, z67, z67, ps c a⟩, false) a d)) := by
  have h0 : ∀ o, St c (W.alloc o) a d fp fe := fun o => h.below ((Below.refl _ _).alloc (Nat.le_refl _) o)
  have h1 : ∀ o q o2, St c (((W.alloc o).drewN q).alloc o2) a d fp fe := fun o q o2 => ((h0 o).drewN q).below ((Below.refl _ _).alloc (Nat.le_refl _) o2)
  have PS := fun o => pos_call (h0 o)
  have KD := fun o q o2 => kind_call (h1 o q o2)
  have b1 : (kd c a == 8) = false := beq_eq_false_iff_ne.mpr n8
  have b2 : (kd c a == 25) = false := beq_eq_false_iff_ne.mpr n25
  have b3 : (kd c a == 14) = false := beq_eq_false_iff_ne.mpr n14
  have b4 : (kd c a == 26) = false := beq_eq_false_iff_ne.mpr n26
  clear n8 n25 n14 n26
  go_enter Tryz.func54, Tryz.ntmps54
  go_upto_region 3 with (first | (go_at_call 56; with_reducible refine (PS _).mono ?_; rintro e w' ⟨rfl, q, rfl⟩) | (go_at_call 55; with_reducible refine (KD _ _ _).mono ?_; rintro e w' ⟨rfl, q2, rfl⟩))
  have hT7 := Two.lit (r := C69 ⟨0, 0, ⟨#[]⟩, z67, z67, z67, 0⟩) (v := C69 ⟨0, 0, ⟨#[]⟩, z67, z67, z67, ps c a⟩) (t := 69) h q q2
  generalize ((((W.alloc _).drewN q).alloc _).drewN q2) = w4 at hT7 ⊢
  clear PS KD h0 h1 b1 b2 b3 b4
  have z0 : w4.cell? ⟨W.heap.size + 1, 0, none⟩ = some (.int .i64 0) := hT7.vc 0 rfl; have y0 := hT7.vf 0; have z1 : w4.cell? ⟨W.heap.size + 1, 1, none⟩ = some (.int .i64 0) := hT7.vc 1 rfl; have y1 := hT7.vf 1; have z2 : w4.cell? ⟨W.heap.size + 1, 2, none⟩ = some (.string ⟨#[]⟩) := hT7.vc 2 rfl; have y2 := hT7.vf 2; have z3 : w4.cell? ⟨W.heap.size + 1, 3, none⟩ = some (.string ⟨#[]⟩) := hT7.vc 3 rfl; have y3 := hT7.vf 3; have z4 : w4.cell? ⟨W.heap.size + 1, 4, none⟩ = some (.int .i64 0) := hT7.vc 4 rfl; have y4 := hT7.vf 4; have z5 : w4.cell? ⟨W.heap.size + 1, 5, none⟩ = some (.int .i64 0) := hT7.vc 5 rfl; have y5 := hT7.vf 5; have z6 : w4.cell? ⟨W.heap.size + 1, 6, none⟩ = some (.string ⟨#[]⟩) := hT7.vc 6 rfl; have y6 := hT7.vf 6; have z7 : w4.cell? ⟨W.heap.size + 1, 7, none⟩ = some (.int .i64 0) := hT7.vc 7 rfl; have y7 := hT7.vf 7; have z8 : w4.cell? ⟨W.heap.size + 1, 8, none⟩ = some (.int .i64 0) := hT7.vc 8 rfl; have y8 := hT7.vf 8; have z9 : w4.cell? ⟨W.heap.size + 1, 9, none⟩ = some (.string ⟨#[]⟩) := hT7.vc 9 rfl; have y9 := hT7.vf 9; have z10 : w4.cell? ⟨W.heap.size + 1, 10, none⟩ = some (.int .i64 0) := hT7.vc 10 rfl; have y10 := hT7.vf 10; have z11 : w4.cell? ⟨W.heap.size + 1, 11, none⟩ = some (.int .i64 0) := hT7.vc 11 rfl; have y11 := hT7.vf 11; have z12 : w4.cell? ⟨W.heap.size + 1, 12, none⟩ = some (.int .i64 (ps c a)) := hT7.vc 12 rfl; have y12 := hT7.vf 12
  have x0 := hT7.rf 0; have r0 : w4.cell? ⟨W.heap.size, 0, none⟩ = some (.int .i64 0) := hT7.rc 0 rfl; have x1 := hT7.rf 1; have r1 : w4.cell? ⟨W.heap.size, 1, none⟩ = some (.int .i64 0) := hT7.rc 1 rfl; have x2 := hT7.rf 2; have r2 : w4.cell? ⟨W.heap.size, 2, none⟩ = some (.string ⟨#[]⟩) := hT7.rc 2 rfl; have x3 := hT7.rf 3; have r3 : w4.cell? ⟨W.heap.size, 3, none⟩ = some (.string ⟨#[]⟩) := hT7.rc 3 rfl; have x4 := hT7.rf 4; have r4 : w4.cell? ⟨W.heap.size, 4, none⟩ = some (.int .i64 0) := hT7.rc 4 rfl; have x5 := hT7.rf 5; have r5 : w4.cell? ⟨W.heap.size, 5, none⟩ = some (.int .i64 0) := hT7.rc 5 rfl; have x6 := hT7.rf 6; have r6 : w4.cell? ⟨W.heap.size, 6, none⟩ = some (.string ⟨#[]⟩) := hT7.rc 6 rfl; have x7 := hT7.rf 7; have r7 : w4.cell? ⟨W.heap.size, 7, none⟩ = some (.int .i64 0) := hT7.rc 7 rfl; have x8 := hT7.rf 8; have r8 : w4.cell? ⟨W.heap.size, 8, none⟩ = some (.int .i64 0) := hT7.rc 8 rfl; have x9 := hT7.rf 9; have r9 : w4.cell? ⟨W.heap.size, 9, none⟩ = some (.string ⟨#[]⟩) := hT7.rc 9 rfl; have x10 := hT7.rf 10; have r10 : w4.cell? ⟨W.heap.size, 10, none⟩ = some (.int .i64 0) := hT7.rc 10 rfl; have x11 := hT7.rf 11; have r11 : w4.cell? ⟨W.heap.size, 11, none⟩ = some (.int .i64 0) := hT7.rc 11 rfl; have x12 := hT7.rf 12; have r12 : w4.cell? ⟨W.heap.size, 12, none⟩ = some (.int .i64 0) := hT7.rc 12 rfl
  go_wp2
  have hTR := Two.all69 h (.int .i64 0) (.int .i64 0) (.string ⟨#[]⟩) (.string ⟨#[]⟩) (.int .i64 0) (.int .i64 0) (.string ⟨#[]⟩) (.int .i64 0) (.int .i64 0) (.string ⟨#[]⟩) (.int .i64 0) (.int .i64 0) (.int .i64 0) (.int .i64 0) (.int .i64 0) (.string ⟨#[]⟩) (.string ⟨#[]⟩) (.int .i64 0) (.int .i64 0) (.string ⟨#[]⟩) (.int .i64 0) (.int .i64 0) (.string ⟨#[]⟩) (.int .i64 0) (.int .i64 0) (.int .i64 (ps c a)) hT7
  exact bodyPost_ret (res_ct rfl _ _ W.heap.size 69 _ (0, 0) _ (.bool false) rfl rfl hTR.rb Tryz.underlying69 rfl (by kernel_rfl)) rfl (Post.mk_ok hTR.fr rfl (hTR.st hG h))
end Go.Proofs.YtgaoapnaplgaiaaGreatDoor.Sc

