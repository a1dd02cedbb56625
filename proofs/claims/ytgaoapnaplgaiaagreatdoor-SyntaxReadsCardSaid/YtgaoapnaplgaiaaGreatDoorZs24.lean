/- This claim's own texts, joined, with only what the claim uses: ParZd, ParE, ParF, ParG, ParH, ParZe, SimA, SimB. -/
import Derived.Test.YtgaoapnaplgaiaaGreatDoorZs23
import Derived.Test.YtgaoapnaplgaiaaGreatDoorZs10
namespace Go.Proofs.YtgaoapnaplgaiaaGreatDoor.Sc
set_option maxRecDepth 100000
open Go.RowKit Tk Go.Proofs.YtgaoapnaplgaiaaGreatDoor.Wd
theorem stmt_reads {c:Ctx} (hG:Good c) (hg1:1<c.g):∀(f a0:Nat),c.L.length+1≤f+a0→ReadsA c 100 repSt (stmtS c f) a0
 | 0,a0,hf=>fun W a d fp fe h hO ha hl=>by omega
 | f+1,a0,hf=>by
  have ih:=stmt_reads hG hg1 f (a0+1) (by omega)
  have hFB:=blockS_fine (stmtS_fine (c:=c) f (a0+1))
  have hRB:=block_reads hG hg1 (stmtS_fine f (a0+1)) ih
  have hFE:=exprS_fine (c:=c) (a0+1)
  have hRE:Reads c 131 (exprS c) (a0+1):=(exprS_reads hG hg1).mono (Nat.zero_le _)
  have hFP:=parensS_fine hFE
  have hRP:=parens_reads hG hg1 hFE hRE
  intro W a d fp fe h hO ha hl h0 h1
  show Calls Tryz.prog 100 #[c.me] W (Post c W fp fe (repSt W.heap.size) (stmtOf c (exprS c) (blockS c (stmtS c f)) a d))
  unfold stmtOf
  by_cases n1:kd c a=1
  ·rw [if_pos n1]
   exact st_asg hG hg1 hFE hRE W a d fp fe h hO ha hl h0 h1 n1
  rw [if_neg n1]
  by_cases n11:kd c a=11
  ·rw [if_pos n11]
   exact st_branch (br:=fun a d=>brS c (exprS c) (blockS c (stmtS c f)) (c.L.length+1 - a) a d) hG hg1 (fun W a d fp fe h hO ha hl h0 h1 _=>branch_reads hG hg1 hFP hRP hFB hRB W a d fp fe h hO ha hl h0 h1 _ (by omega)) W a d fp fe h hO ha hl h0 h1 n11
  rw [if_neg n11]
  by_cases n27:kd c a=27
  ·rw [if_pos n27]
   exact st_while hG hg1 hFP hRP hFB hRB W a d fp fe h hO ha hl h0 h1 n27
  rw [if_neg n27]
  by_cases n24:kd c a=24
  ·rw [if_pos n24]
   exact st_choice (br:=choiceS c (exprS c) (blockS c (stmtS c f))) hG hg1 (fun W a d fp fe h hO ha hl h0 h1 hk=>choice_reads hG hg1 hFP hRP hFB hRB W a d fp fe h hO ha hl h0 h1 hk) W a d fp fe h hO ha hl h0 h1 n24
  rw [if_neg n24]
  by_cases n5:kd c a=5
  ·rw [if_pos n5]
   exact st_call (a0:=a0) hG hg1 W a d fp fe h hO ha hl h0 h1 n5
  rw [if_neg n5]
  by_cases n4:kd c a=4
  ·rw [if_pos n4]
   exact st_assert hG hg1 hFP hRP W a d fp fe h hO ha hl h0 h1 n4
  rw [if_neg n4]
  exact st_skip (a0:=a0) hG hg1 W a d fp fe h hO ha hl h0 h1 n1 n11 n27 n24 n5 n4
def blkS (c:Ctx):Rd (List Stm):=blockS c (stmtS c (c.L.length+1))
theorem blkS_fine {c:Ctx} (a0:Nat):Fine c (blkS c) a0:=blockS_fine (stmtS_fine _ _)
theorem blkS_reads {c:Ctx} (hG:Good c) (hg1:1<c.g) (a0:Nat):ReadsA c 58 repBlk (blkS c) a0:=block_reads hG hg1 (stmtS_fine _ _) (stmt_reads hG hg1 _ _ (by omega))
set_option maxHeartbeats 1500000 in
theorem decl25 {c:Ctx} (hG:Good c) {W:World} {a:Nat} {d fp fe:Int} (h:St c W a d fp fe) (hd:-900≤d∧d≤900) (k25:kd c a=25) (S:Out (Dec × Bool)) (hSp:A0 (S=(coS c (a+1) d).bind fun lo a1 d=>semiS c ⟨2,0,⟨#[]⟩,z67,lo,z67,ps c a⟩ a1 d)) :
  Calls Tryz.prog 54 #[c.me] W (Post c W fp fe repD S):=by
 have h0:∀o,St c (W.alloc o) a d fp fe:=fun o=>h.below (bA _ o)
 have h1:∀o q o2,St c (((W.alloc o).drewN q).alloc o2) a d fp fe:=fun o q o2=>((h0 o).drewN q).below (bA _ o2)
 have PS:=fun o=>qC (h0 o)
 have KD:=fun o q o2=>kC (h1 o q o2)
 rw [k25] at KD
 have hal:=kd_lt k25 (by omega)
 have wa:IntKind.i64.wrap ((a:Int)+1)=(a:Int)+1:=IntWalk.i64_in _ (by have:=hG.hl;omega)
 have s2:=fun o q o2 q2=>((h1 o q o2).drewN q2).c2
 have f2:=fun o q o2 q2=>((h1 o q o2).drewN q2).fz 2
 clear k25
 go_enter Tryz.func54,Tryz.ntmps54
 go_upto_region 11 with (first|(go_at_call 56;with_reducible refine (PS _).mono ?_;rintro e w' ⟨rfl,q,rfl⟩)|(go_at_call 55;with_reducible refine (KD _ _ _).mono ?_;rintro e w' ⟨rfl,q2,rfl⟩))
 have hT:=(Two.lit (r:=C69 ⟨0,0,⟨#[]⟩,z67,z67,z67,0⟩) (v:=C69 ⟨0,0,⟨#[]⟩,z67,z67,z67,ps c a⟩) (t:=69) h q q2).at hG h
 generalize ((((W.alloc _).drewN q).alloc _).drewN q2).setCell _ _=X1 at hT ⊢
 clear s2 f2 PS KD h0 h1
 have hS1:=hT.st hG h
 have CN:=constant_call hG hS1 (by omega)
 go_upto_region 29 with (first|(go_at_call 96;(with_reducible refine CN.mono ?_);rintro e w3 hP;rcases hP.elim with ⟨lo,a3,d3,ho3,hg3,⟨v,rfl,rfl⟩,hS⟩|⟨p,er,ho3,hg3,rfl,a',d',hS⟩;(have hT4:=hT.call h hg3 hS;have z0:w3.cell? ⟨W.heap.size+1,0,none⟩=some (.int .i64 0):=hT4.vc 0 rfl;have y0:=hT4.vf 0;have z6:w3.cell? ⟨W.heap.size+1,6,none⟩=some (.string ⟨#[]⟩):=hT4.vc 6 rfl;have y6:=hT4.vf 6;have z7:w3.cell? ⟨W.heap.size+1,7,none⟩=some (.int .i64 0):=hT4.vc 7 rfl;have y7:=hT4.vf 7;have z8:w3.cell? ⟨W.heap.size+1,8,none⟩=some (.int .i64 0):=hT4.vc 8 rfl;have y8:=hT4.vf 8)))
 case inr =>
  rw [show S=.bad p er by simp only [hSp.out,Out.bind,ho3]]
  exact ⟨rfl,Post.mk_bad (Q4 hT.fr hg3) hS⟩
 have e3:=constant_d ho3
 have q3:A0 (coS c (a+1) d=.ok lo a3 d3):=⟨ho3⟩
 clear ho3
 subst e3
 have hT5:=(((hT4.put h 0 (.int .i64 2) (v':=C69 ⟨2,0,⟨#[]⟩,z67,z67,z67,ps c a⟩) rfl).put h 6 (.string lo.1) (v':=C69 ⟨2,0,⟨#[]⟩,z67,(lo.1,0,0),z67,ps c a⟩) rfl).put h 7 (.int .i64 lo.2.1) (v':=C69 ⟨2,0,⟨#[]⟩,z67,(lo.1,lo.2.1,0),z67,ps c a⟩) rfl).put h 8 (.int .i64 lo.2.2) (v':=C69 ⟨2,0,⟨#[]⟩,z67,lo,z67,ps c a⟩) rfl
 generalize (((w3.setCell _ _).setCell _ _).setCell _ _).setCell _ _=X5 at hT5 ⊢
 clear z0 z6 z7 z8 y0 y6 y7 y8 hT4 hT CN hg3 hS hS1
 have hS5:=hT5.st hG h
 have WE:=wC hG hS5 (by omega) 41 (by omega)
 go_upto_region 30 with (first|(go_at_call 59;(with_reducible refine WE.mono ?_);rintro e w4 hP;rcases hP.elim with ⟨t2,a4,d4,ho4,hg4,⟨v,rfl,rfl⟩,hS⟩|⟨p,er,ho4,hg4,rfl,a',d',hS⟩;(have hT7:=hT5.call h hg4 hS)))
 case inr =>
  rw [show S=.bad p er by simp only [hSp.out,semiS,Out.bind,q3.out,ho4]]
  exact ⟨rfl,Post.mk_bad (Q4 hT5.fr hg4) hS⟩
 have q4:A0 (wS c 41 a3 d3=.ok t2 a4 d4):=⟨ho4⟩
 clear ho4 hT5 WE hg4 hS hS5
 have z0:w4.cell? ⟨W.heap.size+1,0,none⟩=some (.int .i64 2):=hT7.vc 0 rfl;have y0:=hT7.vf 0;have z1:w4.cell? ⟨W.heap.size+1,1,none⟩=some (.int .i64 0):=hT7.vc 1 rfl;have y1:=hT7.vf 1;have z2:w4.cell? ⟨W.heap.size+1,2,none⟩=some (.string ⟨#[]⟩):=hT7.vc 2 rfl;have y2:=hT7.vf 2;have z3:w4.cell? ⟨W.heap.size+1,3,none⟩=some (.string ⟨#[]⟩):=hT7.vc 3 rfl;have y3:=hT7.vf 3;have z4:w4.cell? ⟨W.heap.size+1,4,none⟩=some (.int .i64 0):=hT7.vc 4 rfl;have y4:=hT7.vf 4;have z5:w4.cell? ⟨W.heap.size+1,5,none⟩=some (.int .i64 0):=hT7.vc 5 rfl;have y5:=hT7.vf 5;have z6:w4.cell? ⟨W.heap.size+1,6,none⟩=some (.string lo.1):=hT7.vc 6 rfl;have y6:=hT7.vf 6;have z7:w4.cell? ⟨W.heap.size+1,7,none⟩=some (.int .i64 lo.2.1):=hT7.vc 7 rfl;have y7:=hT7.vf 7;have z8:w4.cell? ⟨W.heap.size+1,8,none⟩=some (.int .i64 lo.2.2):=hT7.vc 8 rfl;have y8:=hT7.vf 8;have z9:w4.cell? ⟨W.heap.size+1,9,none⟩=some (.string ⟨#[]⟩):=hT7.vc 9 rfl;have y9:=hT7.vf 9;have z10:w4.cell? ⟨W.heap.size+1,10,none⟩=some (.int .i64 0):=hT7.vc 10 rfl;have y10:=hT7.vf 10;have z11:w4.cell? ⟨W.heap.size+1,11,none⟩=some (.int .i64 0):=hT7.vc 11 rfl;have y11:=hT7.vf 11;have z12:w4.cell? ⟨W.heap.size+1,12,none⟩=some (.int .i64 (ps c a)):=hT7.vc 12 rfl;have y12:=hT7.vf 12
 have x0:=hT7.rf 0;have r0:w4.cell? ⟨W.heap.size,0,none⟩=some (.int .i64 0):=hT7.rc 0 rfl;have x1:=hT7.rf 1;have r1:w4.cell? ⟨W.heap.size,1,none⟩=some (.int .i64 0):=hT7.rc 1 rfl;have x2:=hT7.rf 2;have r2:w4.cell? ⟨W.heap.size,2,none⟩=some (.string ⟨#[]⟩):=hT7.rc 2 rfl;have x3:=hT7.rf 3;have r3:w4.cell? ⟨W.heap.size,3,none⟩=some (.string ⟨#[]⟩):=hT7.rc 3 rfl;have x4:=hT7.rf 4;have r4:w4.cell? ⟨W.heap.size,4,none⟩=some (.int .i64 0):=hT7.rc 4 rfl;have x5:=hT7.rf 5;have r5:w4.cell? ⟨W.heap.size,5,none⟩=some (.int .i64 0):=hT7.rc 5 rfl;have x6:=hT7.rf 6;have r6:w4.cell? ⟨W.heap.size,6,none⟩=some (.string ⟨#[]⟩):=hT7.rc 6 rfl;have x7:=hT7.rf 7;have r7:w4.cell? ⟨W.heap.size,7,none⟩=some (.int .i64 0):=hT7.rc 7 rfl;have x8:=hT7.rf 8;have r8:w4.cell? ⟨W.heap.size,8,none⟩=some (.int .i64 0):=hT7.rc 8 rfl;have x9:=hT7.rf 9;have r9:w4.cell? ⟨W.heap.size,9,none⟩=some (.string ⟨#[]⟩):=hT7.rc 9 rfl;have x10:=hT7.rf 10;have r10:w4.cell? ⟨W.heap.size,10,none⟩=some (.int .i64 0):=hT7.rc 10 rfl;have x11:=hT7.rf 11;have r11:w4.cell? ⟨W.heap.size,11,none⟩=some (.int .i64 0):=hT7.rc 11 rfl;have x12:=hT7.rf 12;have r12:w4.cell? ⟨W.heap.size,12,none⟩=some (.int .i64 0):=hT7.rc 12 rfl
 have hSv:A0 (S=.ok (⟨2,0,⟨#[]⟩,z67,lo,z67,ps c a⟩,true) a4 d4):=⟨by simp only [hSp.out,semiS,Out.bind,q3.out,q4.out]⟩
 clear hal wa hSp q3 q4
 go_wp2
 have hTR:=Two.all69 h (.int .i64 0) (.int .i64 0) (.string ⟨#[]⟩) (.string ⟨#[]⟩) (.int .i64 0) (.int .i64 0) (.string ⟨#[]⟩) (.int .i64 0) (.int .i64 0) (.string ⟨#[]⟩) (.int .i64 0) (.int .i64 0) (.int .i64 0) (.int .i64 2) (.int .i64 0) (.string ⟨#[]⟩) (.string ⟨#[]⟩) (.int .i64 0) (.int .i64 0) (.string lo.1) (.int .i64 lo.2.1) (.int .i64 lo.2.2) (.string ⟨#[]⟩) (.int .i64 0) (.int .i64 0) (.int .i64 (ps c a)) hT7
 rw [hSv.out]
 exact bodyPost_ret (res_ct rfl _ _ W.heap.size 69 _ (0,0) _ (.bool true) rfl rfl hTR.rb Tryz.underlying69 rfl (by kernel_rfl)) rfl (Post.mk_ok hTR.fr rfl (hTR.st hG h))
set_option maxHeartbeats 1500000 in
theorem decl0 {c:Ctx} (hG:Good c) {W:World} {a:Nat} {d fp fe:Int} (h:St c W a d fp fe) (n8:kd c a≠8) (n25:kd c a≠25) (n14:kd c a≠14) (n26:kd c a≠26) :
  Calls Tryz.prog 54 #[c.me] W (Post c W fp fe repD (.ok (⟨0,0,⟨#[]⟩,z67,z67,z67,ps c a⟩,false) a d)):=by
 have h0:∀o,St c (W.alloc o) a d fp fe:=fun o=>h.below (bA _ o)
 have h1:∀o q o2,St c (((W.alloc o).drewN q).alloc o2) a d fp fe:=fun o q o2=>((h0 o).drewN q).below (bA _ o2)
 have PS:=fun o=>qC (h0 o)
 have KD:=fun o q o2=>kC (h1 o q o2)
 have b1:(kd c a==8)=false:=beq_eq_false_iff_ne.mpr n8
 have b2:(kd c a==25)=false:=beq_eq_false_iff_ne.mpr n25
 have b3:(kd c a==14)=false:=beq_eq_false_iff_ne.mpr n14
 have b4:(kd c a==26)=false:=beq_eq_false_iff_ne.mpr n26
 clear n8 n25 n14 n26
 go_enter Tryz.func54,Tryz.ntmps54
 go_upto_region 3 with (first|(go_at_call 56;with_reducible refine (PS _).mono ?_;rintro e w' ⟨rfl,q,rfl⟩)|(go_at_call 55;with_reducible refine (KD _ _ _).mono ?_;rintro e w' ⟨rfl,q2,rfl⟩))
 have hT7:=Two.lit (r:=C69 ⟨0,0,⟨#[]⟩,z67,z67,z67,0⟩) (v:=C69 ⟨0,0,⟨#[]⟩,z67,z67,z67,ps c a⟩) (t:=69) h q q2
 generalize ((((W.alloc _).drewN q).alloc _).drewN q2)=w4 at hT7 ⊢
 clear PS KD h0 h1 b1 b2 b3 b4
 have z0:w4.cell? ⟨W.heap.size+1,0,none⟩=some (.int .i64 0):=hT7.vc 0 rfl;have y0:=hT7.vf 0;have z1:w4.cell? ⟨W.heap.size+1,1,none⟩=some (.int .i64 0):=hT7.vc 1 rfl;have y1:=hT7.vf 1;have z2:w4.cell? ⟨W.heap.size+1,2,none⟩=some (.string ⟨#[]⟩):=hT7.vc 2 rfl;have y2:=hT7.vf 2;have z3:w4.cell? ⟨W.heap.size+1,3,none⟩=some (.string ⟨#[]⟩):=hT7.vc 3 rfl;have y3:=hT7.vf 3;have z4:w4.cell? ⟨W.heap.size+1,4,none⟩=some (.int .i64 0):=hT7.vc 4 rfl;have y4:=hT7.vf 4;have z5:w4.cell? ⟨W.heap.size+1,5,none⟩=some (.int .i64 0):=hT7.vc 5 rfl;have y5:=hT7.vf 5;have z6:w4.cell? ⟨W.heap.size+1,6,none⟩=some (.string ⟨#[]⟩):=hT7.vc 6 rfl;have y6:=hT7.vf 6;have z7:w4.cell? ⟨W.heap.size+1,7,none⟩=some (.int .i64 0):=hT7.vc 7 rfl;have y7:=hT7.vf 7;have z8:w4.cell? ⟨W.heap.size+1,8,none⟩=some (.int .i64 0):=hT7.vc 8 rfl;have y8:=hT7.vf 8;have z9:w4.cell? ⟨W.heap.size+1,9,none⟩=some (.string ⟨#[]⟩):=hT7.vc 9 rfl;have y9:=hT7.vf 9;have z10:w4.cell? ⟨W.heap.size+1,10,none⟩=some (.int .i64 0):=hT7.vc 10 rfl;have y10:=hT7.vf 10;have z11:w4.cell? ⟨W.heap.size+1,11,none⟩=some (.int .i64 0):=hT7.vc 11 rfl;have y11:=hT7.vf 11;have z12:w4.cell? ⟨W.heap.size+1,12,none⟩=some (.int .i64 (ps c a)):=hT7.vc 12 rfl;have y12:=hT7.vf 12
 have x0:=hT7.rf 0;have r0:w4.cell? ⟨W.heap.size,0,none⟩=some (.int .i64 0):=hT7.rc 0 rfl;have x1:=hT7.rf 1;have r1:w4.cell? ⟨W.heap.size,1,none⟩=some (.int .i64 0):=hT7.rc 1 rfl;have x2:=hT7.rf 2;have r2:w4.cell? ⟨W.heap.size,2,none⟩=some (.string ⟨#[]⟩):=hT7.rc 2 rfl;have x3:=hT7.rf 3;have r3:w4.cell? ⟨W.heap.size,3,none⟩=some (.string ⟨#[]⟩):=hT7.rc 3 rfl;have x4:=hT7.rf 4;have r4:w4.cell? ⟨W.heap.size,4,none⟩=some (.int .i64 0):=hT7.rc 4 rfl;have x5:=hT7.rf 5;have r5:w4.cell? ⟨W.heap.size,5,none⟩=some (.int .i64 0):=hT7.rc 5 rfl;have x6:=hT7.rf 6;have r6:w4.cell? ⟨W.heap.size,6,none⟩=some (.string ⟨#[]⟩):=hT7.rc 6 rfl;have x7:=hT7.rf 7;have r7:w4.cell? ⟨W.heap.size,7,none⟩=some (.int .i64 0):=hT7.rc 7 rfl;have x8:=hT7.rf 8;have r8:w4.cell? ⟨W.heap.size,8,none⟩=some (.int .i64 0):=hT7.rc 8 rfl;have x9:=hT7.rf 9;have r9:w4.cell? ⟨W.heap.size,9,none⟩=some (.string ⟨#[]⟩):=hT7.rc 9 rfl;have x10:=hT7.rf 10;have r10:w4.cell? ⟨W.heap.size,10,none⟩=some (.int .i64 0):=hT7.rc 10 rfl;have x11:=hT7.rf 11;have r11:w4.cell? ⟨W.heap.size,11,none⟩=some (.int .i64 0):=hT7.rc 11 rfl;have x12:=hT7.rf 12;have r12:w4.cell? ⟨W.heap.size,12,none⟩=some (.int .i64 0):=hT7.rc 12 rfl
 go_wp2
 have hTR:=Two.all69 h (.int .i64 0) (.int .i64 0) (.string ⟨#[]⟩) (.string ⟨#[]⟩) (.int .i64 0) (.int .i64 0) (.string ⟨#[]⟩) (.int .i64 0) (.int .i64 0) (.string ⟨#[]⟩) (.int .i64 0) (.int .i64 0) (.int .i64 0) (.int .i64 0) (.int .i64 0) (.string ⟨#[]⟩) (.string ⟨#[]⟩) (.int .i64 0) (.int .i64 0) (.string ⟨#[]⟩) (.int .i64 0) (.int .i64 0) (.string ⟨#[]⟩) (.int .i64 0) (.int .i64 0) (.int .i64 (ps c a)) hT7
 exact bodyPost_ret (res_ct rfl _ _ W.heap.size 69 _ (0,0) _ (.bool false) rfl rfl hTR.rb Tryz.underlying69 rfl (by kernel_rfl)) rfl (Post.mk_ok hTR.fr rfl (hTR.st hG h))
theorem typ_d {c:Ctx} {a a':Nat} {d d':Int} {t:Int} (h:typS c a d=.ok t a' d'):d'=d:=by
 unfold typS at h
 split at h
 ·cases h;rfl
 ·split at h
  ·cases h;rfl
  ·cases ho:wS c 16 a d with
   | ok t a1 d1=>rw [ho] at h;have:=want_d (by omega) ho;cases h;assumption
   | bad p er=>rw [ho] at h;cases h
set_option maxHeartbeats 4000000 in
theorem decl14 {c:Ctx} (hG:Good c) {W:World} {a:Nat} {d fp fe:Int} (h:St c W a d fp fe) (hd:-900≤d∧d≤900) (k14:kd c a=14) (S:Out (Dec × Bool)) (hSp:A0 (S=(typS c (a+1) d).bind fun ty a1 d=>(nS c a1 d).bind fun nm a1 d=>(wS c 12 a1 d).bind fun _ a1 d=>(coS c a1 d).bind fun lo a1 d=>(wS c 38 a1 d).bind fun _ a1 d=>(coS c a1 d).bind fun hi a1 d=>semiS c ⟨3,ty,nm,z67,lo,hi,ps c a⟩ a1 d)) :
  Calls Tryz.prog 54 #[c.me] W (Post c W fp fe repD S):=by
 have h0:∀o,St c (W.alloc o) a d fp fe:=fun o=>h.below (bA _ o)
 have h1:∀o q o2,St c (((W.alloc o).drewN q).alloc o2) a d fp fe:=fun o q o2=>((h0 o).drewN q).below (bA _ o2)
 have PS:=fun o=>qC (h0 o)
 have KD:=fun o q o2=>kC (h1 o q o2)
 rw [k14] at KD
 have hal:=kd_lt k14 (by omega)
 have wa:IntKind.i64.wrap ((a:Int)+1)=(a:Int)+1:=IntWalk.i64_in _ (by have:=hG.hl;omega)
 have s2:=fun o q o2 q2=>((h1 o q o2).drewN q2).c2
 have f2:=fun o q o2 q2=>((h1 o q o2).drewN q2).fz 2
 clear k14
 go_enter Tryz.func54,Tryz.ntmps54
 go_upto_region 14 with (first|(go_at_call 56;with_reducible refine (PS _).mono ?_;rintro e w' ⟨rfl,q,rfl⟩)|(go_at_call 55;with_reducible refine (KD _ _ _).mono ?_;rintro e w' ⟨rfl,q2,rfl⟩))
 have hT0:=(Two.lit (r:=C69 ⟨0,0,⟨#[]⟩,z67,z67,z67,0⟩) (v:=C69 ⟨0,0,⟨#[]⟩,z67,z67,z67,ps c a⟩) (t:=69) h q q2).at hG h
 generalize ((((W.alloc _).drewN q).alloc _).drewN q2).setCell _ _=X0 at hT0 ⊢
 clear s2 f2 PS KD h0 h1
 have hS0:=hT0.st hG h
 have CN:=typ_call hG hS0 (by omega)
 go_upto_region 15 with (first|(go_at_call 97;(with_reducible refine CN.mono ?_);rintro e w hP;rcases hP.elim with ⟨ty,a1,d1,ho,hg,⟨v,rfl,rfl⟩,hS⟩|⟨p,er,ho,hg,rfl,a',d',hS⟩;(have hT1:=hT0.call h hg hS;have z0:w.cell? ⟨W.heap.size+1,0,none⟩=some (.int .i64 0):=hT1.vc 0 rfl;have y0:=hT1.vf 0;have z1:w.cell? ⟨W.heap.size+1,1,none⟩=some (.int .i64 0):=hT1.vc 1 rfl;have y1:=hT1.vf 1;have z2:w.cell? ⟨W.heap.size+1,2,none⟩=some (.string ⟨#[]⟩):=hT1.vc 2 rfl;have y2:=hT1.vf 2)))
 case inr =>
  rw [show S=.bad p er by simp only [hSp.out,Out.bind,ho]]
  exact ⟨rfl,Post.mk_bad (Q4 hT0.fr hg) hS⟩
 have ed:=typ_d ho
 have q1:A0 (typS c (a+1) d=.ok ty a1 d1):=⟨ho⟩
 clear ho hP
 subst ed
 have hT2:=(((hT1.put h 0 (.int .i64 3) (v':=#[.int .i64 3,.int .i64 0,.string ⟨#[]⟩,.string ⟨#[]⟩,.int .i64 0,.int .i64 0,.string ⟨#[]⟩,.int .i64 0,.int .i64 0,.string ⟨#[]⟩,.int .i64 0,.int .i64 0,.int .i64 (ps c a)]) rfl).put h 1 (.int .i64 ty) (v':=#[.int .i64 3,.int .i64 ty,.string ⟨#[]⟩,.string ⟨#[]⟩,.int .i64 0,.int .i64 0,.string ⟨#[]⟩,.int .i64 0,.int .i64 0,.string ⟨#[]⟩,.int .i64 0,.int .i64 0,.int .i64 (ps c a)]) rfl).put h 2 (.string ⟨#[]⟩) (v':=#[.int .i64 3,.int .i64 ty,.string ⟨#[]⟩,.string ⟨#[]⟩,.int .i64 0,.int .i64 0,.string ⟨#[]⟩,.int .i64 0,.int .i64 0,.string ⟨#[]⟩,.int .i64 0,.int .i64 0,.int .i64 (ps c a)]) rfl)
 generalize ((w.setCell _ _).setCell _ _).setCell _ _=X1 at hT2 ⊢
 clear hT1 hT0 CN hg hS hS0 z0 y0 z1 y1 z2 y2
 have hT0:=hT2
 clear hT2
 have hS0:=hT0.st hG h
 have CN:=name_call hG hS0 (by omega)
 go_upto_region 16 with (first|(go_at_call 57;(with_reducible refine CN.mono ?_);rintro e w hP;rcases hP.elim with ⟨nm,a2,d2,ho,hg,⟨v,rfl,rfl⟩,hS⟩|⟨p,er,ho,hg,rfl,a',d',hS⟩;(have hT1:=hT0.call h hg hS;have z2:w.cell? ⟨W.heap.size+1,2,none⟩=some (.string ⟨#[]⟩):=hT1.vc 2 rfl;have y2:=hT1.vf 2)))
 case inr =>
  rw [show S=.bad p er by simp only [hSp.out,Out.bind,q1.out,ho]]
  exact ⟨rfl,Post.mk_bad (Q4 hT0.fr hg) hS⟩
 have ed:=name_d ho
 have q2:A0 (nS c a1 d1=.ok nm a2 d2):=⟨ho⟩
 clear ho hP
 subst ed
 have hT2:=(hT1.put h 2 (.string nm) (v':=#[.int .i64 3,.int .i64 ty,.string nm,.string ⟨#[]⟩,.int .i64 0,.int .i64 0,.string ⟨#[]⟩,.int .i64 0,.int .i64 0,.string ⟨#[]⟩,.int .i64 0,.int .i64 0,.int .i64 (ps c a)]) rfl)
 generalize w.setCell _ _=X2 at hT2 ⊢
 clear hT1 hT0 CN hg hS hS0 z2 y2
 have hT0:=hT2
 clear hT2
 have hS0:=hT0.st hG h
 have CN:=wC hG hS0 (by omega) 12 (by omega)
 go_upto_region 17 with (first|(go_at_call 59;(with_reducible refine CN.mono ?_);rintro e w hP;rcases hP.elim with ⟨t1,a3,d3,ho,hg,⟨v,rfl,rfl⟩,hS⟩|⟨p,er,ho,hg,rfl,a',d',hS⟩;(have hT1:=hT0.call h hg hS)))
 case inr =>
  rw [show S=.bad p er by simp only [hSp.out,Out.bind,q1.out,q2.out,ho]]
  exact ⟨rfl,Post.mk_bad (Q4 hT0.fr hg) hS⟩
 have ed:=want_d (by omega) ho
 have q3:A0 (wS c 12 a2 d2=.ok t1 a3 d3):=⟨ho⟩
 clear ho hP
 subst ed
 clear hT0 CN hg hS hS0
 have hT0:=hT1
 clear hT1
 have hS0:=hT0.st hG h
 have CN:=constant_call hG hS0 (by omega)
 go_upto_region 18 with (first|(go_at_call 96;(with_reducible refine CN.mono ?_);rintro e w hP;rcases hP.elim with ⟨lo,a4,d4,ho,hg,⟨v,rfl,rfl⟩,hS⟩|⟨p,er,ho,hg,rfl,a',d',hS⟩;(have hT1:=hT0.call h hg hS;have z6:w.cell? ⟨W.heap.size+1,6,none⟩=some (.string ⟨#[]⟩):=hT1.vc 6 rfl;have y6:=hT1.vf 6;have z7:w.cell? ⟨W.heap.size+1,7,none⟩=some (.int .i64 0):=hT1.vc 7 rfl;have y7:=hT1.vf 7;have z8:w.cell? ⟨W.heap.size+1,8,none⟩=some (.int .i64 0):=hT1.vc 8 rfl;have y8:=hT1.vf 8)))
 case inr =>
  rw [show S=.bad p er by simp only [hSp.out,Out.bind,q1.out,q2.out,q3.out,ho]]
  exact ⟨rfl,Post.mk_bad (Q4 hT0.fr hg) hS⟩
 have ed:=constant_d ho
 have q4:A0 (coS c a3 d3=.ok lo a4 d4):=⟨ho⟩
 clear ho hP
 subst ed
 have hT2:=(((hT1.put h 6 (.string lo.1) (v':=#[.int .i64 3,.int .i64 ty,.string nm,.string ⟨#[]⟩,.int .i64 0,.int .i64 0,.string lo.1,.int .i64 0,.int .i64 0,.string ⟨#[]⟩,.int .i64 0,.int .i64 0,.int .i64 (ps c a)]) rfl).put h 7 (.int .i64 lo.2.1) (v':=#[.int .i64 3,.int .i64 ty,.string nm,.string ⟨#[]⟩,.int .i64 0,.int .i64 0,.string lo.1,.int .i64 lo.2.1,.int .i64 0,.string ⟨#[]⟩,.int .i64 0,.int .i64 0,.int .i64 (ps c a)]) rfl).put h 8 (.int .i64 lo.2.2) (v':=#[.int .i64 3,.int .i64 ty,.string nm,.string ⟨#[]⟩,.int .i64 0,.int .i64 0,.string lo.1,.int .i64 lo.2.1,.int .i64 lo.2.2,.string ⟨#[]⟩,.int .i64 0,.int .i64 0,.int .i64 (ps c a)]) rfl)
 generalize ((w.setCell _ _).setCell _ _).setCell _ _=X4 at hT2 ⊢
 clear hT1 hT0 CN hg hS hS0 z6 y6 z7 y7 z8 y8
 have hT0:=hT2
 clear hT2
 have hS0:=hT0.st hG h
 have CN:=wC hG hS0 (by omega) 38 (by omega)
 go_upto_region 19 with (first|(go_at_call 59;(with_reducible refine CN.mono ?_);rintro e w hP;rcases hP.elim with ⟨t2,a5,d5,ho,hg,⟨v,rfl,rfl⟩,hS⟩|⟨p,er,ho,hg,rfl,a',d',hS⟩;(have hT1:=hT0.call h hg hS)))
 case inr =>
  rw [show S=.bad p er by simp only [hSp.out,Out.bind,q1.out,q2.out,q3.out,q4.out,ho]]
  exact ⟨rfl,Post.mk_bad (Q4 hT0.fr hg) hS⟩
 have ed:=want_d (by omega) ho
 have q5:A0 (wS c 38 a4 d4=.ok t2 a5 d5):=⟨ho⟩
 clear ho hP
 subst ed
 clear hT0 CN hg hS hS0
 have hT0:=hT1
 clear hT1
 have hS0:=hT0.st hG h
 have CN:=constant_call hG hS0 (by omega)
 go_upto_region 29 with (first|(go_at_call 96;(with_reducible refine CN.mono ?_);rintro e w hP;rcases hP.elim with ⟨hi,a6,d6,ho,hg,⟨v,rfl,rfl⟩,hS⟩|⟨p,er,ho,hg,rfl,a',d',hS⟩;(have hT1:=hT0.call h hg hS;have z9:w.cell? ⟨W.heap.size+1,9,none⟩=some (.string ⟨#[]⟩):=hT1.vc 9 rfl;have y9:=hT1.vf 9;have z10:w.cell? ⟨W.heap.size+1,10,none⟩=some (.int .i64 0):=hT1.vc 10 rfl;have y10:=hT1.vf 10;have z11:w.cell? ⟨W.heap.size+1,11,none⟩=some (.int .i64 0):=hT1.vc 11 rfl;have y11:=hT1.vf 11)))
 case inr =>
  rw [show S=.bad p er by simp only [hSp.out,Out.bind,q1.out,q2.out,q3.out,q4.out,q5.out,ho]]
  exact ⟨rfl,Post.mk_bad (Q4 hT0.fr hg) hS⟩
 have ed:=constant_d ho
 have q6:A0 (coS c a5 d5=.ok hi a6 d6):=⟨ho⟩
 clear ho hP
 subst ed
 have hT2:=(((hT1.put h 9 (.string hi.1) (v':=#[.int .i64 3,.int .i64 ty,.string nm,.string ⟨#[]⟩,.int .i64 0,.int .i64 0,.string lo.1,.int .i64 lo.2.1,.int .i64 lo.2.2,.string hi.1,.int .i64 0,.int .i64 0,.int .i64 (ps c a)]) rfl).put h 10 (.int .i64 hi.2.1) (v':=#[.int .i64 3,.int .i64 ty,.string nm,.string ⟨#[]⟩,.int .i64 0,.int .i64 0,.string lo.1,.int .i64 lo.2.1,.int .i64 lo.2.2,.string hi.1,.int .i64 hi.2.1,.int .i64 0,.int .i64 (ps c a)]) rfl).put h 11 (.int .i64 hi.2.2) (v':=#[.int .i64 3,.int .i64 ty,.string nm,.string ⟨#[]⟩,.int .i64 0,.int .i64 0,.string lo.1,.int .i64 lo.2.1,.int .i64 lo.2.2,.string hi.1,.int .i64 hi.2.1,.int .i64 hi.2.2,.int .i64 (ps c a)]) rfl)
 generalize ((w.setCell _ _).setCell _ _).setCell _ _=X6 at hT2 ⊢
 clear hT1 hT0 CN hg hS hS0 z9 y9 z10 y10 z11 y11
 have hT0:=hT2
 clear hT2
 have hS0:=hT0.st hG h
 have CN:=wC hG hS0 (by omega) 41 (by omega)
 go_upto_region 30 with (first|(go_at_call 59;(with_reducible refine CN.mono ?_);rintro e w hP;rcases hP.elim with ⟨t3,a7,d7,ho,hg,⟨v,rfl,rfl⟩,hS⟩|⟨p,er,ho,hg,rfl,a',d',hS⟩;(have hT1:=hT0.call h hg hS)))
 case inr =>
  rw [show S=.bad p er by simp only [hSp.out,semiS,Out.bind,q1.out,q2.out,q3.out,q4.out,q5.out,q6.out,ho]]
  exact ⟨rfl,Post.mk_bad (Q4 hT0.fr hg) hS⟩
 have q7:A0 (wS c 41 a6 d6=.ok t3 a7 d7):=⟨ho⟩
 clear ho hP
 clear hT0 CN hg hS hS0
 have hT0:=hT1
 clear hT1
 have z0:w.cell? ⟨W.heap.size+1,0,none⟩=some (.int .i64 3):=hT0.vc 0 rfl;have y0:=hT0.vf 0;have z1:w.cell? ⟨W.heap.size+1,1,none⟩=some (.int .i64 ty):=hT0.vc 1 rfl;have y1:=hT0.vf 1;have z2:w.cell? ⟨W.heap.size+1,2,none⟩=some (.string nm):=hT0.vc 2 rfl;have y2:=hT0.vf 2;have z3:w.cell? ⟨W.heap.size+1,3,none⟩=some (.string ⟨#[]⟩):=hT0.vc 3 rfl;have y3:=hT0.vf 3;have z4:w.cell? ⟨W.heap.size+1,4,none⟩=some (.int .i64 0):=hT0.vc 4 rfl;have y4:=hT0.vf 4;have z5:w.cell? ⟨W.heap.size+1,5,none⟩=some (.int .i64 0):=hT0.vc 5 rfl;have y5:=hT0.vf 5;have z6:w.cell? ⟨W.heap.size+1,6,none⟩=some (.string lo.1):=hT0.vc 6 rfl;have y6:=hT0.vf 6;have z7:w.cell? ⟨W.heap.size+1,7,none⟩=some (.int .i64 lo.2.1):=hT0.vc 7 rfl;have y7:=hT0.vf 7;have z8:w.cell? ⟨W.heap.size+1,8,none⟩=some (.int .i64 lo.2.2):=hT0.vc 8 rfl;have y8:=hT0.vf 8;have z9:w.cell? ⟨W.heap.size+1,9,none⟩=some (.string hi.1):=hT0.vc 9 rfl;have y9:=hT0.vf 9;have z10:w.cell? ⟨W.heap.size+1,10,none⟩=some (.int .i64 hi.2.1):=hT0.vc 10 rfl;have y10:=hT0.vf 10;have z11:w.cell? ⟨W.heap.size+1,11,none⟩=some (.int .i64 hi.2.2):=hT0.vc 11 rfl;have y11:=hT0.vf 11;have z12:w.cell? ⟨W.heap.size+1,12,none⟩=some (.int .i64 (ps c a)):=hT0.vc 12 rfl;have y12:=hT0.vf 12
 have x0:=hT0.rf 0;have r0:w.cell? ⟨W.heap.size,0,none⟩=some (.int .i64 0):=hT0.rc 0 rfl;have x1:=hT0.rf 1;have r1:w.cell? ⟨W.heap.size,1,none⟩=some (.int .i64 0):=hT0.rc 1 rfl;have x2:=hT0.rf 2;have r2:w.cell? ⟨W.heap.size,2,none⟩=some (.string ⟨#[]⟩):=hT0.rc 2 rfl;have x3:=hT0.rf 3;have r3:w.cell? ⟨W.heap.size,3,none⟩=some (.string ⟨#[]⟩):=hT0.rc 3 rfl;have x4:=hT0.rf 4;have r4:w.cell? ⟨W.heap.size,4,none⟩=some (.int .i64 0):=hT0.rc 4 rfl;have x5:=hT0.rf 5;have r5:w.cell? ⟨W.heap.size,5,none⟩=some (.int .i64 0):=hT0.rc 5 rfl;have x6:=hT0.rf 6;have r6:w.cell? ⟨W.heap.size,6,none⟩=some (.string ⟨#[]⟩):=hT0.rc 6 rfl;have x7:=hT0.rf 7;have r7:w.cell? ⟨W.heap.size,7,none⟩=some (.int .i64 0):=hT0.rc 7 rfl;have x8:=hT0.rf 8;have r8:w.cell? ⟨W.heap.size,8,none⟩=some (.int .i64 0):=hT0.rc 8 rfl;have x9:=hT0.rf 9;have r9:w.cell? ⟨W.heap.size,9,none⟩=some (.string ⟨#[]⟩):=hT0.rc 9 rfl;have x10:=hT0.rf 10;have r10:w.cell? ⟨W.heap.size,10,none⟩=some (.int .i64 0):=hT0.rc 10 rfl;have x11:=hT0.rf 11;have r11:w.cell? ⟨W.heap.size,11,none⟩=some (.int .i64 0):=hT0.rc 11 rfl;have x12:=hT0.rf 12;have r12:w.cell? ⟨W.heap.size,12,none⟩=some (.int .i64 0):=hT0.rc 12 rfl
 have hSv:A0 (S=.ok (⟨3,ty,nm,z67,lo,hi,ps c a⟩,true) a7 d7):=⟨by simp only [hSp.out,semiS,Out.bind,q1.out,q2.out,q3.out,q4.out,q5.out,q6.out,q7.out]⟩
 clear hal wa hSp q1 q2 q3 q4 q5 q6 q7
 go_wp2
 have hTR:=Two.all69 h (.int .i64 0) (.int .i64 0) (.string ⟨#[]⟩) (.string ⟨#[]⟩) (.int .i64 0) (.int .i64 0) (.string ⟨#[]⟩) (.int .i64 0) (.int .i64 0) (.string ⟨#[]⟩) (.int .i64 0) (.int .i64 0) (.int .i64 0) (.int .i64 3) (.int .i64 ty) (.string nm) (.string ⟨#[]⟩) (.int .i64 0) (.int .i64 0) (.string lo.1) (.int .i64 lo.2.1) (.int .i64 lo.2.2) (.string hi.1) (.int .i64 hi.2.1) (.int .i64 hi.2.2) (.int .i64 (ps c a)) hT0
 rw [hSv.out]
 exact bodyPost_ret (res_ct rfl _ _ W.heap.size 69 _ (0,0) _ (.bool true) rfl rfl hTR.rb Tryz.underlying69 rfl (by kernel_rfl)) rfl (Post.mk_ok hTR.fr rfl (hTR.st hG h))
theorem take48_d {c:Ctx} {a a':Nat} {d d':Int} {b:Bool} (h:takeS c 48 a d=.ok b a' d'):d'=d∨d'=d+1:=by
 unfold takeS at h
 split at h
 ·unfold wS at h
  rw [if_pos ‹_›,if_pos (by omega)] at h
  split at h <;> cases h
  exact .inr rfl
 ·cases h;exact .inl rfl
theorem want49_d {c:Ctx} {a a':Nat} {d d':Int} {t:Tok} (h:wS c 49 a d=.ok t a' d'):d - 1≤d'∧d'≤d - 1:=by
 unfold wS at h
 split at h
 ·rw [if_neg (by omega),if_pos (by omega)] at h
  cases h
  omega
 ·cases h
set_option maxHeartbeats 4000000 in
theorem decl26 {c:Ctx} (hG:Good c) {W:World} {a:Nat} {d fp fe:Int} (h:St c W a d fp fe) (hd:-800≤d∧d≤800) (k26:kd c a=26) (S:Out (Dec × Bool)) (hSp:A0 (S=(typS c (a+1) d).bind fun ty a1 d=>(nS c a1 d).bind fun nm a1 d=>(takeS c 48 a1 d).bind fun b a1 d=>(if b then (coS c a1 d).bind fun sz a1 d=>(wS c 49 a1 d).bind fun _ a1 d=>.ok (5,sz) a1 d else .ok ((4:Int),z67) a1 d:Out (Int × Con)).bind fun os a1 d=>(wS c 44 a1 d).bind fun _ a1 d=>(coS c a1 d).bind fun lo a1 d=>semiS c ⟨os.1,ty,nm,os.2,lo,z67,ps c a⟩ a1 d)) :
  Calls Tryz.prog 54 #[c.me] W (Post c W fp fe repD S):=by
 have h0:∀o,St c (W.alloc o) a d fp fe:=fun o=>h.below (bA _ o)
 have h1:∀o q o2,St c (((W.alloc o).drewN q).alloc o2) a d fp fe:=fun o q o2=>((h0 o).drewN q).below (bA _ o2)
 have PS:=fun o=>qC (h0 o)
 have KD:=fun o q o2=>kC (h1 o q o2)
 rw [k26] at KD
 have hal:=kd_lt k26 (by omega)
 have wa:IntKind.i64.wrap ((a:Int)+1)=(a:Int)+1:=IntWalk.i64_in _ (by have:=hG.hl;omega)
 have s2:=fun o q o2 q2=>((h1 o q o2).drewN q2).c2
 have f2:=fun o q o2 q2=>((h1 o q o2).drewN q2).fz 2
 clear k26
 go_enter Tryz.func54,Tryz.ntmps54
 go_upto_region 22 with (first|(go_at_call 56;with_reducible refine (PS _).mono ?_;rintro e w' ⟨rfl,q,rfl⟩)|(go_at_call 55;with_reducible refine (KD _ _ _).mono ?_;rintro e w' ⟨rfl,q2,rfl⟩))
 have hT0:=(Two.lit (r:=C69 ⟨0,0,⟨#[]⟩,z67,z67,z67,0⟩) (v:=C69 ⟨0,0,⟨#[]⟩,z67,z67,z67,ps c a⟩) (t:=69) h q q2).at hG h
 generalize ((((W.alloc _).drewN q).alloc _).drewN q2).setCell _ _=X0 at hT0 ⊢
 clear s2 f2 PS KD h0 h1
 have hS0:=hT0.st hG h
 have CN:=typ_call hG hS0 (by omega)
 go_upto_region 23 with (first|(go_at_call 97;(with_reducible refine CN.mono ?_);rintro e w hP;rcases hP.elim with ⟨ty,a1,d1,ho,hg,⟨v,rfl,rfl⟩,hS⟩|⟨p,er,ho,hg,rfl,a',d',hS⟩;(have hT1:=hT0.call h hg hS;have z0:w.cell? ⟨W.heap.size+1,0,none⟩=some (.int .i64 0):=hT1.vc 0 rfl;have y0:=hT1.vf 0;have z1:w.cell? ⟨W.heap.size+1,1,none⟩=some (.int .i64 0):=hT1.vc 1 rfl;have y1:=hT1.vf 1)))
 case inr =>
  rw [show S=.bad p er by simp only [hSp.out,Out.bind,ho]]
  exact ⟨rfl,Post.mk_bad (Q4 hT0.fr hg) hS⟩
 have ed:=typ_d ho
 have q1:A0 (typS c (a+1) d=.ok ty a1 d1):=⟨ho⟩
 clear ho hP
 subst ed
 have hT2:=((hT1.put h 0 (.int .i64 4) (v':=#[.int .i64 4,.int .i64 0,.string ⟨#[]⟩,.string ⟨#[]⟩,.int .i64 0,.int .i64 0,.string ⟨#[]⟩,.int .i64 0,.int .i64 0,.string ⟨#[]⟩,.int .i64 0,.int .i64 0,.int .i64 (ps c a)]) rfl).put h 1 (.int .i64 ty) (v':=#[.int .i64 4,.int .i64 ty,.string ⟨#[]⟩,.string ⟨#[]⟩,.int .i64 0,.int .i64 0,.string ⟨#[]⟩,.int .i64 0,.int .i64 0,.string ⟨#[]⟩,.int .i64 0,.int .i64 0,.int .i64 (ps c a)]) rfl)
 generalize (w.setCell _ _).setCell _ _=X1 at hT2 ⊢
 clear hT1 hT0 CN hg hS hS0 z0 y0 z1 y1
 have hT0:=hT2
 clear hT2
 have hS0:=hT0.st hG h
 have CN:=name_call hG hS0 (by omega)
 go_upto_region 24 with (first|(go_at_call 57;(with_reducible refine CN.mono ?_);rintro e w hP;rcases hP.elim with ⟨nm,a2,d2,ho,hg,⟨v,rfl,rfl⟩,hS⟩|⟨p,er,ho,hg,rfl,a',d',hS⟩;(have hT1:=hT0.call h hg hS;have z2:w.cell? ⟨W.heap.size+1,2,none⟩=some (.string ⟨#[]⟩):=hT1.vc 2 rfl;have y2:=hT1.vf 2)))
 case inr =>
  rw [show S=.bad p er by simp only [hSp.out,Out.bind,q1.out,ho]]
  exact ⟨rfl,Post.mk_bad (Q4 hT0.fr hg) hS⟩
 have ed:=name_d ho
 have q2:A0 (nS c a1 d1=.ok nm a2 d2):=⟨ho⟩
 clear ho hP
 subst ed
 have hT2:=(hT1.put h 2 (.string nm) (v':=#[.int .i64 4,.int .i64 ty,.string nm,.string ⟨#[]⟩,.int .i64 0,.int .i64 0,.string ⟨#[]⟩,.int .i64 0,.int .i64 0,.string ⟨#[]⟩,.int .i64 0,.int .i64 0,.int .i64 (ps c a)]) rfl)
 generalize w.setCell _ _=X2 at hT2 ⊢
 clear hT1 hT0 CN hg hS hS0 z2 y2
 have hT0:=hT2
 clear hT2
 have hS0:=hT0.st hG h
 have CN:=take_call hG hS0 (by omega) 48 (by omega)
 go_upto_if 86 with (first|(go_at_call 98;(with_reducible refine CN.mono ?_);rintro e w hP;rcases hP.elim with ⟨b,a3,d3,ho,hg,⟨v,rfl,rfl⟩,hS⟩|⟨p,er,ho,hg,rfl,a',d',hS⟩;(have hT1:=hT0.call h hg hS)))
 case inr =>
  rw [show S=.bad p er by simp only [hSp.out,Out.bind,q1.out,q2.out,ho]]
  exact ⟨rfl,Post.mk_bad (Q4 hT0.fr hg) hS⟩
 have et:=take48_d ho
 have q3:A0 (takeS c 48 a2 d2=.ok b a3 d3):=⟨ho⟩
 clear ho hP hT0 CN hg hS hS0
 have hT0:=hT1
 clear hT1
 cases b with
 | false =>
  have hS0:=hT0.st hG h
  have CN:=wC hG hS0 (by omega) 44 (by omega)
  go_upto_region 28 with (first|(go_at_call 59;(with_reducible refine CN.mono ?_);rintro e w hP;rcases hP.elim with ⟨t1,a4,d4,ho,hg,⟨v,rfl,rfl⟩,hS⟩|⟨p,er,ho,hg,rfl,a',d',hS⟩;(have hT1:=hT0.call h hg hS)))
  case inr =>
   rw [show S=.bad p er by simp only [hSp.out,Out.bind,Bool.false_eq_true,↓reduceIte,q1.out,q2.out,q3.out,ho]]
   exact ⟨rfl,Post.mk_bad (Q4 hT0.fr hg) hS⟩
  have ed:=want_d (by omega) ho
  have q4:A0 (wS c 44 a3 d3=.ok t1 a4 d4):=⟨ho⟩
  clear ho hP
  subst ed
  clear hT0 CN hg hS hS0
  have hT0:=hT1
  clear hT1
  have hS0:=hT0.st hG h
  have CN:=constant_call hG hS0 (by omega)
  go_upto_region 29 with (first|(go_at_call 96;(with_reducible refine CN.mono ?_);rintro e w hP;rcases hP.elim with ⟨lo,a5,d5,ho,hg,⟨v,rfl,rfl⟩,hS⟩|⟨p,er,ho,hg,rfl,a',d',hS⟩;(have hT1:=hT0.call h hg hS;have z6:w.cell? ⟨W.heap.size+1,6,none⟩=some (.string ⟨#[]⟩):=hT1.vc 6 rfl;have y6:=hT1.vf 6;have z7:w.cell? ⟨W.heap.size+1,7,none⟩=some (.int .i64 0):=hT1.vc 7 rfl;have y7:=hT1.vf 7;have z8:w.cell? ⟨W.heap.size+1,8,none⟩=some (.int .i64 0):=hT1.vc 8 rfl;have y8:=hT1.vf 8)))
  case inr =>
   rw [show S=.bad p er by simp only [hSp.out,Out.bind,Bool.false_eq_true,↓reduceIte,q1.out,q2.out,q3.out,q4.out,ho]]
   exact ⟨rfl,Post.mk_bad (Q4 hT0.fr hg) hS⟩
  have ed:=constant_d ho
  have q5:A0 (coS c a4 d4=.ok lo a5 d5):=⟨ho⟩
  clear ho hP
  subst ed
  have hT2:=(((hT1.put h 6 (.string lo.1) (v':=#[.int .i64 4,.int .i64 ty,.string nm,.string ⟨#[]⟩,.int .i64 0,.int .i64 0,.string lo.1,.int .i64 0,.int .i64 0,.string ⟨#[]⟩,.int .i64 0,.int .i64 0,.int .i64 (ps c a)]) rfl).put h 7 (.int .i64 lo.2.1) (v':=#[.int .i64 4,.int .i64 ty,.string nm,.string ⟨#[]⟩,.int .i64 0,.int .i64 0,.string lo.1,.int .i64 lo.2.1,.int .i64 0,.string ⟨#[]⟩,.int .i64 0,.int .i64 0,.int .i64 (ps c a)]) rfl).put h 8 (.int .i64 lo.2.2) (v':=#[.int .i64 4,.int .i64 ty,.string nm,.string ⟨#[]⟩,.int .i64 0,.int .i64 0,.string lo.1,.int .i64 lo.2.1,.int .i64 lo.2.2,.string ⟨#[]⟩,.int .i64 0,.int .i64 0,.int .i64 (ps c a)]) rfl)
  generalize ((w.setCell _ _).setCell _ _).setCell _ _=X5 at hT2 ⊢
  clear hT1 hT0 CN hg hS hS0 z6 y6 z7 y7 z8 y8
  have hT0:=hT2
  clear hT2
  have hS0:=hT0.st hG h
  have CN:=wC hG hS0 (by omega) 41 (by omega)
  go_upto_region 30 with (first|(go_at_call 59;(with_reducible refine CN.mono ?_);rintro e w hP;rcases hP.elim with ⟨t3,a6,d6,ho,hg,⟨v,rfl,rfl⟩,hS⟩|⟨p,er,ho,hg,rfl,a',d',hS⟩;(have hT1:=hT0.call h hg hS)))
  case inr =>
   rw [show S=.bad p er by simp only [hSp.out,semiS,Out.bind,Bool.false_eq_true,↓reduceIte,q1.out,q2.out,q3.out,q4.out,q5.out,ho]]
   exact ⟨rfl,Post.mk_bad (Q4 hT0.fr hg) hS⟩
  have q6:A0 (wS c 41 a5 d5=.ok t3 a6 d6):=⟨ho⟩
  clear ho hP
  clear hT0 CN hg hS hS0
  have hT0:=hT1
  clear hT1
  have z0:w.cell? ⟨W.heap.size+1,0,none⟩=some (.int .i64 4):=hT0.vc 0 rfl;have y0:=hT0.vf 0;have z1:w.cell? ⟨W.heap.size+1,1,none⟩=some (.int .i64 ty):=hT0.vc 1 rfl;have y1:=hT0.vf 1;have z2:w.cell? ⟨W.heap.size+1,2,none⟩=some (.string nm):=hT0.vc 2 rfl;have y2:=hT0.vf 2;have z3:w.cell? ⟨W.heap.size+1,3,none⟩=some (.string ⟨#[]⟩):=hT0.vc 3 rfl;have y3:=hT0.vf 3;have z4:w.cell? ⟨W.heap.size+1,4,none⟩=some (.int .i64 0):=hT0.vc 4 rfl;have y4:=hT0.vf 4;have z5:w.cell? ⟨W.heap.size+1,5,none⟩=some (.int .i64 0):=hT0.vc 5 rfl;have y5:=hT0.vf 5;have z6:w.cell? ⟨W.heap.size+1,6,none⟩=some (.string lo.1):=hT0.vc 6 rfl;have y6:=hT0.vf 6;have z7:w.cell? ⟨W.heap.size+1,7,none⟩=some (.int .i64 lo.2.1):=hT0.vc 7 rfl;have y7:=hT0.vf 7;have z8:w.cell? ⟨W.heap.size+1,8,none⟩=some (.int .i64 lo.2.2):=hT0.vc 8 rfl;have y8:=hT0.vf 8;have z9:w.cell? ⟨W.heap.size+1,9,none⟩=some (.string ⟨#[]⟩):=hT0.vc 9 rfl;have y9:=hT0.vf 9;have z10:w.cell? ⟨W.heap.size+1,10,none⟩=some (.int .i64 0):=hT0.vc 10 rfl;have y10:=hT0.vf 10;have z11:w.cell? ⟨W.heap.size+1,11,none⟩=some (.int .i64 0):=hT0.vc 11 rfl;have y11:=hT0.vf 11;have z12:w.cell? ⟨W.heap.size+1,12,none⟩=some (.int .i64 (ps c a)):=hT0.vc 12 rfl;have y12:=hT0.vf 12
  have x0:=hT0.rf 0;have r0:w.cell? ⟨W.heap.size,0,none⟩=some (.int .i64 0):=hT0.rc 0 rfl;have x1:=hT0.rf 1;have r1:w.cell? ⟨W.heap.size,1,none⟩=some (.int .i64 0):=hT0.rc 1 rfl;have x2:=hT0.rf 2;have r2:w.cell? ⟨W.heap.size,2,none⟩=some (.string ⟨#[]⟩):=hT0.rc 2 rfl;have x3:=hT0.rf 3;have r3:w.cell? ⟨W.heap.size,3,none⟩=some (.string ⟨#[]⟩):=hT0.rc 3 rfl;have x4:=hT0.rf 4;have r4:w.cell? ⟨W.heap.size,4,none⟩=some (.int .i64 0):=hT0.rc 4 rfl;have x5:=hT0.rf 5;have r5:w.cell? ⟨W.heap.size,5,none⟩=some (.int .i64 0):=hT0.rc 5 rfl;have x6:=hT0.rf 6;have r6:w.cell? ⟨W.heap.size,6,none⟩=some (.string ⟨#[]⟩):=hT0.rc 6 rfl;have x7:=hT0.rf 7;have r7:w.cell? ⟨W.heap.size,7,none⟩=some (.int .i64 0):=hT0.rc 7 rfl;have x8:=hT0.rf 8;have r8:w.cell? ⟨W.heap.size,8,none⟩=some (.int .i64 0):=hT0.rc 8 rfl;have x9:=hT0.rf 9;have r9:w.cell? ⟨W.heap.size,9,none⟩=some (.string ⟨#[]⟩):=hT0.rc 9 rfl;have x10:=hT0.rf 10;have r10:w.cell? ⟨W.heap.size,10,none⟩=some (.int .i64 0):=hT0.rc 10 rfl;have x11:=hT0.rf 11;have r11:w.cell? ⟨W.heap.size,11,none⟩=some (.int .i64 0):=hT0.rc 11 rfl;have x12:=hT0.rf 12;have r12:w.cell? ⟨W.heap.size,12,none⟩=some (.int .i64 0):=hT0.rc 12 rfl
  have hSv:A0 (S=.ok (⟨4,ty,nm,z67,lo,z67,ps c a⟩,true) a6 d6):=⟨by simp only [hSp.out,semiS,Out.bind,Bool.false_eq_true,↓reduceIte,q1.out,q2.out,q3.out,q4.out,q5.out,q6.out]⟩
  clear hal wa hSp q1 q2 q3 q4 q5 q6
  go_wp2
  have hTR:=Two.all69 h (.int .i64 0) (.int .i64 0) (.string ⟨#[]⟩) (.string ⟨#[]⟩) (.int .i64 0) (.int .i64 0) (.string ⟨#[]⟩) (.int .i64 0) (.int .i64 0) (.string ⟨#[]⟩) (.int .i64 0) (.int .i64 0) (.int .i64 0) (.int .i64 4) (.int .i64 ty) (.string nm) (.string ⟨#[]⟩) (.int .i64 0) (.int .i64 0) (.string lo.1) (.int .i64 lo.2.1) (.int .i64 lo.2.2) (.string ⟨#[]⟩) (.int .i64 0) (.int .i64 0) (.int .i64 (ps c a)) hT0
  rw [hSv.out]
  exact bodyPost_ret (res_ct rfl _ _ W.heap.size 69 _ (0,0) _ (.bool true) rfl rfl hTR.rb Tryz.underlying69 rfl (by kernel_rfl)) rfl (Post.mk_ok hTR.fr rfl (hTR.st hG h))
 | true =>
  have hS0:=hT0.st hG h
  have CN:=constant_call hG hS0 (by omega)
  go_upto_region 26 with (first|(go_at_call 96;(with_reducible refine CN.mono ?_);rintro e w hP;rcases hP.elim with ⟨sz,a4,d4,ho,hg,⟨v,rfl,rfl⟩,hS⟩|⟨p,er,ho,hg,rfl,a',d',hS⟩;(have hT1:=hT0.call h hg hS;have z0:w.cell? ⟨W.heap.size+1,0,none⟩=some (.int .i64 4):=hT1.vc 0 rfl;have y0:=hT1.vf 0;have z3:w.cell? ⟨W.heap.size+1,3,none⟩=some (.string ⟨#[]⟩):=hT1.vc 3 rfl;have y3:=hT1.vf 3;have z4:w.cell? ⟨W.heap.size+1,4,none⟩=some (.int .i64 0):=hT1.vc 4 rfl;have y4:=hT1.vf 4;have z5:w.cell? ⟨W.heap.size+1,5,none⟩=some (.int .i64 0):=hT1.vc 5 rfl;have y5:=hT1.vf 5)))
  case inr =>
   rw [show S=.bad p er by simp only [hSp.out,Out.bind,↓reduceIte,q1.out,q2.out,q3.out,ho]]
   exact ⟨rfl,Post.mk_bad (Q4 hT0.fr hg) hS⟩
  have ed:=constant_d ho
  have q4:A0 (coS c a3 d3=.ok sz a4 d4):=⟨ho⟩
  clear ho hP
  subst ed
  have hT2:=((((hT1.put h 0 (.int .i64 5) (v':=#[.int .i64 5,.int .i64 ty,.string nm,.string ⟨#[]⟩,.int .i64 0,.int .i64 0,.string ⟨#[]⟩,.int .i64 0,.int .i64 0,.string ⟨#[]⟩,.int .i64 0,.int .i64 0,.int .i64 (ps c a)]) rfl).put h 3 (.string sz.1) (v':=#[.int .i64 5,.int .i64 ty,.string nm,.string sz.1,.int .i64 0,.int .i64 0,.string ⟨#[]⟩,.int .i64 0,.int .i64 0,.string ⟨#[]⟩,.int .i64 0,.int .i64 0,.int .i64 (ps c a)]) rfl).put h 4 (.int .i64 sz.2.1) (v':=#[.int .i64 5,.int .i64 ty,.string nm,.string sz.1,.int .i64 sz.2.1,.int .i64 0,.string ⟨#[]⟩,.int .i64 0,.int .i64 0,.string ⟨#[]⟩,.int .i64 0,.int .i64 0,.int .i64 (ps c a)]) rfl).put h 5 (.int .i64 sz.2.2) (v':=#[.int .i64 5,.int .i64 ty,.string nm,.string sz.1,.int .i64 sz.2.1,.int .i64 sz.2.2,.string ⟨#[]⟩,.int .i64 0,.int .i64 0,.string ⟨#[]⟩,.int .i64 0,.int .i64 0,.int .i64 (ps c a)]) rfl)
  generalize (((w.setCell _ _).setCell _ _).setCell _ _).setCell _ _=X4 at hT2 ⊢
  clear hT1 hT0 CN hg hS hS0 z0 y0 z3 y3 z4 y4 z5 y5
  have hT0:=hT2
  clear hT2
  have hS0:=hT0.st hG h
  have CN:=wC hG hS0 (by omega) 49 (by omega)
  go_upto_region 27 with (first|(go_at_call 59;(with_reducible refine CN.mono ?_);rintro e w hP;rcases hP.elim with ⟨t0,a5,d5,ho,hg,⟨v,rfl,rfl⟩,hS⟩|⟨p,er,ho,hg,rfl,a',d',hS⟩;(have hT1:=hT0.call h hg hS)))
  case inr =>
   rw [show S=.bad p er by simp only [hSp.out,Out.bind,↓reduceIte,q1.out,q2.out,q3.out,q4.out,ho]]
   exact ⟨rfl,Post.mk_bad (Q4 hT0.fr hg) hS⟩
  have ed:=want49_d ho
  have q5:A0 (wS c 49 a4 d4=.ok t0 a5 d5):=⟨ho⟩
  clear ho hP
  clear hT0 CN hg hS hS0
  have hT0:=hT1
  clear hT1
  have hS0:=hT0.st hG h
  have CN:=wC hG hS0 (by omega) 44 (by omega)
  go_upto_region 28 with (first|(go_at_call 59;(with_reducible refine CN.mono ?_);rintro e w hP;rcases hP.elim with ⟨t1,a6,d6,ho,hg,⟨v,rfl,rfl⟩,hS⟩|⟨p,er,ho,hg,rfl,a',d',hS⟩;(have hT1:=hT0.call h hg hS)))
  case inr =>
   rw [show S=.bad p er by simp only [hSp.out,Out.bind,↓reduceIte,q1.out,q2.out,q3.out,q4.out,q5.out,ho]]
   exact ⟨rfl,Post.mk_bad (Q4 hT0.fr hg) hS⟩
  have ed:=want_d (by omega) ho
  have q6:A0 (wS c 44 a5 d5=.ok t1 a6 d6):=⟨ho⟩
  clear ho hP
  subst ed
  clear hT0 CN hg hS hS0
  have hT0:=hT1
  clear hT1
  have hS0:=hT0.st hG h
  have CN:=constant_call hG hS0 (by omega)
  go_upto_region 29 with (first|(go_at_call 96;(with_reducible refine CN.mono ?_);rintro e w hP;rcases hP.elim with ⟨lo,a7,d7,ho,hg,⟨v,rfl,rfl⟩,hS⟩|⟨p,er,ho,hg,rfl,a',d',hS⟩;(have hT1:=hT0.call h hg hS;have z6:w.cell? ⟨W.heap.size+1,6,none⟩=some (.string ⟨#[]⟩):=hT1.vc 6 rfl;have y6:=hT1.vf 6;have z7:w.cell? ⟨W.heap.size+1,7,none⟩=some (.int .i64 0):=hT1.vc 7 rfl;have y7:=hT1.vf 7;have z8:w.cell? ⟨W.heap.size+1,8,none⟩=some (.int .i64 0):=hT1.vc 8 rfl;have y8:=hT1.vf 8)))
  case inr =>
   rw [show S=.bad p er by simp only [hSp.out,Out.bind,↓reduceIte,q1.out,q2.out,q3.out,q4.out,q5.out,q6.out,ho]]
   exact ⟨rfl,Post.mk_bad (Q4 hT0.fr hg) hS⟩
  have ed:=constant_d ho
  have q7:A0 (coS c a6 d6=.ok lo a7 d7):=⟨ho⟩
  clear ho hP
  subst ed
  have hT2:=(((hT1.put h 6 (.string lo.1) (v':=#[.int .i64 5,.int .i64 ty,.string nm,.string sz.1,.int .i64 sz.2.1,.int .i64 sz.2.2,.string lo.1,.int .i64 0,.int .i64 0,.string ⟨#[]⟩,.int .i64 0,.int .i64 0,.int .i64 (ps c a)]) rfl).put h 7 (.int .i64 lo.2.1) (v':=#[.int .i64 5,.int .i64 ty,.string nm,.string sz.1,.int .i64 sz.2.1,.int .i64 sz.2.2,.string lo.1,.int .i64 lo.2.1,.int .i64 0,.string ⟨#[]⟩,.int .i64 0,.int .i64 0,.int .i64 (ps c a)]) rfl).put h 8 (.int .i64 lo.2.2) (v':=#[.int .i64 5,.int .i64 ty,.string nm,.string sz.1,.int .i64 sz.2.1,.int .i64 sz.2.2,.string lo.1,.int .i64 lo.2.1,.int .i64 lo.2.2,.string ⟨#[]⟩,.int .i64 0,.int .i64 0,.int .i64 (ps c a)]) rfl)
  generalize ((w.setCell _ _).setCell _ _).setCell _ _=X7 at hT2 ⊢
  clear hT1 hT0 CN hg hS hS0 z6 y6 z7 y7 z8 y8
  have hT0:=hT2
  clear hT2
  have hS0:=hT0.st hG h
  have CN:=wC hG hS0 (by omega) 41 (by omega)
  go_upto_region 30 with (first|(go_at_call 59;(with_reducible refine CN.mono ?_);rintro e w hP;rcases hP.elim with ⟨t3,a8,d8,ho,hg,⟨v,rfl,rfl⟩,hS⟩|⟨p,er,ho,hg,rfl,a',d',hS⟩;(have hT1:=hT0.call h hg hS)))
  case inr =>
   rw [show S=.bad p er by simp only [hSp.out,semiS,Out.bind,↓reduceIte,q1.out,q2.out,q3.out,q4.out,q5.out,q6.out,q7.out,ho]]
   exact ⟨rfl,Post.mk_bad (Q4 hT0.fr hg) hS⟩
  have q8:A0 (wS c 41 a7 d7=.ok t3 a8 d8):=⟨ho⟩
  clear ho hP
  clear hT0 CN hg hS hS0
  have hT0:=hT1
  clear hT1
  have z0:w.cell? ⟨W.heap.size+1,0,none⟩=some (.int .i64 5):=hT0.vc 0 rfl;have y0:=hT0.vf 0;have z1:w.cell? ⟨W.heap.size+1,1,none⟩=some (.int .i64 ty):=hT0.vc 1 rfl;have y1:=hT0.vf 1;have z2:w.cell? ⟨W.heap.size+1,2,none⟩=some (.string nm):=hT0.vc 2 rfl;have y2:=hT0.vf 2;have z3:w.cell? ⟨W.heap.size+1,3,none⟩=some (.string sz.1):=hT0.vc 3 rfl;have y3:=hT0.vf 3;have z4:w.cell? ⟨W.heap.size+1,4,none⟩=some (.int .i64 sz.2.1):=hT0.vc 4 rfl;have y4:=hT0.vf 4;have z5:w.cell? ⟨W.heap.size+1,5,none⟩=some (.int .i64 sz.2.2):=hT0.vc 5 rfl;have y5:=hT0.vf 5;have z6:w.cell? ⟨W.heap.size+1,6,none⟩=some (.string lo.1):=hT0.vc 6 rfl;have y6:=hT0.vf 6;have z7:w.cell? ⟨W.heap.size+1,7,none⟩=some (.int .i64 lo.2.1):=hT0.vc 7 rfl;have y7:=hT0.vf 7;have z8:w.cell? ⟨W.heap.size+1,8,none⟩=some (.int .i64 lo.2.2):=hT0.vc 8 rfl;have y8:=hT0.vf 8;have z9:w.cell? ⟨W.heap.size+1,9,none⟩=some (.string ⟨#[]⟩):=hT0.vc 9 rfl;have y9:=hT0.vf 9;have z10:w.cell? ⟨W.heap.size+1,10,none⟩=some (.int .i64 0):=hT0.vc 10 rfl;have y10:=hT0.vf 10;have z11:w.cell? ⟨W.heap.size+1,11,none⟩=some (.int .i64 0):=hT0.vc 11 rfl;have y11:=hT0.vf 11;have z12:w.cell? ⟨W.heap.size+1,12,none⟩=some (.int .i64 (ps c a)):=hT0.vc 12 rfl;have y12:=hT0.vf 12
  have x0:=hT0.rf 0;have r0:w.cell? ⟨W.heap.size,0,none⟩=some (.int .i64 0):=hT0.rc 0 rfl;have x1:=hT0.rf 1;have r1:w.cell? ⟨W.heap.size,1,none⟩=some (.int .i64 0):=hT0.rc 1 rfl;have x2:=hT0.rf 2;have r2:w.cell? ⟨W.heap.size,2,none⟩=some (.string ⟨#[]⟩):=hT0.rc 2 rfl;have x3:=hT0.rf 3;have r3:w.cell? ⟨W.heap.size,3,none⟩=some (.string ⟨#[]⟩):=hT0.rc 3 rfl;have x4:=hT0.rf 4;have r4:w.cell? ⟨W.heap.size,4,none⟩=some (.int .i64 0):=hT0.rc 4 rfl;have x5:=hT0.rf 5;have r5:w.cell? ⟨W.heap.size,5,none⟩=some (.int .i64 0):=hT0.rc 5 rfl;have x6:=hT0.rf 6;have r6:w.cell? ⟨W.heap.size,6,none⟩=some (.string ⟨#[]⟩):=hT0.rc 6 rfl;have x7:=hT0.rf 7;have r7:w.cell? ⟨W.heap.size,7,none⟩=some (.int .i64 0):=hT0.rc 7 rfl;have x8:=hT0.rf 8;have r8:w.cell? ⟨W.heap.size,8,none⟩=some (.int .i64 0):=hT0.rc 8 rfl;have x9:=hT0.rf 9;have r9:w.cell? ⟨W.heap.size,9,none⟩=some (.string ⟨#[]⟩):=hT0.rc 9 rfl;have x10:=hT0.rf 10;have r10:w.cell? ⟨W.heap.size,10,none⟩=some (.int .i64 0):=hT0.rc 10 rfl;have x11:=hT0.rf 11;have r11:w.cell? ⟨W.heap.size,11,none⟩=some (.int .i64 0):=hT0.rc 11 rfl;have x12:=hT0.rf 12;have r12:w.cell? ⟨W.heap.size,12,none⟩=some (.int .i64 0):=hT0.rc 12 rfl
  have hSv:A0 (S=.ok (⟨5,ty,nm,sz,lo,z67,ps c a⟩,true) a8 d8):=⟨by simp only [hSp.out,semiS,Out.bind,↓reduceIte,q1.out,q2.out,q3.out,q4.out,q5.out,q6.out,q7.out,q8.out]⟩
  clear hal wa hSp q1 q2 q3 q4 q5 q6 q7 q8
  go_wp2
  have hTR:=Two.all69 h (.int .i64 0) (.int .i64 0) (.string ⟨#[]⟩) (.string ⟨#[]⟩) (.int .i64 0) (.int .i64 0) (.string ⟨#[]⟩) (.int .i64 0) (.int .i64 0) (.string ⟨#[]⟩) (.int .i64 0) (.int .i64 0) (.int .i64 0) (.int .i64 5) (.int .i64 ty) (.string nm) (.string sz.1) (.int .i64 sz.2.1) (.int .i64 sz.2.2) (.string lo.1) (.int .i64 lo.2.1) (.int .i64 lo.2.2) (.string ⟨#[]⟩) (.int .i64 0) (.int .i64 0) (.int .i64 (ps c a)) hT0
  rw [hSv.out]
  exact bodyPost_ret (res_ct rfl _ _ W.heap.size 69 _ (0,0) _ (.bool true) rfl rfl hTR.rb Tryz.underlying69 rfl (by kernel_rfl)) rfl (Post.mk_ok hTR.fr rfl (hTR.st hG h))
theorem decl_call {c:Ctx} (hG:Good c) {W:World} {a:Nat} {d fp fe:Int} (h:St c W a d fp fe) (hd:-800≤d∧d≤800) :
  Calls Tryz.prog 54 #[c.me] W (Post c W fp fe repD (declS c a d)):=by
 by_cases k8:kd c a=8
 ·exact decl8 hG h (by omega) k8 _ ⟨if_pos k8⟩
 by_cases k25:kd c a=25
 ·exact decl25 hG h (by omega) k25 _ ⟨(if_neg k8).trans (if_pos k25)⟩
 by_cases k14:kd c a=14
 ·exact decl14 hG h (by omega) k14 _ ⟨(if_neg k8).trans ((if_neg k25).trans (if_pos k14))⟩
 by_cases k26:kd c a=26
 ·exact decl26 hG h hd k26 _ ⟨(if_neg k8).trans ((if_neg k25).trans ((if_neg k14).trans (if_pos k26)))⟩
 rw [show declS c a d=.ok (⟨0,0,⟨#[]⟩,z67,z67,z67,ps c a⟩,false) a d from (if_neg k8).trans ((if_neg k25).trans ((if_neg k14).trans (if_neg k26)))]
 exact decl0 hG h k8 k25 k14 k26
structure Prc where
 name:ByteArray
 body:List Stm
 pos:Int
structure Tre where
 decls:List Dec
 procs:List Prc
 init:List Stm
 loop:List Stm
def dL (c:Ctx):Nat→List Dec→Nat→Int→Out (List Dec)
 | 0,_,_,_=>.bad 0 0
 | f+1,l,a,d=>(declS c a d).bind fun x a1 d1=>if x.2 then dL c f (l++[x.1]) a1 d1 else .ok l a1 d1
def pL (c:Ctx):Nat→List Prc→Nat→Int→Out (List Prc)
 | 0,_,_,_=>.bad 0 0
 | f+1,l,a,d=>if kd c a=21 then (nS c (a+1) d).bind fun s a1 d1=>(blkS c a1 d1).bind fun b a2 d2=>pL c f (l++[⟨s,b,ps c a⟩]) a2 d2 else .ok l a d
def pS (c:Ctx) (a:Nat) (d:Int):Out Tre:=(dL c (c.L.length+1 - a) [] a d).bind fun ds a1 d1=>(pL c (c.L.length+1 - a1) [] a1 d1).bind fun pr a2 d2=>(wS c 13 a2 d2).bind fun _ a3 d3 =>
 (blkS c a3 d3).bind fun i a4 d4=>(wS c 18 a4 d4).bind fun _ a5 d5=>(blkS c a5 d5).bind fun l a6 d6=>if kd c a6=0 then .ok ⟨ds,pr,i,l⟩ a6 d6 else .bad (ps c a6) 40
theorem typ_fine {c:Ctx} {a a':Nat} {d d' t:Int} (h:typS c a d=.ok t a' d'):a<a'∧a'≤c.L.length∧d'=d:=by
 unfold typS at h
 split at h
 ·rename_i hk;have:=kd_lt hk (by omega);cases h;exact ⟨by omega,by omega,rfl⟩
 ·split at h
  ·rename_i hk;have:=kd_lt hk (by omega);cases h;exact ⟨by omega,by omega,rfl⟩
  ·obtain ⟨t,a1,d1,h1,h2⟩:=bO h
   obtain ⟨e,hl,hd⟩:=wF (by omega) (by omega) h1
   cases h2
   exact ⟨by omega,hl,hd⟩
theorem semi_fine {c:Ctx} {x:Dec} {y:Dec × Bool} {a a':Nat} {d d':Int} (h:semiS c x a d=.ok y a' d'):a<a'∧a'≤c.L.length∧d'=d∧y=(x,true):=by
 obtain ⟨t,a1,d1,h1,h2⟩:=bO h
 obtain ⟨e,hl,hd⟩:=wF (by omega) (by omega) h1
 cases h2
 exact ⟨by omega,hl,hd,rfl⟩
theorem declS_fine {c:Ctx} {y:Dec × Bool} {a a':Nat} {d d':Int} (hl:a≤c.L.length) (h:declS c a d=.ok y a' d'):a≤a'∧a'≤c.L.length∧d'=d∧(y.2=true→a<a'):=by
 unfold declS at h
 split at h
 ·rename_i hk
  have:=kd_lt hk (by omega)
  obtain ⟨nm,a1,d1,h1,h2⟩:=bO h
  obtain ⟨e1,l1,f1,-⟩:=name_ok h1
  obtain ⟨_,a2,d2,h3,h4⟩:=bO h2
  obtain ⟨e2,l2,f2⟩:=wF (by omega) (by omega) h3
  obtain ⟨lo,a3,d3,h5,h6⟩:=bO h4
  obtain ⟨e3,l3,f3⟩:=constant_fine l2 h5
  obtain ⟨e4,l4,f4,-⟩:=semi_fine h6
  exact ⟨by omega,l4,by omega,fun _=>by omega⟩
 split at h
 ·rename_i hk
  have:=kd_lt hk (by omega)
  obtain ⟨lo,a3,d3,h5,h6⟩:=bO h
  obtain ⟨e3,l3,f3⟩:=constant_fine (by omega) h5
  obtain ⟨e4,l4,f4,-⟩:=semi_fine h6
  exact ⟨by omega,l4,by omega,fun _=>by omega⟩
 split at h
 ·rename_i hk
  have:=kd_lt hk (by omega)
  obtain ⟨ty,a0,d0,h0,h⟩:=bO h
  obtain ⟨e0,l0,f0⟩:=typ_fine h0
  obtain ⟨nm,a1,d1,h1,h2⟩:=bO h
  obtain ⟨e1,l1,f1,-⟩:=name_ok h1
  obtain ⟨_,a2,d2,h3,h4⟩:=bO h2
  obtain ⟨e2,l2,f2⟩:=wF (by omega) (by omega) h3
  obtain ⟨lo,a3,d3,h5,h6⟩:=bO h4
  obtain ⟨e3,l3,f3⟩:=constant_fine l2 h5
  obtain ⟨_,a4,d4,h7,h8⟩:=bO h6
  obtain ⟨e4,l4,f4⟩:=wF (by omega) (by omega) h7
  obtain ⟨hi,a5,d5,h9,hA⟩:=bO h8
  obtain ⟨e5,l5,f5⟩:=constant_fine l4 h9
  obtain ⟨e6,l6,f6,-⟩:=semi_fine hA
  exact ⟨by omega,l6,by omega,fun _=>by omega⟩
 split at h
 ·rename_i hk
  have:=kd_lt hk (by omega)
  obtain ⟨ty,a0,d0,h0,h⟩:=bO h
  obtain ⟨e0,l0,f0⟩:=typ_fine h0
  obtain ⟨nm,a1,d1,h1,h2⟩:=bO h
  obtain ⟨e1,l1,f1,-⟩:=name_ok h1
  obtain ⟨b,a2,d2,h3,h4⟩:=bO h2
  obtain ⟨q1,q2,qt,qf⟩:=take_ok (by omega) l1 h3
  obtain ⟨os,a3,d3,h5,h6⟩:=bO h4
  have hq:a1≤a3∧a3≤c.L.length∧d3=d1:=by
   cases b with
   | true =>
    obtain ⟨r1,r2,r3⟩:=qt rfl
    rw [if_pos (by omega)] at r2
    obtain ⟨sz,a4,d4,h7,h8⟩:=bO (show Out.bind _ _=_ from h5)
    obtain ⟨e4,l4,f4⟩:=constant_fine q2 h7
    obtain ⟨_,a5,d5,h9,hA⟩:=bO h8
    obtain ⟨e5,l5,f5⟩:=want_shut (by omega) h9
    cases hA
    exact ⟨by omega,l5,by omega⟩
   | false =>
    obtain ⟨r1,r2⟩:=qf rfl
    cases h5
    exact ⟨by omega,q2,r2⟩
  obtain ⟨_,a4,d4,h7,h8⟩:=bO h6
  obtain ⟨e4,l4,f4⟩:=wF (by omega) (by omega) h7
  obtain ⟨lo,a5,d5,h9,hA⟩:=bO h8
  obtain ⟨e5,l5,f5⟩:=constant_fine l4 h9
  obtain ⟨e6,l6,f6,-⟩:=semi_fine hA
  exact ⟨by omega,l6,by omega,fun _=>by omega⟩
 ·cases h
  exact ⟨Nat.le_refl _,hl,rfl,fun h=>by cases h⟩
abbrev decCells (x:Dec):List Value:=[.int .i64 x.op,.int .i64 x.ty,.string x.name,.string x.size.1,.int .i64 x.size.2.1,.int .i64 x.size.2.2,.string x.lo.1,.int .i64 x.lo.2.1,.int .i64 x.lo.2.2,.string x.hi.1,.int .i64 x.hi.2.1,.int .i64 x.hi.2.2,.int .i64 x.pos]
def RepD (_:Nat→Prop) (_:World) (x:Dec) (v:List Value):Prop:=v=decCells x
theorem repD_keeps:Keeps RepD:=fun h _ _=>h
theorem all2_dec {P:Nat→Prop} {W:World}:∀(xs:List Dec),All2 (RepD P W) xs (xs.map decCells)
 | []=>trivial
 | _ :: xs=>⟨rfl,all2_dec xs⟩
def RepP (P:Nat→Prop) (W:World) (x:Prc) (v:List Value):Prop:=∃A n cap,v=[.string x.name,.slice A n cap,.int .i64 x.pos]∧RepB P W x.body [.slice A n cap]
theorem repP_keeps:Keeps RepP:=by
 rintro P Q W W' x v ⟨A,n,cap,e,h⟩ hq hk
 exact ⟨A,n,cap,e,rK h hq hk⟩
theorem repP_lt {w:World} {P:Nat→Prop} {x:Prc} {v:List Value} (h:RepP P w x v):RepP (fun b=>P b∧b<w.heap.size) w x v:=by
 obtain ⟨A,n,cap,e,h⟩:=h
 exact ⟨A,n,cap,e,repB_lt h⟩
theorem Acc.farP {ty size lo:Nat} {W W':World} {v:Value} {xs:List Prc} (h:Acc RepP ty size lo W v xs) (hf:Far lo W W'):Acc RepP ty size lo W' v xs:=Acc.far (R:=RepP) repP_keeps h hf
structure RepT (P:Nat→Prop) (W:World) (t:Tre) (A1:Option Addr) (n1 c1:Nat) (A2:Option Addr) (n2 c2:Nat) (A3:Option Addr) (n3 c3:Nat) (A4:Option Addr) (n4 c4:Nat):Prop where
 h1:t.decls.length=n1∧n1≤c1
 h2:t.procs.length=n2∧n2≤c2
 r1:Row P W A1 (t.decls.map decCells).flatten
 r2:∃vs,Row P W A2 vs.flatten∧All2 (RepP P W) t.procs vs
 r3:RepB P W t.init [.slice A3 n3 c3]
 r4:RepB P W t.loop [.slice A4 n4 c4]
abbrev repTree (lo:Nat):World→Value→Tre→Prop:=fun W v t=>∃A1 n1 c1 A2 n2 c2 A3 n3 c3 A4 n4 c4,v=.agg #[.slice A1 n1 c1,.slice A2 n2 c2,.slice A3 n3 c3,.slice A4 n4 c4]∧RepT (fun b=>lo≤b) W t A1 n1 c1 A2 n2 c2 A3 n3 c3 A4 n4 c4
structure Rows2 (lo:Nat) (X:World) (v1 v2:Value) (ds:List Dec) (pr:List Prc):Prop where
 decs:X.ownsRow lo 69 13 v1 ds.length (ds.map decCells).flatten
 pros:Acc RepP 73 3 lo X v2 pr
 sep:∀k,v1.ownBlock=some k→v2.ownBlock≠some k
theorem Rows2.far {lo:Nat} {X Y:World} {v1 v2:Value} {ds:List Dec} {pr:List Prc} (h:Rows2 lo X v1 v2 ds pr) (hf:Far lo X Y):Rows2 lo Y v1 v2 ds pr:=⟨oF h.decs hf,h.pros.farP hf,h.sep⟩
end Go.Proofs.YtgaoapnaplgaiaaGreatDoor.Sc
namespace Go.Proofs.YtgaoapnaplgaiaaGreatDoor.Sc
set_option maxRecDepth 100000
open Go.RowKit Tk
mutual
def exN:Ex→Ex
 | .mk op num name args _=>.mk op num name (exNs args) 0
def exNs:List Ex→List Ex
 | []=>[]
 | x :: xs=>exN x :: exNs xs
end
theorem exNs_app:∀l r:List Ex,exNs (l++r)=exNs l++exNs r
 | [],r=>rfl
 | x :: l,r=>by rw [List.cons_append,exNs,exNs,exNs_app l r,List.cons_append]
theorem exN_mk (op num:Int) (name:ByteArray) (args:List Ex) (pos:Int):exN (.mk op num name args pos)=.mk op num name (exNs args) 0:=by rw [exN]
theorem exNs_one (x:Ex):exNs [x]=[exN x]:=by rw [exNs,exNs]
theorem exNs_two (x y:Ex):exNs [x,y]=[exN x,exN y]:=by rw [exNs,exNs,exNs]
def conN (x:Con):Con:=(x.1,x.2.1,0)
mutual
def stN:Stm→Stm
 | .mk op name read args blocks cases _=>.mk op name read (exNs args) (bkNs blocks) (cases.map conN) 0
def bkNs:List (List Stm)→List (List Stm)
 | []=>[]
 | b :: bs=>stNs b :: bkNs bs
def stNs:List Stm→List Stm
 | []=>[]
 | x :: xs=>stN x :: stNs xs
end
theorem stN_mk (op:Int) (name read:ByteArray) (args:List Ex) (blocks:List (List Stm)) (cases:List Con) (pos:Int):stN (.mk op name read args blocks cases pos)=.mk op name read (exNs args) (bkNs blocks) (cases.map conN) 0:=by rw [stN]
theorem stNs_app:∀l r:List Stm,stNs (l++r)=stNs l++stNs r
 | [],r=>by rw [stNs];rfl
 | x :: l,r=>by rw [List.cons_append,stNs,stNs,stNs_app l r,List.cons_append]
theorem bkNs_app:∀l r:List (List Stm),bkNs (l++r)=bkNs l++bkNs r
 | [],r=>by rw [bkNs];rfl
 | x :: l,r=>by rw [List.cons_append,bkNs,bkNs,bkNs_app l r,List.cons_append]
theorem stNs_one (x:Stm):stNs [x]=[stN x]:=by rw [stNs,stNs]
theorem bkNs_one (x:List Stm):bkNs [x]=[stNs x]:=by rw [bkNs,bkNs]
theorem bkNs_two (x y:List Stm):bkNs [x,y]=[stNs x,stNs y]:=by rw [bkNs,bkNs,bkNs]
def decN (x:Dec):Dec:=⟨x.op,x.ty,x.name,conN x.size,conN x.lo,conN x.hi,0⟩
def prcN (x:Prc):Prc:=⟨x.name,stNs x.body,0⟩
def treN (x:Tre):Tre:=⟨x.decls.map decN,x.procs.map prcN,stNs x.init,stNs x.loop⟩
def Sy (s:Bool) (j i:Nat):Prop:=s=false∨i≤j
structure Pair (cs:Bool→Ctx) (j:Nat):Prop where
 kd:∀i,i≤j→kd (cs true) i=kd (cs false) i
 num:∀i,i≤j→((cs true).L.getD i zTok).2.2.2=((cs false).L.getD i zTok).2.2.2
 text:∀i,i≤j→textS (cs true) ((cs true).L.getD i zTok)=textS (cs false) ((cs false).L.getD i zTok)
 len:j≤(cs true).L.length
section
variable {cs:Bool→Ctx} {j:Nat}
theorem Pair.kds (h:Pair cs j) {s:Bool} {i:Nat} (hs:Sy s j i):Sc.kd (cs s) i=Sc.kd (cs false) i:=by
 cases s with
 | false=>rfl
 | true=>exact h.kd i (hs.resolve_left (by simp))
theorem Pair.nums (h:Pair cs j) {s:Bool} {i:Nat} (hs:Sy s j i):((cs s).L.getD i zTok).2.2.2=((cs false).L.getD i zTok).2.2.2:=by
 cases s with
 | false=>rfl
 | true=>exact h.num i (hs.resolve_left (by simp))
theorem Pair.texts (h:Pair cs j) {s:Bool} {i:Nat} (hs:Sy s j i):textS (cs s) ((cs s).L.getD i zTok)=textS (cs false) ((cs false).L.getD i zTok):=by
 cases s with
 | false=>rfl
 | true=>exact h.text i (hs.resolve_left (by simp))
def Sim (cs:Bool→Ctx) (s:Bool) (j a b:Nat) {α γ:Type} (g:α→γ) (o' o:Out α):Prop :=
 match o with
 | .ok x a1 d1=>a≤a1∧b≤a1∧a1≤(cs false).L.length∧(s=true→a1≤j→∃x',o'=.ok x' a1 d1∧g x'=g x)
 | .bad p er=>∃i,a≤i∧i≤(cs false).L.length∧p=ps (cs false) i∧(er=40∨er=41∧i<(cs false).L.length)∧(s=true→i≤j→o'=.bad (ps (cs true) i) er)
theorem Sim.mono {s:Bool} {a b a0 b0:Nat} {α γ:Type} {g:α→γ} {o' o:Out α} (h:Sim cs s j a b g o' o) (ha:a0≤a) (hb:b0≤b):Sim cs s j a0 b0 g o' o:=by
 cases o with
 | ok x a1 d1=>exact ⟨Nat.le_trans ha h.1,Nat.le_trans hb h.2.1,h.2.2⟩
 | bad p er=>obtain ⟨i,h1,h2⟩:=h;exact ⟨i,Nat.le_trans ha h1,h2⟩
theorem Sim.past {s:Bool} {a b:Nat} {α γ:Type} {g:α→γ} {o' o o2:Out α} (h:Sim cs false j a b g o' o) (hs:¬ Sy s j a):Sim cs s j a b g o2 o:=by
 have hj:¬ a≤j:=fun h=>hs (.inr h)
 cases o with
 | ok x a1 d1=>exact ⟨h.1,h.2.1,h.2.2.1,fun _ hl=>absurd (Nat.le_trans h.1 hl) hj⟩
 | bad p er=>obtain ⟨i,h1,h2,h3,h4,_⟩:=h;exact ⟨i,h1,h2,h3,h4,fun _ hl=>absurd (Nat.le_trans h1 hl) hj⟩
theorem Sim.pure {s:Bool} {a b a1:Nat} {d:Int} {α γ:Type} {g:α→γ} {x' x:α} (h1:a≤a1) (h2:b≤a1) (h3:a1≤(cs false).L.length) (h:g x'=g x):Sim cs s j a b g (.ok x' a1 d) (.ok x a1 d) :=
 ⟨h1,h2,h3,fun _ _=>⟨x',rfl,h⟩⟩
theorem Sim.bad {s:Bool} {a b i:Nat} {er:Int} {α γ:Type} {g:α→γ} (h1:a≤i) (h3:i≤(cs false).L.length) (h:er=40∨er=41∧i<(cs false).L.length):Sim cs s j a b g (.bad (ps (cs s) i) er) (.bad (ps (cs false) i) er:Out α) :=
 ⟨i,h1,h3,rfl,h,fun h _=>by rw [h]⟩
theorem Sim.bindE {s:Bool} {a b1 b:Nat} {α β γ δ:Type} {g:α→γ} {g2:β→δ} {f:Bool→α→Nat→Int→Out β} {o' o:Out α} (h:Sim cs s j a b1 g o' o)
  (hf:∀(s1:Bool) (X:Bool→α) (a1:Nat) (d1:Int),o=.ok (X false) a1 d1→Sy s1 j a1→a≤a1→b1≤a1→a1≤(cs false).L.length→(∀t,g (X t)=g (X false))→Sim cs s1 j a1 b g2 (f s1 (X s1) a1 d1) (f false (X false) a1 d1)) :
  Sim cs s j a b g2 (o'.bind (f s)) (o.bind (f false)):=by
 cases o with
 | ok x a1 d1 =>
  obtain ⟨h1,h2,h3,h4⟩:=h
  show Sim cs s j a b g2 _ (f false x a1 d1)
  by_cases hs:s=true∧a1≤j
  ·obtain ⟨rfl,hj⟩:=hs
   obtain ⟨x',rfl,hx⟩:=h4 rfl hj
   exact (hf true (fun t=>if t then x' else x) a1 d1 rfl (.inr hj) h1 h2 h3 (by intro t;cases t;rfl;exact hx)).mono h1 (Nat.le_refl _)
  ·have hk:=hf false (fun _=>x) a1 d1 rfl (.inl rfl) h1 h2 h3 fun _=>rfl
   cases s with
   | false =>
    have h0:=hk.mono h1 (Nat.le_refl b)
    revert h0
    show Sim cs false j a b g2 (f false x a1 d1) (f false x a1 d1)→_
    cases f false x a1 d1 with
    | ok y a2 d2=>exact fun h0=>⟨h0.1,h0.2.1,h0.2.2.1,fun e=>by cases e⟩
    | bad p er=>rintro ⟨i,q1,q2,q3,q4,_⟩;exact ⟨i,q1,q2,q3,q4,fun e=>by cases e⟩
   | true=>exact (hk.past (fun e=>hs ⟨rfl,e.resolve_left (by simp)⟩)).mono h1 (Nat.le_refl _)
 | bad p er =>
  obtain ⟨i,h1,h2,h3,h4,h5⟩:=h
  exact ⟨i,h1,h2,h3,h4,fun hs hi=>by rw [h5 hs hi];rfl⟩
theorem Sim.bind {s:Bool} {a b1 b:Nat} {α β γ δ:Type} {g:α→γ} {g2:β→δ} {f:Bool→α→Nat→Int→Out β} {o' o:Out α} (h:Sim cs s j a b1 g o' o)
  (hf:∀(s1:Bool) (X:Bool→α) (a1:Nat) (d1:Int),Sy s1 j a1→a≤a1→b1≤a1→a1≤(cs false).L.length→(∀t,g (X t)=g (X false))→Sim cs s1 j a1 b g2 (f s1 (X s1) a1 d1) (f false (X false) a1 d1)) :
  Sim cs s j a b g2 (o'.bind (f s)) (o.bind (f false)):=h.bindE fun s1 X a1 d1 _=>hf s1 X a1 d1
theorem Sim.step {s:Bool} {a b a1:Nat} {β δ:Type} {g2:β→δ} {f:Bool→Out β} (h1:a≤a1) (hf:∀s1:Bool,Sy s1 j a1→Sim cs s1 j a1 b g2 (f s1) (f false)):Sim cs s j a b g2 (f s) (f false):=by
 by_cases hs:Sy s j a1
 ·exact (hf s hs).mono h1 (Nat.le_refl _)
 ·exact ((hf false (.inl rfl)).past hs).mono h1 (Nat.le_refl _)
abbrev gI:Int→Int:=fun x=>x
abbrev gB:Bool→Bool:=fun x=>x
abbrev gS:ByteArray→ByteArray:=fun x=>x
abbrev gT:Tok→Int:=fun t=>t.2.2.2
theorem sW (hP:Pair cs j) {s:Bool} {a:Nat} (hs:Sy s j a) (hl:a≤(cs false).L.length) (k:Int) (hk:1≤k) (d:Int):Sim cs s j a (a+1) gT (wS (cs s) k a d) (wS (cs false) k a d):=by
 unfold wS
 rw [hP.kds hs]
 split
 ·rename_i h0
  have hal:=kd_lt h0 hk
  have hn:=hP.nums hs
  split
  ·split
   ·exact Sim.bad (Nat.le_refl _) hl (.inr ⟨rfl,hal⟩)
   ·exact Sim.pure (by omega) (Nat.le_refl _) hal hn
  ·split
   ·exact Sim.pure (by omega) (Nat.le_refl _) hal hn
   ·exact Sim.pure (by omega) (Nat.le_refl _) hal hn
 ·exact Sim.bad (Nat.le_refl _) hl (.inl rfl)
theorem simTake (hP:Pair cs j) {s:Bool} {a:Nat} (hs:Sy s j a) (hl:a≤(cs false).L.length) (k:Int) (hk:1≤k) (d:Int):Sim cs s j a a gB (takeS (cs s) k a d) (takeS (cs false) k a d):=by
 unfold takeS
 rw [hP.kds hs]
 split
 ·apply Sim.bind (sW hP hs hl k hk d)
  intro s1 X a1 d1 hs1 h1 h2 h3 hX
  exact Sim.pure (Nat.le_refl _) h1 h3 rfl
 ·exact Sim.pure (Nat.le_refl _) (Nat.le_refl _) hl rfl
theorem name_eq (c:Ctx) (a:Nat) (d:Int):nS c a d=if kd c a=1 then .ok (textS c (c.L.getD a zTok)) (a+1) d else .bad (ps c a) 40:=by
 unfold nS wS
 split
 ·simp [Out.bind]
 ·rfl
theorem simName (hP:Pair cs j) {s:Bool} {a:Nat} (hs:Sy s j a) (hl:a≤(cs false).L.length) (d:Int):Sim cs s j a (a+1) gS (nS (cs s) a d) (nS (cs false) a d):=by
 rw [name_eq,name_eq,hP.kds hs]
 split
 ·rename_i h0
  exact Sim.pure (by omega) (Nat.le_refl _) (kd_lt h0 (by omega)) (hP.texts hs)
 ·exact Sim.bad (Nat.le_refl _) hl (.inl rfl)
theorem simTyp (hP:Pair cs j) {s:Bool} {a:Nat} (hs:Sy s j a) (hl:a≤(cs false).L.length) (d:Int):Sim cs s j a (a+1) gI (typS (cs s) a d) (typS (cs false) a d):=by
 unfold typS
 rw [hP.kds hs]
 split
 ·rename_i h0;exact Sim.pure (by omega) (Nat.le_refl _) (kd_lt h0 (by omega)) rfl
 ·split
  ·rename_i h0;exact Sim.pure (by omega) (Nat.le_refl _) (kd_lt h0 (by omega)) rfl
  ·apply Sim.bind (sW hP hs hl 16 (by omega) d)
   intro s1 X a1 d1 hs1 h1 h2 h3 hX
   exact Sim.pure (Nat.le_refl _) h2 h3 rfl
theorem simCon (hP:Pair cs j) {s:Bool} {a:Nat} (hs:Sy s j a) (hl:a≤(cs false).L.length) (d:Int):Sim cs s j a (a+1) conN (coS (cs s) a d) (coS (cs false) a d):=by
 unfold coS
 rw [hP.kds hs]
 split
 ·apply Sim.bind (simName hP hs hl d)
  intro s1 X a1 d1 hs1 h1 h2 h3 hX
  exact Sim.pure (Nat.le_refl _) h2 h3 (by unfold conN;rw [show X s1=X false from hX s1])
 ·apply Sim.bind (simTake hP hs hl 37 (by omega) d)
  intro s1 X a1 d1 hs1 h1 h2 h3 hX
  apply Sim.bind (sW hP hs1 h3 2 (by omega) d1)
  intro s2 Y a2 d2 hs2 q1 q2 q3 hY
  exact Sim.pure (Nat.le_refl _) (by omega) q3 (by unfold conN;rw [show X s2=X false from hX s2,show (Y s2).2.2.2=(Y false).2.2.2 from hY s2])
abbrev gD:Dec × Bool→Dec × Bool:=fun x=>(decN x.1,x.2)
theorem simSemi (hP:Pair cs j) {s:Bool} {a:Nat} (hs:Sy s j a) (hl:a≤(cs false).L.length) (d:Int) (x:Bool→Dec) (hx:∀t,decN (x t)=decN (x false)):Sim cs s j a (a+1) gD (semiS (cs s) (x s) a d) (semiS (cs false) (x false) a d):=by
 unfold semiS
 apply Sim.bind (sW hP hs hl 41 (by omega) d)
 intro s1 X a1 d1 hs1 h1 h2 h3 hX
 exact Sim.pure (Nat.le_refl _) h2 h3 (by show (decN (x s1),true)=(decN (x false),true);rw [hx s1])
theorem decN_eq {x y:Dec} (h1:x.op=y.op) (h2:x.ty=y.ty) (h3:x.name=y.name) (h4:conN x.size=conN y.size) (h5:conN x.lo=conN y.lo) (h6:conN x.hi=conN y.hi):decN x=decN y:=by
 unfold decN
 rw [h1,h2,h3,h4,h5,h6]
abbrev gO:Int × Con→Int × Con:=fun x=>(x.1,conN x.2)
theorem simDecl (hP:Pair cs j) {s:Bool} {a:Nat} (hs:Sy s j a) (hl:a≤(cs false).L.length) (d:Int):Sim cs s j a a gD (declS (cs s) a d) (declS (cs false) a d):=by
 unfold declS
 rw [hP.kds hs]
 split
 ·rename_i h0
  have hal:=kd_lt h0 (by omega)
  apply Sim.step (a:=a) (a1:=a+1) (by omega)
  intro s0 hs0
  apply Sim.bind (simName hP hs0 hal d)
  intro s1 X a1 d1 hs1 h1 h2 h3 hX
  apply Sim.bind (sW hP hs1 h3 44 (by omega) d1)
  intro s2 Y a2 d2 hs2 q1 q2 q3 hY
  apply Sim.bind (simCon hP hs2 q3 d2)
  intro s3 Z a3 d3 hs3 p1 p2 p3 hZ
  exact (simSemi hP hs3 p3 d3 (fun t=>⟨1,0,X t,z67,Z t,z67,ps (cs t) a⟩) (fun t=>decN_eq rfl rfl (hX t) rfl (hZ t) rfl)).mono (Nat.le_refl _) (by omega)
 split
 ·rename_i h0
  have hal:=kd_lt h0 (by omega)
  apply Sim.step (a:=a) (a1:=a+1) (by omega)
  intro s0 hs0
  apply Sim.bind (simCon hP hs0 hal d)
  intro s3 Z a3 d3 hs3 p1 p2 p3 hZ
  exact (simSemi hP hs3 p3 d3 (fun t=>⟨2,0,⟨#[]⟩,z67,Z t,z67,ps (cs t) a⟩) (fun t=>decN_eq rfl rfl rfl rfl (hZ t) rfl)).mono (Nat.le_refl _) (by omega)
 split
 ·rename_i h0
  have hal:=kd_lt h0 (by omega)
  apply Sim.step (a:=a) (a1:=a+1) (by omega)
  intro s0 hs0
  apply Sim.bind (simTyp hP hs0 hal d)
  intro s1 T a1 d1 hs1 h1 h2 h3 hT
  apply Sim.bind (simName hP hs1 h3 d1)
  intro s2 X a2 d2 hs2 q1 q2 q3 hX
  apply Sim.bind (sW hP hs2 q3 12 (by omega) d2)
  intro s3 Y a3 d3 hs3 p1 p2 p3 hY
  apply Sim.bind (simCon hP hs3 p3 d3)
  intro s4 Z a4 d4 hs4 r1 r2 r3 hZ
  apply Sim.bind (sW hP hs4 r3 38 (by omega) d4)
  intro s5 Y a5 d5 hs5 t1 t2 t3 hY
  apply Sim.bind (simCon hP hs5 t3 d5)
  intro s6 V a6 d6 hs6 u1 u2 u3 hV
  exact (simSemi hP hs6 u3 d6 (fun t=>⟨3,T t,X t,z67,Z t,V t,ps (cs t) a⟩) (fun t=>decN_eq rfl (hT t) (hX t) rfl (hZ t) (hV t))).mono (Nat.le_refl _) (by omega)
 split
 ·rename_i h0
  have hal:=kd_lt h0 (by omega)
  apply Sim.step (a:=a) (a1:=a+1) (by omega)
  intro s0 hs0
  apply Sim.bind (simTyp hP hs0 hal d)
  intro s1 T a1 d1 hs1 h1 h2 h3 hT
  apply Sim.bind (simName hP hs1 h3 d1)
  intro s2 X a2 d2 hs2 q1 q2 q3 hX
  apply Sim.bind (simTake hP hs2 q3 48 (by omega) d2)
  intro s3 B a3 d3 hs3 p1 p2 p3 hB
  apply Sim.bind (b1:=a3) (g:=gO)
  ·rw [show B s3=B false from hB s3]
   split
   ·apply Sim.bind (simCon hP hs3 p3 d3)
    intro s4 Z a4 d4 hs4 r1 r2 r3 hZ
    apply Sim.bind (sW hP hs4 r3 49 (by omega) d4)
    intro s5 Y a5 d5 hs5 t1 t2 t3 hY
    exact Sim.pure (Nat.le_refl _) (by omega) t3 (by show ((5:Int),conN (Z s5))=(5,conN (Z false));rw [hZ s5])
   ·exact Sim.pure (Nat.le_refl _) (Nat.le_refl _) p3 rfl
  ·intro s4 O a4 d4 hs4 r1 r2 r3 hO
   apply Sim.bind (sW hP hs4 r3 44 (by omega) d4)
   intro s5 Y a5 d5 hs5 t1 t2 t3 hY
   apply Sim.bind (simCon hP hs5 t3 d5)
   intro s6 V a6 d6 hs6 u1 u2 u3 hV
   exact (simSemi hP hs6 u3 d6 (fun t=>⟨(O t).1,T t,X t,(O t).2,V t,z67,ps (cs t) a⟩) (fun t=>decN_eq (Prod.mk.inj (hO t)).1 (hT t) (hX t) (Prod.mk.inj (hO t)).2 (hV t) rfl)).mono (Nat.le_refl _) (by omega)
 ·exact Sim.pure (Nat.le_refl _) (Nat.le_refl _) hl rfl
def SimR (cs:Bool→Ctx) (j:Nat) {α γ:Type} (g:α→γ) (S:Bool→Rd α) (a0:Nat):Prop:=∀(s:Bool) (a:Nat) (d:Int),Sy s j a→a0≤a→a≤(cs false).L.length→Sim cs s j a (a+1) g (S s a d) (S false a d)
theorem SimR.mono {α γ:Type} {g:α→γ} {S:Bool→Rd α} {a0 a1:Nat} (h:SimR cs j g S a0) (hl:a0≤a1):SimR cs j g S a1:=fun s a d hs ha=>h s a d hs (Nat.le_trans hl ha)
def Fu (cs:Bool→Ctx) (j:Nat) (fs:Bool→Nat) (a:Nat):Prop:=(cs false).L.length<fs false+a∧j<fs true+a
theorem Fu.down {fs:Bool→Nat} {a:Nat} (h:Fu cs j fs a) {s:Bool} (hs:Sy s j a) (hl:a≤(cs false).L.length):∃gs:Bool→Nat,fs s=gs s+1∧fs false=gs false+1∧∀a1,a+1≤a1→Fu cs j gs a1:=by
 obtain ⟨h1,h2⟩:=h
 refine ⟨fun t=>fs t - 1,?_,by dsimp only;omega,fun a1 ha=>⟨by dsimp only;omega,by dsimp only;omega⟩⟩
 cases s with
 | false=>dsimp only;omega
 | true=>have:=hs.resolve_left (by simp);dsimp only;omega
theorem Fu.top (hP:Pair cs j) (a:Nat):Fu cs j (fun t=>(cs t).L.length+1 - a) a:=⟨by dsimp only;omega,by have:=hP.len;dsimp only;omega⟩
theorem simLeftLoop (hP:Pair cs j) {next:Bool→Rd Ex} {rank:Int} {once:Bool} {a0:Nat} (hn:SimR cs j exN next a0):∀(n:Nat) (fs:Bool→Nat) (E:Bool→Ex) (s:Bool) (a:Nat) (d:Int),fs false=n→Fu cs j fs a→(∀t,exN (E t)=exN (E false))→Sy s j a→a0≤a→a≤(cs false).L.length →
  Sim cs s j a a exN (lL (cs s) (next s) rank once (fs s) (E s) a d) (lL (cs false) (next false) rank once (fs false) (E false) a d)
 | 0,fs,E,s,a,d,h0,hF,hE,hs,ha,hl=>absurd hF.1 (by omega)
 | n+1,fs,E,s,a,d,h0,hF,hE,hs,ha,hl=>by
  obtain ⟨gs,e1,e2,hG⟩:=hF.down hs hl
  rw [e1,e2,lL,lL,hP.kds hs]
  split
  ·exact Sim.pure (Nat.le_refl _) (Nat.le_refl _) hl (hE s)
  ·rename_i hop
   have hal:a<(cs false).L.length:=by
    rcases Nat.lt_or_ge a (cs false).L.length with h | h
    ·exact h
    ·exact absurd (by rw [kd_end h];unfold opOf;exact (by revert rank;intro rank _;exact (show opAt rank 0 23=0 by simp only [opAt,binT];simp))) hop
   apply Sim.step (a:=a) (a1:=a+1) (by omega)
   intro s0 hs0
   apply Sim.bind (hn s0 (a+1) d hs0 (by omega) hal)
   intro s1 X a1 d1 hs1 h1 h2 h3 hX
   split
   ·exact Sim.pure (Nat.le_refl _) (by omega) h3 (by rw [exN_mk,exN_mk,exNs_two,exNs_two,hE s1,hX s1])
   ·exact (simLeftLoop hP hn n gs (fun t=>.mk (opOf rank (kd (cs false) a)) 0 nN [E t,X t] (ps (cs t) a)) s1 a1 d1 (by omega) (hG a1 (by omega)) (fun t=>by rw [exN_mk,exN_mk,exNs_two,exNs_two,hE t,hX t]) hs1 (by omega) h3).mono (Nat.le_refl _) (by omega)
theorem simLeft (hP:Pair cs j) {next:Bool→Rd Ex} {rank:Int} {once:Bool} {a0:Nat} (hn:SimR cs j exN next a0):SimR cs j exN (fun t=>leftS (cs t) (next t) rank once) a0:=by
 intro s a d hs ha hl
 unfold leftS
 apply Sim.bind (hn s a d hs ha hl)
 intro s1 X a1 d1 hs1 h1 h2 h3 hX
 exact (simLeftLoop hP hn _ (fun t=>(cs t).L.length+1 - a1) X s1 a1 d1 rfl (Fu.top hP a1) hX hs1 (by omega) h3).mono (Nat.le_refl _) (by omega)
theorem simExprOf (hP:Pair cs j) {un:Bool→Rd Ex} {a0:Nat} (hn:SimR cs j exN un a0):SimR cs j exN (fun t=>exprOf (cs t) (un t)) a0 :=
 simLeft hP (simLeft hP (simLeft hP (simLeft hP (simLeft hP hn))))
theorem simParens (hP:Pair cs j) {ex:Bool→Rd Ex} {a0:Nat} (hn:SimR cs j exN ex (a0+1)):SimR cs j exN (fun t=>paS (cs t) (ex t)) a0:=by
 intro s a d hs ha hl
 unfold paS
 apply Sim.bind (sW hP hs hl 32 (by omega) d)
 intro s1 X a1 d1 hs1 h1 h2 h3 hX
 apply Sim.bind (hn s1 a1 d1 hs1 (by omega) h3)
 intro s2 E a2 d2 hs2 q1 q2 q3 hE
 apply Sim.bind (sW hP hs2 q3 33 (by omega) d2)
 intro s3 Y a3 d3 hs3 p1 p2 p3 hY
 exact Sim.pure (Nat.le_refl _) (by omega) p3 (hE s3)
theorem simArgs (hP:Pair cs j) {ex:Bool→Rd Ex} {a0:Nat} (hn:SimR cs j exN ex a0):∀(n i:Nat) (l:Bool→List Ex) (s:Bool) (a:Nat) (d:Int),(∀t,exNs (l t)=exNs (l false))→Sy s j a→a0≤a→a≤(cs false).L.length →
  Sim cs s j a a exNs (argsS (cs s) (ex s) n i (l s) a d) (argsS (cs false) (ex false) n i (l false) a d)
 | 0,i,l,s,a,d,hL,hs,ha,hl=>Sim.pure (Nat.le_refl _) (Nat.le_refl _) hl (hL s)
 | n+1,i,l,s,a,d,hL,hs,ha,hl=>by
  rw [argsS,argsS]
  apply Sim.bind (b1:=a) (g:=fun x:Unit=>x)
  ·split
   ·exact Sim.pure (Nat.le_refl _) (Nat.le_refl _) hl rfl
   ·apply Sim.bind (sW hP hs hl 36 (by omega) d)
    intro s1 X a1 d1 hs1 h1 h2 h3 hX
    exact Sim.pure (Nat.le_refl _) h1 h3 rfl
  ·intro s1 O a1 d1 hs1 h1 h2 h3 hO
   apply Sim.bind (hn s1 a1 d1 hs1 (by omega) h3)
   intro s2 E a2 d2 hs2 q1 q2 q3 hE
   exact (simArgs hP hn n (i+1) (fun t=>l t++[E t]) s2 a2 d2 (fun t=>by rw [exNs_app,exNs_app,exNs_one,exNs_one,hL t,hE t]) hs2 (by omega) q3).mono (Nat.le_refl _) (by omega)
theorem simCall (hP:Pair cs j) {ex:Bool→Rd Ex} {op:Int} {n a0:Nat} (hn:SimR cs j exN ex (a0+1)) {s:Bool} {a:Nat} {d:Int} (ha:a0≤a) (hal:a<(cs false).L.length):Sim cs s j a (a+1) exN (callS (cs s) (ex s) op n a d) (callS (cs false) (ex false) op n a d):=by
 unfold callS
 apply Sim.step (a:=a) (a1:=a+1) (by omega)
 intro s0 hs0
 apply Sim.bind (sW hP hs0 hal 32 (by omega) d)
 intro s1 X a1 d1 hs1 h1 h2 h3 hX
 apply Sim.bind (simArgs hP hn n 0 (fun _=>[]) s1 a1 d1 (fun _=>rfl) hs1 (by omega) h3)
 intro s2 E a2 d2 hs2 q1 q2 q3 hE
 apply Sim.bind (sW hP hs2 q3 33 (by omega) d2)
 intro s3 Y a3 d3 hs3 p1 p2 p3 hY
 exact Sim.pure (Nat.le_refl _) (by omega) p3 (by rw [exN_mk,exN_mk,hE s3])
theorem simNm (hP:Pair cs j) {ex:Bool→Rd Ex} {a0:Nat} (hn:SimR cs j exN ex (a0+1)):SimR cs j exN (fun t=>nmS (cs t) (ex t)) a0:=by
 intro s a d hs ha hl
 unfold nmS
 apply Sim.bind (simName hP hs hl d)
 intro s1 X a1 d1 hs1 h1 h2 h3 hX
 apply Sim.bind (simTake hP hs1 h3 48 (by omega) d1)
 intro s2 B a2 d2 hs2 q1 q2 q3 hB
 rw [show B s2=B false from hB s2]
 split
 ·apply Sim.bind (hn s2 a2 d2 hs2 (by omega) q3)
  intro s3 E a3 d3 hs3 p1 p2 p3 hE
  apply Sim.bind (sW hP hs3 p3 49 (by omega) d3)
  intro s4 Y a4 d4 hs4 r1 r2 r3 hY
  exact Sim.pure (Nat.le_refl _) (by omega) r3 (by rw [exN_mk,exN_mk,exNs_one,exNs_one,hE s4,show X s4=X false from hX s4])
 ·exact Sim.pure (Nat.le_refl _) (by omega) q3 (by rw [exN_mk,exN_mk,show X s2=X false from hX s2])
theorem simPrimary (hP:Pair cs j) {ex:Bool→Rd Ex} {a0:Nat} (hn:SimR cs j exN ex (a0+1)):SimR cs j exN (fun t=>primaryS (cs t) (ex t)) a0:=by
 intro s a d hs ha hl
 dsimp only
 unfold primaryS
 rw [hP.kds hs]
 split
 ·apply Sim.bind (sW hP hs hl 2 (by omega) d)
  intro s1 X a1 d1 hs1 h1 h2 h3 hX
  exact Sim.pure (Nat.le_refl _) (by omega) h3 (by rw [exN_mk,exN_mk,show (X s1).2.2.2=(X false).2.2.2 from hX s1])
 split
 ·exact simNm hP hn s a d hs ha hl
 split
 ·rename_i h0;exact simCall hP hn ha (kd_lt h0 (by omega))
 split
 ·rename_i h0;exact simCall hP hn ha (kd_lt h0 (by omega))
 split
 ·rename_i h0;exact simCall hP hn ha (kd_lt h0 (by omega))
 split
 ·rename_i h0;exact simCall hP hn ha (kd_lt h0 (by omega))
 ·exact simParens hP hn s a d hs ha hl
theorem neg_eq (c:Ctx) (un:Rd Ex) (op:Int) (a:Nat) (d:Int):negS c un op a d=if d=64 then .bad (ps c a) 41 else (un (a+1) (d+1)).bind fun e a2 d2=>.ok (.mk op 0 nN [e] (ps c a)) a2 (d2 - 1):=by
 unfold negS deeperS
 split <;> rfl
theorem simNeg {un:Bool→Rd Ex} {op:Int} {a0:Nat} (hn:SimR cs j exN un (a0+1)) {s:Bool} {a:Nat} {d:Int} (ha:a0≤a) (hal:a<(cs false).L.length):Sim cs s j a (a+1) exN (negS (cs s) (un s) op a d) (negS (cs false) (un false) op a d):=by
 rw [neg_eq,neg_eq]
 split
 ·exact Sim.bad (Nat.le_refl _) (by omega) (.inr ⟨rfl,hal⟩)
 ·apply Sim.step (a:=a) (a1:=a+1) (by omega)
  intro s0 hs0
  apply Sim.bind (hn s0 (a+1) (d+1) hs0 (by omega) hal)
  intro s1 E a2 d2 hs1 h1 h2 h3 hE
  exact Sim.pure (Nat.le_refl _) (by omega) h3 (by rw [exN_mk,exN_mk,exNs_one,exNs_one,hE s1])
theorem simUnary (hP:Pair cs j):∀(n:Nat) (fs:Bool→Nat) (a0:Nat),fs false=n→Fu cs j fs a0→SimR cs j exN (fun t=>unaryS (cs t) (fs t)) a0
 | 0,fs,a0,h0,hF=>fun s a d hs ha hl=>absurd hF.1 (by omega)
 | n+1,fs,a0,h0,hF=>fun s a d hs ha hl=>by
  obtain ⟨gs,e1,e2,hG⟩:=Fu.down (fs:=fs) (a:=a) ⟨by have:=hF.1;omega,by have:=hF.2;omega⟩ hs hl
  have ih:=simUnary hP n gs (a+1) (by omega) (hG (a+1) (Nat.le_refl _))
  show Sim cs s j a (a+1) exN (unaryS (cs s) (fs s) a d) (unaryS (cs false) (fs false) a d)
  rw [e1,e2,unaryS,unaryS,hP.kds hs]
  split
  ·rename_i h1;exact simNeg (un:=fun t=>unaryS (cs t) (gs t)) ih (Nat.le_refl _) (kd_lt h1 (by omega))
  split
  ·rename_i h1;exact simNeg (un:=fun t=>unaryS (cs t) (gs t)) ih (Nat.le_refl _) (kd_lt h1 (by omega))
  ·exact simPrimary hP (ex:=fun t=>exprOf (cs t) (unaryS (cs t) (gs t))) (simExprOf hP ih) s a d hs (Nat.le_refl _) hl
theorem simExpr (hP:Pair cs j) (a0:Nat):SimR cs j exN (fun t=>exprS (cs t)) a0 :=
 simExprOf hP (simUnary hP _ (fun t=>(cs t).L.length+1) a0 rfl ⟨by dsimp only;omega,by have:=hP.len;dsimp only;omega⟩)
end
section
variable {cs:Bool→Ctx} {j:Nat}
abbrev gA:Asg→Asg:=fun q=>(q.1,q.2.1,q.2.2.1,exNs q.2.2.2)
theorem simAssign (hP:Pair cs j) {ex:Bool→Rd Ex} {a0:Nat} (hn:SimR cs j exN ex (a0+1)):SimR cs j gA (fun t=>assignS (cs t) (ex t)) a0:=by
 intro s a d hs ha hl
 unfold assignS
 apply Sim.bind (simName hP hs hl d)
 intro s1 X a1 d1 hs1 h1 h2 h3 hX
 apply Sim.bind (simTake hP hs1 h3 48 (by omega) d1)
 intro s2 B a2 d2 hs2 q1 q2 q3 hB
 rw [show B s2=B false from hB s2]
 split
 ·apply Sim.bind (hn s2 a2 d2 hs2 (by omega) q3)
  intro s3 E a3 d3 hs3 p1 p2 p3 hE
  apply Sim.bind (sW hP hs3 p3 49 (by omega) d3)
  intro s4 Y a4 d4 hs4 r1 r2 r3 hY
  apply Sim.bind (sW hP hs4 r3 44 (by omega) d4)
  intro s5 Y a5 d5 hs5 t1 t2 t3 hY
  apply Sim.bind (hn s5 a5 d5 hs5 (by omega) t3)
  intro s6 F a6 d6 hs6 u1 u2 u3 hF
  exact Sim.pure (Nat.le_refl _) (by omega) u3 (by show (_,X s6,_,_)=(_,X false,_,_);rw [exNs_two,exNs_two,hE s6,hF s6,show X s6=X false from hX s6])
 ·apply Sim.bind (sW hP hs2 q3 44 (by omega) d2)
  intro s3 Y a3 d3 hs3 p1 p2 p3 hY
  apply Sim.bind (simTake hP hs3 p3 22 (by omega) d3)
  intro s4 R a4 d4 hs4 r1 r2 r3 hR
  rw [show R s4=R false from hR s4]
  split
  ·apply Sim.bind (simName hP hs4 r3 d4)
   intro s5 V a5 d5 hs5 t1 t2 t3 hV
   exact Sim.pure (Nat.le_refl _) (by omega) t3 (by show (_,X s5,V s5,_)=(_,X false,V false,_);rw [show X s5=X false from hX s5,show V s5=V false from hV s5])
  ·apply Sim.bind (hn s4 a4 d4 hs4 (by omega) r3)
   intro s6 F a6 d6 hs6 u1 u2 u3 hF
   exact Sim.pure (Nat.le_refl _) (by omega) u3 (by show (_,X s6,_,_)=(_,X false,_,_);rw [exNs_one,exNs_one,hF s6,show X s6=X false from hX s6])
theorem simBlockLoop (hP:Pair cs j) {st:Bool→Rd Stm} {a0:Nat} (hn:SimR cs j stN st a0):∀(n:Nat) (fs:Bool→Nat) (l:Bool→List Stm) (s:Bool) (a:Nat) (d:Int),fs false=n→Fu cs j fs a→(∀t,stNs (l t)=stNs (l false))→Sy s j a→a0≤a→a≤(cs false).L.length →
  Sim cs s j a a stNs (bl (cs s) (st s) (fs s) (l s) a d) (bl (cs false) (st false) (fs false) (l false) a d)
 | 0,fs,l,s,a,d,h0,hF,hE,hs,ha,hl=>absurd hF.1 (by omega)
 | n+1,fs,l,s,a,d,h0,hF,hE,hs,ha,hl=>by
  obtain ⟨gs,e1,e2,hG⟩:=hF.down hs hl
  rw [e1,e2,bl,bl,hP.kds hs]
  split
  ·exact Sim.pure (Nat.le_refl _) (Nat.le_refl _) hl (hE s)
  ·apply Sim.bind (hn s a d hs ha hl)
   intro s1 X a1 d1 hs1 h1 h2 h3 hX
   exact (simBlockLoop hP hn n gs (fun t=>l t++[X t]) s1 a1 d1 (by omega) (hG a1 (by omega)) (fun t=>by rw [stNs_app,stNs_app,stNs_one,stNs_one,hE t,hX t]) hs1 (by omega) h3).mono (Nat.le_refl _) (by omega)
theorem simBlock (hP:Pair cs j) {st:Bool→Rd Stm} {a0:Nat} (hn:SimR cs j stN st (a0+1)):SimR cs j stNs (fun t=>blockS (cs t) (st t)) a0:=by
 intro s a d hs ha hl
 unfold blockS
 apply Sim.bind (sW hP hs hl 50 (by omega) d)
 intro s1 X a1 d1 hs1 h1 h2 h3 hX
 apply Sim.bind (simBlockLoop hP hn _ (fun t=>(cs t).L.length+1 - a1) (fun _=>[]) s1 a1 d1 rfl (Fu.top hP a1) (fun _=>rfl) hs1 (by omega) h3)
 intro s2 L a2 d2 hs2 q1 q2 q3 hL
 apply Sim.bind (sW hP hs2 q3 52 (by omega) d2)
 intro s3 Y a3 d3 hs3 p1 p2 p3 hY
 exact Sim.pure (Nat.le_refl _) (by omega) p3 (hL s3)
theorem simBranch (hP:Pair cs j) {ex:Bool→Rd Ex} {blk:Bool→Rd (List Stm)} {a0:Nat} (hE:SimR cs j exN ex (a0+1)) (hB:SimR cs j stNs blk (a0+1)):∀(n:Nat) (fs:Bool→Nat) (s:Bool) (a:Nat) (d:Int),fs false=n→Fu cs j fs a→Sy s j a→a0≤a→a≤(cs false).L.length →
  Sim cs s j a (a+1) stN (brS (cs s) (ex s) (blk s) (fs s) a d) (brS (cs false) (ex false) (blk false) (fs false) a d)
 | 0,fs,s,a,d,h0,hF,hs,ha,hl=>absurd hF.1 (by omega)
 | n+1,fs,s,a,d,h0,hF,hs,ha,hl=>by
  obtain ⟨gs,e1,e2,hG⟩:=hF.down hs hl
  rw [e1,e2,brS,brS]
  apply Sim.bind (sW hP hs hl 11 (by omega) d)
  intro s1 X a1 d1 hs1 h1 h2 h3 hX
  apply Sim.bind (simParens hP (hE.mono (by omega)) s1 a1 d1 hs1 (Nat.le_refl _) h3)
  intro s2 E a2 d2 hs2 q1 q2 q3 hE2
  apply Sim.bind (hB s2 a2 d2 hs2 (by omega) q3)
  intro s3 B a3 d3 hs3 p1 p2 p3 hB2
  apply Sim.bind (simTake hP hs3 p3 10 (by omega) d3)
  intro s4 T a4 d4 hs4 r1 r2 r3 hT
  rw [show T s4=T false from hT s4,hP.kds hs4]
  split
  ·split
   ·apply Sim.bind (simBranch hP hE hB n gs s4 a4 d4 (by omega) (hG a4 (by omega)) hs4 (by omega) r3)
    intro s5 V a5 d5 hs5 t1 t2 t3 hV
    exact Sim.pure (Nat.le_refl _) (by omega) t3 (by rw [stN_mk,stN_mk,exNs_one,exNs_one,hE2 s5,bkNs_two,bkNs_two,hB2 s5,stNs_one,stNs_one,hV s5])
   ·apply Sim.bind (hB s4 a4 d4 hs4 (by omega) r3)
    intro s5 V a5 d5 hs5 t1 t2 t3 hV
    exact Sim.pure (Nat.le_refl _) (by omega) t3 (by rw [stN_mk,stN_mk,exNs_one,exNs_one,hE2 s5,bkNs_two,bkNs_two,hB2 s5,hV s5])
  ·exact Sim.pure (Nat.le_refl _) (by omega) r3 (by rw [stN_mk,stN_mk,exNs_one,exNs_one,hE2 s4,bkNs_one,bkNs_one,hB2 s4])
abbrev gC:Cas→List Con × List (List Stm):=fun q=>(q.1.map conN,bkNs q.2)
theorem simCaseLoop (hP:Pair cs j) {blk:Bool→Rd (List Stm)} {a0:Nat} (hB:SimR cs j stNs blk a0):∀(n:Nat) (fs:Bool→Nat) (K:Bool→List Con) (M:Bool→List (List Stm)) (s:Bool) (a:Nat) (d:Int),fs false=n→Fu cs j fs a→(∀t,(K t).map conN=(K false).map conN)→(∀t,bkNs (M t)=bkNs (M false))→Sy s j a→a0≤a→a≤(cs false).L.length →
  Sim cs s j a a gC (cP (cs s) (blk s) (fs s) (K s) (M s) a d) (cP (cs false) (blk false) (fs false) (K false) (M false) a d)
 | 0,fs,K,M,s,a,d,h0,hF,hK,hM,hs,ha,hl=>absurd hF.1 (by omega)
 | n+1,fs,K,M,s,a,d,h0,hF,hK,hM,hs,ha,hl=>by
  obtain ⟨gs,e1,e2,hG⟩:=hF.down hs hl
  rw [e1,e2,cP,cP]
  unfold takeS
  rw [hP.kds hs]
  split
  ·apply Sim.bind (b1:=a+1) (g:=gB)
   ·apply Sim.bind (sW hP hs hl 6 (by omega) d)
    intro s1 X a1 d1 hs1 h1 h2 h3 hX
    exact Sim.pure (Nat.le_refl _) h2 h3 rfl
   ·intro s1 X a1 d1 hs1 h1 h2 h3 hX
    rw [show X s1=X false from hX s1]
    split
    ·apply Sim.bind (simCon hP hs1 h3 d1)
     intro s2 Z a2 d2 hs2 q1 q2 q3 hZ
     apply Sim.bind (sW hP hs2 q3 40 (by omega) d2)
     intro s3 Y a3 d3 hs3 p1 p2 p3 hY
     apply Sim.bind (hB s3 a3 d3 hs3 (by omega) p3)
     intro s4 B a4 d4 hs4 r1 r2 r3 hB2
     exact (simCaseLoop hP hB n gs (fun t=>K t++[Z t]) (fun t=>M t++[B t]) s4 a4 d4 (by omega) (hG a4 (by omega)) (fun t=>by rw [List.map_append,List.map_append,hK t];show _++[conN (Z t)]=_++[conN (Z false)];rw [hZ t]) (fun t=>by rw [bkNs_app,bkNs_app,bkNs_one,bkNs_one,hM t,hB2 t]) hs4 (by omega) r3).mono (Nat.le_refl _) (by omega)
    ·exact Sim.pure (Nat.le_refl _) (by omega) h3 (by show (_,_)=(_,_);rw [hK s1,hM s1])
  ·exact Sim.pure (Nat.le_refl _) (Nat.le_refl _) hl (by show (_,_)=(_,_);rw [hK s,hM s])
theorem simDflt (hP:Pair cs j) {blk:Bool→Rd (List Stm)} {a0:Nat} (hB:SimR cs j stNs blk a0) (M:Bool→List (List Stm)) (hM:∀t,bkNs (M t)=bkNs (M false)) {s:Bool} {a:Nat} (d:Int) (hs:Sy s j a) (ha:a0≤a) (hl:a≤(cs false).L.length) :
  Sim cs s j a a bkNs (dfltS (cs s) (blk s) (M s) a d) (dfltS (cs false) (blk false) (M false) a d):=by
 unfold dfltS
 apply Sim.bind (simTake hP hs hl 9 (by omega) d)
 intro s1 X a1 d1 hs1 h1 h2 h3 hX
 rw [show X s1=X false from hX s1]
 split
 ·apply Sim.bind (sW hP hs1 h3 40 (by omega) d1)
  intro s2 Y a2 d2 hs2 q1 q2 q3 hY
  apply Sim.bind (hB s2 a2 d2 hs2 (by omega) q3)
  intro s3 B a3 d3 hs3 p1 p2 p3 hB2
  exact Sim.pure (Nat.le_refl _) (by omega) p3 (by rw [bkNs_app,bkNs_app,bkNs_one,bkNs_one,hM s3,hB2 s3])
 ·exact Sim.pure (Nat.le_refl _) (by omega) h3 (hM s1)
theorem simChoice (hP:Pair cs j) {ex:Bool→Rd Ex} {blk:Bool→Rd (List Stm)} {a0:Nat} (hE:SimR cs j exN ex (a0+1)) (hB:SimR cs j stNs blk (a0+1)) {s:Bool} {a:Nat} {d:Int} (ha:a0≤a) (hal:a<(cs false).L.length):Sim cs s j a (a+1) stN (choiceS (cs s) (ex s) (blk s) a d) (choiceS (cs false) (ex false) (blk false) a d):=by
 unfold choiceS
 apply Sim.step (a:=a) (a1:=a+1) (by omega)
 intro s0 hs0
 apply Sim.bind (simParens hP (hE.mono (by omega)) s0 (a+1) d hs0 (Nat.le_refl _) hal)
 intro s1 E a1 d1 hs1 h1 h2 h3 hE2
 apply Sim.bind (sW hP hs1 h3 50 (by omega) d1)
 intro s2 Y a2 d2 hs2 q1 q2 q3 hY
 apply Sim.bind (simCaseLoop hP hB _ (fun t=>(cs t).L.length+1 - a2) (fun _=>[]) (fun _=>[]) s2 a2 d2 rfl (Fu.top hP a2) (fun _=>rfl) (fun _=>rfl) hs2 (by omega) q3)
 intro s3 C a3 d3 hs3 p1 p2 p3 hC
 apply Sim.bind (simDflt hP hB (fun t=>(C t).2) (fun t=>(Prod.mk.inj (hC t)).2) d3 hs3 (by omega) p3)
 intro s4 M a4 d4 hs4 r1 r2 r3 hM
 apply Sim.bind (sW hP hs4 r3 52 (by omega) d4)
 intro s5 Y a5 d5 hs5 t1 t2 t3 hY
 exact Sim.pure (Nat.le_refl _) (by omega) t3 (by rw [stN_mk,stN_mk,exNs_one,exNs_one,hE2 s5,hM s5,show (C s5).1.map conN=(C false).1.map conN from (Prod.mk.inj (hC s5)).1])
theorem simWhile (hP:Pair cs j) {ex:Bool→Rd Ex} {blk:Bool→Rd (List Stm)} {a0:Nat} (hE:SimR cs j exN ex (a0+1)) (hB:SimR cs j stNs blk (a0+1)) {s:Bool} {a:Nat} {d:Int} (ha:a0≤a) (hal:a<(cs false).L.length):Sim cs s j a (a+1) stN (whileS (cs s) (ex s) (blk s) a d) (whileS (cs false) (ex false) (blk false) a d):=by
 unfold whileS
 apply Sim.step (a:=a) (a1:=a+1) (by omega)
 intro s0 hs0
 apply Sim.bind (simParens hP (hE.mono (by omega)) s0 (a+1) d hs0 (Nat.le_refl _) hal)
 intro s1 E a1 d1 hs1 h1 h2 h3 hE2
 apply Sim.bind (hB s1 a1 d1 hs1 (by omega) h3)
 intro s2 B a2 d2 hs2 q1 q2 q3 hB2
 exact Sim.pure (Nat.le_refl _) (by omega) q3 (by rw [stN_mk,stN_mk,exNs_one,exNs_one,hE2 s2,bkNs_one,bkNs_one,hB2 s2])
theorem simAsg (hP:Pair cs j) {ex:Bool→Rd Ex} {a0:Nat} (hE:SimR cs j exN ex (a0+1)) {s:Bool} {a:Nat} {d:Int} (hs:Sy s j a) (ha:a0≤a) (hl:a≤(cs false).L.length):Sim cs s j a (a+1) stN (asgS (cs s) (ex s) a d) (asgS (cs false) (ex false) a d):=by
 unfold asgS
 apply Sim.bind (simAssign hP hE s a d hs ha hl)
 intro s1 Q a1 d1 hs1 h1 h2 h3 hQ
 apply Sim.bind (sW hP hs1 h3 41 (by omega) d1)
 intro s2 Y a2 d2 hs2 q1 q2 q3 hY
 have hq:=hQ s2
 exact Sim.pure (Nat.le_refl _) (by omega) q3 (by
  rw [stN_mk,stN_mk,show (Q s2).1=(Q false).1 from (Prod.mk.inj hq).1,show (Q s2).2.1=(Q false).2.1 from (Prod.mk.inj (Prod.mk.inj hq).2).1,show (Q s2).2.2.1=(Q false).2.2.1 from (Prod.mk.inj (Prod.mk.inj (Prod.mk.inj hq).2).2).1,show exNs (Q s2).2.2.2=exNs (Q false).2.2.2 from (Prod.mk.inj (Prod.mk.inj (Prod.mk.inj hq).2).2).2])
theorem simCallSt (hP:Pair cs j) {s:Bool} {a:Nat} {d:Int} (hal:a<(cs false).L.length):Sim cs s j a (a+1) stN (callStS (cs s) a d) (callStS (cs false) a d):=by
 unfold callStS
 apply Sim.step (a:=a) (a1:=a+1) (by omega)
 intro s0 hs0
 apply Sim.bind (simName hP hs0 hal d)
 intro s1 X a1 d1 hs1 h1 h2 h3 hX
 apply Sim.bind (sW hP hs1 h3 41 (by omega) d1)
 intro s2 Y a2 d2 hs2 q1 q2 q3 hY
 exact Sim.pure (Nat.le_refl _) (by omega) q3 (by rw [stN_mk,stN_mk,show X s2=X false from hX s2])
theorem simAssert (hP:Pair cs j) {ex:Bool→Rd Ex} {a0:Nat} (hE:SimR cs j exN ex (a0+1)) {s:Bool} {a:Nat} {d:Int} (ha:a0≤a) (hal:a<(cs false).L.length):Sim cs s j a (a+1) stN (assertS (cs s) (ex s) a d) (assertS (cs false) (ex false) a d):=by
 unfold assertS
 apply Sim.step (a:=a) (a1:=a+1) (by omega)
 intro s0 hs0
 apply Sim.bind (simParens hP (hE.mono (by omega)) s0 (a+1) d hs0 (Nat.le_refl _) hal)
 intro s1 E a1 d1 hs1 h1 h2 h3 hE2
 apply Sim.bind (sW hP hs1 h3 41 (by omega) d1)
 intro s2 Y a2 d2 hs2 q1 q2 q3 hY
 exact Sim.pure (Nat.le_refl _) (by omega) q3 (by rw [stN_mk,stN_mk,exNs_one,exNs_one,hE2 s2])
theorem simSkip (hP:Pair cs j) {s:Bool} {a:Nat} {d:Int} (hs:Sy s j a) (hl:a≤(cs false).L.length):Sim cs s j a (a+1) stN (skipS (cs s) a d) (skipS (cs false) a d):=by
 unfold skipS
 apply Sim.bind (sW hP hs hl 23 (by omega) d)
 intro s1 X a1 d1 hs1 h1 h2 h3 hX
 apply Sim.bind (sW hP hs1 h3 41 (by omega) d1)
 intro s2 Y a2 d2 hs2 q1 q2 q3 hY
 exact Sim.pure (Nat.le_refl _) (by omega) q3 (by rw [stN_mk,stN_mk])
theorem simStmtOf (hP:Pair cs j) {ex:Bool→Rd Ex} {blk:Bool→Rd (List Stm)} {a0:Nat} (hE:SimR cs j exN ex (a0+1)) (hB:SimR cs j stNs blk (a0+1)) {s:Bool} {a:Nat} {d:Int} (hs:Sy s j a) (ha:a0≤a) (hl:a≤(cs false).L.length):Sim cs s j a (a+1) stN (stmtOf (cs s) (ex s) (blk s) a d) (stmtOf (cs false) (ex false) (blk false) a d):=by
 unfold stmtOf
 rw [hP.kds hs]
 split
 ·exact simAsg hP hE hs ha hl
 split
 ·exact simBranch hP hE hB _ (fun t=>(cs t).L.length+1 - a) s a d rfl (Fu.top hP a) hs ha hl
 split
 ·rename_i h0;exact simWhile hP hE hB ha (kd_lt h0 (by omega))
 split
 ·rename_i h0;exact simChoice hP hE hB ha (kd_lt h0 (by omega))
 split
 ·rename_i h0;exact simCallSt hP (kd_lt h0 (by omega))
 split
 ·rename_i h0;exact simAssert hP hE ha (kd_lt h0 (by omega))
 ·exact simSkip hP hs hl
theorem simStmt (hP:Pair cs j):∀(n:Nat) (fs:Bool→Nat) (a0:Nat),fs false=n→Fu cs j fs a0→SimR cs j stN (fun t=>stmtS (cs t) (fs t)) a0
 | 0,fs,a0,h0,hF=>fun s a d hs ha hl=>absurd hF.1 (by omega)
 | n+1,fs,a0,h0,hF=>fun s a d hs ha hl=>by
  obtain ⟨gs,e1,e2,hG⟩:=Fu.down (fs:=fs) (a:=a) ⟨by have:=hF.1;omega,by have:=hF.2;omega⟩ hs hl
  have ih:=simStmt hP n gs (a+1+1) (by omega) (hG (a+1+1) (by omega))
  show Sim cs s j a (a+1) stN (stmtS (cs s) (fs s) a d) (stmtS (cs false) (fs false) a d)
  rw [e1,e2,stmtS,stmtS]
  exact simStmtOf hP (ex:=fun t=>exprS (cs t)) (blk:=fun t=>blockS (cs t) (stmtS (cs t) (gs t))) (simExpr hP _) (simBlock hP ih) hs (Nat.le_refl _) hl
theorem simBlk (hP:Pair cs j) (a0:Nat):SimR cs j stNs (fun t=>blkS (cs t)) a0 :=
 simBlock hP (simStmt hP _ (fun t=>(cs t).L.length+1) (a0+1) rfl ⟨by dsimp only;omega,by have:=hP.len;dsimp only;omega⟩)
theorem simDeclsLoop (hP:Pair cs j):∀(n:Nat) (fs:Bool→Nat) (l:Bool→List Dec) (s:Bool) (a:Nat) (d:Int),fs false=n→Fu cs j fs a→(∀t,(l t).map decN=(l false).map decN)→Sy s j a→a≤(cs false).L.length →
  Sim cs s j a a (fun l:List Dec=>l.map decN) (dL (cs s) (fs s) (l s) a d) (dL (cs false) (fs false) (l false) a d)
 | 0,fs,l,s,a,d,h0,hF,hE,hs,hl=>absurd hF.1 (by omega)
 | n+1,fs,l,s,a,d,h0,hF,hE,hs,hl=>by
  obtain ⟨gs,e1,e2,hG⟩:=hF.down hs hl
  rw [e1,e2,dL,dL]
  apply Sim.bindE (simDecl hP hs hl d)
  intro s1 X a1 d1 ho hs1 h1 h2 h3 hX
  rw [show (X s1).2=(X false).2 from (Prod.mk.inj (hX s1)).2]
  by_cases hb:(X false).2=true
  ·have hp:=(declS_fine hl ho).2.2.2 hb
   rw [if_pos hb,if_pos hb]
   exact (simDeclsLoop hP n gs (fun t=>l t++[(X t).1]) s1 a1 d1 (by omega) (hG a1 (by omega)) (fun t=>by rw [List.map_append,List.map_append,hE t];show _++[decN (X t).1]=_++[decN (X false).1];rw [show decN (X t).1=decN (X false).1 from (Prod.mk.inj (hX t)).1]) hs1 h3).mono (Nat.le_refl _) (by omega)
  ·rw [if_neg hb,if_neg hb]
   exact Sim.pure (Nat.le_refl _) (by omega) h3 (hE s1)
theorem simProcsLoop (hP:Pair cs j):∀(n:Nat) (fs:Bool→Nat) (l:Bool→List Prc) (s:Bool) (a:Nat) (d:Int),fs false=n→Fu cs j fs a→(∀t,(l t).map prcN=(l false).map prcN)→Sy s j a→a≤(cs false).L.length →
  Sim cs s j a a (fun l:List Prc=>l.map prcN) (pL (cs s) (fs s) (l s) a d) (pL (cs false) (fs false) (l false) a d)
 | 0,fs,l,s,a,d,h0,hF,hE,hs,hl=>absurd hF.1 (by omega)
 | n+1,fs,l,s,a,d,h0,hF,hE,hs,hl=>by
  obtain ⟨gs,e1,e2,hG⟩:=hF.down hs hl
  rw [e1,e2,pL,pL,hP.kds hs]
  split
  ·rename_i h0
   have hal:=kd_lt h0 (by omega)
   apply Sim.step (a:=a) (a1:=a+1) (by omega)
   intro s0 hs0
   apply Sim.bind (simName hP hs0 hal d)
   intro s1 X a1 d1 hs1 h1 h2 h3 hX
   apply Sim.bind (simBlk hP 0 s1 a1 d1 hs1 (Nat.zero_le _) h3)
   intro s2 B a2 d2 hs2 q1 q2 q3 hB
   exact (simProcsLoop hP n gs (fun t=>l t++[⟨X t,B t,ps (cs t) a⟩]) s2 a2 d2 (by omega) (hG a2 (by omega)) (fun t=>by rw [List.map_append,List.map_append,hE t];show _++[(⟨X t,stNs (B t),0⟩:Prc)]=_++[⟨X false,stNs (B false),0⟩];rw [show X t=X false from hX t,hB t]) hs2 q3).mono (b0:=a) (Nat.le_refl _) (by omega)
  ·exact Sim.pure (Nat.le_refl _) (Nat.le_refl _) hl (hE s)
theorem simProgram (hP:Pair cs j) (s:Bool) (d:Int):Sim cs s j 0 0 treN (pS (cs s) 0 d) (pS (cs false) 0 d):=by
 unfold pS
 apply Sim.bind (b1:=0) (simDeclsLoop hP _ (fun t=>(cs t).L.length+1 - 0) (fun _=>[]) s 0 d rfl (Fu.top hP 0) (fun _=>rfl) (.inr (Nat.zero_le _)) (Nat.zero_le _))
 intro s1 D a1 d1 hs1 h1 h2 h3 hD
 apply Sim.bind (b1:=0) ((simProcsLoop hP _ (fun t=>(cs t).L.length+1 - a1) (fun _=>[]) s1 a1 d1 rfl (Fu.top hP a1) (fun _=>rfl) hs1 h3).mono (Nat.le_refl _) (Nat.zero_le _))
 intro s2 R a2 d2 hs2 q1 q2 q3 hR
 apply Sim.bind (sW hP hs2 q3 13 (by omega) d2)
 intro s3 Y a3 d3 hs3 p1 p2 p3 hY
 apply Sim.bind (simBlk hP 0 s3 a3 d3 hs3 (Nat.zero_le _) p3)
 intro s4 I a4 d4 hs4 r1 r2 r3 hI
 apply Sim.bind (sW hP hs4 r3 18 (by omega) d4)
 intro s5 Y a5 d5 hs5 t1 t2 t3 hY
 apply Sim.bind (simBlk hP 0 s5 a5 d5 hs5 (Nat.zero_le _) t3)
 intro s6 L a6 d6 hs6 u1 u2 u3 hL
 rw [hP.kds hs6]
 split
 ·exact Sim.pure (Nat.le_refl _) (Nat.zero_le _) u3 (by
   show (⟨(D s6).map decN,(R s6).map prcN,stNs (I s6),stNs (L s6)⟩:Tre)=⟨(D false).map decN,(R false).map prcN,stNs (I false),stNs (L false)⟩
   rw [hD s6,hR s6,hI s6,hL s6])
 ·exact Sim.bad (Nat.le_refl _) u3 (.inl rfl)
end
end Go.Proofs.YtgaoapnaplgaiaaGreatDoor.Sc
