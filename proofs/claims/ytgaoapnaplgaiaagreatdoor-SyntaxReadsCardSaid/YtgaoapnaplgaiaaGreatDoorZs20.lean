/- This claim's own texts, joined, with only what the claim uses: ParW, ParX. -/
import Derived.Test.YtgaoapnaplgaiaaGreatDoorZs19
namespace Go.Proofs.YtgaoapnaplgaiaaGreatDoor.Sc
set_option maxRecDepth 100000
open Go.RowKit Tk Go.Proofs.YtgaoapnaplgaiaaGreatDoor.Wd
section
variable {c:Ctx} {W X:World} {g2 t:Nat} {v:Array Value} {a a0:Nat} {d d0 fp fp0 fe fe0:Int}
theorem Tw.all7 (h0:St c W a0 d0 fp0 fe0) {r0 r1 r2 r3 r4 r5 r6:Value} (u0 u1 u2 u3 u4 u5 u6:Value) (h:Tw c W X g2 t #[r0,r1,r2,r3,r4,r5,r6] v a d fp fe) :
  Tw c W (((((((X.setCell ⟨W.heap.size,0,none⟩ u0).setCell ⟨W.heap.size,1,none⟩ u1).setCell ⟨W.heap.size,2,none⟩ u2).setCell ⟨W.heap.size,3,none⟩ u3).setCell ⟨W.heap.size,4,none⟩ u4).setCell ⟨W.heap.size,5,none⟩ u5).setCell ⟨W.heap.size,6,none⟩ u6) g2 t #[u0,u1,u2,u3,u4,u5,u6] v a d fp fe:=by
 have g0:=h.res h0 0 u0 (r':=#[u0,r1,r2,r3,r4,r5,r6]) rfl
 have g1:=g0.res h0 1 u1 (r':=#[u0,u1,r2,r3,r4,r5,r6]) rfl
 have g2:=g1.res h0 2 u2 (r':=#[u0,u1,u2,r3,r4,r5,r6]) rfl
 have g3:=g2.res h0 3 u3 (r':=#[u0,u1,u2,u3,r4,r5,r6]) rfl
 have g4:=g3.res h0 4 u4 (r':=#[u0,u1,u2,u3,u4,r5,r6]) rfl
 have g5:=g4.res h0 5 u5 (r':=#[u0,u1,u2,u3,u4,u5,r6]) rfl
 exact g5.res h0 6 u6 (r':=#[u0,u1,u2,u3,u4,u5,u6]) rfl
end
theorem far7 {lo g:Nat} (X:World) (hg:g<lo) (u0 u1 u2 u3 u4 u5 u6:Value):Far lo X (((((((X.setCell ⟨g,0,none⟩ u0).setCell ⟨g,1,none⟩ u1).setCell ⟨g,2,none⟩ u2).setCell ⟨g,3,none⟩ u3).setCell ⟨g,4,none⟩ u4).setCell ⟨g,5,none⟩ u5).setCell ⟨g,6,none⟩ u6) :=
 ((((((((Far.refl lo X).put (p:=⟨g,0,none⟩) hg u0).put (p:=⟨g,1,none⟩) hg u1).put (p:=⟨g,2,none⟩) hg u2).put (p:=⟨g,3,none⟩) hg u3).put (p:=⟨g,4,none⟩) hg u4)).put (p:=⟨g,5,none⟩) hg u5).put (p:=⟨g,6,none⟩) hg u6
theorem RepS.far {lo lo':Nat} {W W':World} {x:Stm} {v:List Value} (h:RepS (fun b=>lo≤b) W x v) (hf:Far lo W W') (hl:lo'≤lo):RepS (fun b=>lo'≤b) W' x v :=
 RepS.keep (fun _ hb=>Nat.le_trans hl hb) (fun b hb hk=>hf.block b hb hk) _ _ h
theorem RepB.far {lo lo':Nat} {W W':World} {x:List Stm} {v:List Value} (h:RepB (fun b=>lo≤b) W x v) (hf:Far lo W W') (hl:lo'≤lo):RepB (fun b=>lo'≤b) W' x v :=
 rK h (fun _ hb=>Nat.le_trans hl hb) (fun b hb hk=>hf.block b hb hk)
theorem accB_one {lo:Nat} {w:World} {x:List Stm} {v:Value} (h:RepB (fun b=>lo≤b) w x [v]) (hl:lo≤w.heap.size):Acc RepB 25 1 lo (w.alloc (.cells #[v] 25)) (.slice (some ⟨w.heap.size,0,none⟩) 1 1) [x] :=
 Acc.lit (R:=RepB) rK (xs:=[x]) (vs:=[[v]]) #[v] ⟨h,trivial⟩ rfl rfl hl (by simp [maxLen]) repB_lt
def ReadsK {α:Type} (c:Ctx) (K:Nat) (k:Int) (rep:Nat→World→Value→α→Prop) (S:Rd α) (a0:Nat):Prop:=∀W a d fp fe,St c W a d fp fe→Ops W→a0≤a→a≤c.L.length→0≤d→d≤64→kd c a=k→Calls Tryz.prog K #[c.me] W (Post c W fp fe (rep W.heap.size) (S a d))
set_option maxHeartbeats 4000000 in
theorem st_branch {c:Ctx} (hG:Good c) (hg1:1<c.g) {br:Rd Stm} {a0:Nat} (hR:ReadsK c 134 11 repSt br a0)
  (W:World) (a:Nat) (d fp fe:Int) (h:St c W a d fp fe) (hO:Ops W) (ha:a0≤a) (hl:a≤c.L.length) (h0:0≤d) (h1:d≤64) (hkd:kd c a=11) :
  Calls Tryz.prog 100 #[c.me] W (Post c W fp fe (repSt W.heap.size) (br a d:Out Stm)):=by
 obtain ⟨S,hSp⟩:∃S,A0 ((br a d:Out Stm)=S):=⟨_,⟨rfl⟩⟩
 rw [hSp.out]
 have hO:=A0.mk hO
 have ha:=A0.mk ha
 have hl:=A0.mk hl
 have hg1:=A0.mk hg1
 have hs0:∀o,St c (W.alloc o) a d fp fe:=fun o=>h.below (bA _ o)
 have PS:=fun o=>qC (hs0 o)
 have hgl:=bL h.blk
 have hs1:∀o q o2,St c (((W.alloc o).drewN q).alloc o2) a d fp fe:=fun o q o2=>((hs0 o).drewN q).below (bA _ o2)
 have KD:=fun o q o2=>kC (hs1 o q o2)
 have hR:=A0.mk hR
 have hkd2:=A0.mk hkd
 rw [hkd] at KD
 clear hkd
 go_enter Tryz.func100,Tryz.ntmps100
 go_upto_block 0 with (first|(go_at_call 56;with_reducible refine (PS _).mono ?_;rintro e w' ⟨rfl,q,rfl⟩)|(go_at_call 55;with_reducible refine (KD _ _ _).mono ?_;rintro e w' ⟨rfl,q2,rfl⟩))
 have hT0:=Tw.lit (t:=107) (r:=Z107) (v:=E107 0 nN nN nilv nilv nilv (ps c a)) h q q2
 generalize ((((W.alloc _).drewN q).alloc _).drewN q2)=X0 at hT0 ⊢
 clear PS KD hs0 hs1
 have hS0:=hT0.st hG h
 have hl3:=bL hT0.vb
 have CN:=hR.out _ _ _ _ _ hS0 (hO.out.grown hT0.fr hg1.out) ha.out hl.out h0 h1 hkd2.out
 go_wp2_with (first|(go_at_call 134;(with_reducible refine CN.mono ?_);rintro e w hP;rcases hP.elim with ⟨x,a1,d1,ho,hg,⟨v,rfl,op,name,read,A1,n1,c1,A2,n2,c2,A3,n3,c3,pos,rfl,hE⟩,hS⟩|⟨p,er,ho,hg,rfl,a',d',hS⟩;(have hT1:=hT0.call h hg hS;have r0:w.cell? ⟨W.heap.size,0,none⟩=some (.int .i64 0):=hT1.rc 0 rfl;have x0:=hT1.rf 0;have r1:w.cell? ⟨W.heap.size,1,none⟩=some (.string ⟨#[]⟩):=hT1.rc 1 rfl;have x1:=hT1.rf 1;have r2:w.cell? ⟨W.heap.size,2,none⟩=some (.string ⟨#[]⟩):=hT1.rc 2 rfl;have x2:=hT1.rf 2;have r3:w.cell? ⟨W.heap.size,3,none⟩=some (.slice none 0 0):=hT1.rc 3 rfl;have x3:=hT1.rf 3;have r4:w.cell? ⟨W.heap.size,4,none⟩=some (.slice none 0 0):=hT1.rc 4 rfl;have x4:=hT1.rf 4;have r5:w.cell? ⟨W.heap.size,5,none⟩=some (.slice none 0 0):=hT1.rc 5 rfl;have x5:=hT1.rf 5;have r6:w.cell? ⟨W.heap.size,6,none⟩=some (.int .i64 0):=hT1.rc 6 rfl;have x6:=hT1.rf 6)))
 case inr =>
  rw [show S=.bad p er by rw [←hSp.out];rw [ho]]
  exact ⟨rfl,Post.mk_bad (Q4 hT0.fr hg) hS⟩
 have hTR:=Tw.all7 h (.int .i64 op) (.string name) (.string read) (.slice A1 n1 c1) (.slice A2 n2 c2) (.slice A3 n3 c3) (.int .i64 pos) hT1
 (first | rw [←hSp.out,ho] | skip)
 exact bodyPost_ret (res_c rfl _ _ W.heap.size 107 _ (0,0) _ rfl hTR.rb Tryz.underlying107 rfl (by kernel_rfl)) rfl (Post.mk_ok (rep:=repSt W.heap.size) hTR.fr ⟨_,_,_,_,_,_,_,_,_,_,_,_,_,rfl,hE.far (far7 w (by omega) _ _ _ _ _ _ _) (by omega)⟩ (hTR.st hG h))
set_option maxHeartbeats 4000000 in
theorem st_choice {c:Ctx} (hG:Good c) (hg1:1<c.g) {br:Rd Stm} {a0:Nat} (hR:ReadsK c 135 24 repSt br a0)
  (W:World) (a:Nat) (d fp fe:Int) (h:St c W a d fp fe) (hO:Ops W) (ha:a0≤a) (hl:a≤c.L.length) (h0:0≤d) (h1:d≤64) (hkd:kd c a=24) :
  Calls Tryz.prog 100 #[c.me] W (Post c W fp fe (repSt W.heap.size) (br a d:Out Stm)):=by
 obtain ⟨S,hSp⟩:∃S,A0 ((br a d:Out Stm)=S):=⟨_,⟨rfl⟩⟩
 rw [hSp.out]
 have hO:=A0.mk hO
 have ha:=A0.mk ha
 have hl:=A0.mk hl
 have hg1:=A0.mk hg1
 have hs0:∀o,St c (W.alloc o) a d fp fe:=fun o=>h.below (bA _ o)
 have PS:=fun o=>qC (hs0 o)
 have hgl:=bL h.blk
 have hs1:∀o q o2,St c (((W.alloc o).drewN q).alloc o2) a d fp fe:=fun o q o2=>((hs0 o).drewN q).below (bA _ o2)
 have KD:=fun o q o2=>kC (hs1 o q o2)
 have hR:=A0.mk hR
 have hkd2:=A0.mk hkd
 rw [hkd] at KD
 clear hkd
 go_enter Tryz.func100,Tryz.ntmps100
 go_upto_block 0 with (first|(go_at_call 56;with_reducible refine (PS _).mono ?_;rintro e w' ⟨rfl,q,rfl⟩)|(go_at_call 55;with_reducible refine (KD _ _ _).mono ?_;rintro e w' ⟨rfl,q2,rfl⟩))
 have hT0:=Tw.lit (t:=107) (r:=Z107) (v:=E107 0 nN nN nilv nilv nilv (ps c a)) h q q2
 generalize ((((W.alloc _).drewN q).alloc _).drewN q2)=X0 at hT0 ⊢
 clear PS KD hs0 hs1
 have hS0:=hT0.st hG h
 have hl3:=bL hT0.vb
 have CN:=hR.out _ _ _ _ _ hS0 (hO.out.grown hT0.fr hg1.out) ha.out hl.out h0 h1 hkd2.out
 go_wp2_with (first|(go_at_call 135;(with_reducible refine CN.mono ?_);rintro e w hP;rcases hP.elim with ⟨x,a1,d1,ho,hg,⟨v,rfl,op,name,read,A1,n1,c1,A2,n2,c2,A3,n3,c3,pos,rfl,hE⟩,hS⟩|⟨p,er,ho,hg,rfl,a',d',hS⟩;(have hT1:=hT0.call h hg hS;have r0:w.cell? ⟨W.heap.size,0,none⟩=some (.int .i64 0):=hT1.rc 0 rfl;have x0:=hT1.rf 0;have r1:w.cell? ⟨W.heap.size,1,none⟩=some (.string ⟨#[]⟩):=hT1.rc 1 rfl;have x1:=hT1.rf 1;have r2:w.cell? ⟨W.heap.size,2,none⟩=some (.string ⟨#[]⟩):=hT1.rc 2 rfl;have x2:=hT1.rf 2;have r3:w.cell? ⟨W.heap.size,3,none⟩=some (.slice none 0 0):=hT1.rc 3 rfl;have x3:=hT1.rf 3;have r4:w.cell? ⟨W.heap.size,4,none⟩=some (.slice none 0 0):=hT1.rc 4 rfl;have x4:=hT1.rf 4;have r5:w.cell? ⟨W.heap.size,5,none⟩=some (.slice none 0 0):=hT1.rc 5 rfl;have x5:=hT1.rf 5;have r6:w.cell? ⟨W.heap.size,6,none⟩=some (.int .i64 0):=hT1.rc 6 rfl;have x6:=hT1.rf 6)))
 case inr =>
  rw [show S=.bad p er by rw [←hSp.out];rw [ho]]
  exact ⟨rfl,Post.mk_bad (Q4 hT0.fr hg) hS⟩
 have hTR:=Tw.all7 h (.int .i64 op) (.string name) (.string read) (.slice A1 n1 c1) (.slice A2 n2 c2) (.slice A3 n3 c3) (.int .i64 pos) hT1
 (first | rw [←hSp.out,ho] | skip)
 exact bodyPost_ret (res_c rfl _ _ W.heap.size 107 _ (0,0) _ rfl hTR.rb Tryz.underlying107 rfl (by kernel_rfl)) rfl (Post.mk_ok (rep:=repSt W.heap.size) hTR.fr ⟨_,_,_,_,_,_,_,_,_,_,_,_,_,rfl,hE.far (far7 w (by omega) _ _ _ _ _ _ _) (by omega)⟩ (hTR.st hG h))
set_option maxHeartbeats 4000000 in
theorem st_skip {c:Ctx} (hG:Good c) (hg1:1<c.g) {a0:Nat}
  (W:World) (a:Nat) (d fp fe:Int) (h:St c W a d fp fe) (hO:Ops W) (ha:a0≤a) (hl:a≤c.L.length) (h0:0≤d) (h1:d≤64) (n1:kd c a≠1) (n11:kd c a≠11) (n27:kd c a≠27) (n24:kd c a≠24) (n5:kd c a≠5) (n4:kd c a≠4) :
  Calls Tryz.prog 100 #[c.me] W (Post c W fp fe (repSt W.heap.size) (skipS c a d:Out Stm)):=by
 obtain ⟨S,hSp⟩:∃S,A0 ((skipS c a d:Out Stm)=S):=⟨_,⟨rfl⟩⟩
 rw [hSp.out]
 have hO:=A0.mk hO
 have ha:=A0.mk ha
 have hl:=A0.mk hl
 have hg1:=A0.mk hg1
 have hs0:∀o,St c (W.alloc o) a d fp fe:=fun o=>h.below (bA _ o)
 have PS:=fun o=>qC (hs0 o)
 have hgl:=bL h.blk
 have hs1:∀o q o2,St c (((W.alloc o).drewN q).alloc o2) a d fp fe:=fun o q o2=>((hs0 o).drewN q).below (bA _ o2)
 have KD:=fun o q o2=>kC (hs1 o q o2)
 have b1:(kd c a==1)=false:=beq_eq_false_iff_ne.mpr n1
 have b11:(kd c a==11)=false:=beq_eq_false_iff_ne.mpr n11
 have b27:(kd c a==27)=false:=beq_eq_false_iff_ne.mpr n27
 have b24:(kd c a==24)=false:=beq_eq_false_iff_ne.mpr n24
 have b5:(kd c a==5)=false:=beq_eq_false_iff_ne.mpr n5
 have b4:(kd c a==4)=false:=beq_eq_false_iff_ne.mpr n4
 clear n1 n11 n27 n24 n5 n4
 go_enter Tryz.func100,Tryz.ntmps100
 go_upto_block 0 with (first|(go_at_call 56;with_reducible refine (PS _).mono ?_;rintro e w' ⟨rfl,q,rfl⟩)|(go_at_call 55;with_reducible refine (KD _ _ _).mono ?_;rintro e w' ⟨rfl,q2,rfl⟩))
 have hT0:=Tw.lit (t:=107) (r:=Z107) (v:=E107 0 nN nN nilv nilv nilv (ps c a)) h q q2
 generalize ((((W.alloc _).drewN q).alloc _).drewN q2)=X0 at hT0 ⊢
 clear PS KD hs0 hs1
 have hS0:=hT0.st hG h
 have CN:=wC hG hS0 (by omega) 23 (by omega)
 go_upto_region 22 with (first|(go_at_call 59;(with_reducible refine CN.mono ?_);rintro e w hP;rcases hP.elim with ⟨t,a1,d1,ho,hg,⟨v,rfl,rfl⟩,hS⟩|⟨p,er,ho,hg,rfl,a',d',hS⟩;(have hT1:=hT0.call h hg hS;have z0:w.cell? ⟨W.heap.size+1,0,none⟩=some (.int .i64 0):=hT1.vc 0 rfl;have y0:=hT1.vf 0)))
 case inr =>
  rw [show S=.bad p er by rw [←hSp.out];simp only [skipS,Out.bind,ho]]
  exact ⟨rfl,Post.mk_bad (Q4 hT0.fr hg) hS⟩
 obtain ⟨e1,l1,f1⟩:=wF (by omega) (by omega) ho
 have q1:=A0.mk ho
 have hTs:=hT1.put h 0 (.int .i64 9) (v':=E107 9 nN nN nilv nilv nilv (ps c a)) rfl
 generalize w.setCell _ _=X2 at hTs ⊢
 clear z0 y0 ho hP CN hT0 hT1 hS0 hS hg
 have hSs:=hTs.st hG h
 have CN:=wC hG hSs (by omega) 41 (by omega)
 go_upto_region 23 with (first|(go_at_call 59;(with_reducible refine CN.mono ?_);rintro e w hP;rcases hP.elim with ⟨t9,a9,d9,ho,hg,⟨v,rfl,rfl⟩,hS⟩|⟨p,er,ho,hg,rfl,a',d',hS⟩;(have hT9:=hTs.call h hg hS)))
 case inr =>
  rw [show S=.bad p er by rw [←hSp.out];simp only [skipS,Out.bind,q1.out,ho]]
  exact ⟨rfl,Post.mk_bad (Q4 hTs.fr hg) hS⟩
 have hSv:A0 (S=.ok (.mk 9 nN nN [] [] [] (ps c a)) a9 d9):=⟨by rw [←hSp.out];simp only [skipS,Out.bind,q1.out,ho]⟩
 have hE9:=A0.mk (Acc.stmt (lo:=W.heap.size+2) (Acc.nil w) (Acc.nil w) (Acc.nil w) 9 nN nN (ps c a))
 clear ho hP CN hTs hSs hS hg
 have z0:w.cell? ⟨W.heap.size+1,0,none⟩=some (.int .i64 9):=hT9.vc 0 rfl;have y0:=hT9.vf 0
 have z1:w.cell? ⟨W.heap.size+1,1,none⟩=some (.string nN):=hT9.vc 1 rfl;have y1:=hT9.vf 1
 have z2:w.cell? ⟨W.heap.size+1,2,none⟩=some (.string nN):=hT9.vc 2 rfl;have y2:=hT9.vf 2
 have z3:w.cell? ⟨W.heap.size+1,3,none⟩=some (.slice none 0 0):=hT9.vc 3 rfl;have y3:=hT9.vf 3
 have z4:w.cell? ⟨W.heap.size+1,4,none⟩=some (.slice none 0 0):=hT9.vc 4 rfl;have y4:=hT9.vf 4
 have z5:w.cell? ⟨W.heap.size+1,5,none⟩=some (.slice none 0 0):=hT9.vc 5 rfl;have y5:=hT9.vf 5
 have z6:w.cell? ⟨W.heap.size+1,6,none⟩=some (.int .i64 (ps c a)):=hT9.vc 6 rfl;have y6:=hT9.vf 6
 have r0:w.cell? ⟨W.heap.size,0,none⟩=some (.int .i64 0):=hT9.rc 0 rfl;have x0:=hT9.rf 0
 have r1:w.cell? ⟨W.heap.size,1,none⟩=some (.string ⟨#[]⟩):=hT9.rc 1 rfl;have x1:=hT9.rf 1
 have r2:w.cell? ⟨W.heap.size,2,none⟩=some (.string ⟨#[]⟩):=hT9.rc 2 rfl;have x2:=hT9.rf 2
 have r3:w.cell? ⟨W.heap.size,3,none⟩=some (.slice none 0 0):=hT9.rc 3 rfl;have x3:=hT9.rf 3
 have r4:w.cell? ⟨W.heap.size,4,none⟩=some (.slice none 0 0):=hT9.rc 4 rfl;have x4:=hT9.rf 4
 have r5:w.cell? ⟨W.heap.size,5,none⟩=some (.slice none 0 0):=hT9.rc 5 rfl;have x5:=hT9.rf 5
 have r6:w.cell? ⟨W.heap.size,6,none⟩=some (.int .i64 0):=hT9.rc 6 rfl;have x6:=hT9.rf 6
 go_wp2
 have hTR:=Tw.all7 h (.int .i64 9) (.string nN) (.string nN) (.slice none 0 0) (.slice none 0 0) (.slice none 0 0) (.int .i64 (ps c a)) hT9
 rw [hSv.out]
 exact bodyPost_ret (res_c rfl _ _ W.heap.size 107 _ (0,0) _ rfl hTR.rb Tryz.underlying107 rfl (by kernel_rfl)) rfl (Post.mk_ok (rep:=repSt W.heap.size) hTR.fr ⟨_,_,_,_,_,_,_,_,_,_,_,_,_,rfl,hE9.out.far (far7 _ (by omega) _ _ _ _ _ _ _) (by omega)⟩ (hTR.st hG h))
set_option maxHeartbeats 4000000 in
theorem st_call {c:Ctx} (hG:Good c) (hg1:1<c.g) {a0:Nat}
  (W:World) (a:Nat) (d fp fe:Int) (h:St c W a d fp fe) (hO:Ops W) (ha:a0≤a) (hl:a≤c.L.length) (h0:0≤d) (h1:d≤64) (hkd:kd c a=5) :
  Calls Tryz.prog 100 #[c.me] W (Post c W fp fe (repSt W.heap.size) (callStS c a d:Out Stm)):=by
 obtain ⟨S,hSp⟩:∃S,A0 ((callStS c a d:Out Stm)=S):=⟨_,⟨rfl⟩⟩
 rw [hSp.out]
 have hO:=A0.mk hO
 have ha:=A0.mk ha
 have hl:=A0.mk hl
 have hg1:=A0.mk hg1
 have hs0:∀o,St c (W.alloc o) a d fp fe:=fun o=>h.below (bA _ o)
 have PS:=fun o=>qC (hs0 o)
 have hgl:=bL h.blk
 have hs1:∀o q o2,St c (((W.alloc o).drewN q).alloc o2) a d fp fe:=fun o q o2=>((hs0 o).drewN q).below (bA _ o2)
 have KD:=fun o q o2=>kC (hs1 o q o2)
 have hal:=kd_lt hkd (by omega)
 rw [hkd] at KD
 clear hkd
 go_enter Tryz.func100,Tryz.ntmps100
 go_upto_block 0 with (first|(go_at_call 56;with_reducible refine (PS _).mono ?_;rintro e w' ⟨rfl,q,rfl⟩)|(go_at_call 55;with_reducible refine (KD _ _ _).mono ?_;rintro e w' ⟨rfl,q2,rfl⟩))
 have hT0:=Tw.lit (t:=107) (r:=Z107) (v:=E107 0 nN nN nilv nilv nilv (ps c a)) h q q2
 generalize ((((W.alloc _).drewN q).alloc _).drewN q2)=X0 at hT0 ⊢
 clear PS KD hs0 hs1
 have hS0:=hT0.st hG h
 have wa:IntKind.i64.wrap ((a:Int)+1)=(a:Int)+1:=IntWalk.i64_in _ (by have:=hG.hl;have:=hl.out;omega)
 have s2:=(hT0.st hG h).c2
 have f2:=(hT0.st hG h).fz 2
 go_upto_region 18 with fail
 have hT1:=hT0.at hG h
 generalize X0.setCell ⟨c.g,2,none⟩ (.int .i64 ((a:Int)+1))=X1 at hT1 ⊢
 clear s2 f2 wa
 clear hT0 hS0
 have hS1:=hT1.st hG h
 have CN:=name_call hG hS1 (by omega)
 go_upto_region 22 with (first|(go_at_call 57;(with_reducible refine CN.mono ?_);rintro e w hP;rcases hP.elim with ⟨s,a1,d1,ho,hg,⟨v,rfl,rfl⟩,hS⟩|⟨p,er,ho,hg,rfl,a',d',hS⟩;(have hT2:=hT1.call h hg hS;have z0:w.cell? ⟨W.heap.size+1,0,none⟩=some (.int .i64 0):=hT2.vc 0 rfl;have y0:=hT2.vf 0;have z1:w.cell? ⟨W.heap.size+1,1,none⟩=some (.string ⟨#[]⟩):=hT2.vc 1 rfl;have y1:=hT2.vf 1)))
 case inr =>
  rw [show S=.bad p er by rw [←hSp.out];simp only [callStS,Out.bind,ho]]
  exact ⟨rfl,Post.mk_bad (Q4 hT1.fr hg) hS⟩
 obtain ⟨e1,l1,f1,-⟩:=name_ok ho
 have q1:=A0.mk ho
 have hTs:=(hT2.put h 0 (.int .i64 7) (v':=E107 7 nN nN nilv nilv nilv (ps c a)) rfl).put h 1 (.string s) (v':=E107 7 s nN nilv nilv nilv (ps c a)) rfl
 generalize (w.setCell _ _).setCell _ _=X2 at hTs ⊢
 clear z0 y0 z1 y1 ho hP CN hT1 hT2 hS1 hS hg
 have hSs:=hTs.st hG h
 have CN:=wC hG hSs (by omega) 41 (by omega)
 go_upto_region 23 with (first|(go_at_call 59;(with_reducible refine CN.mono ?_);rintro e w hP;rcases hP.elim with ⟨t9,a9,d9,ho,hg,⟨v,rfl,rfl⟩,hS⟩|⟨p,er,ho,hg,rfl,a',d',hS⟩;(have hT9:=hTs.call h hg hS)))
 case inr =>
  rw [show S=.bad p er by rw [←hSp.out];simp only [callStS,Out.bind,q1.out,ho]]
  exact ⟨rfl,Post.mk_bad (Q4 hTs.fr hg) hS⟩
 have hSv:A0 (S=.ok (.mk 7 s nN [] [] [] (ps c a)) a9 d9):=⟨by rw [←hSp.out];simp only [callStS,Out.bind,q1.out,ho]⟩
 have hE9:=A0.mk (Acc.stmt (lo:=W.heap.size+2) (Acc.nil w) (Acc.nil w) (Acc.nil w) 7 s nN (ps c a))
 clear ho hP CN hTs hSs hS hg
 have z0:w.cell? ⟨W.heap.size+1,0,none⟩=some (.int .i64 7):=hT9.vc 0 rfl;have y0:=hT9.vf 0
 have z1:w.cell? ⟨W.heap.size+1,1,none⟩=some (.string s):=hT9.vc 1 rfl;have y1:=hT9.vf 1
 have z2:w.cell? ⟨W.heap.size+1,2,none⟩=some (.string nN):=hT9.vc 2 rfl;have y2:=hT9.vf 2
 have z3:w.cell? ⟨W.heap.size+1,3,none⟩=some (.slice none 0 0):=hT9.vc 3 rfl;have y3:=hT9.vf 3
 have z4:w.cell? ⟨W.heap.size+1,4,none⟩=some (.slice none 0 0):=hT9.vc 4 rfl;have y4:=hT9.vf 4
 have z5:w.cell? ⟨W.heap.size+1,5,none⟩=some (.slice none 0 0):=hT9.vc 5 rfl;have y5:=hT9.vf 5
 have z6:w.cell? ⟨W.heap.size+1,6,none⟩=some (.int .i64 (ps c a)):=hT9.vc 6 rfl;have y6:=hT9.vf 6
 have r0:w.cell? ⟨W.heap.size,0,none⟩=some (.int .i64 0):=hT9.rc 0 rfl;have x0:=hT9.rf 0
 have r1:w.cell? ⟨W.heap.size,1,none⟩=some (.string ⟨#[]⟩):=hT9.rc 1 rfl;have x1:=hT9.rf 1
 have r2:w.cell? ⟨W.heap.size,2,none⟩=some (.string ⟨#[]⟩):=hT9.rc 2 rfl;have x2:=hT9.rf 2
 have r3:w.cell? ⟨W.heap.size,3,none⟩=some (.slice none 0 0):=hT9.rc 3 rfl;have x3:=hT9.rf 3
 have r4:w.cell? ⟨W.heap.size,4,none⟩=some (.slice none 0 0):=hT9.rc 4 rfl;have x4:=hT9.rf 4
 have r5:w.cell? ⟨W.heap.size,5,none⟩=some (.slice none 0 0):=hT9.rc 5 rfl;have x5:=hT9.rf 5
 have r6:w.cell? ⟨W.heap.size,6,none⟩=some (.int .i64 0):=hT9.rc 6 rfl;have x6:=hT9.rf 6
 go_wp2
 have hTR:=Tw.all7 h (.int .i64 7) (.string s) (.string nN) (.slice none 0 0) (.slice none 0 0) (.slice none 0 0) (.int .i64 (ps c a)) hT9
 rw [hSv.out]
 exact bodyPost_ret (res_c rfl _ _ W.heap.size 107 _ (0,0) _ rfl hTR.rb Tryz.underlying107 rfl (by kernel_rfl)) rfl (Post.mk_ok (rep:=repSt W.heap.size) hTR.fr ⟨_,_,_,_,_,_,_,_,_,_,_,_,_,rfl,hE9.out.far (far7 _ (by omega) _ _ _ _ _ _ _) (by omega)⟩ (hTR.st hG h))
set_option maxHeartbeats 4000000 in
theorem st_assert {c:Ctx} (hG:Good c) (hg1:1<c.g) {ex:Rd Ex} {a0:Nat} (hF:Fine c (paS c ex) a0) (hR:Reads c 132 (paS c ex) a0)
  (W:World) (a:Nat) (d fp fe:Int) (h:St c W a d fp fe) (hO:Ops W) (ha:a0≤a) (hl:a≤c.L.length) (h0:0≤d) (h1:d≤64) (hkd:kd c a=4) :
  Calls Tryz.prog 100 #[c.me] W (Post c W fp fe (repSt W.heap.size) (assertS c ex a d:Out Stm)):=by
 obtain ⟨S,hSp⟩:∃S,A0 ((assertS c ex a d:Out Stm)=S):=⟨_,⟨rfl⟩⟩
 rw [hSp.out]
 have hO:=A0.mk hO
 have ha:=A0.mk ha
 have hl:=A0.mk hl
 have hg1:=A0.mk hg1
 have hs0:∀o,St c (W.alloc o) a d fp fe:=fun o=>h.below (bA _ o)
 have PS:=fun o=>qC (hs0 o)
 have hgl:=bL h.blk
 have hs1:∀o q o2,St c (((W.alloc o).drewN q).alloc o2) a d fp fe:=fun o q o2=>((hs0 o).drewN q).below (bA _ o2)
 have KD:=fun o q o2=>kC (hs1 o q o2)
 have hal:=kd_lt hkd (by omega)
 have hR:=A0.mk hR
 have hF:=A0.mk hF
 rw [hkd] at KD
 clear hkd
 go_enter Tryz.func100,Tryz.ntmps100
 go_upto_block 0 with (first|(go_at_call 56;with_reducible refine (PS _).mono ?_;rintro e w' ⟨rfl,q,rfl⟩)|(go_at_call 55;with_reducible refine (KD _ _ _).mono ?_;rintro e w' ⟨rfl,q2,rfl⟩))
 have hT0:=Tw.lit (t:=107) (r:=Z107) (v:=E107 0 nN nN nilv nilv nilv (ps c a)) h q q2
 generalize ((((W.alloc _).drewN q).alloc _).drewN q2)=X0 at hT0 ⊢
 clear PS KD hs0 hs1
 have hS0:=hT0.st hG h
 have wa:IntKind.i64.wrap ((a:Int)+1)=(a:Int)+1:=IntWalk.i64_in _ (by have:=hG.hl;have:=hl.out;omega)
 have s2:=(hT0.st hG h).c2
 have f2:=(hT0.st hG h).fz 2
 go_upto_region 21 with fail
 have hT1:=hT0.at hG h
 generalize X0.setCell ⟨c.g,2,none⟩ (.int .i64 ((a:Int)+1))=X1 at hT1 ⊢
 clear s2 f2 wa
 clear hT0 hS0
 have hS1:=hT1.st hG h
 have CN:=hR.out _ _ _ _ _ hS1 (hO.out.grown hT1.fr hg1.out) (by have:=ha.out;omega) (by omega) (by omega) (by omega)
 go_upto_region 22 with (first|(go_at_call 132;(with_reducible refine CN.mono ?_);rintro e w hP;rcases hP.elim with ⟨x,a1,d1,ho,hg,⟨v,rfl,op,num,nm,A,n,cap,pos_,rfl,hE⟩,hS⟩|⟨p,er,ho,hg,rfl,a',d',hS⟩;(have hT2:=hT1.call h hg hS;have p0:∀o,(w.alloc o).cell? ⟨W.heap.size+1,0,none⟩=some (.int .i64 0):=fun o=>(hT2.alloc o).vc 0 rfl;have o0:∀o,(w.alloc o).frozen? ⟨W.heap.size+1,0,none⟩=false:=fun o=>(hT2.alloc o).vf 0;have p3:∀o,(w.alloc o).cell? ⟨W.heap.size+1,3,none⟩=some (.slice none 0 0):=fun o=>(hT2.alloc o).vc 3 rfl;have o3:∀o,(w.alloc o).frozen? ⟨W.heap.size+1,3,none⟩=false:=fun o=>(hT2.alloc o).vf 3)))
 case inr =>
  rw [show S=.bad p er by rw [←hSp.out];simp only [assertS,Out.bind,ho]]
  exact ⟨rfl,Post.mk_bad (Q4 hT1.fr hg) hS⟩
 have hfx:=hF.out _ _ (by have:=ha.out;omega) (by omega) (by omega) _ _ _ ho
 have q1:=A0.mk ho
 have hll:=bL hT2.vb
 have hl5:=bL hT1.vb
 have hT3:=((hT2.alloc (.cells (E93 op num nm A n cap pos_) 93)).put h 0 (.int .i64 8) (v':=E107 8 nN nN nilv nilv nilv (ps c a)) rfl).put h 3 (.slice (some ⟨w.heap.size,0,none⟩) 1 1) (v':=E107 8 nN nN (.slice (some ⟨w.heap.size,0,none⟩) 1 1) nilv nilv (ps c a)) rfl
 have hA3:=(accE_one (lo:=W.heap.size+2) (RepE.far hE (Far.refl _ _) (by omega)) (by omega) (E93 op num nm A n cap pos_) rfl).farE (((Far.refl _ _).put (p:=⟨W.heap.size+1,0,none⟩) (Nat.lt_succ_self _) (.int .i64 8)).put (p:=⟨W.heap.size+1,3,none⟩) (Nat.lt_succ_self _) (.slice (some ⟨w.heap.size,0,none⟩) 1 1))
 generalize ((w.alloc _).setCell _ _).setCell _ _=X3 at hT3 hA3 ⊢
 generalize (some ⟨w.heap.size,0,none⟩:Option Addr)=A5 at hT3 hA3 ⊢
 clear p0 o0 p3 o3 ho hP CN hT1 hT2 hS1 hS hg hE hll hl5
 have hA3:=A0.mk hA3
 have hTs:=hT3
 have hSs:=hTs.st hG h
 clear hT3
 have CN:=wC hG hSs (by omega) 41 (by omega)
 go_upto_region 23 with (first|(go_at_call 59;(with_reducible refine CN.mono ?_);rintro e w hP;rcases hP.elim with ⟨t9,a9,d9,ho,hg,⟨v,rfl,rfl⟩,hS⟩|⟨p,er,ho,hg,rfl,a',d',hS⟩;(have hT9:=hTs.call h hg hS)))
 case inr =>
  rw [show S=.bad p er by rw [←hSp.out];simp only [assertS,Out.bind,q1.out,ho]]
  exact ⟨rfl,Post.mk_bad (Q4 hTs.fr hg) hS⟩
 have hSv:A0 (S=.ok (.mk 8 nN nN [x] [] [] (ps c a)) a9 d9):=⟨by rw [←hSp.out];simp only [assertS,Out.bind,q1.out,ho]⟩
 have hE9:=A0.mk (Acc.stmt (lo:=W.heap.size+2) ((hA3.out.farE (Far.ofGrown hg (by omega)))) (Acc.nil w) (Acc.nil w) 8 nN nN (ps c a))
 clear ho hP CN hTs hSs hS hg
 have z0:w.cell? ⟨W.heap.size+1,0,none⟩=some (.int .i64 8):=hT9.vc 0 rfl;have y0:=hT9.vf 0
 have z1:w.cell? ⟨W.heap.size+1,1,none⟩=some (.string nN):=hT9.vc 1 rfl;have y1:=hT9.vf 1
 have z2:w.cell? ⟨W.heap.size+1,2,none⟩=some (.string nN):=hT9.vc 2 rfl;have y2:=hT9.vf 2
 have z3:w.cell? ⟨W.heap.size+1,3,none⟩=some (.slice A5 1 1):=hT9.vc 3 rfl;have y3:=hT9.vf 3
 have z4:w.cell? ⟨W.heap.size+1,4,none⟩=some (.slice none 0 0):=hT9.vc 4 rfl;have y4:=hT9.vf 4
 have z5:w.cell? ⟨W.heap.size+1,5,none⟩=some (.slice none 0 0):=hT9.vc 5 rfl;have y5:=hT9.vf 5
 have z6:w.cell? ⟨W.heap.size+1,6,none⟩=some (.int .i64 (ps c a)):=hT9.vc 6 rfl;have y6:=hT9.vf 6
 have r0:w.cell? ⟨W.heap.size,0,none⟩=some (.int .i64 0):=hT9.rc 0 rfl;have x0:=hT9.rf 0
 have r1:w.cell? ⟨W.heap.size,1,none⟩=some (.string ⟨#[]⟩):=hT9.rc 1 rfl;have x1:=hT9.rf 1
 have r2:w.cell? ⟨W.heap.size,2,none⟩=some (.string ⟨#[]⟩):=hT9.rc 2 rfl;have x2:=hT9.rf 2
 have r3:w.cell? ⟨W.heap.size,3,none⟩=some (.slice none 0 0):=hT9.rc 3 rfl;have x3:=hT9.rf 3
 have r4:w.cell? ⟨W.heap.size,4,none⟩=some (.slice none 0 0):=hT9.rc 4 rfl;have x4:=hT9.rf 4
 have r5:w.cell? ⟨W.heap.size,5,none⟩=some (.slice none 0 0):=hT9.rc 5 rfl;have x5:=hT9.rf 5
 have r6:w.cell? ⟨W.heap.size,6,none⟩=some (.int .i64 0):=hT9.rc 6 rfl;have x6:=hT9.rf 6
 go_wp2
 have hTR:=Tw.all7 h (.int .i64 8) (.string nN) (.string nN) (.slice A5 1 1) (.slice none 0 0) (.slice none 0 0) (.int .i64 (ps c a)) hT9
 rw [hSv.out]
 exact bodyPost_ret (res_c rfl _ _ W.heap.size 107 _ (0,0) _ rfl hTR.rb Tryz.underlying107 rfl (by kernel_rfl)) rfl (Post.mk_ok (rep:=repSt W.heap.size) hTR.fr ⟨_,_,_,_,_,_,_,_,_,_,_,_,_,rfl,hE9.out.far (far7 _ (by omega) _ _ _ _ _ _ _) (by omega)⟩ (hTR.st hG h))
set_option maxHeartbeats 4000000 in
theorem st_while {c:Ctx} (hG:Good c) (hg1:1<c.g) {ex:Rd Ex} {blk:Rd (List Stm)} {a0:Nat} (hF:Fine c (paS c ex) a0) (hR:Reads c 132 (paS c ex) a0) (hFB:Fine c blk a0) (hRB:ReadsA c 58 repBlk blk a0)
  (W:World) (a:Nat) (d fp fe:Int) (h:St c W a d fp fe) (hO:Ops W) (ha:a0≤a) (hl:a≤c.L.length) (h0:0≤d) (h1:d≤64) (hkd:kd c a=27) :
  Calls Tryz.prog 100 #[c.me] W (Post c W fp fe (repSt W.heap.size) (whileS c ex blk a d:Out Stm)):=by
 obtain ⟨S,hSp⟩:∃S,A0 ((whileS c ex blk a d:Out Stm)=S):=⟨_,⟨rfl⟩⟩
 rw [hSp.out]
 have hO:=A0.mk hO
 have ha:=A0.mk ha
 have hl:=A0.mk hl
 have hg1:=A0.mk hg1
 have hs0:∀o,St c (W.alloc o) a d fp fe:=fun o=>h.below (bA _ o)
 have PS:=fun o=>qC (hs0 o)
 have hgl:=bL h.blk
 have hs1:∀o q o2,St c (((W.alloc o).drewN q).alloc o2) a d fp fe:=fun o q o2=>((hs0 o).drewN q).below (bA _ o2)
 have KD:=fun o q o2=>kC (hs1 o q o2)
 have hal:=kd_lt hkd (by omega)
 have hR:=A0.mk hR
 have hF:=A0.mk hF
 have hRB:=A0.mk hRB
 rw [hkd] at KD
 clear hkd
 go_enter Tryz.func100,Tryz.ntmps100
 go_upto_block 0 with (first|(go_at_call 56;with_reducible refine (PS _).mono ?_;rintro e w' ⟨rfl,q,rfl⟩)|(go_at_call 55;with_reducible refine (KD _ _ _).mono ?_;rintro e w' ⟨rfl,q2,rfl⟩))
 have hT0:=Tw.lit (t:=107) (r:=Z107) (v:=E107 0 nN nN nilv nilv nilv (ps c a)) h q q2
 generalize ((((W.alloc _).drewN q).alloc _).drewN q2)=X0 at hT0 ⊢
 clear PS KD hs0 hs1
 have hS0:=hT0.st hG h
 have wa:IntKind.i64.wrap ((a:Int)+1)=(a:Int)+1:=IntWalk.i64_in _ (by have:=hG.hl;have:=hl.out;omega)
 have s2:=(hT0.st hG h).c2
 have f2:=(hT0.st hG h).fz 2
 go_upto_region 11 with fail
 have hT1:=hT0.at hG h
 generalize X0.setCell ⟨c.g,2,none⟩ (.int .i64 ((a:Int)+1))=X1 at hT1 ⊢
 clear s2 f2 wa
 clear hT0 hS0
 have hS1:=hT1.st hG h
 have CN:=hR.out _ _ _ _ _ hS1 (hO.out.grown hT1.fr hg1.out) (by have:=ha.out;omega) (by omega) (by omega) (by omega)
 go_upto_region 12 with (first|(go_at_call 132;(with_reducible refine CN.mono ?_);rintro e w hP;rcases hP.elim with ⟨x,a1,d1,ho,hg,⟨v,rfl,op,num,nm,A,n,cap,pos_,rfl,hE⟩,hS⟩|⟨p,er,ho,hg,rfl,a',d',hS⟩;(have hT2:=hT1.call h hg hS;have p0:∀o,(w.alloc o).cell? ⟨W.heap.size+1,0,none⟩=some (.int .i64 0):=fun o=>(hT2.alloc o).vc 0 rfl;have o0:∀o,(w.alloc o).frozen? ⟨W.heap.size+1,0,none⟩=false:=fun o=>(hT2.alloc o).vf 0;have p3:∀o,(w.alloc o).cell? ⟨W.heap.size+1,3,none⟩=some (.slice none 0 0):=fun o=>(hT2.alloc o).vc 3 rfl;have o3:∀o,(w.alloc o).frozen? ⟨W.heap.size+1,3,none⟩=false:=fun o=>(hT2.alloc o).vf 3)))
 case inr =>
  rw [show S=.bad p er by rw [←hSp.out];simp only [whileS,Out.bind,ho]]
  exact ⟨rfl,Post.mk_bad (Q4 hT1.fr hg) hS⟩
 have hfx:=hF.out _ _ (by have:=ha.out;omega) (by omega) (by omega) _ _ _ ho
 have q1:=A0.mk ho
 have hll:=bL hT2.vb
 have hl5:=bL hT1.vb
 have hT3:=((hT2.alloc (.cells (E93 op num nm A n cap pos_) 93)).put h 0 (.int .i64 5) (v':=E107 5 nN nN nilv nilv nilv (ps c a)) rfl).put h 3 (.slice (some ⟨w.heap.size,0,none⟩) 1 1) (v':=E107 5 nN nN (.slice (some ⟨w.heap.size,0,none⟩) 1 1) nilv nilv (ps c a)) rfl
 have hA3:=(accE_one (lo:=W.heap.size+2) (RepE.far hE (Far.refl _ _) (by omega)) (by omega) (E93 op num nm A n cap pos_) rfl).farE (((Far.refl _ _).put (p:=⟨W.heap.size+1,0,none⟩) (Nat.lt_succ_self _) (.int .i64 5)).put (p:=⟨W.heap.size+1,3,none⟩) (Nat.lt_succ_self _) (.slice (some ⟨w.heap.size,0,none⟩) 1 1))
 generalize ((w.alloc _).setCell _ _).setCell _ _=X3 at hT3 hA3 ⊢
 generalize (some ⟨w.heap.size,0,none⟩:Option Addr)=A5 at hT3 hA3 ⊢
 clear p0 o0 p3 o3 ho hP CN hT1 hT2 hS1 hS hg hE hll hl5
 have hA3:=A0.mk hA3
 have hS3:=hT3.st hG h
 have CN:=hRB.out _ _ _ _ _ hS3 (hO.out.grown hT3.fr hg1.out) (by have:=ha.out;omega) (by omega) (by omega) (by omega)
 go_upto_region 13 with (first|(go_at_call 58;(with_reducible refine CN.mono ?_);rintro e w hP;rcases hP.elim with ⟨b,a2,d2,ho,hg,⟨v,rfl,A2,n2,c2,rfl,hB⟩,hS⟩|⟨p,er,ho,hg,rfl,a',d',hS⟩;(have hT4:=hT3.call h hg hS;have p4:∀o,(w.alloc o).cell? ⟨W.heap.size+1,4,none⟩=some (.slice none 0 0):=fun o=>(hT4.alloc o).vc 4 rfl;have o4:∀o,(w.alloc o).frozen? ⟨W.heap.size+1,4,none⟩=false:=fun o=>(hT4.alloc o).vf 4)))
 case inr =>
  rw [show S=.bad p er by rw [←hSp.out];simp only [whileS,Out.bind,q1.out,ho]]
  exact ⟨rfl,Post.mk_bad (Q4 hT3.fr hg) hS⟩
 have hSv:A0 (S=.ok (.mk 5 nN nN [x] [b] [] (ps c a)) a2 d2):=⟨by rw [←hSp.out];simp only [whileS,Out.bind,q1.out,ho]⟩
 have hll:=bL hT4.vb
 have hl5:=bL hT3.vb
 have hT5:=(hT4.alloc (.cells #[.slice A2 n2 c2] 25)).put h 4 (.slice (some ⟨w.heap.size,0,none⟩) 1 1) (v':=E107 5 nN nN (.slice A5 1 1) (.slice (some ⟨w.heap.size,0,none⟩) 1 1) nilv (ps c a)) rfl
 have hff:=((Far.refl (W.heap.size+2) (w.alloc (.cells #[.slice A2 n2 c2] 25))).put (p:=⟨W.heap.size+1,4,none⟩) (Nat.lt_succ_self _) (.slice (some ⟨w.heap.size,0,none⟩) 1 1))
 have hB5:=(accB_one (lo:=W.heap.size+2) (RepB.far hB (Far.refl _ _) (by omega)) (by omega)).farB hff
 have hA5:=((hA3.out.farE (Far.ofGrown hg (by omega))).farE ((Far.refl _ _).alloc (.cells #[.slice A2 n2 c2] 25))).farE hff
 have hE9:=Acc.stmt hA5 hB5 (Acc.nil _) 5 nN nN (ps c a)
 generalize (w.alloc _).setCell _ _=X5 at hT5 hE9 ⊢
 generalize (some ⟨w.heap.size,0,none⟩:Option Addr)=A6 at hT5 hE9 ⊢
 clear hff hA5 hB5 hll hl5 p4 o4 ho hP CN hT3 hT4 hS3 hS hg hB hA3
 have hE9:=A0.mk hE9
 have z0:X5.cell? ⟨W.heap.size+1,0,none⟩=some (.int .i64 5):=hT5.vc 0 rfl;have y0:=hT5.vf 0
 have z1:X5.cell? ⟨W.heap.size+1,1,none⟩=some (.string nN):=hT5.vc 1 rfl;have y1:=hT5.vf 1
 have z2:X5.cell? ⟨W.heap.size+1,2,none⟩=some (.string nN):=hT5.vc 2 rfl;have y2:=hT5.vf 2
 have z3:X5.cell? ⟨W.heap.size+1,3,none⟩=some (.slice A5 1 1):=hT5.vc 3 rfl;have y3:=hT5.vf 3
 have z4:X5.cell? ⟨W.heap.size+1,4,none⟩=some (.slice A6 1 1):=hT5.vc 4 rfl;have y4:=hT5.vf 4
 have z5:X5.cell? ⟨W.heap.size+1,5,none⟩=some (.slice none 0 0):=hT5.vc 5 rfl;have y5:=hT5.vf 5
 have z6:X5.cell? ⟨W.heap.size+1,6,none⟩=some (.int .i64 (ps c a)):=hT5.vc 6 rfl;have y6:=hT5.vf 6
 have r0:X5.cell? ⟨W.heap.size,0,none⟩=some (.int .i64 0):=hT5.rc 0 rfl;have x0:=hT5.rf 0
 have r1:X5.cell? ⟨W.heap.size,1,none⟩=some (.string ⟨#[]⟩):=hT5.rc 1 rfl;have x1:=hT5.rf 1
 have r2:X5.cell? ⟨W.heap.size,2,none⟩=some (.string ⟨#[]⟩):=hT5.rc 2 rfl;have x2:=hT5.rf 2
 have r3:X5.cell? ⟨W.heap.size,3,none⟩=some (.slice none 0 0):=hT5.rc 3 rfl;have x3:=hT5.rf 3
 have r4:X5.cell? ⟨W.heap.size,4,none⟩=some (.slice none 0 0):=hT5.rc 4 rfl;have x4:=hT5.rf 4
 have r5:X5.cell? ⟨W.heap.size,5,none⟩=some (.slice none 0 0):=hT5.rc 5 rfl;have x5:=hT5.rf 5
 have r6:X5.cell? ⟨W.heap.size,6,none⟩=some (.int .i64 0):=hT5.rc 6 rfl;have x6:=hT5.rf 6
 go_wp2
 have hTR:=Tw.all7 h (.int .i64 5) (.string nN) (.string nN) (.slice A5 1 1) (.slice A6 1 1) (.slice none 0 0) (.int .i64 (ps c a)) hT5
 rw [hSv.out]
 exact bodyPost_ret (res_c rfl _ _ W.heap.size 107 _ (0,0) _ rfl hTR.rb Tryz.underlying107 rfl (by kernel_rfl)) rfl (Post.mk_ok (rep:=repSt W.heap.size) hTR.fr ⟨_,_,_,_,_,_,_,_,_,_,_,_,_,rfl,hE9.out.far (far7 _ (by omega) _ _ _ _ _ _ _) (by omega)⟩ (hTR.st hG h))
set_option maxHeartbeats 4000000 in
theorem st_asg {c:Ctx} (hG:Good c) (hg1:1<c.g) {ex:Rd Ex} {a0:Nat} (hF:Fine c ex (a0+1)) (hR:Reads c 131 ex (a0+1))
  (W:World) (a:Nat) (d fp fe:Int) (h:St c W a d fp fe) (hO:Ops W) (ha:a0≤a) (hl:a≤c.L.length) (h0:0≤d) (h1:d≤64) (hkd:kd c a=1) :
  Calls Tryz.prog 100 #[c.me] W (Post c W fp fe (repSt W.heap.size) (asgS c ex a d:Out Stm)):=by
 obtain ⟨S,hSp⟩:∃S,A0 ((asgS c ex a d:Out Stm)=S):=⟨_,⟨rfl⟩⟩
 rw [hSp.out]
 have hO:=A0.mk hO
 have ha:=A0.mk ha
 have hl:=A0.mk hl
 have hg1:=A0.mk hg1
 have hs0:∀o,St c (W.alloc o) a d fp fe:=fun o=>h.below (bA _ o)
 have PS:=fun o=>qC (hs0 o)
 have hgl:=bL h.blk
 have hs1:∀o q o2,St c (((W.alloc o).drewN q).alloc o2) a d fp fe:=fun o q o2=>((hs0 o).drewN q).below (bA _ o2)
 have KD:=fun o q o2=>kC (hs1 o q o2)
 rw [hkd] at KD
 clear hkd
 have hF:=A0.mk hF
 have hR:=A0.mk hR
 go_enter Tryz.func100,Tryz.ntmps100
 go_upto_block 0 with (first|(go_at_call 56;with_reducible refine (PS _).mono ?_;rintro e w' ⟨rfl,q,rfl⟩)|(go_at_call 55;with_reducible refine (KD _ _ _).mono ?_;rintro e w' ⟨rfl,q2,rfl⟩))
 have hT0:=Tw.lit (t:=107) (r:=Z107) (v:=E107 0 nN nN nilv nilv nilv (ps c a)) h q q2
 generalize ((((W.alloc _).drewN q).alloc _).drewN q2)=X0 at hT0 ⊢
 clear PS KD hs0 hs1
 have hS0:=hT0.st hG h
 have CN:=assign_call hG hg1.out hF.out hR.out h hO.out hT0 ha.out h0 h1
 go_upto_region 22 with (first|(go_at_call 133;(with_reducible refine CN.mono ?_);rintro e w hP;rcases hP.elim with ⟨⟨o,nm,rd,l⟩,a1,d1,ho,rfl,A,n,cap,hTs,hA⟩|⟨p,er,ho,rfl,hg,a',d',hS⟩))
 case inr =>
  rw [show S=.bad p er by rw [←hSp.out];simp only [asgS,Out.bind,ho]]
  exact ⟨rfl,Post.mk_bad hg hS⟩
 have hfx:=assignS_fine hF.out _ _ ha.out h0 h1 _ _ _ ho
 have q1:=A0.mk ho
 have hA:=A0.mk hA
 clear ho hP CN hT0 hS0
 have hSs:=hTs.st hG h
 have CN:=wC hG hSs (by omega) 41 (by omega)
 go_upto_region 23 with (first|(go_at_call 59;(with_reducible refine CN.mono ?_);rintro e w hP;rcases hP.elim with ⟨t9,a9,d9,ho,hg,⟨v,rfl,rfl⟩,hS⟩|⟨p,er,ho,hg,rfl,a',d',hS⟩;(have hT9:=hTs.call h hg hS)))
 case inr =>
  rw [show S=.bad p er by rw [←hSp.out];simp only [asgS,Out.bind,q1.out,ho]]
  exact ⟨rfl,Post.mk_bad (Q4 hTs.fr hg) hS⟩
 have hSv:A0 (S=.ok (.mk o nm rd l [] [] (ps c a)) a9 d9):=⟨by rw [←hSp.out];simp only [asgS,Out.bind,q1.out,ho]⟩
 have hE9:=A0.mk (Acc.stmt (lo:=W.heap.size+2) ((hA.out.farE (Far.ofGrown hg (by omega)))) (Acc.nil w) (Acc.nil w) o nm rd (ps c a))
 clear ho hP CN hTs hSs hS hg
 have z0:w.cell? ⟨W.heap.size+1,0,none⟩=some (.int .i64 o):=hT9.vc 0 rfl;have y0:=hT9.vf 0
 have z1:w.cell? ⟨W.heap.size+1,1,none⟩=some (.string nm):=hT9.vc 1 rfl;have y1:=hT9.vf 1
 have z2:w.cell? ⟨W.heap.size+1,2,none⟩=some (.string rd):=hT9.vc 2 rfl;have y2:=hT9.vf 2
 have z3:w.cell? ⟨W.heap.size+1,3,none⟩=some (.slice A n cap):=hT9.vc 3 rfl;have y3:=hT9.vf 3
 have z4:w.cell? ⟨W.heap.size+1,4,none⟩=some (.slice none 0 0):=hT9.vc 4 rfl;have y4:=hT9.vf 4
 have z5:w.cell? ⟨W.heap.size+1,5,none⟩=some (.slice none 0 0):=hT9.vc 5 rfl;have y5:=hT9.vf 5
 have z6:w.cell? ⟨W.heap.size+1,6,none⟩=some (.int .i64 (ps c a)):=hT9.vc 6 rfl;have y6:=hT9.vf 6
 have r0:w.cell? ⟨W.heap.size,0,none⟩=some (.int .i64 0):=hT9.rc 0 rfl;have x0:=hT9.rf 0
 have r1:w.cell? ⟨W.heap.size,1,none⟩=some (.string ⟨#[]⟩):=hT9.rc 1 rfl;have x1:=hT9.rf 1
 have r2:w.cell? ⟨W.heap.size,2,none⟩=some (.string ⟨#[]⟩):=hT9.rc 2 rfl;have x2:=hT9.rf 2
 have r3:w.cell? ⟨W.heap.size,3,none⟩=some (.slice none 0 0):=hT9.rc 3 rfl;have x3:=hT9.rf 3
 have r4:w.cell? ⟨W.heap.size,4,none⟩=some (.slice none 0 0):=hT9.rc 4 rfl;have x4:=hT9.rf 4
 have r5:w.cell? ⟨W.heap.size,5,none⟩=some (.slice none 0 0):=hT9.rc 5 rfl;have x5:=hT9.rf 5
 have r6:w.cell? ⟨W.heap.size,6,none⟩=some (.int .i64 0):=hT9.rc 6 rfl;have x6:=hT9.rf 6
 go_wp2
 have hTR:=Tw.all7 h (.int .i64 o) (.string nm) (.string rd) (.slice A n cap) (.slice none 0 0) (.slice none 0 0) (.int .i64 (ps c a)) hT9
 rw [hSv.out]
 exact bodyPost_ret (res_c rfl _ _ W.heap.size 107 _ (0,0) _ rfl hTR.rb Tryz.underlying107 rfl (by kernel_rfl)) rfl (Post.mk_ok (rep:=repSt W.heap.size) hTR.fr ⟨_,_,_,_,_,_,_,_,_,_,_,_,_,rfl,hE9.out.far (far7 _ (by omega) _ _ _ _ _ _ _) (by omega)⟩ (hTR.st hG h))
theorem step_append_prim {α:Type} {R:Rel α} (hK:Keeps R) {P:Program} {w:World} {ops:Array Oper} {o:Oper} {a:Act} {K:Act→World→Prop} {Q:Exit→Act→World→Prop} {E:Prop} (hgd:o.guard=none) (s x:Operand) (t:TypeId)
  (ho:o.op=.call { callee:=.builtin .append,args:=#[s,x],argTypes:=#[t,t] })
  (lo:Nat) (e:TypeId) (i:TypeInfo) (z:Value) (size bytes:Nat) (ht:P.underlying t=some (.slice e)) (hi:P.info? e=some i) (hz:i.zero=some z)
  (hsize:i.size=size) (hby:i.bytes=bytes) (hzs:z.cells.size=size) (hsz:0<size)
  (v:Value) (xs:List α) (vs:List (List Value)) (hs:a.eval s=v) (P0:Nat→Prop) (hown:w.ownsRow lo e size v xs.length vs.flatten) (hall:All2 (R P0 w) xs vs) (hP0:∀b,P0 b→v.ownBlock≠some b)
  (ad:Addr) (c:Nat) (y:α) (news:List Value) (hx:a.eval x=.slice (some ad) 1 c) (hl:news.length=size) (hnews:∀j u,news[j]?=some u→w.cell? (ad.add j)=some u) (h1:∀u ∈ news,u.oneCell'=true)
  (hy:R P0 w y news) (h63:xs.length+1≤maxLen) (hbytes:(xs.length+1) * bytes≤140737488355328) (hbase:lo≤w.heap.size)
  (h:∀v' w',w'.ownsRow lo e size v' (xs++[y]).length (vs++[news]).flatten→All2 (R P0 w') (xs++[y]) (vs++[news])→w.grownBy w' v.ownBlock→(v'.ownBlock=v.ownBlock∨v'.ownBlock=some w.heap.size)→K (a.put o.dst v') w') :
  if Region.wanted o (yielded ops a.tmps)=true then Oper.wp P o a w K Q else E:=by
 have hw:Region.wanted o (yielded ops a.tmps)=true:=by simp [Region.wanted,hgd]
 rw [if_pos hw]
 obtain ⟨v',w',hr,h2,h3,h4⟩:=run_append_own (P:=P) w lo t o.type e i z size bytes ht hi hz hsize hby hzs hsz v xs.length vs.flatten hown ad 1 c news (by omega) hnews h1 h63 hbytes hbase
 have hwh:=run_append_where (P:=P) w lo t o.type e i z size bytes ht hi hz hsize hby v xs.length vs.flatten hown ad 1 c (by omega) news (by omega) hnews h1 h63 hbytes v' w' hr
 unfold Oper.wp execOp
 simp only [ho,resolve,invoke,builtin,Sem.run_bind,Sem.run_pure,Result.andThen_ok,List.map_toArray,List.map_cons,List.map_nil,hs,hx,hr]
 refine h v' w' ?_ ((hall.snoc hy).imp fun x y hr=>hK hr (fun _ hb=>hb) fun b hb hl=>h3.block b hl fun e=>hP0 b hb e.symm) h3 hwh
 rw [List.length_append,List.flatten_append]
 simpa using h2
def Apart (lo:Nat) (v2 v3:Value) (b:Nat):Prop:=lo≤b∧v2.ownBlock≠some b∧v3.ownBlock≠some b
structure Rows3 (lo:Nat) (X:World) (A:Option Addr) (n1 c1:Nat) (v2 v3:Value) (e:List Ex) (bs:List (List Stm)) (cs:List Con):Prop where
 hn:e.length=n1∧n1≤c1
 args:∃vs,Row (Apart lo v2 v3) X A vs.flatten∧RepEs (Apart lo v2 v3) X e vs
 blks:∃vs,X.ownsRow lo 25 1 v2 bs.length vs.flatten∧All2 (RepB (Apart lo v2 v3) X) bs vs
 cass:X.ownsRow lo 67 3 v3 cs.length (cs.map conCells).flatten
 sep:∀k,v2.ownBlock=some k→v3.ownBlock≠some k
section
variable {lo:Nat} {X Y:World} {A:Option Addr} {n1 c1:Nat} {v2 v3:Value} {e:List Ex} {bs:List (List Stm)} {cs:List Con}
theorem oF {ty size n:Nat} {v:Value} {xs:List Value} (hown:X.ownsRow lo ty size v n xs) (hf:Far lo X Y):Y.ownsRow lo ty size v n xs:=by
 refine ⟨hown.1,?_⟩
 rcases hown.2 with hn | ⟨g,cap,cur,rfl,hb,hgg,rest⟩
 ·exact .inl hn
 ·exact .inr ⟨g,cap,cur,rfl,hb,(hf.block g hb (Array.getElem?_eq_some_iff.1 hgg).1).trans hgg,rest⟩
theorem Rows3.far (h:Rows3 lo X A n1 c1 v2 v3 e bs cs) (hf:Far lo X Y):Rows3 lo Y A n1 c1 v2 v3 e bs cs:=by
 obtain ⟨hn,⟨vs,h1,h2⟩,⟨us,h3,h4⟩,h5,h6⟩:=h
 have hk:∀b,Apart lo v2 v3 b→b<X.heap.size→Y.heap[b]?=X.heap[b]?:=fun b hb hl=>hf.block b hb.1 hl
 exact ⟨hn,⟨vs,h1.keep (fun _ hb=>hb) hk,RepEs.keep (fun _ hb=>hb) hk _ _ h2⟩,⟨us,oF h3 hf,h4.imp fun x y hr=>rK hr (fun _ hb=>hb) hk⟩,oF h5 hf,h6⟩
theorem Rows3.start {x:Ex} (h:Acc RepE 93 5 lo X (.slice A n1 c1) [x]):Rows3 lo X A n1 c1 (.slice none 0 0) (.slice none 0 0) [x] [] []:=by
 obtain ⟨vs,hown,hall⟩:=h.ex
 obtain ⟨A',cap',e',hc⟩:=h.shape
 cases e'
 have hap:∀b,lo≤b→Apart lo (.slice none 0 0) (.slice none 0 0) b:=fun b hb=>⟨hb,by simp [Value.ownBlock],by simp [Value.ownBlock]⟩
 refine ⟨⟨rfl,hc⟩,⟨vs,(Row.own hown).keep (fun b hb=>hap b hb) (fun _ _ _=>rfl),repEs_iff.2 (hall.imp fun x y hr=>repE_keeps hr (fun b hb=>hap b hb.1) fun _ _ _=>rfl)⟩,⟨[],World.ownsRow_nil _ _ _ _,trivial⟩,World.ownsRow_nil _ _ _ _,fun k hk=>by simp [Value.ownBlock] at hk⟩
theorem Rows3.stmt {A2 A3:Option Addr} {n2 c2 n3 c3:Nat} (h:Rows3 lo X A n1 c1 (.slice A2 n2 c2) (.slice A3 n3 c3) e bs cs) (op:Int) (name read:ByteArray) (pos:Int) :
  RepS (fun b=>lo≤b) X (.mk op name read e bs cs pos) (stCells op name read A n1 c1 A2 n2 c2 A3 n3 c3 pos):=by
 obtain ⟨⟨rfl,hc⟩,⟨vs,h1,h2⟩,⟨us,h3,h4⟩,h5,h6⟩:=h
 have hn2:bs.length=n2∧n2≤c2:=by
  rcases h3.2 with ⟨e,h0⟩|⟨g,cap,cur,e,_,_,hl,_⟩
  ·cases e;exact ⟨h0,Nat.le_refl _⟩
  ·cases e;exact ⟨rfl,hl⟩
 have hn3:cs.length=n3∧n3≤c3:=by
  rcases h5.2 with ⟨e,h0⟩|⟨g,cap,cur,e,_,_,hl,_⟩
  ·cases e;exact ⟨h0,Nat.le_refl _⟩
  ·cases e;exact ⟨rfl,hl⟩
 obtain ⟨rfl,hc2⟩:=hn2
 obtain ⟨rfl,hc3⟩:=hn3
 rw [RepS]
 have hk:∀b,Apart lo (.slice A2 bs.length c2) (.slice A3 cs.length c3) b→lo≤b:=fun b hb=>hb.1
 exact ⟨A,c1,vs,A2,c2,us,A3,c3,rfl,hc,hc2,hc3,h1.keep hk (fun _ _ _=>rfl),RepEs.keep hk (fun _ _ _=>rfl) _ _ h2,Row.own h3,repBs_iff.2 (h4.imp fun x y hr=>rK hr hk fun _ _ _=>rfl),Row.own h5⟩
theorem own_form {ty size n:Nat} {v:Value} {xs:List Value} (hown:X.ownsRow lo ty size v n xs):∃A n cap,v=.slice A n cap:=by
 rcases hown.2 with ⟨rfl,h0⟩|⟨g,cap,cur,rfl,_⟩
 ·exact ⟨none,0,0,rfl⟩
 ·exact ⟨_,_,cap,rfl⟩
theorem Rows3.case (h:Rows3 lo X A n1 c1 v2 v3 e bs cs) {v3':Value} {x:Con} (hg:X.grownBy Y v3.ownBlock) (hown:Y.ownsRow lo 67 3 v3' (cs++[x]).length ((cs++[x]).map conCells).flatten) (hw:v3'.ownBlock=v3.ownBlock∨v3'.ownBlock=some X.heap.size) :
  Rows3 lo Y A n1 c1 v2 v3' e bs (cs++[x]):=by
 obtain ⟨hn,⟨vs,h1,h2⟩,⟨us,h3,h4⟩,h5,h6⟩:=h
 have hq:∀b,Apart lo v2 v3 b∧b<X.heap.size→Apart lo v2 v3' b:=fun b hb=>⟨hb.1.1,hb.1.2.1,fun e=>by
  rcases hw with hw | hw
  ·exact hb.1.2.2 (hw ▸ e)
  ·rw [hw] at e;have:=Option.some.inj e;have:=hb.2;omega⟩
 have hk:∀b,Apart lo v2 v3 b∧b<X.heap.size→b<X.heap.size→Y.heap[b]?=X.heap[b]?:=fun b hb hl=>hg.block b hl fun e=>hb.1.2.2 e.symm
 have h3l:=h3.lt
 refine ⟨hn,⟨vs,h1.lt.keep hq hk,RepEs.keep hq hk _ _ (RepEs.lt _ _ h2)⟩,⟨us,⟨h3.1,?_⟩,h4.imp fun x y hr=>rK (repB_lt hr) hq hk⟩,hown,fun k hk2 e=>?_⟩
 ·rcases h3.2 with hn | ⟨g,cap,cur,rfl,hb,hgg,rest⟩
  ·exact .inl hn
  ·exact .inr ⟨g,cap,cur,rfl,hb,(hg.block g (Array.getElem?_eq_some_iff.1 hgg).1 (fun e=>h6 g rfl e.symm)).trans hgg,rest⟩
 ·rcases hw with hw | hw
  ·exact h6 k hk2 (hw ▸ e)
  ·rw [hw] at e;have:=Option.some.inj e;have:=h3l k hk2;omega
theorem Rows3.blk (h:Rows3 lo X A n1 c1 v2 v3 e bs cs) {v2':Value} {x:List Stm} {us:List (List Value)} (hg:X.grownBy Y v2.ownBlock) (hown:Y.ownsRow lo 25 1 v2' (bs++[x]).length us.flatten) (hall:All2 (RepB (fun b=>Apart lo v2 v3 b∧b<X.heap.size) Y) (bs++[x]) us)
  (hw:v2'.ownBlock=v2.ownBlock∨v2'.ownBlock=some X.heap.size):Rows3 lo Y A n1 c1 v2' v3 e (bs++[x]) cs:=by
 obtain ⟨hn,⟨vs,h1,h2⟩,⟨us',h3,h4⟩,h5,h6⟩:=h
 have hq:∀b,Apart lo v2 v3 b∧b<X.heap.size→Apart lo v2' v3 b:=fun b hb=>⟨hb.1.1,fun e=>by
  rcases hw with hw | hw
  ·exact hb.1.2.1 (hw ▸ e)
  ·rw [hw] at e;have:=Option.some.inj e;have:=hb.2;omega,hb.1.2.2⟩
 have hk:∀b,Apart lo v2 v3 b∧b<X.heap.size→b<X.heap.size→Y.heap[b]?=X.heap[b]?:=fun b hb hl=>hg.block b hl fun e=>hb.1.2.1 e.symm
 have h5l:=h5.lt
 refine ⟨hn,⟨vs,h1.lt.keep hq hk,RepEs.keep hq hk _ _ (RepEs.lt _ _ h2)⟩,⟨us,hown,hall.imp fun x y hr=>rK hr hq fun _ _ _=>rfl⟩,⟨h5.1,?_⟩,fun k hk2 e=>?_⟩
 ·rcases h5.2 with hn | ⟨g,cap,cur,rfl,hb,hgg,rest⟩
  ·exact .inl hn
  ·exact .inr ⟨g,cap,cur,rfl,hb,(hg.block g (Array.getElem?_eq_some_iff.1 hgg).1 (fun e=>h6 g e.symm rfl)).trans hgg,rest⟩
 ·rcases hw with hw | hw
  ·exact h6 k (hw ▸ hk2) e
  ·rw [hw] at hk2;have:=Option.some.inj hk2;have:=h5l k e;omega
end
end Go.Proofs.YtgaoapnaplgaiaaGreatDoor.Sc
