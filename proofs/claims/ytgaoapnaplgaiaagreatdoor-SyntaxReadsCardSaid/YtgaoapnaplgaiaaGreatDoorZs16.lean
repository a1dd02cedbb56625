/- This claim's own texts, joined, with only what the claim uses: ParO, ParP. -/
import Derived.Test.YtgaoapnaplgaiaaGreatDoorZs15
namespace Go.Proofs.YtgaoapnaplgaiaaGreatDoor.Sc
set_option maxRecDepth 100000
open Go.RowKit Tk Go.Proofs.YtgaoapnaplgaiaaGreatDoor.Wd
theorem repE_leaf {P:Nat→Prop} {X:World} (op num:Int) (nm:ByteArray) (pos:Int):RepE P X (.mk op num nm [] pos) (eC op num nm none 0 0 pos):=by
 rw [RepE]
 exact ⟨none,0,[],rfl,Nat.le_refl _,(fun i u hu=>by simp at hu),(by rw [RepEs])⟩
set_option maxHeartbeats 4000000 in
theorem prim_int {c:Ctx} (hG:Good c) (hg1:1<c.g) {a0:Nat}
  (W:World) (a:Nat) (d fp fe:Int) (h:St c W a d fp fe) (hO:Ops W) (ha:a0≤a) (hl:a≤c.L.length) (h0:0≤d) (h1:d≤64) (hkd:kd c a=2) :
  Calls Tryz.prog 94 #[c.me] W (Post c W fp fe (repE W.heap.size) ((wS c 2 a d).bind fun t a1 d1=>.ok (.mk 1 t.2.2.2 nN [] (ps c a)) a1 d1:Out Ex)):=by
 obtain ⟨S,hSp⟩:∃S,A0 (((wS c 2 a d).bind fun t a1 d1=>.ok (.mk 1 t.2.2.2 nN [] (ps c a)) a1 d1:Out Ex)=S):=⟨_,⟨rfl⟩⟩
 rw [hSp.out]
 have hO:=A0.mk hO
 have hs0:∀o,St c (W.alloc o) a d fp fe:=fun o=>h.below (bA _ o)
 have hs1:∀o q o2,St c (((W.alloc o).drewN q).alloc o2) a d fp fe:=fun o q o2=>((hs0 o).drewN q).below (bA _ o2)
 have PS:=fun o=>qC (hs0 o)
 have KD:=fun o q o2=>kC (hs1 o q o2)
 rw [hkd] at KD
 clear hkd
 have hfd:∀(w:World) (t:Tok),(Instr.field 44 (.agg #[.int .i64 t.1,.int .i64 t.2.1,.int .i64 t.2.2.1,.int .i64 t.2.2.2]) 3).run Tryz.prog w=.ok (.int .i64 t.2.2.2) w:=fun _ _=>by kernel_rfl
 go_enter Tryz.func94,Tryz.ntmps94
 go_upto_block 0 with (first|(go_at_call 56;with_reducible refine (PS _).mono ?_;rintro e w' ⟨rfl,q,rfl⟩)|(go_at_call 55;with_reducible refine (KD _ _ _).mono ?_;rintro e w' ⟨rfl,q2,rfl⟩))
 have hT0:=Tw.lit (t:=93) (r:=Z93) (v:=E93 0 0 nN none 0 0 (ps c a)) h q q2
 generalize ((((W.alloc _).drewN q).alloc _).drewN q2)=X0 at hT0 ⊢
 clear PS KD hs0 hs1
 have hS0:=hT0.st hG h
 have hgl:=bL h.blk
 have CN:=wC hG hS0 (by omega) 2 (by omega)
 go_upto_region 7 with (first|(go_at_call 59;(with_reducible refine CN.mono ?_);rintro e w hP;rcases hP.elim with ⟨t,a1,d1,ho,hg,⟨v,rfl,rfl⟩,hS⟩|⟨p,er,ho,hg,rfl,a',d',hS⟩;(have hT1:=hT0.call h hg hS;have z0:w.cell? ⟨W.heap.size+1,0,none⟩=some (.int .i64 0):=hT1.vc 0 rfl;have y0:=hT1.vf 0;have z1:w.cell? ⟨W.heap.size+1,1,none⟩=some (.int .i64 0):=hT1.vc 1 rfl;have y1:=hT1.vf 1)))
 case inr =>
  rw [show S=.bad p er by rw [←hSp.out];simp only [Out.bind,ho]]
  exact ⟨rfl,Post.mk_bad (Q4 hT0.fr hg) hS⟩
 have hT2:=(hT1.put h 0 (.int .i64 1) (v':=E93 1 0 nN none 0 0 (ps c a)) rfl).put h 1 (.int .i64 t.2.2.2) (v':=E93 1 t.2.2.2 nN none 0 0 (ps c a)) rfl
 generalize (w.setCell _ _).setCell _ _=X2 at hT2 ⊢
 have hSv:A0 (S=.ok (.mk 1 t.2.2.2 nN [] (ps c a)) a1 d1):=⟨by rw [←hSp.out];simp only [Out.bind,ho]⟩
 clear ho hP CN hT0 hT1 hS hg hS0 z0 z1 y0 y1 hfd
 have z0:X2.cell? ⟨W.heap.size+1,0,none⟩=some (.int .i64 1):=hT2.vc 0 rfl;have y0:=hT2.vf 0
 have z1:X2.cell? ⟨W.heap.size+1,1,none⟩=some (.int .i64 t.2.2.2):=hT2.vc 1 rfl;have y1:=hT2.vf 1
 have z2:X2.cell? ⟨W.heap.size+1,2,none⟩=some (.string nN):=hT2.vc 2 rfl;have y2:=hT2.vf 2
 have z3:X2.cell? ⟨W.heap.size+1,3,none⟩=some (.slice none 0 0):=hT2.vc 3 rfl;have y3:=hT2.vf 3
 have z4:X2.cell? ⟨W.heap.size+1,4,none⟩=some (.int .i64 (ps c a)):=hT2.vc 4 rfl;have y4:=hT2.vf 4
 have r0:X2.cell? ⟨W.heap.size,0,none⟩=some (.int .i64 0):=hT2.rc 0 rfl;have x0:=hT2.rf 0
 have r1:X2.cell? ⟨W.heap.size,1,none⟩=some (.int .i64 0):=hT2.rc 1 rfl;have x1:=hT2.rf 1
 have r2:X2.cell? ⟨W.heap.size,2,none⟩=some (.string ⟨#[]⟩):=hT2.rc 2 rfl;have x2:=hT2.rf 2
 have r3:X2.cell? ⟨W.heap.size,3,none⟩=some (.slice none 0 0):=hT2.rc 3 rfl;have x3:=hT2.rf 3
 have r4:X2.cell? ⟨W.heap.size,4,none⟩=some (.int .i64 0):=hT2.rc 4 rfl;have x4:=hT2.rf 4
 go_wp2
 have hTR:=Tw.all5 h (.int .i64 1) (.int .i64 t.2.2.2) (.string nN) (.slice none 0 0) (.int .i64 (ps c a)) hT2
 rw [hSv.out]
 exact bodyPost_ret (res_c rfl _ _ W.heap.size 93 _ (0,0) _ rfl hTR.rb Tryz.underlying93 rfl (by kernel_rfl)) rfl (Post.mk_ok (rep:=repE W.heap.size) hTR.fr ⟨_,_,_,_,_,_,_,rfl,repE_leaf _ _ _ _⟩ (hTR.st hG h))
set_option maxHeartbeats 4000000 in
theorem prim_parens {c:Ctx} (hG:Good c) (hg1:1<c.g) {ex:Rd Ex} {a0:Nat} (hR:Reads c 132 ex a0)
  (W:World) (a:Nat) (d fp fe:Int) (h:St c W a d fp fe) (hO:Ops W) (ha:a0≤a) (hl:a≤c.L.length) (h0:0≤d) (h1:d≤64) (n2:kd c a≠2) (n1:kd c a≠1) (n20:kd c a≠20) (n19:kd c a≠19) (n3:kd c a≠3) (n7:kd c a≠7) :
  Calls Tryz.prog 94 #[c.me] W (Post c W fp fe (repE W.heap.size) (ex a d:Out Ex)):=by
 obtain ⟨S,hSp⟩:∃S,A0 ((ex a d:Out Ex)=S):=⟨_,⟨rfl⟩⟩
 rw [hSp.out]
 have hO:=A0.mk hO
 have hs0:∀o,St c (W.alloc o) a d fp fe:=fun o=>h.below (bA _ o)
 have hs1:∀o q o2,St c (((W.alloc o).drewN q).alloc o2) a d fp fe:=fun o q o2=>((hs0 o).drewN q).below (bA _ o2)
 have PS:=fun o=>qC (hs0 o)
 have KD:=fun o q o2=>kC (hs1 o q o2)
 have hR:=A0.mk hR
 have b2:(kd c a==2)=false:=beq_eq_false_iff_ne.mpr n2
 have b1:(kd c a==1)=false:=beq_eq_false_iff_ne.mpr n1
 have b20:(kd c a==20)=false:=beq_eq_false_iff_ne.mpr n20
 have b19:(kd c a==19)=false:=beq_eq_false_iff_ne.mpr n19
 have b3:(kd c a==3)=false:=beq_eq_false_iff_ne.mpr n3
 have b7:(kd c a==7)=false:=beq_eq_false_iff_ne.mpr n7
 clear n2 n1 n20 n19 n3 n7
 go_enter Tryz.func94,Tryz.ntmps94
 go_upto_block 0 with (first|(go_at_call 56;with_reducible refine (PS _).mono ?_;rintro e w' ⟨rfl,q,rfl⟩)|(go_at_call 55;with_reducible refine (KD _ _ _).mono ?_;rintro e w' ⟨rfl,q2,rfl⟩))
 have hT0:=Tw.lit (t:=93) (r:=Z93) (v:=E93 0 0 nN none 0 0 (ps c a)) h q q2
 generalize ((((W.alloc _).drewN q).alloc _).drewN q2)=X0 at hT0 ⊢
 clear PS KD hs0 hs1
 have hS0:=hT0.st hG h
 have hgl:=bL h.blk
 have hl3:=bL hT0.vb
 have CN:=hR.out _ _ _ _ _ hS0 (hO.out.grown hT0.fr hg1) ha hl h0 h1
 go_wp2_with (first|(go_at_call 132;(with_reducible refine CN.mono ?_);rintro e w hP;rcases hP.elim with ⟨x,a1,d1,ho,hg,⟨v,rfl,op,num,nm,A,n,cap,pos,rfl,hE⟩,hS⟩|⟨p,er,ho,hg,rfl,a',d',hS⟩;(have hT1:=hT0.call h hg hS;have r0:w.cell? ⟨W.heap.size,0,none⟩=some (.int .i64 0):=hT1.rc 0 rfl;have x0:=hT1.rf 0;have r1:w.cell? ⟨W.heap.size,1,none⟩=some (.int .i64 0):=hT1.rc 1 rfl;have x1:=hT1.rf 1;have r2:w.cell? ⟨W.heap.size,2,none⟩=some (.string ⟨#[]⟩):=hT1.rc 2 rfl;have x2:=hT1.rf 2;have r3:w.cell? ⟨W.heap.size,3,none⟩=some (.slice none 0 0):=hT1.rc 3 rfl;have x3:=hT1.rf 3;have r4:w.cell? ⟨W.heap.size,4,none⟩=some (.int .i64 0):=hT1.rc 4 rfl;have x4:=hT1.rf 4)))
 case inr =>
  rw [show S=.bad p er by rw [←hSp.out];rw [ho]]
  exact ⟨rfl,Post.mk_bad (Q4 hT0.fr hg) hS⟩
 have hTR:=Tw.all5 h (.int .i64 op) (.int .i64 num) (.string nm) (.slice A n cap) (.int .i64 pos) hT1
 (first | rw [←hSp.out,ho] | skip)
 exact bodyPost_ret (res_c rfl _ _ W.heap.size 93 _ (0,0) _ rfl hTR.rb Tryz.underlying93 rfl (by kernel_rfl)) rfl (Post.mk_ok (rep:=repE W.heap.size) hTR.fr ⟨op,num,nm,A,n,cap,pos,rfl,hE.far (far5 w (by omega) _ _ _ _ _) (by omega)⟩ (hTR.st hG h))
set_option maxHeartbeats 4000000 in
theorem prim_name {c:Ctx} (hG:Good c) (hg1:1<c.g) {ex:Rd Ex} {a0:Nat} (hF:Fine c ex (a0+1)) (hR:Reads c 131 ex (a0+1))
  (W:World) (a:Nat) (d fp fe:Int) (h:St c W a d fp fe) (hO:Ops W) (ha:a0≤a) (hl:a≤c.L.length) (h0:0≤d) (h1:d≤64) (hkd:kd c a=1) :
  Calls Tryz.prog 94 #[c.me] W (Post c W fp fe (repE W.heap.size) (nmS c ex a d:Out Ex)):=by
 obtain ⟨S,hSp⟩:∃S,A0 ((nmS c ex a d:Out Ex)=S):=⟨_,⟨rfl⟩⟩
 rw [hSp.out]
 have hO:=A0.mk hO
 have hs0:∀o,St c (W.alloc o) a d fp fe:=fun o=>h.below (bA _ o)
 have hs1:∀o q o2,St c (((W.alloc o).drewN q).alloc o2) a d fp fe:=fun o q o2=>((hs0 o).drewN q).below (bA _ o2)
 have PS:=fun o=>qC (hs0 o)
 have KD:=fun o q o2=>kC (hs1 o q o2)
 have hR:=A0.mk hR
 have hF:=A0.mk hF
 rw [hkd] at KD
 clear hkd
 go_enter Tryz.func94,Tryz.ntmps94
 go_upto_block 0 with (first|(go_at_call 56;with_reducible refine (PS _).mono ?_;rintro e w' ⟨rfl,q,rfl⟩)|(go_at_call 55;with_reducible refine (KD _ _ _).mono ?_;rintro e w' ⟨rfl,q2,rfl⟩))
 have hT0:=Tw.lit (t:=93) (r:=Z93) (v:=E93 0 0 nN none 0 0 (ps c a)) h q q2
 generalize ((((W.alloc _).drewN q).alloc _).drewN q2)=X0 at hT0 ⊢
 clear PS KD hs0 hs1
 have hS0:=hT0.st hG h
 have hgl:=bL h.blk
 have CN:=name_call hG hS0 (by omega)
 go_upto_region 10 with (first|(go_at_call 57;(with_reducible refine CN.mono ?_);rintro e w hP;rcases hP.elim with ⟨s,a1,d1,ho,hg,⟨v,rfl,rfl⟩,hS⟩|⟨p,er,ho,hg,rfl,a',d',hS⟩;(have hT1:=hT0.call h hg hS;have z0:w.cell? ⟨W.heap.size+1,0,none⟩=some (.int .i64 0):=hT1.vc 0 rfl;have y0:=hT1.vf 0;have z2:w.cell? ⟨W.heap.size+1,2,none⟩=some (.string ⟨#[]⟩):=hT1.vc 2 rfl;have y2:=hT1.vf 2)))
 case inr =>
  rw [show S=.bad p er by rw [←hSp.out];simp only [nmS,Out.bind,ho]]
  exact ⟨rfl,Post.mk_bad (Q4 hT0.fr hg) hS⟩
 obtain ⟨e1,hl1,e2,-⟩:=name_ok ho
 have q1:A0 (nS c a d=.ok s a1 d1):=⟨ho⟩
 have hT2:=(hT1.put h 0 (.int .i64 2) (v':=E93 2 0 nN none 0 0 (ps c a)) rfl).put h 2 (.string s) (v':=E93 2 0 s none 0 0 (ps c a)) rfl
 generalize (w.setCell _ _).setCell _ _=X2 at hT2 ⊢
 clear ho hP CN hT0 hT1 hS hg hS0 z0 z2 y0 y2
 have e2:=e2.symm
 subst e1
 subst e2
 have hS2:=hT2.st hG h
 have CN:=take_call hG hS2 (by omega) 48 (by omega)
 go_upto_if 28 with (first|(go_at_call 98;(with_reducible refine CN.mono ?_);rintro e w hP;rcases hP.elim with ⟨b,a2,d2,ho,hg,⟨v,rfl,rfl⟩,hS⟩|⟨p,er,ho,hg,rfl,a',d',hS⟩;(have hT3:=hT2.call h hg hS)))
 case inr =>
  rw [show S=.bad p er by rw [←hSp.out];simp only [nmS,Out.bind,q1.out,ho]]
  exact ⟨rfl,Post.mk_bad (Q4 hT2.fr hg) hS⟩
 obtain ⟨m1,m2,mt,mf⟩:=take_ok (by omega) hl1 ho
 have q2:A0 (takeS c 48 (a+1) d=.ok b a2 d2):=⟨ho⟩
 have mt:=A0.mk mt
 have mf:=A0.mk mf
 clear ho hP CN hT2 hS hg hS2
 cases b with
 | false =>
  have hSv:A0 (S=.ok (.mk 2 0 s [] (ps c a)) a2 d2):=⟨by rw [←hSp.out];simp only [nmS,Out.bind,q1.out,q2.out,Bool.false_eq_true,↓reduceIte]⟩
  have z0:w.cell? ⟨W.heap.size+1,0,none⟩=some (.int .i64 2):=hT3.vc 0 rfl;have y0:=hT3.vf 0
  have z1:w.cell? ⟨W.heap.size+1,1,none⟩=some (.int .i64 0):=hT3.vc 1 rfl;have y1:=hT3.vf 1
  have z2:w.cell? ⟨W.heap.size+1,2,none⟩=some (.string s):=hT3.vc 2 rfl;have y2:=hT3.vf 2
  have z3:w.cell? ⟨W.heap.size+1,3,none⟩=some (.slice none 0 0):=hT3.vc 3 rfl;have y3:=hT3.vf 3
  have z4:w.cell? ⟨W.heap.size+1,4,none⟩=some (.int .i64 (ps c a)):=hT3.vc 4 rfl;have y4:=hT3.vf 4
  have r0:w.cell? ⟨W.heap.size,0,none⟩=some (.int .i64 0):=hT3.rc 0 rfl;have x0:=hT3.rf 0
  have r1:w.cell? ⟨W.heap.size,1,none⟩=some (.int .i64 0):=hT3.rc 1 rfl;have x1:=hT3.rf 1
  have r2:w.cell? ⟨W.heap.size,2,none⟩=some (.string ⟨#[]⟩):=hT3.rc 2 rfl;have x2:=hT3.rf 2
  have r3:w.cell? ⟨W.heap.size,3,none⟩=some (.slice none 0 0):=hT3.rc 3 rfl;have x3:=hT3.rf 3
  have r4:w.cell? ⟨W.heap.size,4,none⟩=some (.int .i64 0):=hT3.rc 4 rfl;have x4:=hT3.rf 4
  go_wp2
  have hTR:=Tw.all5 h (.int .i64 2) (.int .i64 0) (.string s) (.slice none 0 0) (.int .i64 (ps c a)) hT3
  rw [hSv.out]
  exact bodyPost_ret (res_c rfl _ _ W.heap.size 93 _ (0,0) _ rfl hTR.rb Tryz.underlying93 rfl (by kernel_rfl)) rfl (Post.mk_ok (rep:=repE W.heap.size) hTR.fr ⟨_,_,_,_,_,_,_,rfl,repE_leaf _ _ _ _⟩ (hTR.st hG h))
 | true =>
  obtain ⟨e3,hd,hne⟩:=mt.out rfl
  rw [if_pos (by omega)] at hd
  have hne:=hne (by omega)
  subst hd
  subst e3
  have hS3:=hT3.st hG h
  have hl3:=bL hT3.vb
  have CN:=hR.out _ _ _ _ _ hS3 (hO.out.grown hT3.fr hg1) (by omega) m2 (by omega) (by omega)
  go_upto_region 12 with (first|(go_at_call 131;(with_reducible refine CN.mono ?_);rintro e w hP;rcases hP.elim with ⟨x,a3,d3,ho,hg,⟨v,rfl,op,num,nm,A,n,cap,pos,rfl,hE⟩,hS⟩|⟨p,er,ho,hg,rfl,a',d',hS⟩;(have hT4:=hT3.call h hg hS;have p0:∀o,(w.alloc o).cell? ⟨W.heap.size+1,0,none⟩=some (.int .i64 2):=fun o=>(hT4.alloc o).vc 0 rfl;have o0:∀o,(w.alloc o).frozen? ⟨W.heap.size+1,0,none⟩=false:=fun o=>(hT4.alloc o).vf 0;have p3:∀o,(w.alloc o).cell? ⟨W.heap.size+1,3,none⟩=some (.slice none 0 0):=fun o=>(hT4.alloc o).vc 3 rfl;have o3:∀o,(w.alloc o).frozen? ⟨W.heap.size+1,3,none⟩=false:=fun o=>(hT4.alloc o).vf 3)))
  case inr =>
   rw [show S=.bad p er by rw [←hSp.out];simp only [nmS,Out.bind,q1.out,q2.out,↓reduceIte,ho]]
   exact ⟨rfl,Post.mk_bad (Q4 hT3.fr hg) hS⟩
  obtain ⟨p1,p2,e4⟩:=hF.out _ _ (by omega) (by omega) (by omega) _ _ _ ho
  have q3:A0 (ex (a+1+1) (d+1)=.ok x a3 d3):=⟨ho⟩
  subst e4
  have hll:=bL hT4.vb
  have hT5:=((hT4.alloc (.cells (E93 op num nm A n cap pos) 93)).put h 0 (.int .i64 3) (v':=E93 3 0 s none 0 0 (ps c a)) rfl).put h 3 (.slice (some ⟨w.heap.size,0,none⟩) 1 1) (v':=E93 3 0 s (some ⟨w.heap.size,0,none⟩) 1 1 (ps c a)) rfl
  have hE5:=RepE.far (repE_one (P:=fun b=>W.heap.size+2≤b) (RepE.far hE (Far.refl _ _) (by omega)) (by omega) (E93 op num nm A n cap pos) rfl 3 0 s (ps c a)) (((Far.refl _ _).put (p:=⟨W.heap.size+1,0,none⟩) (by dsimp only;omega) (.int .i64 3)).put (p:=⟨W.heap.size+1,3,none⟩) (by dsimp only;omega) (.slice (some ⟨w.heap.size,0,none⟩) 1 1)) (Nat.le_refl _)
  generalize ((w.alloc (.cells #[.int .i64 op,.int .i64 num,.string nm,.slice A n cap,.int .i64 pos] 93)).setCell ⟨W.heap.size+1,0,none⟩ (.int .i64 3)).setCell ⟨W.heap.size+1,3,none⟩ (.slice (some ⟨w.heap.size,0,none⟩) 1 1)=X5 at hT5 hE5 ⊢
  generalize (some ⟨w.heap.size,0,none⟩:Option Addr)=A5 at hT5 hE5 ⊢
  clear hE hT4 hT3 hS hg ho hP CN hS3 hll hl3 p0 p3 o0 o3
  have hE5:=A0.mk hE5
  have hS5:=hT5.st hG h
  have CN:=wC hG hS5 (by omega) 49 (by omega)
  go_upto_region 13 with (first|(go_at_call 59;(with_reducible refine CN.mono ?_);rintro e w hP;rcases hP.elim with ⟨t,a4,d4,ho,hg,⟨v,rfl,rfl⟩,hS⟩|⟨p,er,ho,hg,rfl,a',d',hS⟩;(have hT6:=hT5.call h hg hS)))
  case inr =>
   rw [show S=.bad p er by rw [←hSp.out];simp only [nmS,Out.bind,q1.out,q2.out,q3.out,↓reduceIte,ho]]
   exact ⟨rfl,Post.mk_bad (Q4 hT5.fr hg) hS⟩
  have hE6:=A0.mk (RepE.far hE5.out (Far.ofGrown hg (by omega)) (Nat.le_refl _))
  have hSv:A0 (S=.ok (.mk 3 0 s [x] (ps c a)) a4 d4):=⟨by rw [←hSp.out];simp only [nmS,Out.bind,q1.out,q2.out,q3.out,ho,↓reduceIte]⟩
  clear ho hP CN hT5 hS hg hS5 hE5
  have z0:w.cell? ⟨W.heap.size+1,0,none⟩=some (.int .i64 3):=hT6.vc 0 rfl;have y0:=hT6.vf 0
  have z1:w.cell? ⟨W.heap.size+1,1,none⟩=some (.int .i64 0):=hT6.vc 1 rfl;have y1:=hT6.vf 1
  have z2:w.cell? ⟨W.heap.size+1,2,none⟩=some (.string s):=hT6.vc 2 rfl;have y2:=hT6.vf 2
  have z3:w.cell? ⟨W.heap.size+1,3,none⟩=some (.slice A5 1 1):=hT6.vc 3 rfl;have y3:=hT6.vf 3
  have z4:w.cell? ⟨W.heap.size+1,4,none⟩=some (.int .i64 (ps c a)):=hT6.vc 4 rfl;have y4:=hT6.vf 4
  have r0:w.cell? ⟨W.heap.size,0,none⟩=some (.int .i64 0):=hT6.rc 0 rfl;have x0:=hT6.rf 0
  have r1:w.cell? ⟨W.heap.size,1,none⟩=some (.int .i64 0):=hT6.rc 1 rfl;have x1:=hT6.rf 1
  have r2:w.cell? ⟨W.heap.size,2,none⟩=some (.string ⟨#[]⟩):=hT6.rc 2 rfl;have x2:=hT6.rf 2
  have r3:w.cell? ⟨W.heap.size,3,none⟩=some (.slice none 0 0):=hT6.rc 3 rfl;have x3:=hT6.rf 3
  have r4:w.cell? ⟨W.heap.size,4,none⟩=some (.int .i64 0):=hT6.rc 4 rfl;have x4:=hT6.rf 4
  go_wp2
  have hTR:=Tw.all5 h (.int .i64 3) (.int .i64 0) (.string s) (.slice A5 1 1) (.int .i64 (ps c a)) hT6
  rw [hSv.out]
  exact bodyPost_ret (res_c rfl _ _ W.heap.size 93 _ (0,0) _ rfl hTR.rb Tryz.underlying93 rfl (by kernel_rfl)) rfl (Post.mk_ok (rep:=repE W.heap.size) hTR.fr ⟨_,_,_,_,_,_,_,rfl,hE6.out.far (far5 _ (by omega) _ _ _ _ _) (by omega)⟩ (hTR.st hG h))
end Go.Proofs.YtgaoapnaplgaiaaGreatDoor.Sc
