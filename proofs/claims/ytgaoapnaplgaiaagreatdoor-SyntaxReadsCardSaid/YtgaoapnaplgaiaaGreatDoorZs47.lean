/- This claim's own texts, joined, with only what the claim uses: RdP, RdQ, RdR, RdY, RdZ0. -/
import Derived.Test.YtgaoapnaplgaiaaGreatDoorZs46
import Derived.Test.YtgaoapnaplgaiaaGreatDoorZs24
import Derived.Test.YtgaoapnaplgaiaaGreatDoorZs45
import Derived.Test.YtgaoapnaplgaiaaGreatDoorZs30
namespace Go.Proofs.YtgaoapnaplgaiaaGreatDoor.Sc
set_option maxRecDepth 100000
open Go.RowKit Tk Go.Proofs.YtgaoapnaplgaiaaGreatDoor.Wd
set_option maxHeartbeats 4000000 in
theorem rprim_int {c:Ctx} (hG:Good c) {a0:Nat} (W:World) (a:Nat) (d:Int) (h:RSt c W (.here a d)) (ha:a0≤a) (h0:0≤d) (hkd:kd c a=2) :
  Calls Tryz.prog 177 #[c.me] W (RPost c W (repEo W.heap.size) ((wS c 2 a d).bind fun t a1 d1=>.ok (.mk 1 t.2.2.2 nN [] (ps c a)) a1 d1:Out Ex)):=by
 obtain ⟨S,hS⟩:∃S,A0 (((wS c 2 a d).bind fun t a1 d1=>.ok (.mk 1 t.2.2.2 nN [] (ps c a)) a1 d1:Out Ex)=S):=⟨_,⟨rfl⟩⟩
 rw [hS.out]
 have hal:=kL hkd (by omega)
 have hS2:A0 (S=.ok (.mk 1 (c.L.getD a zTok).2.2.2 nN [] (ps c a)) (a+1) d):=⟨by rw [←hS.out];unfold wS;rw [if_pos hkd,if_neg (by omega),if_neg (by omega)];rfl⟩
 have F0:=(Fr.start h).alloc (.cells Z93 93)
 have PS:=pC (F0.st hG).1
 have F1:=A0.mk (fun q=>(F0.drewN q).alloc (.cells (E93 0 0 nN none 0 0 (ps c a)) 93))
 have r1:∀q,Bx (((W.alloc (.cells Z93 93)).drewN q).alloc (.cells (E93 0 0 nN none 0 0 (ps c a)) 93)) W.heap.size 93 Z93:=fun q=>xB (X:=(W.alloc (.cells Z93 93)).drewN q) (xN W 93 _) (bA _ _)
 have v1:∀q,Bx (((W.alloc (.cells Z93 93)).drewN q).alloc (.cells (E93 0 0 nN none 0 0 (ps c a)) 93)) (W.heap.size+1) 93 (E93 0 0 nN none 0 0 (ps c a)):=fun q=>by
  have:=xN ((W.alloc (.cells Z93 93)).drewN q) 93 (E93 0 0 nN none 0 0 (ps c a))
  rwa [show ((W.alloc (.cells Z93 93)).drewN q).heap.size=W.heap.size+1 by simp] at this
 replace r1:=A0.mk r1
 replace v1:=A0.mk v1
 have hal2:=hG.hl
 have hll:=h.2.1
 have hd64:=h.2.2.2
 go_enter Tryz.func177,Tryz.ntmps177
 go_upto_region 2 with (first|(go_at_call 33;(with_reducible refine PS.mono ?_);rintro e w2 ⟨rfl,q,rfl⟩))
 have F:=F1.out q
 have hr:=r1.out q
 have hv:=v1.out q
 generalize ((W.alloc (.cells #[.int .i64 0,.int .i64 0,.string ⟨#[]⟩,.slice none 0 0,.int .i64 0] 93)).drewN q).alloc (.cells #[.int .i64 0,.int .i64 0,.string ⟨#[]⟩,.slice none 0 0,.int .i64 (ps c a)] 93)=X at F hr hv ⊢
 clear F0 F1 r1 v1 PS
 have hgl:=F.gl
 have hb0:Below X.heap.size X X:=Below.refl _ _
 have T0:=fun Y (hb:Below X.heap.size X Y)=>rI hG ((F.below hb).st hG).1 2 (by omega) ⟨#[105,110,116]⟩ rfl
 simp only [show decide (kd c a=2)=true from decide_eq_true hkd] at T0
 obtain ⟨tb,eB,_⟩:=(F.st hG).1.toks a hal
 have T3:=fun (Z:World) (hZ:Fr c W Z (.here a d))=>(hZ.st hG).1.t3 eB hal
 generalize (c.L.getD a zTok).2.2.2=tv at hS2 T3
 replace T3:=A0.mk T3
 have C1:=A0.mk (fun (Z:World) (hZ:Fr c W Z (.here a d))=>(eB ▸ (hZ.st hG).1.c1:Z.cell? ⟨c.g,1,none⟩=some (.slice (some tb) c.L.length c.tc)))
 have a0:(0:Int)≤(a:Int):=by omega
 have a1l:(a:Int)<(c.L.length:Int):=by omega
 have wa:IntKind.i64.wrap ((a:Int)+1)=(a:Int)+1:=IntWalk.i64_in _ (by omega)
 clear hS hkd
 go_upto_region 4 with (first|(go_at_call 31;(with_reducible refine (T0 _ hb0).mono ?_);rintro e w3 ⟨rfl,hb1⟩;replace hb1:=hb0.trans (hb1.mono hb0.size);have z0:w3.cell? ⟨W.heap.size+1,0,none⟩=some (.int .i64 0):=bC (xB hv hb1) 0;have y0:=bF (xB hv hb1) 0))
 replace F:=F.below hb1
 replace hr:=xB hr hb1
 replace hv:=xB hv hb1
 clear T0 hb0 hb1 z0 y0
 replace F:=F.set (p:=⟨W.heap.size+1,0,none⟩) (Nat.le_succ _) (.int .i64 1)
 replace hv:Bx _ (W.heap.size+1) 93 #[.int .i64 1,.int .i64 0,.string nN,.slice none 0 0,.int .i64 (ps c a)]:=bP hv 0 (.int .i64 1) rfl
 replace hr:=Q5 hr (p:=⟨W.heap.size+1,0,none⟩) (by dsimp only;omega) (.int .i64 1)
 generalize (w3).setCell ⟨W.heap.size+1,0,none⟩ (.int .i64 1)=X1 at F hv hr ⊢
 have F9:=(F.set (p:=⟨W.heap.size+1,1,none⟩) (Nat.le_succ _) (.int .i64 tv)).drew
 have hS9:=A0.mk (And.intro (C1.out _ F9) (And.intro (F9.st hG).1.c2 (T3.out _ F9)))
 have hS3:=A0.mk (And.intro (C1.out _ F) (And.intro (F.st hG).1.c2 (T3.out _ F)))
 have z1v:X1.cell? ⟨W.heap.size+1,1,none⟩=some (.int .i64 0):=bC hv 1
 have f1v:=bF hv 1
 go_region_held3 (fun w':World=>w'.cell? ⟨c.g,1,none⟩=some (.slice (some tb) c.L.length c.tc)∧w'.cell? ⟨c.g,2,none⟩=some (.int .i64 (a:Int))∧w'.cell? ⟨(tb.add (a * 4)).block,(tb.add (a * 4)).off+3,none⟩=some (.int .i64 tv)) (first | with_reducible exact hS9.out | exact hS3.out) (fail)
 replace hv:Bx _ (W.heap.size+1) 93 #[.int .i64 1,.int .i64 tv,.string nN,.slice none 0 0,.int .i64 (ps c a)]:=bD (bP hv 1 (.int .i64 tv) rfl)
 replace hr:=bD (Q5 hr (p:=⟨W.heap.size+1,1,none⟩) (by dsimp only;omega) (.int .i64 tv))
 generalize (X1.setCell ⟨W.heap.size+1,1,none⟩ (.int .i64 tv)).drew=Y1 at F9 hv hr ⊢
 clear hS9 hS3 F z1v f1v T3 C1
 have A2:=(F9.st hG).1.c2
 have A1:=(F9.st hG).1.fz 2
 go_upto_region 6 with fail
 have F5:=F9.step hal
 replace hv:=Q5 hv (p:=⟨c.g,2,none⟩) (by have:=F9.gl;dsimp only;omega) (.int .i64 ((a:Int)+1))
 replace hr:=Q5 hr (p:=⟨c.g,2,none⟩) (by have:=F9.gl;dsimp only;omega) (.int .i64 ((a:Int)+1))
 generalize Y1.setCell ⟨c.g,2,none⟩ (.int .i64 ((a:Int)+1))=Y2 at F5 hv hr ⊢
 clear F9 A1 A2 hal wa
 have z0:Y2.cell? ⟨W.heap.size+1,0,none⟩=some (.int .i64 1):=bC hv 0
 have z1:Y2.cell? ⟨W.heap.size+1,1,none⟩=some (.int .i64 tv):=bC hv 1
 have z2:Y2.cell? ⟨W.heap.size+1,2,none⟩=some (.string nN):=bC hv 2
 have z3:Y2.cell? ⟨W.heap.size+1,3,none⟩=some (.slice none 0 0):=bC hv 3
 have z4:Y2.cell? ⟨W.heap.size+1,4,none⟩=some (.int .i64 (ps c a)):=bC hv 4
 have x0:Y2.cell? ⟨W.heap.size,0,none⟩=some (.int .i64 0):=bC hr 0;have y0:=bF hr 0
 have x1:Y2.cell? ⟨W.heap.size,1,none⟩=some (.int .i64 0):=bC hr 1;have y1:=bF hr 1
 have x2:Y2.cell? ⟨W.heap.size,2,none⟩=some (.string ⟨#[]⟩):=bC hr 2;have y2:=bF hr 2
 have x3:Y2.cell? ⟨W.heap.size,3,none⟩=some (.slice none 0 0):=bC hr 3;have y3:=bF hr 3
 have x4:Y2.cell? ⟨W.heap.size,4,none⟩=some (.int .i64 0):=bC hr 4;have y4:=bF hr 4
 go_wp2
 rw [hS2.out]
 exact fin93 (S:=.ok (.mk 1 tv nN [] (ps c a)) (a+1) d) hG rfl rfl rfl F5 hr rfl rfl (fun y hy=>by cases hy;exact repE_leaf _ _ _ _)
set_option maxHeartbeats 4000000 in
theorem rprim_paren {c:Ctx} (hG:Good c) {ex:Rd Ex} {a0:Nat} (hP:RReads c 107 (paS c ex) a0) (W:World) (a:Nat) (d:Int) (h:RSt c W (.here a d)) (ha:a0≤a) (h0:0≤d) (hkd:kd c a=32) :
  Calls Tryz.prog 177 #[c.me] W (RPost c W (repEo W.heap.size) (paS c ex a d)):=by
 obtain ⟨S,hS⟩:∃S,A0 ((paS c ex a d)=S):=⟨_,⟨rfl⟩⟩
 rw [hS.out]
 replace hP:=A0.mk hP
 have F0:=(Fr.start h).alloc (.cells Z93 93)
 have PS:=pC (F0.st hG).1
 have F1:=A0.mk (fun q=>(F0.drewN q).alloc (.cells (E93 0 0 nN none 0 0 (ps c a)) 93))
 have r1:∀q,Bx (((W.alloc (.cells Z93 93)).drewN q).alloc (.cells (E93 0 0 nN none 0 0 (ps c a)) 93)) W.heap.size 93 Z93:=fun q=>xB (X:=(W.alloc (.cells Z93 93)).drewN q) (xN W 93 _) (bA _ _)
 have v1:∀q,Bx (((W.alloc (.cells Z93 93)).drewN q).alloc (.cells (E93 0 0 nN none 0 0 (ps c a)) 93)) (W.heap.size+1) 93 (E93 0 0 nN none 0 0 (ps c a)):=fun q=>by
  have:=xN ((W.alloc (.cells Z93 93)).drewN q) 93 (E93 0 0 nN none 0 0 (ps c a))
  rwa [show ((W.alloc (.cells Z93 93)).drewN q).heap.size=W.heap.size+1 by simp] at this
 replace r1:=A0.mk r1
 replace v1:=A0.mk v1
 have hal2:=hG.hl
 have hll:=h.2.1
 have hd64:=h.2.2.2
 go_enter Tryz.func177,Tryz.ntmps177
 go_upto_region 2 with (first|(go_at_call 33;(with_reducible refine PS.mono ?_);rintro e w2 ⟨rfl,q,rfl⟩))
 have F:=F1.out q
 have hr:=r1.out q
 have hv:=v1.out q
 generalize ((W.alloc (.cells #[.int .i64 0,.int .i64 0,.string ⟨#[]⟩,.slice none 0 0,.int .i64 0] 93)).drewN q).alloc (.cells #[.int .i64 0,.int .i64 0,.string ⟨#[]⟩,.slice none 0 0,.int .i64 (ps c a)] 93)=X at F hr hv ⊢
 clear F0 F1 r1 v1 PS
 have hgl:=F.gl
 have hb0:Below X.heap.size X X:=Below.refl _ _
 have T0:=fun Y (hb:Below X.heap.size X Y)=>rI hG ((F.below hb).st hG).1 2 (by omega) ⟨#[105,110,116]⟩ rfl
 simp only [show decide (kd c a=2)=false from decide_eq_false (by omega)] at T0
 have T1:=fun Y (hb:Below X.heap.size X Y)=>rI hG ((F.below hb).st hG).1 1 (by omega) ⟨#[110,97,109,101]⟩ rfl
 simp only [show decide (kd c a=1)=false from decide_eq_false (by omega)] at T1
 have T2:=fun Y (hb:Below X.heap.size X Y)=>rI hG ((F.below hb).st hG).1 32 (by omega) ⟨#[40]⟩ rfl
 simp only [show decide (kd c a=32)=true from decide_eq_true hkd] at T2
 have CN:=fun Y (hb:Below X.heap.size X Y)=>hP.out.c ((F.below hb).st hG) (fun a' d' e=>by cases e;exact ⟨ha,h0⟩) (show A0 ((Sta.here a d).go (paS c ex)=S) from hS)
 have hXs:=bL hv
 clear hkd hP
 go_wp2_with (first|(go_at_call 31;(with_reducible refine (T0 _ hb0).mono ?_);rintro e w3 ⟨rfl,hb1⟩;replace hb1:=hb0.trans (hb1.mono hb0.size))|(go_at_call 31;(with_reducible refine (T1 _ hb1).mono ?_);rintro e w4 ⟨rfl,hb2⟩;replace hb2:=hb1.trans (hb2.mono hb1.size))|(go_at_call 31;(with_reducible refine (T2 _ hb2).mono ?_);rintro e w5 ⟨rfl,hb3⟩;replace hb3:=hb2.trans (hb3.mono hb2.size))|(go_at_call 107;(with_reducible refine (CN _ hb3).mono ?_);rintro e w9 ⟨hg,⟨op,num,nm,A,n,cap,pos,rfl,hE⟩,hR0⟩;(have hr2:=xC (xB hr hb3) hg hgl;have x0:w9.cell? ⟨W.heap.size,0,none⟩=some (.int .i64 0):=bC hr2 0;have y0:=bF hr2 0;have x1:w9.cell? ⟨W.heap.size,1,none⟩=some (.int .i64 0):=bC hr2 1;have y1:=bF hr2 1;have x2:w9.cell? ⟨W.heap.size,2,none⟩=some (.string ⟨#[]⟩):=bC hr2 2;have y2:=bF hr2 2;have x3:w9.cell? ⟨W.heap.size,3,none⟩=some (.slice none 0 0):=bC hr2 3;have y3:=bF hr2 3;have x4:w9.cell? ⟨W.heap.size,4,none⟩=some (.int .i64 0):=bC hr2 4;have y4:=bF hr2 4)))
 exact fin93 hG rfl rfl rfl ((F.below hb3).call hg hR0) hr2 rfl rfl (fun y hy=>(hE.out y hy).far (Far.refl _ _) (by have:=hb3.size;omega))
set_option maxHeartbeats 4000000 in
theorem rprim_else {c:Ctx} (hG:Good c) {ex:Rd Ex} {a0:Nat} (W:World) (a:Nat) (d:Int) (h:RSt c W (.here a d)) (ha:a0≤a) (h0:0≤d) (hkd:kd c a≠2∧kd c a≠1∧kd c a≠32∧kd c a≠20∧kd c a≠19∧kd c a≠3∧kd c a≠7) :
  Calls Tryz.prog 177 #[c.me] W (RPost c W (repEo W.heap.size) (paS c ex a d)):=by
 obtain ⟨S,hS⟩:∃S,A0 ((paS c ex a d)=S):=⟨_,⟨rfl⟩⟩
 rw [hS.out]
 have hS2:A0 (S=.bad (ps c a) 40):=⟨by rw [←hS.out];unfold paS wS;rw [if_neg hkd.2.2.1];rfl⟩
 have F0:=(Fr.start h).alloc (.cells Z93 93)
 have PS:=pC (F0.st hG).1
 have F1:=A0.mk (fun q=>(F0.drewN q).alloc (.cells (E93 0 0 nN none 0 0 (ps c a)) 93))
 have r1:∀q,Bx (((W.alloc (.cells Z93 93)).drewN q).alloc (.cells (E93 0 0 nN none 0 0 (ps c a)) 93)) W.heap.size 93 Z93:=fun q=>xB (X:=(W.alloc (.cells Z93 93)).drewN q) (xN W 93 _) (bA _ _)
 have v1:∀q,Bx (((W.alloc (.cells Z93 93)).drewN q).alloc (.cells (E93 0 0 nN none 0 0 (ps c a)) 93)) (W.heap.size+1) 93 (E93 0 0 nN none 0 0 (ps c a)):=fun q=>by
  have:=xN ((W.alloc (.cells Z93 93)).drewN q) 93 (E93 0 0 nN none 0 0 (ps c a))
  rwa [show ((W.alloc (.cells Z93 93)).drewN q).heap.size=W.heap.size+1 by simp] at this
 replace r1:=A0.mk r1
 replace v1:=A0.mk v1
 have hal2:=hG.hl
 have hll:=h.2.1
 have hd64:=h.2.2.2
 go_enter Tryz.func177,Tryz.ntmps177
 go_upto_region 2 with (first|(go_at_call 33;(with_reducible refine PS.mono ?_);rintro e w2 ⟨rfl,q,rfl⟩))
 have F:=F1.out q
 have hr:=r1.out q
 have hv:=v1.out q
 generalize ((W.alloc (.cells #[.int .i64 0,.int .i64 0,.string ⟨#[]⟩,.slice none 0 0,.int .i64 0] 93)).drewN q).alloc (.cells #[.int .i64 0,.int .i64 0,.string ⟨#[]⟩,.slice none 0 0,.int .i64 (ps c a)] 93)=X at F hr hv ⊢
 clear F0 F1 r1 v1 PS
 have hgl:=F.gl
 have hb0:Below X.heap.size X X:=Below.refl _ _
 have T0:=fun Y (hb:Below X.heap.size X Y)=>rI hG ((F.below hb).st hG).1 2 (by omega) ⟨#[105,110,116]⟩ rfl
 simp only [show decide (kd c a=2)=false from decide_eq_false (by omega)] at T0
 have T1:=fun Y (hb:Below X.heap.size X Y)=>rI hG ((F.below hb).st hG).1 1 (by omega) ⟨#[110,97,109,101]⟩ rfl
 simp only [show decide (kd c a=1)=false from decide_eq_false (by omega)] at T1
 have T2:=fun Y (hb:Below X.heap.size X Y)=>rI hG ((F.below hb).st hG).1 32 (by omega) ⟨#[40]⟩ rfl
 simp only [show decide (kd c a=32)=false from decide_eq_false (by omega)] at T2
 have T3:=fun Y (hb:Below X.heap.size X Y)=>rI hG ((F.below hb).st hG).1 20 (by omega) ⟨#[109,105,110]⟩ rfl
 simp only [show decide (kd c a=20)=false from decide_eq_false (by omega)] at T3
 have T4:=fun Y (hb:Below X.heap.size X Y)=>rI hG ((F.below hb).st hG).1 19 (by omega) ⟨#[109,97,120]⟩ rfl
 simp only [show decide (kd c a=19)=false from decide_eq_false (by omega)] at T4
 have T5:=fun Y (hb:Below X.heap.size X Y)=>rI hG ((F.below hb).st hG).1 3 (by omega) ⟨#[97,98,115]⟩ rfl
 simp only [show decide (kd c a=3)=false from decide_eq_false (by omega)] at T5
 have T6:=fun Y (hb:Below X.heap.size X Y)=>rI hG ((F.below hb).st hG).1 7 (by omega) ⟨#[99,108,97,109,112]⟩ rfl
 simp only [show decide (kd c a=7)=false from decide_eq_false (by omega)] at T6
 have FL:=fun Y (hb:Below X.heap.size X Y)=>rfail_call2 hG ((F.below hb).st hG) 40 (by decide)
 have hXs:=bL hv
 clear hS hkd
 go_upto_region 32 with (first|(go_at_call 31;(with_reducible refine (T0 _ hb0).mono ?_);rintro e w3 ⟨rfl,hb1⟩;replace hb1:=hb0.trans (hb1.mono hb0.size))|(go_at_call 31;(with_reducible refine (T1 _ hb1).mono ?_);rintro e w4 ⟨rfl,hb2⟩;replace hb2:=hb1.trans (hb2.mono hb1.size))|(go_at_call 31;(with_reducible refine (T2 _ hb2).mono ?_);rintro e w5 ⟨rfl,hb3⟩;replace hb3:=hb2.trans (hb3.mono hb2.size))|(go_at_call 31;(with_reducible refine (T3 _ hb3).mono ?_);rintro e w6 ⟨rfl,hb4⟩;replace hb4:=hb3.trans (hb4.mono hb3.size))|(go_at_call 31;(with_reducible refine (T4 _ hb4).mono ?_);rintro e w7 ⟨rfl,hb5⟩;replace hb5:=hb4.trans (hb5.mono hb4.size))|(go_at_call 31;(with_reducible refine (T5 _ hb5).mono ?_);rintro e w8 ⟨rfl,hb6⟩;replace hb6:=hb5.trans (hb6.mono hb5.size))|(go_at_call 31;(with_reducible refine (T6 _ hb6).mono ?_);rintro e w9 ⟨rfl,hb7⟩;replace hb7:=hb6.trans (hb7.mono hb6.size))|(go_at_call 37;(with_reducible refine (FL _ hb7).mono ?_);rintro e wx ⟨hg,⟨v,rfl,rfl⟩,hR⟩))
 replace F:=(F.below hb7).call (s':=.lost (ps c a) 40) hg hR
 replace hv:=xC (xB hv hb7) hg (by omega)
 replace hr:=xC (xB hr hb7) hg hgl
 clear FL hg hR T0 T1 T2 T3 T4 T5 T6 hb7 hb6 hb5 hb4 hb3 hb2 hb1 hb0
 have z0:wx.cell? ⟨W.heap.size+1,0,none⟩=some (.int .i64 0):=bC hv 0
 have z1:wx.cell? ⟨W.heap.size+1,1,none⟩=some (.int .i64 0):=bC hv 1
 have z2:wx.cell? ⟨W.heap.size+1,2,none⟩=some (.string nN):=bC hv 2
 have z3:wx.cell? ⟨W.heap.size+1,3,none⟩=some (.slice none 0 0):=bC hv 3
 have z4:wx.cell? ⟨W.heap.size+1,4,none⟩=some (.int .i64 (ps c a)):=bC hv 4
 have x0:wx.cell? ⟨W.heap.size,0,none⟩=some (.int .i64 0):=bC hr 0;have y0:=bF hr 0
 have x1:wx.cell? ⟨W.heap.size,1,none⟩=some (.int .i64 0):=bC hr 1;have y1:=bF hr 1
 have x2:wx.cell? ⟨W.heap.size,2,none⟩=some (.string ⟨#[]⟩):=bC hr 2;have y2:=bF hr 2
 have x3:wx.cell? ⟨W.heap.size,3,none⟩=some (.slice none 0 0):=bC hr 3;have y3:=bF hr 3
 have x4:wx.cell? ⟨W.heap.size,4,none⟩=some (.int .i64 0):=bC hr 4;have y4:=bF hr 4
 go_wp2
 rw [hS2.out]
 exact fin93 (S:=.bad (ps c a) 40) hG rfl rfl rfl F hr rfl rfl (fun y hy=>by cases hy)
set_option maxHeartbeats 4000000 in
theorem rprim_name {c:Ctx} (hG:Good c) {ex:Rd Ex} {a0:Nat} (hR:RReads c 138 ex (a0+1)) (W:World) (a:Nat) (d:Int) (h:RSt c W (.here a d)) (ha:a0≤a) (h0:0≤d) (hkd:kd c a=1) :
  Calls Tryz.prog 177 #[c.me] W (RPost c W (repEo W.heap.size) (nmS c ex a d)):=by
 obtain ⟨S,hS⟩:∃S,A0 ((nmS c ex a d)=S):=⟨_,⟨rfl⟩⟩
 rw [hS.out]
 have hal:=kL hkd (by omega)
 replace hR:=A0.mk hR
 have F0:=(Fr.start h).alloc (.cells Z93 93)
 have PS:=pC (F0.st hG).1
 have F1:=A0.mk (fun q=>(F0.drewN q).alloc (.cells (E93 0 0 nN none 0 0 (ps c a)) 93))
 have r1:∀q,Bx (((W.alloc (.cells Z93 93)).drewN q).alloc (.cells (E93 0 0 nN none 0 0 (ps c a)) 93)) W.heap.size 93 Z93:=fun q=>xB (X:=(W.alloc (.cells Z93 93)).drewN q) (xN W 93 _) (bA _ _)
 have v1:∀q,Bx (((W.alloc (.cells Z93 93)).drewN q).alloc (.cells (E93 0 0 nN none 0 0 (ps c a)) 93)) (W.heap.size+1) 93 (E93 0 0 nN none 0 0 (ps c a)):=fun q=>by
  have:=xN ((W.alloc (.cells Z93 93)).drewN q) 93 (E93 0 0 nN none 0 0 (ps c a))
  rwa [show ((W.alloc (.cells Z93 93)).drewN q).heap.size=W.heap.size+1 by simp] at this
 replace r1:=A0.mk r1
 replace v1:=A0.mk v1
 have hal2:=hG.hl
 have hll:=h.2.1
 have hd64:=h.2.2.2
 go_enter Tryz.func177,Tryz.ntmps177
 go_upto_region 2 with (first|(go_at_call 33;(with_reducible refine PS.mono ?_);rintro e w2 ⟨rfl,q,rfl⟩))
 have F:=F1.out q
 have hr:=r1.out q
 have hv:=v1.out q
 generalize ((W.alloc (.cells #[.int .i64 0,.int .i64 0,.string ⟨#[]⟩,.slice none 0 0,.int .i64 0] 93)).drewN q).alloc (.cells #[.int .i64 0,.int .i64 0,.string ⟨#[]⟩,.slice none 0 0,.int .i64 (ps c a)] 93)=X at F hr hv ⊢
 clear F0 F1 r1 v1 PS
 have hgl:=F.gl
 have hb0:Below X.heap.size X X:=Below.refl _ _
 have T0:=fun Y (hb:Below X.heap.size X Y)=>rI hG ((F.below hb).st hG).1 2 (by omega) ⟨#[105,110,116]⟩ rfl
 simp only [show decide (kd c a=2)=false from decide_eq_false (by omega)] at T0
 have T1:=fun Y (hb:Below X.heap.size X Y)=>rI hG ((F.below hb).st hG).1 1 (by omega) ⟨#[110,97,109,101]⟩ rfl
 simp only [show decide (kd c a=1)=true from decide_eq_true hkd] at T1
 obtain ⟨T,hT⟩:∃T,textS c (c.L.getD a zTok)=T:=⟨_,rfl⟩
 have hS1:A0 (S=(takeS c 48 (a+1) d).bind fun b a2 d2=>if b then (ex a2 d2).bind fun e a3 d3=>(wS c 49 a3 d3).bind fun _ a4 d4=>.ok (.mk 3 0 T [e] (ps c a)) a4 d4 else .ok (.mk 2 0 T [] (ps c a)) a2 d2):=⟨by
  rw [←hS.out];unfold nmS;rw [nameS_ok hkd,hT];rfl⟩
 have NM:=fun Z (hZ:RSt c Z (.here a d))=>rname_ok hG hZ hkd
 rw [hT] at NM
 replace hkd:=A0.mk hkd
 clear hS hT
 go_upto_region 9 with (first|(go_at_call 31;(with_reducible refine (T0 _ hb0).mono ?_);rintro e w3 ⟨rfl,hb1⟩;replace hb1:=hb0.trans (hb1.mono hb0.size))|(go_at_call 31;(with_reducible refine (T1 _ hb1).mono ?_);rintro e w4 ⟨rfl,hb2⟩;replace hb2:=hb1.trans (hb2.mono hb1.size);have z0:w4.cell? ⟨W.heap.size+1,0,none⟩=some (.int .i64 0):=bC (xB hv hb2) 0;have y0:=bF (xB hv hb2) 0))
 replace F:=F.below hb2
 replace hr:=xB hr hb2
 replace hv:=xB hv hb2
 clear T0 T1 hb2 hb1 hb0 z0 y0
 replace F:=F.set (p:=⟨W.heap.size+1,0,none⟩) (Nat.le_succ _) (.int .i64 2)
 replace hv:Bx _ (W.heap.size+1) 93 #[.int .i64 2,.int .i64 0,.string nN,.slice none 0 0,.int .i64 (ps c a)]:=bP hv 0 (.int .i64 2) rfl
 replace hr:=Q5 hr (p:=⟨W.heap.size+1,0,none⟩) (by dsimp only;omega) (.int .i64 2)
 generalize (w4).setCell ⟨W.heap.size+1,0,none⟩ (.int .i64 2)=X1 at F hv hr ⊢
 have CN:=NM _ (F.st hG)
 go_upto_region 10 with (first|(go_at_call 34;(with_reducible refine CN.mono ?_);rintro e w9 ⟨hg,rfl,hR1⟩;have hv2:=xC hv hg (by omega);have z2:w9.cell? ⟨W.heap.size+1,2,none⟩=some (.string nN):=bC hv2 2;have y2:=bF hv2 2))
 replace F:=F.call hg hR1
 replace hv:=hv2
 replace hr:=xC hr hg hgl
 clear hv2 z2 y2 CN NM hg hR1
 replace F:=F.set (p:=⟨W.heap.size+1,2,none⟩) (Nat.le_succ _) (.string T)
 replace hv:Bx _ (W.heap.size+1) 93 #[.int .i64 2,.int .i64 0,.string T,.slice none 0 0,.int .i64 (ps c a)]:=bP hv 2 (.string T) rfl
 replace hr:=Q5 hr (p:=⟨W.heap.size+1,2,none⟩) (by dsimp only;omega) (.string T)
 generalize (w9).setCell ⟨W.heap.size+1,2,none⟩ (.string T)=X2 at F hv hr ⊢
 have IS:=rI hG (F.st hG).1 48 (by omega) ⟨#[91]⟩ rfl
 have hXs:=bL hv
 by_cases h48:kd c (a+1)=48
 ·rw [decide_eq_true h48] at IS
  obtain ⟨o0,ho0⟩:∃o,A0 ((Sta.here (a+1) d).go (tkS c 48)=o):=⟨_,⟨rfl⟩⟩
  obtain ⟨o1,ho1⟩:∃o,A0 (o0.sta.go ex=o):=⟨_,⟨rfl⟩⟩
  obtain ⟨o2,ho2⟩:∃o,A0 (o1.sta.go (tkS c 49)=o):=⟨_,⟨rfl⟩⟩
  have hl0:A0 (o0.sta.lim (a0+1)):=⟨tk_open_lim (a0:=a0) (by omega) (fun a' d' e=>by cases e;exact ⟨by omega,h0⟩) ho0⟩
  have hSp:A0 (S=(tkS c 48 (a+1) d).bind fun _ a2 d2=>(ex a2 d2).bind fun e a3 d3=>(tkS c 49 a3 d3).bind fun _ a4 d4=>.ok (.mk 3 0 T [e] (ps c a)) a4 d4):=⟨by
   rw [hS1.out]
   unfold takeS
   rw [if_pos h48]
   simp only [bind_bind,oB,tk_bind,↓reduceIte]⟩
  clear h48 hS1
  go_upto_region 12 with (first|(go_at_call 31;(with_reducible refine IS.mono ?_);rintro e w11 ⟨rfl,hb⟩;have z0:w11.cell? ⟨W.heap.size+1,0,none⟩=some (.int .i64 2):=bC (xB hv hb) 0;have y0:=bF (xB hv hb) 0))
  replace F:=F.below hb
  replace hr:=xB hr hb
  replace hv:=xB hv hb
  clear IS hb z0 y0 hXs
  replace F:=F.set (p:=⟨W.heap.size+1,0,none⟩) (Nat.le_succ _) (.int .i64 3)
  replace hv:Bx _ (W.heap.size+1) 93 #[.int .i64 3,.int .i64 0,.string T,.slice none 0 0,.int .i64 (ps c a)]:=bP hv 0 (.int .i64 3) rfl
  replace hr:=Q5 hr (p:=⟨W.heap.size+1,0,none⟩) (by dsimp only;omega) (.int .i64 3)
  generalize (w11).setCell ⟨W.heap.size+1,0,none⟩ (.int .i64 3)=X3 at F hv hr ⊢
  have CN:=tC hG (F.st hG) 48 (by omega) ⟨#[91]⟩ rfl ho0
  go_upto_region 13 with (first|(go_at_call 36;(with_reducible refine CN.mono ?_);rintro e w12 ⟨hg,rfl,hR1⟩))
  replace F:=F.call hg hR1
  replace hv:=xC hv hg (by omega)
  replace hr:=xC hr hg hgl
  clear CN hg hR1
  have hXs:=bL hv
  have CN:=hR.out.c (F.st hG) hl0.out ho1
  go_upto_region 14 with (first|(go_at_call 138;(with_reducible refine CN.mono ?_);rintro e w6 ⟨hg6,⟨op2,num2,nm2,A2,n2,cap2,pos2,rfl,hE6⟩,hR6⟩;have hv4:=xC hv hg6 (by omega);have hr4:=xC hr hg6 hgl;have k3:w6.cell? ⟨W.heap.size+1,3,none⟩=some (.slice none 0 0):=bC hv4 3;have j3:=bF hv4 3;have k3':∀o,(w6.alloc o).cell? ⟨W.heap.size+1,3,none⟩=some (.slice none 0 0):=fun o=>bC (xB hv4 (bA _ o)) 3;have j3':∀o,(w6.alloc o).frozen? ⟨W.heap.size+1,3,none⟩=false:=fun o=>bF (xB hv4 (bA _ o)) 3))
  have hs6:=hg6.size
  have F4:=((F.call hg6 hR6).alloc (.cells #[.int .i64 op2,.int .i64 num2,.string nm2,.slice A2 n2 cap2,.int .i64 pos2] 93)).set (p:=⟨W.heap.size+1,3,none⟩) (Nat.le_succ _) (.slice (some ⟨w6.heap.size,0,none⟩) 1 1)
  have hbB:=bA w6 (.cells #[.int .i64 op2,.int .i64 num2,.string nm2,.slice A2 n2 cap2,.int .i64 pos2] 93)
  have hv5:Bx _ (W.heap.size+1) 93 (E93 3 0 T (some ⟨w6.heap.size,0,none⟩) 1 1 (ps c a)):=bP (xB hv4 hbB) 3 (.slice (some ⟨w6.heap.size,0,none⟩) 1 1) rfl
  have hr5:=Q5 (xB hr4 hbB) (p:=⟨W.heap.size+1,3,none⟩) (by dsimp only;omega) (.slice (some ⟨w6.heap.size,0,none⟩) 1 1)
  have hE5:A0 (∀y,o1.val=some y→RepE (fun b=>W.heap.size+1≤b∧b≠W.heap.size+1) ((w6.alloc (.cells #[.int .i64 op2,.int .i64 num2,.string nm2,.slice A2 n2 cap2,.int .i64 pos2] 93)).setCell ⟨W.heap.size+1,3,none⟩ (.slice (some ⟨w6.heap.size,0,none⟩) 1 1)) (.mk 3 0 T [y] (ps c a)) (eC 3 0 T (some ⟨w6.heap.size,0,none⟩) 1 1 (ps c a))):=⟨fun y hy=>by
   have h1:RepE (fun b=>W.heap.size+1≤b∧b≠W.heap.size+1) w6 y (eC op2 num2 nm2 A2 n2 cap2 pos2):=RepE.keep (P:=fun b=>w12.heap.size≤b) (fun b hb=>⟨by omega,by omega⟩) (fun _ _ _=>rfl) y _ (hE6.out y hy)
   have h2:=repE_one h1 ⟨by omega,by omega⟩ #[.int .i64 op2,.int .i64 num2,.string nm2,.slice A2 n2 cap2,.int .i64 pos2] rfl 3 0 T (ps c a)
   exact RepE.keep (P:=fun b=>W.heap.size+1≤b∧b≠W.heap.size+1) (fun _ hb=>hb) (fun b hb _=>Below.heap_setCell _ _ _ b (by have:=hb.2;dsimp only;omega)) _ _ h2⟩
  generalize (w6.alloc (.cells #[.int .i64 op2,.int .i64 num2,.string nm2,.slice A2 n2 cap2,.int .i64 pos2] 93)).setCell ⟨W.heap.size+1,3,none⟩ (.slice (some ⟨w6.heap.size,0,none⟩) 1 1)=V at F4 hv5 hr5 hE5 ⊢
  generalize w6.heap.size=g6 at hv5 hE5 ⊢
  clear CN hg6 hE6 hR6 k3 j3 k3' j3' hv4 hr4 hbB hs6 F hv hr hXs
  have CN:=tC hG (F4.st hG) 49 (by omega) ⟨#[93]⟩ rfl ho2
  have hXs:=bL hv5
  go_upto_region 15 with (first|(go_at_call 36;(with_reducible refine CN.mono ?_);rintro e w13 ⟨hg,rfl,hR1⟩))
  have F:=F4.call hg hR1
  have hv:Bx _ (W.heap.size+1) 93 (E93 3 0 T (some ⟨g6,0,none⟩) 1 1 (ps c a)):=xC hv5 hg (by omega)
  have hr:=xC hr5 hg hgl
  have hEf:A0 (∀y,o1.val=some y→RepE (fun b=>W.heap.size+1≤b) w13 (.mk 3 0 T [y] (ps c a)) (eC 3 0 T (some ⟨g6,0,none⟩) 1 1 (ps c a))):=⟨fun y hy=>RepE.keep (P:=fun b=>W.heap.size+1≤b∧b≠W.heap.size+1) (fun _ hb=>hb.1) (fun b hb hl=>hg.block b hl (fun e=>by have:=Option.some.inj e;have:=hb.1;omega)) _ _ (hE5.out y hy)⟩
  have hfin:A0 (S.sta=o2.sta∧∀y,S.val=some y→∃e,o1.val=some e∧y=.mk 3 0 T [e] (ps c a)):=⟨by
   have e0:=ho0.out;have e1:=ho1.out;have e2:=ho2.out
   simp only [Sta.go] at e0
   rw [hSp.out,e0]
   cases o0 with
   | bad p er =>
    simp only [Out.sta,Sta.go] at e1;subst e1
    simp only [Out.sta,Sta.go] at e2;subst e2
    exact ⟨rfl,fun y hy=>by cases hy⟩
   | ok x a1 d1 =>
    simp only [Out.sta,Sta.go] at e1
    simp only [Out.bind]
    rw [e1]
    cases o1 with
    | bad p er =>
     simp only [Out.sta,Sta.go] at e2;subst e2
     exact ⟨rfl,fun y hy=>by cases hy⟩
    | ok x a2 d2 =>
     simp only [Out.sta,Sta.go] at e2
     simp only
     rw [e2]
     cases o2 with
     | bad p er=>exact ⟨rfl,fun y hy=>by cases hy⟩
     | ok x3 a3 d3=>exact ⟨rfl,fun y hy=>⟨x,rfl,by cases hy;rfl⟩⟩⟩
  clear CN hg hR1 hE5 hXs F4 hv5 hr5 ho0 ho1 ho2 hSp hl0
  have z0:w13.cell? ⟨W.heap.size+1,0,none⟩=some (.int .i64 3):=bC hv 0
  have z1:w13.cell? ⟨W.heap.size+1,1,none⟩=some (.int .i64 0):=bC hv 1
  have z2:w13.cell? ⟨W.heap.size+1,2,none⟩=some (.string T):=bC hv 2
  have z3:w13.cell? ⟨W.heap.size+1,3,none⟩=some (.slice (some ⟨g6,0,none⟩) 1 1):=bC hv 3
  have z4:w13.cell? ⟨W.heap.size+1,4,none⟩=some (.int .i64 (ps c a)):=bC hv 4
  have x0:w13.cell? ⟨W.heap.size,0,none⟩=some (.int .i64 0):=bC hr 0;have y0:=bF hr 0
  have x1:w13.cell? ⟨W.heap.size,1,none⟩=some (.int .i64 0):=bC hr 1;have y1:=bF hr 1
  have x2:w13.cell? ⟨W.heap.size,2,none⟩=some (.string ⟨#[]⟩):=bC hr 2;have y2:=bF hr 2
  have x3:w13.cell? ⟨W.heap.size,3,none⟩=some (.slice none 0 0):=bC hr 3;have y3:=bF hr 3
  have x4:w13.cell? ⟨W.heap.size,4,none⟩=some (.int .i64 0):=bC hr 4;have y4:=bF hr 4
  go_wp2
  exact fin93 hG rfl rfl rfl F hr rfl hfin.out.1 (fun y hy=>by
   obtain ⟨e,h1,rfl⟩:=hfin.out.2 y hy
   exact hEf.out e h1)
 ·rw [decide_eq_false h48] at IS
  have hS2:A0 (S=.ok (.mk 2 0 T [] (ps c a)) (a+1) d):=⟨by rw [hS1.out];unfold takeS;rw [if_neg h48];rfl⟩
  clear h48 hS1
  go_upto_region 15 with (first|(go_at_call 31;(with_reducible refine IS.mono ?_);rintro e w11 ⟨rfl,hb⟩))
  replace F:=F.below hb
  replace hr:=xB hr hb
  replace hv:=xB hv hb
  clear IS hb
  have z0:w11.cell? ⟨W.heap.size+1,0,none⟩=some (.int .i64 2):=bC hv 0
  have z1:w11.cell? ⟨W.heap.size+1,1,none⟩=some (.int .i64 0):=bC hv 1
  have z2:w11.cell? ⟨W.heap.size+1,2,none⟩=some (.string T):=bC hv 2
  have z3:w11.cell? ⟨W.heap.size+1,3,none⟩=some (.slice none 0 0):=bC hv 3
  have z4:w11.cell? ⟨W.heap.size+1,4,none⟩=some (.int .i64 (ps c a)):=bC hv 4
  have x0:w11.cell? ⟨W.heap.size,0,none⟩=some (.int .i64 0):=bC hr 0;have y0:=bF hr 0
  have x1:w11.cell? ⟨W.heap.size,1,none⟩=some (.int .i64 0):=bC hr 1;have y1:=bF hr 1
  have x2:w11.cell? ⟨W.heap.size,2,none⟩=some (.string ⟨#[]⟩):=bC hr 2;have y2:=bF hr 2
  have x3:w11.cell? ⟨W.heap.size,3,none⟩=some (.slice none 0 0):=bC hr 3;have y3:=bF hr 3
  have x4:w11.cell? ⟨W.heap.size,4,none⟩=some (.int .i64 0):=bC hr 4;have y4:=bF hr 4
  go_wp2
  rw [hS2.out]
  exact fin93 (S:=.ok (.mk 2 0 T [] (ps c a)) (a+1) d) hG rfl rfl rfl F hr rfl rfl (fun y hy=>by cases hy;exact repE_leaf _ _ _ _)
set_option maxHeartbeats 16000000 in
theorem rprim_call {c:Ctx} (hG:Good c) {ex:Rd Ex} {a0:Nat} (hF:Fine c ex (a0+1)) (hR:RReads c 138 ex (a0+1)) (K o:Int) (n:Nat) (hk:(K=20∧o=10∧n=2)∨(K=19∧o=11∧n=2)∨(K=3∧o=12∧n=1)∨(K=7∧o=13∧n=3)) (W:World) (a:Nat) (d:Int) (h:RSt c W (.here a d)) (ha:a0≤a) (h0:0≤d) (hkd:kd c a=K) :
  Calls Tryz.prog 177 #[c.me] W (RPost c W (repEo W.heap.size) (callS c ex o n a d)):=by
 obtain ⟨S,hS⟩:∃S,A0 ((callS c ex o n a d)=S):=⟨_,⟨rfl⟩⟩
 rw [hS.out]
 have hal:=kL hkd (by omega)
 replace hR:=A0.mk hR
 replace hF:=A0.mk hF
 have F0:=(Fr.start h).alloc (.cells Z93 93)
 have PS:=pC (F0.st hG).1
 have F1:=A0.mk (fun q=>(F0.drewN q).alloc (.cells (E93 0 0 nN none 0 0 (ps c a)) 93))
 have r1:∀q,Bx (((W.alloc (.cells Z93 93)).drewN q).alloc (.cells (E93 0 0 nN none 0 0 (ps c a)) 93)) W.heap.size 93 Z93:=fun q=>xB (X:=(W.alloc (.cells Z93 93)).drewN q) (xN W 93 _) (bA _ _)
 have v1:∀q,Bx (((W.alloc (.cells Z93 93)).drewN q).alloc (.cells (E93 0 0 nN none 0 0 (ps c a)) 93)) (W.heap.size+1) 93 (E93 0 0 nN none 0 0 (ps c a)):=fun q=>by
  have:=xN ((W.alloc (.cells Z93 93)).drewN q) 93 (E93 0 0 nN none 0 0 (ps c a))
  rwa [show ((W.alloc (.cells Z93 93)).drewN q).heap.size=W.heap.size+1 by simp] at this
 replace r1:=A0.mk r1
 replace v1:=A0.mk v1
 have hal2:=hG.hl
 have hll:=h.2.1
 have hd64:=h.2.2.2
 go_enter Tryz.func177,Tryz.ntmps177
 go_upto_region 2 with (first|(go_at_call 33;(with_reducible refine PS.mono ?_);rintro e w2 ⟨rfl,q,rfl⟩))
 have F:=F1.out q
 have hr:=r1.out q
 have hv:=v1.out q
 generalize ((W.alloc (.cells #[.int .i64 0,.int .i64 0,.string ⟨#[]⟩,.slice none 0 0,.int .i64 0] 93)).drewN q).alloc (.cells #[.int .i64 0,.int .i64 0,.string ⟨#[]⟩,.slice none 0 0,.int .i64 (ps c a)] 93)=X at F hr hv ⊢
 clear F0 F1 r1 v1 PS
 have hgl:=F.gl
 have hb0:Below X.heap.size X X:=Below.refl _ _
 have T0:=fun Y (hb:Below X.heap.size X Y)=>rI hG ((F.below hb).st hG).1 2 (by omega) ⟨#[105,110,116]⟩ rfl
 simp only [show decide (kd c a=2)=false from decide_eq_false (by omega)] at T0
 have T1:=fun Y (hb:Below X.heap.size X Y)=>rI hG ((F.below hb).st hG).1 1 (by omega) ⟨#[110,97,109,101]⟩ rfl
 simp only [show decide (kd c a=1)=false from decide_eq_false (by omega)] at T1
 have T2:=fun Y (hb:Below X.heap.size X Y)=>rI hG ((F.below hb).st hG).1 32 (by omega) ⟨#[40]⟩ rfl
 simp only [show decide (kd c a=32)=false from decide_eq_false (by omega)] at T2
 obtain ⟨b20,hb20⟩:∃b,A0 (decide (kd c a=20)=b):=⟨_,⟨rfl⟩⟩
 have T3:=fun Y (hb:Below X.heap.size X Y)=>rI hG ((F.below hb).st hG).1 20 (by omega) ⟨#[109,105,110]⟩ rfl
 simp only [hb20.out] at T3
 go_upto_if 55 with (first|(go_at_call 31;(with_reducible refine (T0 _ hb0).mono ?_);rintro e w3 ⟨rfl,hb1⟩;replace hb1:=hb0.trans (hb1.mono hb0.size))|(go_at_call 31;(with_reducible refine (T1 _ hb1).mono ?_);rintro e w4 ⟨rfl,hb2⟩;replace hb2:=hb1.trans (hb2.mono hb1.size))|(go_at_call 31;(with_reducible refine (T2 _ hb2).mono ?_);rintro e w5 ⟨rfl,hb3⟩;replace hb3:=hb2.trans (hb3.mono hb2.size))|(go_at_call 31;(with_reducible refine (T3 _ hb3).mono ?_);rintro e w6 ⟨rfl,hb4⟩;replace hb4:=hb3.trans (hb4.mono hb3.size)))
 replace F:=F.below hb4
 replace hr:=xB hr hb4
 replace hv:=xB hv hb4
 clear T0 T1 T2 T3 hb0 hb1 hb2 hb3 hb4
 generalize w6=wb at F hr hv ⊢
 have hc0:Below wb.heap.size wb wb:=Below.refl _ _
 have hn3:1≤n∧n≤3:=by omega
 replace hkd:=A0.mk hkd
 go_cut [4] from 54 to 68 (fun v X=>v=.int .i64 (n:Int)∧Fr c W X (.here a d)∧Bx X W.heap.size 93 Z93∧Bx X (W.heap.size+1) 93 (E93 o 0 nN none 0 0 (ps c a)))
 case first =>
  rcases hk with ⟨rfl,rfl,rfl⟩|⟨rfl,rfl,rfl⟩|⟨rfl,rfl,rfl⟩|⟨rfl,rfl,rfl⟩
  ·have hb:b20=true:=by rw [←hb20.out];exact decide_eq_true hkd.out
   subst hb
   have hv2:=hv;have z0:wb.cell? ⟨W.heap.size+1,0,none⟩=some (.int .i64 0):=bC hv2 0;have y0:=bF hv2 0
   go_wp2
   go_meet
   exact ⟨rfl,(F.below hc0).set (p:=⟨W.heap.size+1,0,none⟩) (Nat.le_succ _) (.int .i64 10),Q5 (xB hr hc0) (p:=⟨W.heap.size+1,0,none⟩) (by dsimp only;omega) _,bP hv2 0 (.int .i64 10) rfl⟩
  ·have hb:b20=false:=by rw [←hb20.out];exact decide_eq_false (by have:=hkd.out;omega)
   subst hb
   have U1:=fun Y (hb:Below wb.heap.size wb Y)=>rI hG ((F.below hb).st hG).1 19 (by omega) ⟨#[109,97,120]⟩ rfl
   simp only [show decide (kd c a=19)=true from decide_eq_true hkd.out] at U1
   go_wp2_with (first|(go_at_call 31;(with_reducible refine (U1 _ hc0).mono ?_);rintro e v4 ⟨rfl,hc1⟩;replace hc1:=hc0.trans (hc1.mono hc0.size);have hv2:=xB hv hc1;have z0:v4.cell? ⟨W.heap.size+1,0,none⟩=some (.int .i64 0):=bC hv2 0;have y0:=bF hv2 0))
   go_meet
   exact ⟨rfl,(F.below hc1).set (p:=⟨W.heap.size+1,0,none⟩) (Nat.le_succ _) (.int .i64 11),Q5 (xB hr hc1) (p:=⟨W.heap.size+1,0,none⟩) (by dsimp only;omega) _,bP hv2 0 (.int .i64 11) rfl⟩
  ·have hb:b20=false:=by rw [←hb20.out];exact decide_eq_false (by have:=hkd.out;omega)
   subst hb
   have U1:=fun Y (hb:Below wb.heap.size wb Y)=>rI hG ((F.below hb).st hG).1 19 (by omega) ⟨#[109,97,120]⟩ rfl
   simp only [show decide (kd c a=19)=false from decide_eq_false (by have:=hkd.out;omega)] at U1
   have U2:=fun Y (hb:Below wb.heap.size wb Y)=>rI hG ((F.below hb).st hG).1 3 (by omega) ⟨#[97,98,115]⟩ rfl
   simp only [show decide (kd c a=3)=true from decide_eq_true hkd.out] at U2
   go_wp2_with (first|(go_at_call 31;(with_reducible refine (U1 _ hc0).mono ?_);rintro e v4 ⟨rfl,hc1⟩;replace hc1:=hc0.trans (hc1.mono hc0.size))|(go_at_call 31;(with_reducible refine (U2 _ hc1).mono ?_);rintro e v5 ⟨rfl,hc2⟩;replace hc2:=hc1.trans (hc2.mono hc1.size);have hv2:=xB hv hc2;have z0:v5.cell? ⟨W.heap.size+1,0,none⟩=some (.int .i64 0):=bC hv2 0;have y0:=bF hv2 0))
   go_meet
   exact ⟨rfl,(F.below hc2).set (p:=⟨W.heap.size+1,0,none⟩) (Nat.le_succ _) (.int .i64 12),Q5 (xB hr hc2) (p:=⟨W.heap.size+1,0,none⟩) (by dsimp only;omega) _,bP hv2 0 (.int .i64 12) rfl⟩
  ·have hb:b20=false:=by rw [←hb20.out];exact decide_eq_false (by have:=hkd.out;omega)
   subst hb
   have U1:=fun Y (hb:Below wb.heap.size wb Y)=>rI hG ((F.below hb).st hG).1 19 (by omega) ⟨#[109,97,120]⟩ rfl
   simp only [show decide (kd c a=19)=false from decide_eq_false (by have:=hkd.out;omega)] at U1
   have U2:=fun Y (hb:Below wb.heap.size wb Y)=>rI hG ((F.below hb).st hG).1 3 (by omega) ⟨#[97,98,115]⟩ rfl
   simp only [show decide (kd c a=3)=false from decide_eq_false (by have:=hkd.out;omega)] at U2
   have U3:=fun Y (hb:Below wb.heap.size wb Y)=>rI hG ((F.below hb).st hG).1 7 (by omega) ⟨#[99,108,97,109,112]⟩ rfl
   simp only [show decide (kd c a=7)=true from decide_eq_true hkd.out] at U3
   go_wp2_with (first|(go_at_call 31;(with_reducible refine (U1 _ hc0).mono ?_);rintro e v4 ⟨rfl,hc1⟩;replace hc1:=hc0.trans (hc1.mono hc0.size))|(go_at_call 31;(with_reducible refine (U2 _ hc1).mono ?_);rintro e v5 ⟨rfl,hc2⟩;replace hc2:=hc1.trans (hc2.mono hc1.size))|(go_at_call 31;(with_reducible refine (U3 _ hc2).mono ?_);rintro e v6 ⟨rfl,hc3⟩;replace hc3:=hc2.trans (hc3.mono hc2.size);have hv2:=xB hv hc3;have z0:v6.cell? ⟨W.heap.size+1,0,none⟩=some (.int .i64 0):=bC hv2 0;have y0:=bF hv2 0))
   go_meet
   exact ⟨rfl,(F.below hc3).set (p:=⟨W.heap.size+1,0,none⟩) (Nat.le_succ _) (.int .i64 13),Q5 (xB hr hc3) (p:=⟨W.heap.size+1,0,none⟩) (by dsimp only;omega) _,bP hv2 0 (.int .i64 13) rfl⟩
 case rest =>
  clear F hr hv hc0
  obtain ⟨rfl,F,hr,hv⟩:=hcut
  have wa:IntKind.i64.wrap ((a:Int)+1)=(a:Int)+1:=IntWalk.i64_in _ (by omega)
  have A2:=(F.st hG).1.c2
  have A1:=(F.st hG).1.fz 2
  clear hk
  go_upto_region 34 with fail
  replace F:=F.step hal
  replace hv:=Q5 hv (p:=⟨c.g,2,none⟩) (by dsimp only;omega) (.int .i64 ((a:Int)+1))
  replace hr:=Q5 hr (p:=⟨c.g,2,none⟩) (by dsimp only;omega) (.int .i64 ((a:Int)+1))
  generalize wc.setCell ⟨c.g,2,none⟩ (.int .i64 ((a:Int)+1))=X1 at F hv hr ⊢
  clear A1 A2 wa
  obtain ⟨o0,ho0⟩:∃o,A0 ((Sta.here (a+1) d).go (tkS c 32)=o):=⟨_,⟨rfl⟩⟩
  have CN:=tC hG (F.st hG) 32 (by omega) ⟨#[40]⟩ rfl ho0
  have hXs:=bL hv
  go_upto_region 35 with (first|(go_at_call 36;(with_reducible refine CN.mono ?_);rintro e w12 ⟨hg,rfl,hR1⟩))
  replace F:=F.call hg hR1
  replace hv:=xC hv hg (by omega)
  replace hr:=xC hr hg hgl
  have hl0:=(tk_open_lim (a0:=a0+1) (by omega) (fun a' d' e=>by cases e;exact ⟨by omega,h0⟩) ho0)
  obtain ⟨R,hRs⟩:∃R,A0 ((o0.bind fun _ a1 d1=>argsS c ex n 0 [] a1 d1)=R):=⟨_,⟨rfl⟩⟩
  have hSp:A0 (S=R.bind fun l a2 d2=>(tkS c 33 a2 d2).bind fun _ a3 d3=>.ok (.mk o 0 nN l (ps c a)) a3 d3):=⟨by
   rw [←hS.out,←hRs.out,←ho0.out]
   unfold callS
   simp only [tk_bind,bind_bind,Sta.go]⟩
  have hA:A0 (RgAt c W ex o (ps c a) n 0 R (a0+1) w12):=⟨⟨o0.bind fun _ a1 d1=>.ok [] a1 d1,none,0,0,by cases o0 <;> exact F,hr,hv,fun l hl=>by
   cases o0 with
   | bad p er=>cases hl
   | ok x a1 d1=>cases hl;exact ⟨Acc.nil _,rfl⟩,by rw [←hRs.out];cases o0 <;> rfl,by
   cases o0 with
   | bad p er=>intro a' d' e;cases e
   | ok x a1 d1=>exact fun a' d' e=>⟨by have:=(hl0 a' d' e).1;omega,(hl0 a' d' e).2⟩⟩⟩
  clear CN hg hR1 F hv hr ho0 hl0 hXs hRs hS hkd
  go_wp2
  go_loopg [5] n (fun m v X=>∃i:Nat,v=.int .i64 (i:Int)∧i+m=n∧RgAt c W ex o (ps c a) m i R (a0+1) X)
  case atStart=>exact ⟨0,rfl,by omega,hA.out⟩
  case round =>
   obtain ⟨i,rfl,hin,hAt⟩:=hrel
   obtain ⟨q,A5,k5,cap5,F,hr,hv,hAc,hsp,hlim⟩:=hAt.ex
   clear hA hAt
   replace hAc:=A0.mk hAc
   replace hsp:=A0.mk hsp
   replace hin:=A0.mk hin
   replace hlim:=A0.mk hlim
   have hXs:=bL hv
   by_cases hgo:gk≠0∧∃l a1 d1,q=.ok l a1 d1
   ·obtain ⟨hgk,l,a1,d1,rfl⟩:=hgo
    obtain ⟨m,rfl⟩:∃m,gk=m+1:=⟨gk - 1,by omega⟩
    have d0:i<n:=by have:=hin.out;omega
    have c5:wr.cell? ⟨c.g,5,none⟩=some (.int .i64 0):=(F.st hG).1.c5
    have hAl:=A0.mk (hAc.out l rfl).1
    have hli:=(hAc.out l rfl).2
    obtain ⟨q1,q2⟩:=hlim.out a1 d1 rfl
    clear hgk
    go_upto_if 91 with fail
    go_cut [] from 91 to 93 (fun X=>RsAt c W ex o (ps c a) m i l A5 k5 cap5 R (a0+1) X)
    case first =>
     by_cases hi0:i=0
     ·have hd0:¬ 0<i:=by omega
      replace hi0:=A0.mk hi0
      go_wp2
      go_meet
      exact ⟨⟨.ok () a1 d1,F,hr,hv,hAl.out,by rw [←hsp.out];simp only [Out.bind];rw [argsS_step,if_pos hi0.out];rfl,hlim.out⟩⟩
     ·have hd0:0<i:=by omega
      replace hi0:=A0.mk hi0
      obtain ⟨oc,hoc⟩:∃o,A0 ((Sta.here a1 d1).go (tkS c 36)=o):=⟨_,⟨rfl⟩⟩
      have CN:=tC hG (F.st hG) 36 (by omega) ⟨#[44]⟩ rfl hoc
      go_wp2_with (first|(go_at_call 36;(with_reducible refine CN.mono ?_);rintro e w13 ⟨hg,rfl,hR1⟩))
      go_meet
      exact ⟨⟨oc,F.call hg hR1,xC hr hg hgl,xC hv hg (by omega),hAl.out.farE (Far.ofGrown hg (by omega)),by rw [←hsp.out,←hoc.out];simp only [Out.bind.eq_1];rw [argsS_step,if_neg hi0.out];rfl,by
       intro a' d' e
       have ho:=hoc.out
       simp only [Sta.go] at ho
       cases oc with
       | bad p er=>cases e
       | ok x a2 d2 =>
        cases e
        obtain ⟨t,a3,d3,h3,h4⟩:=bO ho
        cases h4
        obtain ⟨-,e1,-,-,e3,-⟩:=want_ok (by omega) h3
        rw [if_neg (by omega),if_neg (by omega)] at e3
        exact ⟨by omega,by omega⟩⟩⟩
    case rest =>
     clear hAc hAl F hr hv hsp hlim c5 d0 hXs q1 q2
     obtain ⟨q1,F,hr,hv,hAc,hsp,hlim⟩:=hcut.ex
     clear hcut
     replace hAc:=A0.mk hAc
     replace hsp:=A0.mk hsp
     have hlim2:=A0.mk (fun a' d' (e:q1.sta=.here a' d')=>(⟨(hlim a' d' e).1,(hlim a' d' e).2,by have:=F.pb;rw [e] at this;exact this.2.2.2⟩:a0+1≤a'∧0≤d'∧d'≤64))
     obtain ⟨o2,ho2⟩:∃o,A0 (q1.sta.go ex=o):=⟨_,⟨rfl⟩⟩
     have Fd:=F.drew
     have hvd:=bD hv
     have hrd:=bD hr
     have CN:=hR.out.c (Fd.st hG) hlim ho2
     have z3:wc.cell? ⟨W.heap.size+1,3,none⟩=some (.slice A5 k5 cap5):=bC hv 3
     have hlv:∀k,(Value.slice A5 k5 cap5).ownBlock=some k→W.heap.size+2≤k∧k<wc.drew.heap.size:=hAc.out.lt
     replace hlv:=A0.mk hlv
     have hl3:W.heap.size+1<wc.drew.heap.size:=bL hvd
     replace hl3:=A0.mk hl3
     have hinfo:(Tryz.prog.info? 93).map (fun i=>(i.zero,i.size,i.bytes))=some (some (.agg #[.int .i64 0,.int .i64 0,.string ⟨#[]⟩,.slice none 0 0,.int .i64 0]),5,64):=by kernel_rfl
     obtain ⟨i0,hi,hz0,hz1,hz2⟩:=info_parts hinfo
     have hll:l.length≤3:=by have:=hin.out;omega
     replace hll:=A0.mk hll
     replace hli:=A0.mk hli
     have wi:IntKind.i64.wrap ((i:Int)+1)=(i:Int)+1:=IntWalk.i64_in _ (by have:=hin.out;omega)
     clear hinfo hlim
     go_wp2
     go_region_law (first
      | (go_simp;go_at_call 138;(with_reducible refine CN.mono ?_);rintro e1 w1 ⟨hg,⟨op,num,nm,A,n2,cap,pos,rfl,hE⟩,hR1⟩;(have Fc:=Fd.call hg hR1;have hvc:=xC hvd hg (by omega);have hrc:=xC hrd hg hgl;have t3:w1.cell? ⟨W.heap.size+1,3,none⟩=some (.slice A5 k5 cap5):=bC hvc 3;have t4:∀o,(w1.alloc o).cell? ⟨W.heap.size+1,3,none⟩=some (.slice A5 k5 cap5):=fun o=>bC (xB hvc (bA _ o)) 3;have hA1:=A0.mk (acc_opt ((hAc.out.farE ((Far.refl _ _).drew)).farE (Far.ofGrown hg (by omega))));have hgs:=A0.mk hg.size;dsimp only))
      | (refine step_append_acc (R:=OptE) optE_keeps rfl (.tmp 95) (.tmp 98) 91 rfl (W.heap.size+2) 93 i0 (.agg #[.int .i64 0,.int .i64 0,.string ⟨#[]⟩,.slice none 0 0,.int .i64 0]) 5 64 Tryz.underlying91 hi hz0 hz1 hz2 rfl (by decide) (.slice A5 k5 cap5) (l.map some) rfl (Acc.far (R:=OptE) optE_keeps hA1.out ((Far.refl _ _).alloc _)) ⟨w1.heap.size,0,none⟩ 1 o2.val (eC op num nm A n2 cap pos) rfl rfl (own_alloc5 _ _ _ _ _ _) (one5 _ _ _ _ _ _ _) (optE_into hE.out (by have:=hl3.out;omega) (fun k hk=>(hlv.out k hk).2) _) optE_lt (by have:=hll.out;rw [List.length_map];unfold maxLen;omega) (by have:=hll.out;rw [List.length_map];omega) (by have:=hl3.out;have:=hgs.out;simp;omega) ?_;intro v3 w3 hA3 hg3;(obtain ⟨A6,n6,c6,rfl⟩:=hA3.form;have Fe:=(Fc.alloc (.cells (E93 op num nm A n2 cap pos) 93)).row hg3 (fun k hk=>by have:=(hlv.out k hk).1;omega);have hve:=bx_row (xB hvc (bA _ (.cells (E93 op num nm A n2 cap pos) 93))) hg3 (fun k hk=>(hlv.out k hk).1);have hre:=bx_row (xB hrc (bA _ (.cells (E93 op num nm A n2 cap pos) 93))) hg3 (fun k hk=>by have:=(hlv.out k hk).1;omega);have u3:w3.cell? ⟨W.heap.size+1,3,none⟩=some (.slice A5 k5 cap5):=bC hve 3;have uf3:=bF hve 3)))
     all_goals (
      have hfl:=fine_lim hF.out (Nat.le_refl _) hlim2.out ho2
      go_wp2
      go_roundg m
      case rel=>exact ⟨i+1,by go_num,by have:=hin.out;omega,⟨q1.bind fun _ a d=>(ex a d).bind fun e a2 d2=>.ok (l++[e]) a2 d2,A6,n6,c6,by
       have F5:=Fe.set (p:=⟨W.heap.size+1,3,none⟩) (Nat.le_succ _) (.slice A6 n6 c6)
       have e2:=ho2.out
       cases q1 with
       | bad p er=>simp only [Out.sta,Sta.go] at e2;subst e2;exact F5
       | ok x a1 d1 =>
        simp only [Out.sta,Sta.go] at e2
        simp only [Out.bind]
        rw [e2]
        cases o2 <;> exact F5,Q5 hre (p:=⟨W.heap.size+1,3,none⟩) (by dsimp only;omega) _,bP hve 3 _ rfl,fun l' hl'=>by
       have e2:=ho2.out
       cases q1 with
       | bad p er=>cases hl'
       | ok x a1 d1 =>
        simp only [Out.sta,Sta.go] at e2
        simp only [Out.bind] at hl'
        rw [e2] at hl'
        cases o2 with
        | bad p er=>cases hl'
        | ok y a2 d2 =>
         cases hl'
         refine ⟨?_,by rw [List.length_append,hli.out];rfl⟩
         have hA4:Acc OptE 93 5 (W.heap.size+2) w3 (.slice A6 n6 c6) ((l++[y]).map some):=by rw [List.map_append];exact hA3
         exact (acc_unopt hA4).farE ((Far.refl _ _).put (p:=⟨W.heap.size+1,3,none⟩) (Nat.lt_succ_self _) _),by rw [←hsp.out];cases q1 with
        | bad p er=>rfl
        | ok x a1 d1=>simp only [Out.bind.eq_1,bind_bind,oB],by
       have e2:=ho2.out
       intro a' d' e
       apply hfl a' d'
       rw [←e]
       cases q1 with
       | bad p er=>simp only [Out.sta,Sta.go] at e2;subst e2;rfl
       | ok x a1 d1 =>
        simp only [Out.sta,Sta.go] at e2
        simp only [Out.bind]
        rw [e2]
        cases o2 <;> rfl⟩⟩
      case measure=>omega)
   ·have hRq:A0 (R=q):=⟨by
     rw [←hsp.out]
     cases q with
     | bad p er=>rfl
     | ok l a1 d1 =>
      obtain rfl:gk=0:=Classical.byContradiction fun hg=>hgo ⟨hg,l,a1,d1,rfl⟩
      rfl⟩
    have hex:(∃er,wr.cell? ⟨c.g,5,none⟩=some (.int .i64 er)∧(¬ i<n∨i<n∧(er==0)=false)):=by
     cases q with
     | bad p er =>
      obtain ⟨he,a',d',hb'⟩:=F.pb
      refine ⟨er,bC hb' 5,?_⟩
      rcases Classical.em (i<n) with hd | hd
      ·exact .inr ⟨hd,beq_eq_false_iff_ne.mpr he⟩
      ·exact .inl hd
     | ok l a1 d1 =>
      refine ⟨0,(F.st hG).1.c5,.inl ?_⟩
      have h0:gk=0:=Classical.byContradiction fun hg=>hgo ⟨hg,l,a1,d1,rfl⟩
      have:=hin.out
      omega
    obtain ⟨er,c5,hex⟩:=hex
    obtain ⟨o3,ho3⟩:∃o,A0 (q.sta.go (tkS c 33)=o):=⟨_,⟨rfl⟩⟩
    have CN:=tC hG (F.st hG) 33 (by omega) ⟨#[41]⟩ rfl ho3
    have hfin:A0 (S.sta=o3.sta∧∀y,S.val=some y→∃l,q.val=some l∧y=.mk o 0 nN l (ps c a)):=⟨by
     have e3:=ho3.out
     rw [hSp.out,hRq.out]
     cases q with
     | bad p er=>simp only [Out.sta,Sta.go] at e3;subst e3;exact ⟨rfl,fun y hy=>by cases hy⟩
     | ok l a1 d1 =>
      simp only [Out.sta,Sta.go] at e3
      simp only [Out.bind]
      rw [e3]
      cases o3 with
      | bad p er=>exact ⟨rfl,fun y hy=>by cases hy⟩
      | ok x a2 d2=>exact ⟨rfl,fun y hy=>⟨l,rfl,by cases hy;rfl⟩⟩⟩
    clear hgo hsp hSp hlim ho3
    rcases hex with hd | ⟨hd,he⟩
    all_goals (
     go_upto_region 42 with (first|(go_at_call 36;(with_reducible refine CN.mono ?_);rintro e w13 ⟨hg,rfl,hR1⟩))
     have F2:=F.call hg hR1
     have hv2:=xC hv hg (by omega)
     have hr2:=xC hr hg hgl
     have hEf:A0 (∀l,q.val=some l→RepE (fun b=>W.heap.size+1≤b) w13 (.mk o 0 nN l (ps c a)) (eC o 0 nN A5 k5 cap5 (ps c a))):=⟨fun l hl=>RepE.keep (P:=fun b=>W.heap.size+2≤b) (fun _ hb=>by omega) (fun _ _ _=>rfl) _ _ (((hAc.out l hl).1.farE (Far.ofGrown hg (by omega))).expr o 0 nN (ps c a))⟩
     clear CN hg hR1 F hv hr hAc c5
     have z0:w13.cell? ⟨W.heap.size+1,0,none⟩=some (.int .i64 o):=bC hv2 0
     have z1:w13.cell? ⟨W.heap.size+1,1,none⟩=some (.int .i64 0):=bC hv2 1
     have z2:w13.cell? ⟨W.heap.size+1,2,none⟩=some (.string nN):=bC hv2 2
     have z3:w13.cell? ⟨W.heap.size+1,3,none⟩=some (.slice A5 k5 cap5):=bC hv2 3
     have z4:w13.cell? ⟨W.heap.size+1,4,none⟩=some (.int .i64 (ps c a)):=bC hv2 4
     have x0:w13.cell? ⟨W.heap.size,0,none⟩=some (.int .i64 0):=bC hr2 0;have y0:=bF hr2 0
     have x1:w13.cell? ⟨W.heap.size,1,none⟩=some (.int .i64 0):=bC hr2 1;have y1:=bF hr2 1
     have x2:w13.cell? ⟨W.heap.size,2,none⟩=some (.string ⟨#[]⟩):=bC hr2 2;have y2:=bF hr2 2
     have x3:w13.cell? ⟨W.heap.size,3,none⟩=some (.slice none 0 0):=bC hr2 3;have y3:=bF hr2 3
     have x4:w13.cell? ⟨W.heap.size,4,none⟩=some (.int .i64 0):=bC hr2 4;have y4:=bF hr2 4
     go_wp2
     exact fin93 hG rfl rfl rfl F2 hr2 rfl hfin.out.1 (fun y hy=>by
      obtain ⟨l,h1,rfl⟩:=hfin.out.2 y hy
      exact hEf.out l h1))
theorem rprimary_reads {c:Ctx} (hG:Good c) {ex:Rd Ex} {a0:Nat} (hF:Fine c ex (a0+1)) (hR:RReads c 138 ex (a0+1)):RUn c 177 (primaryS c ex) a0:=by
 intro W a d h ha h0
 unfold primaryS
 by_cases n2:kd c a=2
 ·rw [if_pos n2];exact rprim_int hG W a d h ha h0 n2
 rw [if_neg n2]
 by_cases n1:kd c a=1
 ·rw [if_pos n1];exact rprim_name hG hR W a d h ha h0 n1
 rw [if_neg n1]
 by_cases n20:kd c a=20
 ·rw [if_pos n20];exact rprim_call hG hF hR 20 10 2 (by omega) W a d h ha h0 n20
 rw [if_neg n20]
 by_cases n19:kd c a=19
 ·rw [if_pos n19];exact rprim_call hG hF hR 19 11 2 (by omega) W a d h ha h0 n19
 rw [if_neg n19]
 by_cases n3:kd c a=3
 ·rw [if_pos n3];exact rprim_call hG hF hR 3 12 1 (by omega) W a d h ha h0 n3
 rw [if_neg n3]
 by_cases n7:kd c a=7
 ·rw [if_pos n7];exact rprim_call hG hF hR 7 13 3 (by omega) W a d h ha h0 n7
 rw [if_neg n7]
 by_cases n32:kd c a=32
 ·exact rprim_paren hG (rparen_reads hG hF hR) W a d h ha h0 n32
 ·exact rprim_else hG W a d h ha h0 ⟨n2,n1,n32,n20,n19,n3,n7⟩
theorem rexprOf_reads {c:Ctx} (hG:Good c) {un:Rd Ex} {a0:Nat} (hF:Fine c un a0) (hU:RUn c 168 un a0):RReads c 138 (exprOf c un) a0:=by
 have h5:RRank c (5+1) un a0:=rrank6_reads hG hU
 have h4:RRank c (4+1) _ a0:=rrank_reads hG (r:=5) (by omega) (by omega) hF h5 false rfl
 have h3:RRank c (3+1) _ a0:=rrank_reads hG (r:=4) (by omega) (by omega) (lF hF) h4 false rfl
 have h2:RRank c (2+1) _ a0:=rrank_reads hG (r:=3) (by omega) (by omega) (lF (lF hF)) h3 true rfl
 have h1:RRank c (1+1) _ a0:=rrank_reads hG (r:=2) (by omega) (by omega) (lF (lF (lF hF))) h2 false rfl
 exact rexpr_reads hG (rrank_reads hG (r:=1) (by omega) (by omega) (lF (lF (lF (lF hF)))) h1 false rfl)
theorem runary_reads {c:Ctx} (hG:Good c):∀(f a0:Nat),c.L.length+1≤f+a0→RUn c 168 (unaryS c f) a0
 | 0,a0,hf=>fun W a d h ha h0=>by have:=h.2.1;omega
 | f+1,a0,hf=>by
  have ih:=runary_reads hG f (a0+1) (by omega)
  have hF:=unaryS_fine (c:=c) f (a0+1)
  intro W a d h ha h0
  rw [unaryS]
  by_cases n1:kd c a=37
  ·rw [if_pos n1]
   exact runary_neg hG hF ih 37 4 (by omega) W a d h ha h0 n1
  rw [if_neg n1]
  by_cases n2:kd c a=28
  ·rw [if_pos n2]
   exact runary_neg hG hF ih 28 22 (by omega) W a d h ha h0 n2
  rw [if_neg n2]
  exact runary_other hG (rprimary_reads hG (exprOf_fine hF) (rexprOf_reads hG hF ih)) W a d h ha h0 n1 n2
theorem rexprS_reads {c:Ctx} (hG:Good c):RReads c 138 (exprS c) 0:=rexprOf_reads hG (unaryS_fine _ _) (runary_reads hG _ _ (by omega))
theorem rwhen_reads {c:Ctx} (hG:Good c) {ex:Rd Ex} {blk:Rd (List Stm)} {a0:Nat} (hF:Fine c (paS c ex) a0) (hR:RReads c 107 (paS c ex) a0) (hFB:Fine c blk a0) (hB:RBlk c blk a0):∀f,RWhen c (brS c ex blk) f a0
 | 0=>fun W a d h ha h0 hk hf=>by have:=kL hk (by omega);omega
 | f+1=>rwhen_step hG hF hR hFB hB f (rwhen_reads hG hF hR hFB hB f)
theorem rstmt_reads {c:Ctx} (hG:Good c):∀(f a0:Nat),c.L.length+1≤f+a0→RSt1 c 67 (stmtS c f) a0
 | 0,a0,hf=>fun W a d h ha h0=>by have:=h.2.1;omega
 | f+1,a0,hf=>by
  have ih:=rstmt_reads hG f (a0+1) (by omega)
  have hFB:=blockS_fine (stmtS_fine (c:=c) f (a0+1))
  have hRB:RBlk c (blockS c (stmtS c f)) a0:=rblock_reads hG (stmtS_fine f (a0+1)) ih
  have hFE:=exprS_fine (c:=c) (a0+1)
  have hRE:RReads c 138 (exprS c) (a0+1):=(rexprS_reads hG).mono (Nat.zero_le _)
  have hFP:=parensS_fine hFE
  have hRP:=rparen_reads hG hFE hRE
  intro W a d h ha h0
  show Calls Tryz.prog 67 #[c.me] W (RPost c W (repSo W.heap.size) (stmtOf c (exprS c) (blockS c (stmtS c f)) a d))
  unfold stmtOf
  by_cases n1:kd c a=1
  ·rw [if_pos n1]
   refine rst_via_name hG W a d h h0 n1 fun Z hZ=>?_
   by_cases h48:kd c (a+1)=48
   ·exact rnamed_store hG hFE hRE Z a d hZ ha h0 n1 h48
   ·exact rnamed_set hG hFE hRE Z a d hZ ha h0 n1 h48
  rw [if_neg n1]
  by_cases n11:kd c a=11
  ·rw [if_pos n11]
   exact rst_via_if hG W a d h h0 n11 fun Z hZ=>rwhen_reads hG hFP hRP hFB hRB _ Z a d hZ ha h0 n11 (by omega)
  rw [if_neg n11]
  by_cases n27:kd c a=27
  ·rw [if_pos n27]
   exact rst_while hG hFP hRP hRB W a d h ha h0 n27
  rw [if_neg n27]
  by_cases n24:kd c a=24
  ·rw [if_pos n24]
   exact rst_via_switch hG W a d h h0 n24 fun Z hZ=>rchoose_reads hG hFP hRP hFB hRB Z a d hZ ha h0 n24
  rw [if_neg n24]
  by_cases n5:kd c a=5
  ·rw [if_pos n5]
   exact rst_call (a0:=a0) hG W a d h ha h0 n5
  rw [if_neg n5]
  by_cases n4:kd c a=4
  ·rw [if_pos n4]
   exact rst_assert hG hRP W a d h ha h0 n4
  rw [if_neg n4]
  exact rst_skip (a0:=a0) hG W a d h ha h0 ⟨n1,n11,n27,n24,n5,n4⟩
theorem rblkS_reads {c:Ctx} (hG:Good c) (a0:Nat):RBlk c (blkS c) a0:=rblock_reads hG (stmtS_fine _ _) (rstmt_reads hG _ _ (by omega))
def Alw {α:Type} (P:α→Prop) (o:Out α):Prop:=∀y a d,o=.ok y a d→P y
theorem alw_bind {α β:Type} {P:β→Prop} {o:Out α} {f:α→Nat→Int→Out β} (h:∀x a d,Alw P (f x a d)):Alw P (o.bind f):=by
 cases o with
 | bad p er=>intro y a d e;cases e
 | ok x a d=>exact h x a d
theorem alw_semi {c:Ctx} {x:Dec} {a:Nat} {d:Int}:Alw (fun y:Dec × Bool=>y.2=true) (semiS c x a d):=alw_bind fun _ _ _=>fun y a d e=>by cases e;rfl
def DecK (c:Ctx) (a:Nat):Prop:=kd c a=8∨kd c a=25∨kd c a=14∨kd c a=26
theorem declS_true {c:Ctx} {a:Nat} {d:Int} (hk:DecK c a):Alw (fun y:Dec × Bool=>y.2=true) (declS c a d):=by
 unfold DecK at hk
 unfold declS
 repeat' first
  | exact alw_semi
  | refine alw_bind fun _ _ _=>?_
  | split
  | (exfalso;omega)
theorem declS_dec {c:Ctx} {a:Nat} {d:Int} (hk:DecK c a):declS c a d=(decS c a d).bind fun x a d=>.ok (x,true) a d:=by
 have h:=declS_true (d:=d) hk
 unfold decS
 rw [bind_bind]
 cases ho:declS c a d with
 | bad p er=>rfl
 | ok y a1 d1 =>
  have h2:=h y a1 d1 ho
  obtain ⟨x,b⟩:=y
  simp only at h2
  subst h2
  rfl
theorem declS_none {c:Ctx} {a:Nat} {d:Int} (hk:¬ DecK c a):∃x,declS c a d=.ok (x,false) a d:=by
 unfold DecK at hk
 unfold declS
 rw [if_neg (by omega),if_neg (by omega),if_neg (by omega),if_neg (by omega)]
 exact ⟨_,rfl⟩
theorem decS_fine {c:Ctx} {a a':Nat} {d d':Int} {x:Dec} (hk:DecK c a) (hl:a≤c.L.length) (h:decS c a d=.ok x a' d'):a<a'∧a'≤c.L.length∧d'=d:=by
 have h2:declS c a d=.ok (x,true) a' d':=by rw [declS_dec hk,h];rfl
 obtain ⟨h3,h4,h5,h6⟩:=declS_fine hl h2
 exact ⟨h6 rfl,h4,h5⟩
theorem rdec_c {c:Ctx} (hG:Good c) {W:World} {a:Nat} {d:Int} (h:RSt c W (.here a d)) (hk:DecK c a) {o:Out Dec} (ho:A0 (decS c a d=o)) :
  Calls Tryz.prog 32 #[c.me] W fun e W'=>W.grownBy W' (some c.g)∧(∃dec:Dec,e=.returned (.agg (C69 dec))∧A0 (∀y,o.val=some y→y=dec))∧RSt c W' o.sta :=
 (rdecl_call hG h hk).mono fun e w ⟨hg,⟨v,he,dec,hv,hy⟩,hR⟩=>by
  rw [ho.out] at hy hR
  exact ⟨hg,⟨dec,he.trans (congrArg _ hv),⟨hy⟩⟩,hR⟩
structure R2 (lo:Nat) (X:World) (v1 v2:Value) (ds:List Dec) (pr:List (Option Prc)):Prop where
 decs:X.ownsRow lo 69 13 v1 ds.length (ds.map decCells).flatten
 pros:Acc (Opt RepP) 73 3 lo X v2 pr
 sep:∀k,v1.ownBlock=some k→v2.ownBlock≠some k
theorem optP_keeps:Keeps (Opt RepP):=opt_keeps (R:=RepP) repP_keeps
theorem optP_lt {w:World} {P:Nat→Prop} {x:Option Prc} {v:List Value} (h:Opt RepP P w x v):Opt RepP (fun b=>P b∧b<w.heap.size) w x v:=fun y hy=>repP_lt (h y hy)
theorem R2.far {lo:Nat} {X Y:World} {v1 v2:Value} {ds:List Dec} {pr:List (Option Prc)} (h:R2 lo X v1 v2 ds pr) (hf:Far lo X Y):R2 lo Y v1 v2 ds pr:=⟨oF h.decs hf,Acc.far (R:=Opt RepP) optP_keeps h.pros hf,h.sep⟩
theorem R2.more {lo:Nat} {X Y:World} {v1 v2 v2':Value} {ds:List Dec} {pr pr':List (Option Prc)} (h:R2 lo X v1 v2 ds pr) (hacc:Acc (Opt RepP) 73 3 lo Y v2' pr') (hg:X.grownBy Y v2.ownBlock) (hw:v2'.ownBlock=v2.ownBlock∨v2'.ownBlock=some X.heap.size):R2 lo Y v1 v2' ds pr':=by
 obtain ⟨h1,h2,h3⟩:=h
 have hl:=h1.lt
 refine ⟨⟨h1.1,?_⟩,hacc,fun k hk e=>?_⟩
 ·rcases h1.2 with hn | ⟨g,cap,cur,rfl,hb,hgg,rest⟩
  ·exact .inl hn
  ·exact .inr ⟨g,cap,cur,rfl,hb,(hg.block g (Array.getElem?_eq_some_iff.1 hgg).1 (fun e=>h3 g rfl e.symm)).trans hgg,rest⟩
 ·rcases hw with hw | hw
  ·exact h3 k hk (hw ▸ e)
  ·rw [hw] at e;have:=Option.some.inj e;have:=hl k hk;omega
structure DlAt (c:Ctx) (W:World) (R:Out (List Dec)) (f:Nat) (X:World):Prop where
 ex:∃(q:Out (List Dec)) (ds:List Dec) (A1:Option Addr) (n1 c1:Nat),Fr c W X q.sta∧Bx X W.heap.size 27 #[.slice A1 n1 c1,.slice none 0 0,.slice none 0 0,.slice none 0 0]∧X.ownsRow (W.heap.size+1) 69 13 (.slice A1 n1 c1) ds.length (ds.map decCells).flatten ∧
  (∀l,q.val=some l→l=ds)∧(q.bind fun l a d=>dL c f l a d)=R∧(∀l a d,q=.ok l a d→c.L.length+1≤f+a∧ds.length≤a∧d=0)
structure PlAt (c:Ctx) (W:World) (R:Out (List Prc)) (ds:List Dec) (A1:Option Addr) (n1 c1:Nat) (f:Nat) (X:World):Prop where
 ex:∃(q:Out (List Prc)) (pr:List (Option Prc)) (A2:Option Addr) (n2 c2:Nat),Fr c W X q.sta∧Bx X W.heap.size 27 #[.slice A1 n1 c1,.slice A2 n2 c2,.slice none 0 0,.slice none 0 0]∧R2 (W.heap.size+1) X (.slice A1 n1 c1) (.slice A2 n2 c2) ds pr ∧
  (∀l,q.val=some l→l.map some=pr)∧(q.bind fun l a d=>pL c f l a d)=R∧(∀l a d,q=.ok l a d→c.L.length+1≤f+a∧pr.length≤a∧d=0)
theorem R2.tree {lo:Nat} {X:World} {A1:Option Addr} {n1 c1:Nat} {A2:Option Addr} {n2 c2:Nat} {A3:Option Addr} {n3 c3:Nat} {A4:Option Addr} {n4 c4:Nat} {ds:List Dec} {pr:List Prc} {i l:List Stm} (h:R2 lo X (.slice A1 n1 c1) (.slice A2 n2 c2) ds (pr.map some))
  (h3:RepB (fun b=>lo≤b) X i [.slice A3 n3 c3]) (h4:RepB (fun b=>lo≤b) X l [.slice A4 n4 c4]):RepT (fun b=>lo≤b) X ⟨ds,pr,i,l⟩ A1 n1 c1 A2 n2 c2 A3 n3 c3 A4 n4 c4:=by
 obtain ⟨h1,h2,-⟩:=h
 obtain ⟨vs,hown,hall⟩:=(Acc.ofOpt h2).ex
 have k1:ds.length=n1∧n1≤c1:=by
  rcases h1.2 with ⟨e,h0⟩|⟨g,cap,cur,e,_,_,hl,_⟩
  ·cases e;exact ⟨h0,Nat.le_refl _⟩
  ·cases e;exact ⟨rfl,hl⟩
 have k2:pr.length=n2∧n2≤c2:=by
  rcases hown.2 with ⟨e,h0⟩|⟨g,cap,cur,e,_,_,hl,_⟩
  ·cases e;exact ⟨h0,Nat.le_refl _⟩
  ·cases e;exact ⟨rfl,hl⟩
 obtain ⟨rfl,hc1⟩:=k1
 obtain ⟨rfl,hc2⟩:=k2
 exact ⟨⟨rfl,hc1⟩,⟨rfl,hc2⟩,Row.own h1,⟨vs,Row.own hown,hall.imp fun x y hr=>repP_keeps hr (fun _ hb=>hb.1) fun _ _ _=>rfl⟩,h3,h4⟩
inductive RScan (n:Nat) (xs:List Int) (w:World):Ending→World→Prop
 | bad (p er:Int) {W:World}:Below w.heap.size w W→Parsed n xs none p er→er≠0→RScan n xs w (.returned (.tuple #[.slice none 0 0,.int .i64 p,.int .i64 er])) W
 | toks (l:List Tok) (v:Value) {W:World}:Below w.heap.size w W→n≤65536→scan KB xs 0 []=.toks l→W.ownsRow w.heap.size 44 4 v l.length (cellsOf l)→RScan n xs w (.returned (.tuple #[v,.int .i64 0,.int .i64 0])) W
structure RParsed (n:Nat) (xs:List Int) (w:World) (e:Ending) (W:World):Prop where
 below:Below w.heap.size w W
 ans:∃o p er v,Parsed n xs o p er∧e=.returned (.tuple #[v,.int .i64 p,.int .i64 er])∧(o=none→v=zeroT)∧∀x,o=some x→repTree w.heap.size W v x
theorem rparse_results (tmps:Array Value) (W:World) (t:Nat) (c0:Array Value) (v3 v4:Value) (h2:tmps.getD 2 undef=.pointer (some ⟨t,0,none⟩)) (h3:tmps.getD 3 undef=v3) (h4:tmps.getD 4 undef=v4)
  (ht:W.heap[t]?=some (.cells c0 27 (0,0))) (z0:c0.size=4):(results Tryz.f11 tmps).run Tryz.prog W=.ok (.tuple #[.agg c0,v3,v4]) W:=by
 have e0:=run_loadVar_row (P:=Tryz.prog) W t 27 27 c0 (0,0) _ ht Tryz.underlying27 rfl (by rw [z0];kernel_rfl)
 have h2':tmps[2]?.getD undef=.pointer (some ⟨t,0,none⟩):=by simpa using h2
 have h3':tmps[3]?.getD undef=v3:=by simpa using h3
 have h4':tmps[4]?.getD undef=v4:=by simpa using h4
 simp [results,Tryz.results11,asAddr,h2',h3',h4',e0]
theorem rparse_end {n:Nat} {xs:List Int} {w:World} {a:Act} {W:World} {c0:Array Value} {p er:Int} (hd:a.defers=[]) (h2:a.tmps.getD 2 undef=.pointer (some ⟨w.heap.size,0,none⟩)) (h3:a.tmps.getD 3 undef=.int .i64 p) (h4:a.tmps.getD 4 undef=.int .i64 er)
  (ht:W.heap[w.heap.size]?=some (.cells c0 27 (0,0))) (z0:c0.size=4) (hQ:RParsed n xs w (.returned (.tuple #[.agg c0,.int .i64 p,.int .i64 er])) W):bodyPost Tryz.prog Tryz.f11 (RParsed n xs w) .ret a W :=
 bodyPost_ret (rparse_results a.tmps W _ c0 _ _ h2 h3 h4 ht z0) hd hQ
end Go.Proofs.YtgaoapnaplgaiaaGreatDoor.Sc
