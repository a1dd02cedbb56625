/- This claim's own texts, joined, with only what the claim uses: ParN. -/
import Derived.Test.YtgaoapnaplgaiaaGreatDoorZs14
namespace Go.Proofs.YtgaoapnaplgaiaaGreatDoor.Sc
set_option maxRecDepth 100000
open Go.RowKit Tk Go.Proofs.YtgaoapnaplgaiaaGreatDoor.Wd
theorem RepE.newbox {lo lo':Nat} {W:World} {x:Ex} {v:List Value} (h:RepE (fun b=>lo'≤b) W x v) (hl:lo≤lo') (o:Obj):RepE (fun b=>lo≤b∧b≠W.heap.size) (W.alloc o) x v :=
 RepE.keep (fun b hb=>⟨Nat.le_trans hl hb.1,fun e=>by have:=hb.2;omega⟩) (fun b _ hk=>_root_.Go.heap_alloc_old W o hk) _ _ (RepE.lt _ _ h)
set_option maxHeartbeats 2000000 in
theorem parens_reads {c:Ctx} (hG:Good c) (hg1:1<c.g) {ex:Rd Ex} {a0:Nat} (hF:Fine c ex (a0+1)) (hR:Reads c 131 ex (a0+1)):Reads c 132 (paS c ex) a0:=by
 intro W a d fp fe h hO ha hl h0 h1
 have hT0:=One.lit h 93 Z93
 obtain ⟨S,hSp⟩:∃S,A0 (paS c ex a d=S):=⟨_,⟨rfl⟩⟩
 rw [hSp.out]
 have hR:=A0.mk hR
 have hF:=A0.mk hF
 have hO:=A0.mk hO
 have hS0:=hT0.st hG h
 go_enter Tryz.func132,Tryz.ntmps132
 have CN:=wC hG hS0 (by omega) 32 (by omega)
 go_upto_region 2 with (first|(go_at_call 59;(with_reducible refine CN.mono ?_);rintro e w hP;rcases hP.elim with ⟨t,a1,d1,ho,hg,⟨v,rfl,rfl⟩,hS⟩|⟨p,er,ho,hg,rfl,a',d',hS⟩;(have hT1:=hT0.call h hg hS)))
 case inr =>
  rw [show S=.bad p er by rw [←hSp.out];simp only [paS,Out.bind,ho]]
  exact ⟨rfl,Post.mk_bad (Q4 hT0.fr hg) hS⟩
 obtain ⟨_,rfl,hl1,_,hd,hne⟩:=want_ok (by omega) ho
 rw [if_pos (by omega)] at hd
 have hne:=hne (by omega)
 subst hd
 have q1:A0 (wS c 32 a d=.ok t (a+1) (d+1)):=⟨ho⟩
 clear ho hP CN hT0 hg hS hS0
 have hS1:=hT1.st hG h
 have hl2:=bL hT1.rb
 have CN:=hR.out _ _ _ _ _ hS1 (hO.out.grown hT1.fr hg1) (by omega) hl1 (by omega) (by omega)
 go_upto_region 3 with (first|(go_at_call 131;(with_reducible refine CN.mono ?_);rintro e w hP;rcases hP.elim with ⟨x,a2,d2,ho,hg,⟨v,rfl,op,num,nm,A,n,cap,pos,rfl,hE⟩,hS⟩|⟨p,er,ho,hg,rfl,a',d',hS⟩;(have hT2:=hT1.call h hg hS)))
 case inr =>
  rw [show S=.bad p er by rw [←hSp.out];simp only [paS,Out.bind,q1.out,ho]]
  exact ⟨rfl,Post.mk_bad (Q4 hT1.fr hg) hS⟩
 obtain ⟨p1,p2,rfl⟩:=hF.out _ _ (by omega) (by omega) (by omega) _ _ _ ho
 have hT3:=Tw.ofOne hT2 (E93 op num nm A n cap pos)
 have hE2:=hE.newbox hl2 (.cells (E93 op num nm A n cap pos) 93)
 have q2:A0 (ex (a+1) (d+1)=.ok x a2 (d+1)):=⟨ho⟩
 obtain ⟨g2,hg2⟩:∃g2,A0 (g2=w.heap.size):=⟨_,⟨rfl⟩⟩
 rw [←hg2.out] at hT3 hE2 ⊢
 generalize w.alloc (.cells #[.int .i64 op,.int .i64 num,.string nm,.slice A n cap,.int .i64 pos] 93)=X at hT3 hE2 ⊢
 clear hE hT2 hT1 hS hg ho hP CN hS1
 have hE2:=A0.mk hE2
 have hS2:=hT3.st hG h
 have CN:=wC hG hS2 (by omega) 33 (by omega)
 go_upto_region 4 with (first|(go_at_call 59;(with_reducible refine CN.mono ?_);rintro e w hP;rcases hP.elim with ⟨t2,a3,d3,ho,hg,⟨v,rfl,rfl⟩,hS⟩|⟨p,er,ho,hg,rfl,a',d',hS⟩;(have hT4:=hT3.call h hg hS)))
 case inr =>
  rw [show S=.bad p er by rw [←hSp.out];simp only [paS,Out.bind,q1.out,q2.out,ho]]
  exact ⟨rfl,Post.mk_bad (Q4 hT3.fr hg) hS⟩
 have hgl:=bL h.blk
 have hE3:=A0.mk (hE2.out.apart hg (by omega))
 have hSv:A0 (S=.ok x a3 d3):=⟨by rw [←hSp.out];simp only [paS,Out.bind,q1.out,q2.out,ho]⟩
 clear ho hP CN hT3 hS hg hE2 hS2
 have z0:w.cell? ⟨g2,0,none⟩=some (.int .i64 op):=hT4.vc 0 rfl;have y0:=hT4.vf 0
 have z1:w.cell? ⟨g2,1,none⟩=some (.int .i64 num):=hT4.vc 1 rfl;have y1:=hT4.vf 1
 have z2:w.cell? ⟨g2,2,none⟩=some (.string nm):=hT4.vc 2 rfl;have y2:=hT4.vf 2
 have z3:w.cell? ⟨g2,3,none⟩=some (.slice A n cap):=hT4.vc 3 rfl;have y3:=hT4.vf 3
 have z4:w.cell? ⟨g2,4,none⟩=some (.int .i64 pos):=hT4.vc 4 rfl;have y4:=hT4.vf 4
 have r0:w.cell? ⟨W.heap.size,0,none⟩=some (.int .i64 0):=hT4.rc 0 rfl;have x0:=hT4.rf 0
 have r1:w.cell? ⟨W.heap.size,1,none⟩=some (.int .i64 0):=hT4.rc 1 rfl;have x1:=hT4.rf 1
 have r2:w.cell? ⟨W.heap.size,2,none⟩=some (.string ⟨#[]⟩):=hT4.rc 2 rfl;have x2:=hT4.rf 2
 have r3:w.cell? ⟨W.heap.size,3,none⟩=some (.slice none 0 0):=hT4.rc 3 rfl;have x3:=hT4.rf 3
 have r4:w.cell? ⟨W.heap.size,4,none⟩=some (.int .i64 0):=hT4.rc 4 rfl;have x4:=hT4.rf 4
 go_wp2
 have hTR:=Tw.all5 h (.int .i64 op) (.int .i64 num) (.string nm) (.slice A n cap) (.int .i64 pos) hT4
 rw [hSv.out]
 exact bodyPost_ret (res_c rfl _ _ W.heap.size 93 _ (0,0) _ rfl hTR.rb Tryz.underlying93 rfl (by kernel_rfl)) rfl (Post.mk_ok (rep:=repE W.heap.size) hTR.fr ⟨_,_,_,_,_,_,_,rfl,hE3.out.fin _ _ _ _ _⟩ (hTR.st hG h))
theorem Tw.lit {c:Ctx} {W:World} {t:Nat} {r v:Array Value} {a:Nat} {d fp fe:Int} (h0:St c W a d fp fe) (q q2:Nat):Tw c W ((((W.alloc (.cells r t)).drewN q).alloc (.cells v t)).drewN q2) (W.heap.size+1) t r v a d fp fe :=
 have h:=Two.lit (t:=t) (r:=r) (v:=v) h0 q q2
 ⟨h.fr,h.rb,h.vb,h.pb,Nat.lt_succ_self _⟩
set_option maxHeartbeats 4000000 in
theorem neg_reads {c:Ctx} (hG:Good c) (hg1:1<c.g) {un:Rd Ex} {a0:Nat} (hF:Fine c un (a0+1)) (hR:Reads c 53 un (a0+1)) (k o:Int) (hk:(k=37∧o=4)∨(k=28∧o=22))
  (W:World) (a:Nat) (d fp fe:Int) (h:St c W a d fp fe) (hO:Ops W) (ha:a0≤a) (hl:a≤c.L.length) (h0:0≤d) (h1:d≤64) (hkd:kd c a=k) :
  Calls Tryz.prog 53 #[c.me] W (Post c W fp fe (repE W.heap.size) (negS c un o a d)):=by
 obtain ⟨S,hSp⟩:∃S,A0 (negS c un o a d=S):=⟨_,⟨rfl⟩⟩
 rw [hSp.out]
 have hR:=A0.mk hR
 have hF:=A0.mk hF
 have hO:=A0.mk hO
 have hs0:∀o,St c (W.alloc o) a d fp fe:=fun o=>h.below (bA _ o)
 have hs1:∀o q o2,St c (((W.alloc o).drewN q).alloc o2) a d fp fe:=fun o q o2=>((hs0 o).drewN q).below (bA _ o2)
 have PS:=fun o=>qC (hs0 o)
 have KD:=fun o q o2=>kC (hs1 o q o2)
 have hal:=kd_lt hkd (by omega)
 rw [hkd] at KD
 clear hkd
 have wa:IntKind.i64.wrap ((a:Int)+1)=(a:Int)+1:=IntWalk.i64_in _ (by have:=hG.hl;omega)
 go_enter Tryz.func53,Tryz.ntmps53
 go_upto_block 0 with (first|(go_at_call 56;with_reducible refine (PS _).mono ?_;rintro e w' ⟨rfl,q,rfl⟩)|(go_at_call 55;with_reducible refine (KD _ _ _).mono ?_;rintro e w' ⟨rfl,q2,rfl⟩))
 have hT0:=Tw.lit (t:=93) (r:=Z93) (v:=E93 0 0 nN none 0 0 (ps c a)) h q q2
 generalize ((((W.alloc _).drewN q).alloc _).drewN q2)=X0 at hT0 ⊢
 clear PS KD hs0 hs1
 have z0:X0.cell? ⟨W.heap.size+1,0,none⟩=some (.int .i64 0):=hT0.vc 0 rfl
 have y0:=hT0.vf 0
 go_cut [] from 9 to 16 (fun X=>Tw c W X (W.heap.size+1) 93 Z93 (E93 o 0 nN none 0 0 (ps c a)) a d fp fe)
 case first =>
  rcases hk with ⟨rfl,rfl⟩|⟨rfl,rfl⟩
  ·go_wp2
   go_meet
   exact hT0.put h 0 _ rfl
  ·go_wp2
   go_meet
   exact hT0.put h 0 _ rfl
 case rest =>
  have hT1:=hcut
  have hS1:=hT1.st hG h
  clear z0 y0 hT0 hcut hk
  have CN:=deeper_call hG hS1 (by omega)
  go_upto_region 9 with (first|(go_at_call 95;(with_reducible refine CN.mono ?_);rintro e w hP;rcases hP.elim with ⟨u,a1,d1,ho,hg,⟨v,rfl,rfl⟩,hS⟩|⟨p,er,ho,hg,rfl,a',d',hS⟩;(have hT2:=hT1.call h hg hS)))
  case inr =>
   rw [show S=.bad p er by rw [←hSp.out];simp only [negS,Out.bind,ho]]
   exact ⟨rfl,Post.mk_bad (Q4 hT1.fr hg) hS⟩
  have hq:a1=a∧d1=d+1∧d≠64:=by
   unfold deeperS at ho
   split at ho
   ·cases ho
   ·cases ho;exact ⟨rfl,rfl,by assumption⟩
  obtain ⟨rfl,rfl,hne⟩:=hq
  have q1:A0 (deeperS c a1 d=.ok u a1 (d+1)):=⟨ho⟩
  clear ho hP CN hT1 hS1 hg
  have s2:=hS.c2
  have f2:=hS.fz 2
  go_upto_region 10 with fail
  have hT3:=hT2.at hG h
  generalize w.setCell ⟨c.g,2,none⟩ (.int .i64 ((a1:Int)+1))=X3 at hT3 ⊢
  clear s2 f2 hS hT2
  have hS3:=hT3.st hG h
  have hl3:=bL hT3.vb
  have CN:=hR.out _ _ _ _ _ hS3 (hO.out.grown hT3.fr hg1) (by omega) (by omega) (by omega) (by omega)
  go_upto_region 11 with (first|(go_at_call 53;(with_reducible refine CN.mono ?_);rintro e w hP;rcases hP.elim with ⟨x,a2,d2,ho,hg,⟨v,rfl,op,num,nm,A,n,cap,pos,rfl,hE⟩,hS⟩|⟨p,er,ho,hg,rfl,a',d',hS⟩;(have hT4:=hT3.call h hg hS;have p3:∀o,(w.alloc o).cell? ⟨W.heap.size+1,3,none⟩=some (.slice none 0 0):=fun o=>(hT4.alloc o).vc 3 rfl;have o3:∀o,(w.alloc o).frozen? ⟨W.heap.size+1,3,none⟩=false:=fun o=>(hT4.alloc o).vf 3)))
  case inr =>
   rw [show S=.bad p er by rw [←hSp.out];simp only [negS,Out.bind,q1.out,ho]]
   exact ⟨rfl,Post.mk_bad (Q4 hT3.fr hg) hS⟩
  obtain ⟨p1,p2,rfl⟩:=hF.out _ _ (by omega) (by omega) (by omega) _ _ _ ho
  have q2:A0 (un (a1+1) (d+1)=.ok x a2 (d+1)):=⟨ho⟩
  have hll:=bL hT4.vb
  have hT5:=(hT4.alloc (.cells (E93 op num nm A n cap pos) 93)).put h 3 (.slice (some ⟨w.heap.size,0,none⟩) 1 1) (v':=E93 o 0 nN (some ⟨w.heap.size,0,none⟩) 1 1 (ps c a1)) rfl
  have hE5:=RepE.far (repE_one (P:=fun b=>W.heap.size+2≤b) (RepE.far hE (Far.refl _ _) (by omega)) (by omega) (E93 op num nm A n cap pos) rfl o 0 nN (ps c a1)) ((Far.refl _ _).put (p:=⟨W.heap.size+1,3,none⟩) (by dsimp only;omega) (.slice (some ⟨w.heap.size,0,none⟩) 1 1)) (Nat.le_refl _)
  generalize (w.alloc (.cells #[.int .i64 op,.int .i64 num,.string nm,.slice A n cap,.int .i64 pos] 93)).setCell ⟨W.heap.size+1,3,none⟩ (.slice (some ⟨w.heap.size,0,none⟩) 1 1)=X5 at hT5 hE5 ⊢
  generalize (some ⟨w.heap.size,0,none⟩:Option Addr)=A5 at hT5 hE5 ⊢
  clear hE hT4 hT3 hS hg ho hP CN hS3 hll hl3 p3 o3
  have hE5:=A0.mk hE5
  have hS5:=hT5.st hG h
  have s3:=hS5.c3
  have f3:=hS5.fz 3
  have wd:IntKind.i64.wrap (d+1 - 1)=d:=by rw [IntWalk.i64_in _ (by omega)];omega
  have wd2:IntKind.i64.wrap d=d:=IntWalk.i64_in _ (by omega)
  go_upto_region 12 with fail
  have hT6:=hT5.dp hG h d
  have hgl:=bL h.blk
  have hE6:=RepE.far hE5.out ((Far.refl _ _).put (p:=⟨c.g,3,none⟩) (by dsimp only;omega) (.int .i64 d)) (Nat.le_refl _)
  generalize X5.setCell ⟨c.g,3,none⟩ (.int .i64 d)=X6 at hT6 hE6 ⊢
  clear hE5 hT5 hS5 s3 f3 wd wd2
  have hE6:=A0.mk hE6
  have hSv:A0 (S=.ok (.mk o 0 nN [x] (ps c a1)) a2 d):=⟨by rw [←hSp.out];simp only [negS,Out.bind,q1.out,q2.out];rw [show d+1 - 1=d by omega]⟩
  have z0:X6.cell? ⟨W.heap.size+1,0,none⟩=some (.int .i64 o):=hT6.vc 0 rfl;have y0:=hT6.vf 0
  have z1:X6.cell? ⟨W.heap.size+1,1,none⟩=some (.int .i64 0):=hT6.vc 1 rfl;have y1:=hT6.vf 1
  have z2:X6.cell? ⟨W.heap.size+1,2,none⟩=some (.string nN):=hT6.vc 2 rfl;have y2:=hT6.vf 2
  have z3:X6.cell? ⟨W.heap.size+1,3,none⟩=some (.slice A5 1 1):=hT6.vc 3 rfl;have y3:=hT6.vf 3
  have z4:X6.cell? ⟨W.heap.size+1,4,none⟩=some (.int .i64 (ps c a1)):=hT6.vc 4 rfl;have y4:=hT6.vf 4
  have r0:X6.cell? ⟨W.heap.size,0,none⟩=some (.int .i64 0):=hT6.rc 0 rfl;have x0:=hT6.rf 0
  have r1:X6.cell? ⟨W.heap.size,1,none⟩=some (.int .i64 0):=hT6.rc 1 rfl;have x1:=hT6.rf 1
  have r2:X6.cell? ⟨W.heap.size,2,none⟩=some (.string ⟨#[]⟩):=hT6.rc 2 rfl;have x2:=hT6.rf 2
  have r3:X6.cell? ⟨W.heap.size,3,none⟩=some (.slice none 0 0):=hT6.rc 3 rfl;have x3:=hT6.rf 3
  have r4:X6.cell? ⟨W.heap.size,4,none⟩=some (.int .i64 0):=hT6.rc 4 rfl;have x4:=hT6.rf 4
  go_wp2
  have hTR:=Tw.all5 h (.int .i64 o) (.int .i64 0) (.string nN) (.slice A5 1 1) (.int .i64 (ps c a1)) hT6
  rw [hSv.out]
  exact bodyPost_ret (res_c rfl _ _ W.heap.size 93 _ (0,0) _ rfl hTR.rb Tryz.underlying93 rfl (by kernel_rfl)) rfl (Post.mk_ok (rep:=repE W.heap.size) hTR.fr ⟨_,_,_,_,_,_,_,rfl,hE6.out.far (far5 _ (by omega) _ _ _ _ _) (by omega)⟩ (hTR.st hG h))
end Go.Proofs.YtgaoapnaplgaiaaGreatDoor.Sc
