/- This claim's own texts, joined, with only what the claim uses: ParY. -/
import Derived.Test.YtgaoapnaplgaiaaGreatDoorZs20
namespace Go.Proofs.YtgaoapnaplgaiaaGreatDoor.Sc
set_option maxRecDepth 100000
open Go.RowKit Tk Go.Proofs.YtgaoapnaplgaiaaGreatDoor.Wd
theorem Tw.lit0 {c:Ctx} {W:World} {t:Nat} {r v:Array Value} {a:Nat} {d fp fe:Int} (h0:St c W a d fp fe) (q:Nat):Tw c W (((W.alloc (.cells r t)).drewN q).alloc (.cells v t)) (W.heap.size+1) t r v a d fp fe:=by
 have h:=Tw.ofOne ((One.lit h0 t r).drewN q) v
 have e:((W.alloc (.cells r t)).drewN q).heap.size=W.heap.size+1:=by simp
 rw [e] at h
 exact h
structure CaseAt (c:Ctx) (W:World) (blk:Rd (List Stm)) (R:Out Cas) (A:Option Addr) (x:Ex) (pos fp fe:Int) (a0:Nat) (d0:Int) (f:Nat) (X:World):Prop where
 ex:∃cs bs a A2 n2 c2 A3 n3 c3,Tw c W X (W.heap.size+1) 107 Z107 (E107 6 nN nN (.slice A 1 1) (.slice A2 n2 c2) (.slice A3 n3 c3) pos) a d0 fp fe∧Rows3 (W.heap.size+2) X A 1 1 (.slice A2 n2 c2) (.slice A3 n3 c3) [x] bs cs ∧
  cP c blk f cs bs a d0=R∧a0≤a∧a≤c.L.length∧c.L.length+1≤f+a∧cs.length≤a∧bs.length≤a
structure CaseMid (c:Ctx) (W:World) (A:Option Addr) (x:Ex) (pos fp fe:Int) (d0:Int) (cs:List Con) (bs:List (List Stm)) (a:Nat) (X:World):Prop where
 ex:∃k a2 A2 n2 c2 A3 n3 c3,coS c a d0=.ok k a2 d0∧Tw c W X (W.heap.size+1) 107 Z107 (E107 6 nN nN (.slice A 1 1) (.slice A2 n2 c2) (.slice A3 n3 c3) pos) a2 d0 fp fe∧Rows3 (W.heap.size+2) X A 1 1 (.slice A2 n2 c2) (.slice A3 n3 c3) [x] bs (cs++[k])
structure DfAt (c:Ctx) (W:World) (blk:Rd (List Stm)) (A:Option Addr) (x:Ex) (pos fp fe:Int) (d0:Int) (cs:List Con) (bs:List (List Stm)) (a:Nat) (X:World):Prop where
 ex:∃bs' a2 A2 n2 c2 A3 n3 c3,dfltS c blk bs a d0=.ok bs' a2 d0∧Tw c W X (W.heap.size+1) 107 Z107 (E107 6 nN nN (.slice A 1 1) (.slice A2 n2 c2) (.slice A3 n3 c3) pos) a2 d0 fp fe∧Rows3 (W.heap.size+2) X A 1 1 (.slice A2 n2 c2) (.slice A3 n3 c3) [x] bs' cs
theorem one3 (x:Con):∀u ∈ conCells x,u.oneCell'=true:=by
 intro u hu
 simp [conCells] at hu
 rcases hu with rfl | rfl | rfl <;> rfl
theorem all2_self {P:Nat→Prop} {W:World}:∀(xs:List Con),All2 (RepC P W) xs (xs.map conCells)
 | []=>trivial
 | _ :: xs=>⟨rfl,all2_self xs⟩
theorem repB_new {lo b0:Nat} {w:World} {x:List Stm} {v:List Value} {v2 v3:Value} (h:RepB (fun b=>b0≤b) w x v) (hl:lo≤b0) (h2:∀k,v2.ownBlock=some k→k<b0) (h3:∀k,v3.ownBlock=some k→k<b0) (o:Obj):RepB (fun b=>Apart lo v2 v3 b∧b<(w.alloc o).heap.size) (w.alloc o) x v :=
 rK (repB_lt h) (fun b hb=>⟨⟨Nat.le_trans hl hb.1,fun e=>by have:=h2 b e;have:=hb.1;omega,fun e=>by have:=h3 b e;have:=hb.1;omega⟩,by have:=hb.2;simp;omega⟩) (fun b _ hk=>_root_.Go.heap_alloc_old w o hk)
set_option maxHeartbeats 16000000 in
theorem choice_reads {c:Ctx} (hG:Good c) (hg1:1<c.g) {ex:Rd Ex} {blk:Rd (List Stm)} {a0:Nat} (hF:Fine c (paS c ex) a0) (hR:Reads c 132 (paS c ex) a0) (hFB:Fine c blk a0) (hRB:ReadsA c 58 repBlk blk a0)
  (W:World) (a:Nat) (d fp fe:Int) (h:St c W a d fp fe) (hO:Ops W) (ha:a0≤a) (hl:a≤c.L.length) (h0:0≤d) (h1:d≤64) (hkd:kd c a=24) :
  Calls Tryz.prog 135 #[c.me] W (Post c W fp fe (repSt W.heap.size) (choiceS c ex blk a d:Out Stm)):=by
 obtain ⟨S,hSp⟩:∃S,A0 ((choiceS c ex blk a d:Out Stm)=S):=⟨_,⟨rfl⟩⟩
 rw [hSp.out]
 have hO:=A0.mk hO
 have ha:=A0.mk ha
 have hl:=A0.mk hl
 have hg1:=A0.mk hg1
 have hs0:∀o,St c (W.alloc o) a d fp fe:=fun o=>h.below (bA _ o)
 have PS:=fun o=>qC (hs0 o)
 have hgl:=bL h.blk
 have hal:=kd_lt hkd (by omega)
 clear hkd
 have hR:=A0.mk hR
 have hF:=A0.mk hF
 have hRB:=A0.mk hRB
 have hFB:=A0.mk hFB
 have hinfo67:A0 ((Tryz.prog.info? 67).map (fun i=>(i.zero,i.size,i.bytes))=some (some (.agg #[.string ⟨#[]⟩,.int .i64 0,.int .i64 0]),3,32)):=⟨by kernel_rfl⟩
 have hinfo25:A0 ((Tryz.prog.info? 25).map (fun i=>(i.zero,i.size,i.bytes))=some (some (.slice none 0 0),1,24)):=⟨by kernel_rfl⟩
 go_enter Tryz.func135,Tryz.ntmps135
 go_upto_region 2 with (first|(go_at_call 56;with_reducible refine (PS _).mono ?_;rintro e w' ⟨rfl,q,rfl⟩))
 have hT0:=Tw.lit0 (t:=107) (r:=Z107) (v:=E107 6 nN nN nilv nilv nilv (ps c a)) h q
 generalize ((W.alloc _).drewN q).alloc _=X0 at hT0 ⊢
 clear PS hs0
 have wa:IntKind.i64.wrap ((a:Int)+1)=(a:Int)+1:=IntWalk.i64_in _ (by have:=hG.hl;have:=hl.out;omega)
 have s2:=(hT0.st hG h).c2
 have f2:=(hT0.st hG h).fz 2
 go_upto_region 3 with fail
 have hT1:=hT0.at hG h
 generalize X0.setCell ⟨c.g,2,none⟩ (.int .i64 ((a:Int)+1))=X1 at hT1 ⊢
 clear s2 f2 wa
 clear hT0
 have hS1:=hT1.st hG h
 have CN:=hR.out _ _ _ _ _ hS1 (hO.out.grown hT1.fr hg1.out) (by have:=ha.out;omega) (by omega) (by omega) (by omega)
 go_upto_region 4 with (first|(go_at_call 132;(with_reducible refine CN.mono ?_);rintro e w hP;rcases hP.elim with ⟨x,a1,d1,ho,hg,⟨v,rfl,op,num,nm,A,n,cap,pos_,rfl,hE⟩,hS⟩|⟨p,er,ho,hg,rfl,a',d',hS⟩;(have hT2:=hT1.call h hg hS;have p3:∀o,(w.alloc o).cell? ⟨W.heap.size+1,3,none⟩=some (.slice none 0 0):=fun o=>(hT2.alloc o).vc 3 rfl;have o3:∀o,(w.alloc o).frozen? ⟨W.heap.size+1,3,none⟩=false:=fun o=>(hT2.alloc o).vf 3)))
 case inr =>
  rw [show S=.bad p er by rw [←hSp.out];simp only [choiceS,Out.bind,ho]]
  exact ⟨rfl,Post.mk_bad (Q4 hT1.fr hg) hS⟩
 have hfx:=hF.out _ _ (by have:=ha.out;omega) (by omega) (by omega) _ _ _ ho
 obtain ⟨p1,p2,p3⟩:=hfx
 have p3:=p3.symm
 subst p3
 have q1:=A0.mk ho
 have hll:=bL hT2.vb
 have hl5:=bL hT1.vb
 have hT3:=(hT2.alloc (.cells (E93 op num nm A n cap pos_) 93)).put h 3 (.slice (some ⟨w.heap.size,0,none⟩) 1 1) (v':=E107 6 nN nN (.slice (some ⟨w.heap.size,0,none⟩) 1 1) nilv nilv (ps c a)) rfl
 have hA3:=Rows3.start ((accE_one (lo:=W.heap.size+2) (RepE.far hE (Far.refl _ _) (by omega)) (by omega) (E93 op num nm A n cap pos_) rfl).farE ((Far.refl _ _).put (p:=⟨W.heap.size+1,3,none⟩) (Nat.lt_succ_self _) (.slice (some ⟨w.heap.size,0,none⟩) 1 1)))
 generalize (w.alloc _).setCell _ _=X3 at hT3 hA3 ⊢
 generalize (some ⟨w.heap.size,0,none⟩:Option Addr)=A at hT3 hA3 ⊢
 clear o3 ho hP CN hT1 hT2 hS1 hS hg hE hll hl5
 have hA3:=A0.mk hA3
 have hS3:=hT3.st hG h
 have CN:=wC hG hS3 (by omega) 50 (by omega)
 go_upto_block 0 with (first|(go_at_call 59;(with_reducible refine CN.mono ?_);rintro e w hP;rcases hP.elim with ⟨t,a2,d2,ho,hg,⟨v,rfl,rfl⟩,hS⟩|⟨p,er,ho,hg,rfl,a',d',hS⟩;(have hT4:=hT3.call h hg hS)))
 case inr =>
  rw [show S=.bad p er by rw [←hSp.out];simp only [choiceS,Out.bind,q1.out,ho]]
  exact ⟨rfl,Post.mk_bad (Q4 hT3.fr hg) hS⟩
 obtain ⟨e2,l2,f2,g2⟩:=want_open (by omega) ho
 have q2:=A0.mk ho
 have hA4:=hA3.out.far (Far.ofGrown hg (by omega))
 subst f2
 obtain ⟨R,hRs⟩:∃R,A0 (cP c blk (c.L.length+1 - a2) [] [] a2 (d+1)=R):=⟨_,⟨rfl⟩⟩
 obtain ⟨F,hFF⟩:∃F,A0 (c.L.length+1 - a2=F):=⟨_,⟨rfl⟩⟩
 have hA:A0 (CaseAt c W blk R A x (ps c a) fp fe a0 (d+1) F w):=⟨⟨[],[],a2,_,_,_,_,_,_,hT4,hA4,by rw [←hFF.out,hRs.out],by have:=ha.out;omega,l2,by have:=hFF.out;omega,by simp,by simp⟩⟩
 clear ho hP CN hT3 hS3 hS hg hA3 hA4 hT4
 go_wp2
 go_loopg [] F (fun f X=>CaseAt c W blk R A x (ps c a) fp fe a0 (d+1) f X)
 case atStart=>exact hA.out
 case round =>
  obtain ⟨cs,bs,a3,A2,n2,c2,A3,n3,c3,hT5,hA5,hsp,b1,b2,b3,b4,b5⟩:=hrel.ex
  clear hA hrel
  obtain ⟨f,rfl⟩:∃f,gk=f+1:=⟨gk - 1,by omega⟩
  have hsp:=A0.mk hsp
  have hA5:=A0.mk hA5
  have hS5:=hT5.st hG h
  have CN:=take_call hG hS5 (by omega) 6 (by omega)
  go_upto_if 21 with (first|(go_at_call 98;(with_reducible refine CN.mono ?_);rintro e w hP;rcases hP.elim with ⟨b,a4,d4,ho,hg,⟨v,rfl,rfl⟩,hS⟩|⟨p,er,ho,hg,rfl,a',d',hS⟩;(have hT6:=hT5.call h hg hS)))
  case inr =>
   rw [show S=.bad p er by rw [←hSp.out];simp only [choiceS,Out.bind,q1.out,q2.out,hRs.out];rw [←hsp.out,cP];simp only [Out.bind,ho]]
   exact ⟨rfl,Post.mk_bad (Q4 hT5.fr hg) hS⟩
  obtain ⟨n1',n2',n3',nt,nf⟩:=take_fine (by omega) (by omega) b2 ho
  have q3:=A0.mk ho
  have hA6:=A0.mk (hA5.out.far (Far.ofGrown hg (by omega)))
  have nt:=A0.mk nt
  have nf:=A0.mk nf
  have n3':=n3'.symm
  clear ho hP CN hT5 hS5 hS hg hA5
  cases b with
  | false =>
   have hRv:A0 (R=.ok (cs,bs) a4 d4):=⟨by rw [←hsp.out,cP];simp only [Out.bind,q3.out,Bool.false_eq_true,↓reduceIte]⟩
   have e4:=nf.out rfl
   subst e4
   subst n3'
   have hS6:=hT6.st hG h
   have hR3:=A0.mk hRv
   clear hsp
   have CN:=take_call hG hS6 (by omega) 9 (by omega)
   go_upto_if 39 with (first|(go_at_call 98;(with_reducible refine CN.mono ?_);rintro e w hP;rcases hP.elim with ⟨b,a5,d5,ho,hg,⟨v,rfl,rfl⟩,hS⟩|⟨p,er,ho,hg,rfl,a',d',hS⟩;(have hT7:=hT6.call h hg hS)))
   case inr =>
    rw [show S=.bad p er by rw [←hSp.out];simp only [choiceS,Out.bind,q1.out,q2.out,hRs.out,hRv.out,dfltS,ho]]
    exact ⟨rfl,Post.mk_bad (Q4 hT6.fr hg) hS⟩
   obtain ⟨n4',n5',n6',nt2,nf2⟩:=take_fine (by omega) (by omega) b2 ho
   have q4:=A0.mk ho
   have hA7:=A0.mk (hA6.out.far (Far.ofGrown hg (by omega)))
   have nt2:=A0.mk nt2
   have n6':=n6'.symm
   subst n6'
   clear ho hP CN hT6 hS6 hS hg hA6 hR3
   go_cut [] from 39 to 48 (fun X=>DfAt c W blk A x (ps c a) fp fe (d+1) cs bs a4 X)
   case first =>
    cases b with
    | false =>
     go_wp2
     go_meet
     exact ⟨bs,a5,A2,n2,c2,A3,n3,c3,by simp only [dfltS,Out.bind,q4.out,Bool.false_eq_true,↓reduceIte],hT7,hA7.out⟩
    | true =>
     have e5:=nt2.out rfl
     subst e5
     have hS7:=hT7.st hG h
     have CN:=wC hG hS7 (by omega) 40 (by omega)
     go_upto_region 11 with (first|(go_at_call 59;(with_reducible refine CN.mono ?_);rintro e w hP;rcases hP.elim with ⟨t7,a6,d6,ho,hg,⟨v,rfl,rfl⟩,hS⟩|⟨p,er,ho,hg,rfl,a',d',hS⟩;(have hT8:=hT7.call h hg hS)))
     case inr =>
      rw [show S=.bad p er by rw [←hSp.out];simp only [choiceS,Out.bind,q1.out,q2.out,hRs.out,hRv.out,dfltS,q4.out,↓reduceIte,ho]]
      exact ⟨rfl,Post.mk_bad (Q4 hT7.fr hg) hS⟩
     obtain ⟨e6,l6,f6⟩:=wF (by omega) (by omega) ho
     have q5:=A0.mk ho
     have hA8:=A0.mk (hA7.out.far (Far.ofGrown hg (by omega)))
     have f6:=f6.symm
     clear ho hP CN hT7 hS7 hS hg hA7
     subst f6
     have hlc:A0 (bs.length≤20000):=⟨by have:=hG.hl;omega⟩
     obtain ⟨Y,hY⟩:∃Y:World,Y=w:=⟨_,rfl⟩
     rw [←hY] at hT8 hA8 ⊢
     clear hY
     have hTx:=A0.mk (show W.heap.size+2≤Y.heap.size from (by have:=bL hT8.vb;omega))
     have hlv:A0 (∀k,(.slice A2 n2 c2:Value).ownBlock=some k→W.heap.size+2≤k∧k<Y.heap.size):=⟨hA8.out.blks.elim fun us h=>h.1.lt⟩
     have hlw:A0 (∀k,(.slice A3 n3 c3:Value).ownBlock=some k→W.heap.size+2≤k∧k<Y.heap.size):=⟨hA8.out.cass.lt⟩
     have hTd:=hT8.drew
     have hSd:=hTd.st hG h
     have CN:=hRB.out _ _ _ _ _ hSd (hO.out.grown hTd.fr hg1.out) (by have:=ha.out;omega) (by omega) (by omega) (by omega)
     have z5:Y.cell? ⟨W.heap.size+1,4,none⟩=some (.slice A2 n2 c2):=hT8.vc 4 rfl
     obtain ⟨i0,hi,hz0,hz1,hz2⟩:=info_parts hinfo25.out
     clear hSd
     go_region_law (first
      | (go_simp;go_at_call 58;(with_reducible refine CN.mono ?_);rintro e1 w1 hP;rcases hP.elim with ⟨x5,a7,d7,ho,hg,⟨v2,rfl,A5,n5,c5,rfl,hB⟩,hS⟩|⟨p,er,ho,hg,rfl,a',d',hS⟩;rotate_left 1;(exact ⟨rfl,by rw [show S=.bad p er by rw [←hSp.out];simp only [choiceS,Out.bind,q1.out,q2.out,hRs.out,hRv.out,dfltS,q4.out,q5.out,↓reduceIte,ho]];exact Post.mk_bad (Q4 hTd.fr hg) hS⟩);(have hTc:=hTd.call h hg hS;have hB:=A0.mk hB;have t5:w1.cell? ⟨W.heap.size+1,4,none⟩=some (.slice A2 n2 c2):=hTc.vc 4 rfl;have t6:∀o,(w1.alloc o).cell? ⟨W.heap.size+1,4,none⟩=some (.slice A2 n2 c2):=fun o=>(hTc.alloc o).vc 4 rfl;have hR1:=A0.mk (hA8.out.far (((Far.refl _ _).drew).trans (Far.ofGrown hg (by omega))));have ho:=A0.mk ho;have hgs:=A0.mk hg.size;dsimp only))
      | (have hR2:=fun o=>hR1.out.far ((Far.refl _ w1).alloc o);obtain ⟨us,hus1,hus2⟩:=(hR2 (.cells #[.slice A5 n5 c5] 25)).blks;have hy:RepB (fun b=>Apart (W.heap.size+2) (.slice A2 n2 c2) (.slice A3 n3 c3) b∧b<(w1.alloc (.cells #[.slice A5 n5 c5] 25)).heap.size) (w1.alloc (.cells #[.slice A5 n5 c5] 25)) x5 [.slice A5 n5 c5]:=repB_new hB.out (by have:=hTx.out;simpa using this) (fun k hk=>(hlv.out k hk).2) (fun k hk=>(hlw.out k hk).2) _;refine step_append_prim (R:=RepB) rK rfl (.tmp 43) (.tmp 46) 104 rfl (W.heap.size+2) 25 i0 (.slice none 0 0) 1 24 Tryz.underlying104 hi hz0 hz1 hz2 rfl (by decide) (.slice A2 n2 c2) bs us rfl (fun b=>Apart (W.heap.size+2) (.slice A2 n2 c2) (.slice A3 n3 c3) b∧b<(w1.alloc (.cells #[.slice A5 n5 c5] 25)).heap.size) hus1 (hus2.imp fun _ _ hr=>repB_lt hr) (fun _ hb=>hb.1.2.1) ⟨w1.heap.size,0,none⟩ 1 x5 [.slice A5 n5 c5] rfl rfl (oA _ _ _ rfl) (by intro u hu;simp at hu;subst hu;rfl) hy (by have:=hlc.out;unfold maxLen;omega) (by have:=hlc.out;omega) (by have:=hTx.out;have:=hgs.out;simp at this ⊢;omega) ?_;intro v3 w3 hown3 hall3 hg3 hwh;(obtain ⟨A6,n6,c6,rfl⟩:=own_form hown3;have hR3:=A0.mk (Rows3.blk (hR2 _) hg3 hown3 hall3 hwh);have hTe:=(hTc.alloc (.cells #[.slice A5 n5 c5] 25)).row h hg3 (fun k hk=>(hlv.out k hk).1) (Nat.lt_succ_self _);have u5:w3.cell? ⟨W.heap.size+1,4,none⟩=some (.slice A2 n2 c2):=hTe.vc 4 rfl;have uf5:=hTe.vf 4;clear hR2)))
     all_goals (
      obtain ⟨r1,r2,r3⟩:=hFB.out _ _ (by have:=ha.out;omega) (by omega) (by omega) _ _ _ ho.out
      have r3:=r3.symm
      subst r3
      go_wp2
      go_meet
      exact ⟨bs++[x5],a7,A6,n6,c6,A3,n3,c3,by simp only [dfltS,Out.bind,q4.out,q5.out,ho.out,↓reduceIte],hTe.put h 4 (.slice A6 n6 c6) (v':=E107 6 nN nN (.slice A 1 1) (.slice A6 n6 c6) (.slice A3 n3 c3) (ps c a)) rfl,hR3.out.far ((Far.refl _ _).put (p:=⟨W.heap.size+1,4,none⟩) (Nat.lt_succ_self _) (.slice A6 n6 c6))⟩)
   case rest =>
    clear hT7 hA7 q4
    obtain ⟨bs',a6,A2,n2,c2,A3,n3,c3,hdf,hT8,hA8⟩:=hcut.ex
    have q4:=A0.mk hdf
    have hA8:=A0.mk hA8
    clear hcut hdf
    have hS8:=hT8.st hG h
    have CN:=wC hG hS8 (by omega) 52 (by omega)
    go_upto_region 13 with (first|(go_at_call 59;(with_reducible refine CN.mono ?_);rintro e w hP;rcases hP.elim with ⟨t8,a7,d7,ho,hg,⟨v,rfl,rfl⟩,hS⟩|⟨p,er,ho,hg,rfl,a',d',hS⟩;(have hT9:=hT8.call h hg hS)))
    case inr =>
     rw [show S=.bad p er by rw [←hSp.out];simp only [choiceS,Out.bind,q1.out,q2.out,hRs.out,hRv.out,q4.out,ho]]
     exact ⟨rfl,Post.mk_bad (Q4 hT8.fr hg) hS⟩
    have hSv:A0 (S=.ok (.mk 6 nN nN [x] bs' cs (ps c a)) a7 d7):=⟨by rw [←hSp.out];simp only [choiceS,Out.bind,q1.out,q2.out,hRs.out,hRv.out,q4.out,ho]⟩
    have hE9:=A0.mk ((hA8.out.far (Far.ofGrown hg (by omega))).stmt 6 nN nN (ps c a))
    clear ho hP CN hT8 hS8 hS hg hA8
    have z0:w.cell? ⟨W.heap.size+1,0,none⟩=some (.int .i64 6):=hT9.vc 0 rfl;have y0:=hT9.vf 0
    have z1:w.cell? ⟨W.heap.size+1,1,none⟩=some (.string nN):=hT9.vc 1 rfl;have y1:=hT9.vf 1
    have z2:w.cell? ⟨W.heap.size+1,2,none⟩=some (.string nN):=hT9.vc 2 rfl;have y2:=hT9.vf 2
    have z3:w.cell? ⟨W.heap.size+1,3,none⟩=some (.slice A 1 1):=hT9.vc 3 rfl;have y3:=hT9.vf 3
    have z4:w.cell? ⟨W.heap.size+1,4,none⟩=some (.slice A2 n2 c2):=hT9.vc 4 rfl;have y4:=hT9.vf 4
    have z5:w.cell? ⟨W.heap.size+1,5,none⟩=some (.slice A3 n3 c3):=hT9.vc 5 rfl;have y5:=hT9.vf 5
    have z6:w.cell? ⟨W.heap.size+1,6,none⟩=some (.int .i64 (ps c a)):=hT9.vc 6 rfl;have y6:=hT9.vf 6
    have r0:w.cell? ⟨W.heap.size,0,none⟩=some (.int .i64 0):=hT9.rc 0 rfl;have x0:=hT9.rf 0
    have r1:w.cell? ⟨W.heap.size,1,none⟩=some (.string ⟨#[]⟩):=hT9.rc 1 rfl;have x1:=hT9.rf 1
    have r2:w.cell? ⟨W.heap.size,2,none⟩=some (.string ⟨#[]⟩):=hT9.rc 2 rfl;have x2:=hT9.rf 2
    have r3:w.cell? ⟨W.heap.size,3,none⟩=some (.slice none 0 0):=hT9.rc 3 rfl;have x3:=hT9.rf 3
    have r4:w.cell? ⟨W.heap.size,4,none⟩=some (.slice none 0 0):=hT9.rc 4 rfl;have x4:=hT9.rf 4
    have r5:w.cell? ⟨W.heap.size,5,none⟩=some (.slice none 0 0):=hT9.rc 5 rfl;have x5:=hT9.rf 5
    have r6:w.cell? ⟨W.heap.size,6,none⟩=some (.int .i64 0):=hT9.rc 6 rfl;have x6:=hT9.rf 6
    go_wp2
    have hTR:=Tw.all7 h (.int .i64 6) (.string nN) (.string nN) (.slice A 1 1) (.slice A2 n2 c2) (.slice A3 n3 c3) (.int .i64 (ps c a)) hT9
    rw [hSv.out]
    exact bodyPost_ret (res_c rfl _ _ W.heap.size 107 _ (0,0) _ rfl hTR.rb Tryz.underlying107 rfl (by kernel_rfl)) rfl (Post.mk_ok (rep:=repSt W.heap.size) hTR.fr ⟨_,_,_,_,_,_,_,_,_,_,_,_,_,rfl,hE9.out.far (far7 _ (by omega) _ _ _ _ _ _ _) (by omega)⟩ (hTR.st hG h))
  | true =>
   have e4:=nt.out rfl
   subst e4
   subst n3'
   have hS6:=hT6.st hG h
   have hlc:A0 (cs.length≤20000):=⟨by have:=hG.hl;omega⟩
   go_upto_region 6 with fail
   obtain ⟨Y,hY⟩:∃Y:World,Y=w:=⟨_,rfl⟩
   rw [←hY] at hT6 hA6 hS6 ⊢
   clear hY
   go_cut [] from 22 to 28 (fun X=>CaseMid c W A x (ps c a) fp fe (d+1) cs bs (a3+1) X)
   case first =>
    have hTx:=A0.mk (show W.heap.size+2≤Y.heap.size from (by have:=bL hT6.vb;omega))
    have hlv:A0 (∀k,(.slice A3 n3 c3:Value).ownBlock=some k→W.heap.size+2≤k∧k<Y.heap.size):=⟨hA6.out.cass.lt⟩
    have hTd:=hT6.drew
    have hSd:=hTd.st hG h
    have CN:=constant_call hG hSd (by omega)
    have z5:Y.cell? ⟨W.heap.size+1,5,none⟩=some (.slice A3 n3 c3):=hT6.vc 5 rfl
    obtain ⟨i0,hi,hz0,hz1,hz2⟩:=info_parts hinfo67.out
    clear hSd
    go_region_law (first
     | (go_simp;go_at_call 96;(with_reducible refine CN.mono ?_);rintro e1 w1 hP;rcases hP.elim with ⟨x5,a5,d5,ho,hg,⟨v2,rfl,rfl⟩,hS⟩|⟨p,er,ho,hg,rfl,a',d',hS⟩;rotate_left 1;(exact ⟨rfl,by rw [show S=.bad p er by rw [←hSp.out];simp only [choiceS,Out.bind,q1.out,q2.out,hRs.out];rw [←hsp.out,cP];simp only [Out.bind,q3.out,↓reduceIte,ho]];exact Post.mk_bad (Q4 hTd.fr hg) hS⟩);(have hTc:=hTd.call h hg hS;have t5:w1.cell? ⟨W.heap.size+1,5,none⟩=some (.slice A3 n3 c3):=hTc.vc 5 rfl;have t6:∀o,(w1.alloc o).cell? ⟨W.heap.size+1,5,none⟩=some (.slice A3 n3 c3):=fun o=>(hTc.alloc o).vc 5 rfl;have hR1:=A0.mk (hA6.out.far (((Far.refl _ _).drew).trans (Far.ofGrown hg (by omega))));have ho:=A0.mk ho;have hgs:=A0.mk hg.size;dsimp only))
     | (have hR2:=fun o=>hR1.out.far ((Far.refl _ w1).alloc o);refine step_append_prim (R:=RepC) repC_keeps rfl (.tmp 23) (.tmp 26) 105 rfl (W.heap.size+2) 67 i0 (.agg #[.string ⟨#[]⟩,.int .i64 0,.int .i64 0]) 3 32 Tryz.underlying105 hi hz0 hz1 hz2 rfl (by decide) (.slice A3 n3 c3) cs (cs.map conCells) rfl (fun b=>(Value.slice A3 n3 c3).ownBlock≠some b) (hR2 _).cass (all2_self _) (fun _ hb=>hb) ⟨w1.heap.size,0,none⟩ 1 x5 (conCells x5) rfl rfl (oA _ _ _ rfl) (one3 _) rfl (by have:=hlc.out;unfold maxLen;omega) (by have:=hlc.out;omega) (by have:=hTx.out;have:=hgs.out;simp at this ⊢;omega) ?_;intro v3 w3 hown3 _ hg3 hwh;(obtain ⟨A6,n6,c6,rfl⟩:=own_form hown3;have hR3:=A0.mk (Rows3.case (hR2 _) hg3 (by simpa using hown3) hwh);have hTe:=(hTc.alloc (.cells #[.string x5.1,.int .i64 x5.2.1,.int .i64 x5.2.2] 67)).row h hg3 (fun k hk=>(hlv.out k hk).1) (Nat.lt_succ_self _);have u5:w3.cell? ⟨W.heap.size+1,5,none⟩=some (.slice A3 n3 c3):=hTe.vc 5 rfl;have uf5:=hTe.vf 5;clear hR2)))
    all_goals (
     have e5:=constant_d ho.out
     subst e5
     go_wp2
     go_meet
     exact ⟨x5,a5,A2,n2,c2,A6,n6,c6,ho.out,hTe.put h 5 (.slice A6 n6 c6) (v':=E107 6 nN nN (.slice A 1 1) (.slice A2 n2 c2) (.slice A6 n6 c6) (ps c a)) rfl,hR3.out.far ((Far.refl _ _).put (p:=⟨W.heap.size+1,5,none⟩) (Nat.lt_succ_self _) (.slice A6 n6 c6))⟩)
   case rest =>
    clear hT6 hA6 hS6
    obtain ⟨k,a5,A2,n2,c2,A3,n3,c3,hk1,hT7,hA7⟩:=hcut.ex
    obtain ⟨m1,m2,-⟩:=constant_fine (by omega) hk1
    have q4:=A0.mk hk1
    have hA7:=A0.mk hA7
    clear hcut hk1
    have hS7:=hT7.st hG h
    have CN:=wC hG hS7 (by omega) 40 (by omega)
    go_upto_region 8 with (first|(go_at_call 59;(with_reducible refine CN.mono ?_);rintro e w hP;rcases hP.elim with ⟨t7,a6,d6,ho,hg,⟨v,rfl,rfl⟩,hS⟩|⟨p,er,ho,hg,rfl,a',d',hS⟩;(have hT8:=hT7.call h hg hS)))
    case inr =>
     rw [show S=.bad p er by rw [←hSp.out];simp only [choiceS,Out.bind,q1.out,q2.out,hRs.out];rw [←hsp.out,cP];simp only [Out.bind,q3.out,q4.out,↓reduceIte,ho]]
     exact ⟨rfl,Post.mk_bad (Q4 hT7.fr hg) hS⟩
    obtain ⟨e6,l6,f6⟩:=wF (by omega) (by omega) ho
    have q5:=A0.mk ho
    have hA8:=A0.mk (hA7.out.far (Far.ofGrown hg (by omega)))
    have f6:=f6.symm
    clear ho hP CN hT7 hS7 hS hg hA7
    subst f6
    have hlc:A0 (bs.length≤20000):=⟨by have:=hG.hl;omega⟩
    obtain ⟨Y,hY⟩:∃Y:World,Y=w:=⟨_,rfl⟩
    rw [←hY] at hT8 hA8 ⊢
    clear hY
    have hTx:=A0.mk (show W.heap.size+2≤Y.heap.size from (by have:=bL hT8.vb;omega))
    have hlv:A0 (∀k,(.slice A2 n2 c2:Value).ownBlock=some k→W.heap.size+2≤k∧k<Y.heap.size):=⟨hA8.out.blks.elim fun us h=>h.1.lt⟩
    have hlw:A0 (∀k,(.slice A3 n3 c3:Value).ownBlock=some k→W.heap.size+2≤k∧k<Y.heap.size):=⟨hA8.out.cass.lt⟩
    have hTd:=hT8.drew
    have hSd:=hTd.st hG h
    have CN:=hRB.out _ _ _ _ _ hSd (hO.out.grown hTd.fr hg1.out) (by have:=ha.out;omega) (by omega) (by omega) (by omega)
    have z5:Y.cell? ⟨W.heap.size+1,4,none⟩=some (.slice A2 n2 c2):=hT8.vc 4 rfl
    obtain ⟨i0,hi,hz0,hz1,hz2⟩:=info_parts hinfo25.out
    clear hSd
    go_region_law (first
     | (go_simp;go_at_call 58;(with_reducible refine CN.mono ?_);rintro e1 w1 hP;rcases hP.elim with ⟨x5,a7,d7,ho,hg,⟨v2,rfl,A5,n5,c5,rfl,hB⟩,hS⟩|⟨p,er,ho,hg,rfl,a',d',hS⟩;rotate_left 1;(exact ⟨rfl,by rw [show S=.bad p er by rw [←hSp.out];simp only [choiceS,Out.bind,q1.out,q2.out,hRs.out];rw [←hsp.out,cP];simp only [Out.bind,q3.out,q4.out,q5.out,↓reduceIte,ho]];exact Post.mk_bad (Q4 hTd.fr hg) hS⟩);(have hTc:=hTd.call h hg hS;have hB:=A0.mk hB;have t5:w1.cell? ⟨W.heap.size+1,4,none⟩=some (.slice A2 n2 c2):=hTc.vc 4 rfl;have t6:∀o,(w1.alloc o).cell? ⟨W.heap.size+1,4,none⟩=some (.slice A2 n2 c2):=fun o=>(hTc.alloc o).vc 4 rfl;have hR1:=A0.mk (hA8.out.far (((Far.refl _ _).drew).trans (Far.ofGrown hg (by omega))));have ho:=A0.mk ho;have hgs:=A0.mk hg.size;dsimp only))
     | (have hR2:=fun o=>hR1.out.far ((Far.refl _ w1).alloc o);obtain ⟨us,hus1,hus2⟩:=(hR2 (.cells #[.slice A5 n5 c5] 25)).blks;have hy:RepB (fun b=>Apart (W.heap.size+2) (.slice A2 n2 c2) (.slice A3 n3 c3) b∧b<(w1.alloc (.cells #[.slice A5 n5 c5] 25)).heap.size) (w1.alloc (.cells #[.slice A5 n5 c5] 25)) x5 [.slice A5 n5 c5]:=repB_new hB.out (by have:=hTx.out;simpa using this) (fun k hk=>(hlv.out k hk).2) (fun k hk=>(hlw.out k hk).2) _;refine step_append_prim (R:=RepB) rK rfl (.tmp 32) (.tmp 35) 104 rfl (W.heap.size+2) 25 i0 (.slice none 0 0) 1 24 Tryz.underlying104 hi hz0 hz1 hz2 rfl (by decide) (.slice A2 n2 c2) bs us rfl (fun b=>Apart (W.heap.size+2) (.slice A2 n2 c2) (.slice A3 n3 c3) b∧b<(w1.alloc (.cells #[.slice A5 n5 c5] 25)).heap.size) hus1 (hus2.imp fun _ _ hr=>repB_lt hr) (fun _ hb=>hb.1.2.1) ⟨w1.heap.size,0,none⟩ 1 x5 [.slice A5 n5 c5] rfl rfl (oA _ _ _ rfl) (by intro u hu;simp at hu;subst hu;rfl) hy (by have:=hlc.out;unfold maxLen;omega) (by have:=hlc.out;omega) (by have:=hTx.out;have:=hgs.out;simp at this ⊢;omega) ?_;intro v3 w3 hown3 hall3 hg3 hwh;(obtain ⟨A6,n6,c6,rfl⟩:=own_form hown3;have hR3:=A0.mk (Rows3.blk (hR2 _) hg3 hown3 hall3 hwh);have hTe:=(hTc.alloc (.cells #[.slice A5 n5 c5] 25)).row h hg3 (fun k hk=>(hlv.out k hk).1) (Nat.lt_succ_self _);have u5:w3.cell? ⟨W.heap.size+1,4,none⟩=some (.slice A2 n2 c2):=hTe.vc 4 rfl;have uf5:=hTe.vf 4;clear hR2)))
    all_goals (
     obtain ⟨r1,r2,r3⟩:=hFB.out _ _ (by have:=ha.out;omega) (by omega) (by omega) _ _ _ ho.out
     have r3:=r3.symm
     subst r3
     go_wp2
     go_roundg f
     case rel=>exact ⟨cs++[k],bs++[x5],a7,A6,n6,c6,A3,n3,c3,hTe.put h 4 (.slice A6 n6 c6) (v':=E107 6 nN nN (.slice A 1 1) (.slice A6 n6 c6) (.slice A3 n3 c3) (ps c a)) rfl,hR3.out.far ((Far.refl _ _).put (p:=⟨W.heap.size+1,4,none⟩) (Nat.lt_succ_self _) (.slice A6 n6 c6)),by rw [←hsp.out,cP];simp only [Out.bind,q3.out,q4.out,q5.out,ho.out,↓reduceIte],by omega,r2,by omega,by simp;omega,by simp;omega⟩
     case measure=>omega)
end Go.Proofs.YtgaoapnaplgaiaaGreatDoor.Sc
