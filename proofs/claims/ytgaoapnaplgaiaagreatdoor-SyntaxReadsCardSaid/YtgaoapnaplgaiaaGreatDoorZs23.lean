/- This claim's own texts, joined, with only what the claim uses: ParZb. -/
import Derived.Test.YtgaoapnaplgaiaaGreatDoorZs22
namespace Go.Proofs.YtgaoapnaplgaiaaGreatDoor.Sc
set_option maxRecDepth 100000
open Go.RowKit Tk Go.Proofs.YtgaoapnaplgaiaaGreatDoor.Wd
structure IfAt (c:Ctx) (W:World) (ex:Rd Ex) (blk:Rd (List Stm)) (S:Out Stm) (fp fe:Int) (a0:Nat) (d0:Int) (f:Nat) (v:Value) (X:World):Prop where
 ex:∃P pend g a,Br c W P X v pend [g] a d0 fp fe∧X.heap[g]?=some (.cells (E107 4 nN nN nilv nilv nilv (ps c a)) 107 (0,0))∧wrapB pend (brS c ex blk f a d0)=S∧a0≤a∧a≤c.L.length∧c.L.length+1≤f+a∧pend.length≤a
structure IfEnd (c:Ctx) (W:World) (S:Out Stm) (fp fe:Int) (v:Value) (X:World):Prop where
 ex:∃P pend g s a d A1 n1 c1 A2 n2 c2 pos,Br c W P X v pend [g] a d fp fe∧X.heap[g]?=some (.cells (E107 4 nN nN (.slice A1 n1 c1) (.slice A2 n2 c2) nilv pos) 107 (0,0))∧RepS P X s (stCells 4 nN nN A1 n1 c1 A2 n2 c2 none 0 0 pos)∧wrapB pend (.ok s a d)=S∧pend.length≤20000
def RepPtr (_:Nat→Prop) (_:World) (g:Nat) (v:List Value):Prop:=v=[ptr g]
theorem repPtr_keeps:Keeps RepPtr:=fun h _ _=>h
theorem all2_ptr {P:Nat→Prop} {W:World}:∀(xs:List Nat),All2 (RepPtr P W) xs (xs.map fun g=>[ptr g])
 | []=>trivial
 | _ :: xs=>⟨rfl,all2_ptr xs⟩
structure BackAt (c:Ctx) (W:World) (S:Out Stm) (fp fe:Int) (v:Value) (k:Nat) (X:World):Prop where
 ex:∃P pend tl g s a d A1 n1 c1 A2 n2 c2 pos,Br c W P X v pend (g :: tl) a d fp fe∧pend.length=k∧X.heap[g]?=some (.cells (E107 4 nN nN (.slice A1 n1 c1) (.slice A2 n2 c2) nilv pos) 107 (0,0))∧RepS P X s (stCells 4 nN nN A1 n1 c1 A2 n2 c2 none 0 0 pos)∧wrapB pend (.ok s a d)=S
theorem Br.start {c:Ctx} {W X:World} {v0:Array Value} {a:Nat} {d fp fe:Int} (h:Tw c W X (W.heap.size+1) 107 Z107 v0 a d fp fe) (hs:X.heap.size=W.heap.size+2) :
  Br c W (fun _=>False) (X.alloc (.cells #[ptr (W.heap.size+1)] 155)) (.slice (some ⟨W.heap.size+2,0,none⟩) 1 1) [] [W.heap.size+1] a d fp fe:=by
 have hT:=h.alloc (.cells #[ptr (W.heap.size+1)] 155)
 have hb:=bN X (.cells #[ptr (W.heap.size+1)] 155)
 rw [hs] at hb
 refine ⟨hT.fr,hT.pb,hT.rb,⟨rfl,.inr ⟨W.heap.size+2,1,_,rfl,Nat.le_refl _,hb,Nat.le_refl _,by simp [maxLen],rfl,rfl⟩⟩,fun p hp=>(by cases hp),(by simp),fun g hg=>?_,fun k hk=>⟨id,?_⟩,fun b hb=>hb.elim,rfl⟩
 ·simp at hg
  subst hg
  exact ⟨Nat.le_refl _,by simp;omega,id⟩
 ·have:=Option.some.inj hk
  simp at this ⊢
  omega
set_option maxHeartbeats 16000000 in
theorem branch_reads {c:Ctx} (hG:Good c) (hg1:1<c.g) {ex:Rd Ex} {blk:Rd (List Stm)} {a0:Nat} (hF:Fine c (paS c ex) a0) (hR:Reads c 132 (paS c ex) a0) (hFB:Fine c blk a0) (hRB:ReadsA c 58 repBlk blk a0)
  (W:World) (a:Nat) (d fp fe:Int) (h:St c W a d fp fe) (hO:Ops W) (ha:a0≤a) (hl:a≤c.L.length) (h0:0≤d) (h1:d≤64) (f0:Nat) (hf0:c.L.length+1≤f0+a) :
  Calls Tryz.prog 134 #[c.me] W (Post c W fp fe (repSt W.heap.size) (brS c ex blk f0 a d)):=by
 obtain ⟨S,hSp⟩:∃S,A0 (brS c ex blk f0 a d=S):=⟨_,⟨rfl⟩⟩
 rw [hSp.out]
 have hs0:∀o,St c (W.alloc o) a d fp fe:=fun o=>h.below (bA _ o)
 have PS:=fun o=>qC (hs0 o)
 have hgl:=bL h.blk
 have hR:=A0.mk hR
 have hF:=A0.mk hF
 have hRB:=A0.mk hRB
 have hFB:=A0.mk hFB
 have hO:=A0.mk hO
 have hg1:=A0.mk hg1
 go_enter Tryz.func134,Tryz.ntmps134
 go_upto_region 2 with (first|(go_at_call 56;with_reducible refine (PS _).mono ?_;rintro e w' ⟨rfl,q,rfl⟩))
 have hT0:=Tw.lit0 (t:=107) (r:=Z107) (v:=E107 4 nN nN nilv nilv nilv (ps c a)) h q
 have hsz:(((W.alloc (.cells Z107 107)).drewN q).alloc (.cells (E107 4 nN nN nilv nilv nilv (ps c a)) 107)).heap.size=W.heap.size+2:=by simp
 generalize ((W.alloc _).drewN q).alloc _=X0 at hT0 hsz ⊢
 clear PS hs0
 have hsz:=A0.mk hsz
 go_upto_block 0 with fail
 have hB0:=Br.start hT0 hsz.out
 have hbx:=(hT0.alloc (.cells #[ptr (W.heap.size+1)] 155)).vb
 (try rw [hsz.out])
 generalize X0.alloc (.cells #[ptr (W.heap.size+1)] 155)=X1 at hB0 hbx ⊢
 have hA:A0 (IfAt c W ex blk S fp fe a0 d f0 (.slice (some ⟨W.heap.size+2,0,none⟩) 1 1) X1):=⟨⟨_,[],_,a,hB0,hbx,hSp.out,ha,hl,hf0,Nat.zero_le _⟩⟩
 clear hT0 hsz hB0 hbx hSp
 go_cut [4] from 5 to 54 (fun v X=>IfEnd c W S fp fe v X)
 case first =>
  go_wp2
  go_loopg [4] f0 (fun f v X=>IfAt c W ex blk S fp fe a0 d f v X)
  case atStart=>exact hA.out
  case round =>
   obtain ⟨P,pend,g,a1,hB1,hx1,hsp,b1,b2,b3,b4⟩:=hrel.ex
   clear hA hrel
   obtain ⟨f,rfl⟩:∃f,gk=f+1:=⟨gk - 1,by omega⟩
   have hsp:=A0.mk hsp
   obtain ⟨gr,cap,rfl⟩:=hB1.form
   have hS1:=hB1.st hG h
   obtain ⟨N,hN⟩:∃N,A0 (pend.length=N):=⟨_,⟨rfl⟩⟩
   have CN:=wC hG hS1 (by omega) 11 (by omega)
   go_upto_region 4 with (first|(go_at_call 59;(with_reducible refine CN.mono ?_);rintro e w hP;rcases hP.elim with ⟨t,a2,d2,ho,hg,⟨v,rfl,rfl⟩,hS⟩|⟨p,er,ho,hg,rfl,a',d',hS⟩))
   case inr =>
    rw [show S=.bad p er by rw [←hsp.out,brS];simp only [Out.bind,ho];exact wrapB_bad _ _ _]
    exact ⟨rfl,Post.mk_bad (Q4 hB1.fr hg) hS⟩
   obtain ⟨e2,l2,f2⟩:=wF (by omega) (by omega) ho
   have q1:=A0.mk ho
   have f2:=f2.symm
   subst e2
   subst f2
   have hB2:=hB1.step h hg hS.blk
   have hx2:=hB1.box (by simp) h hx1 hg
   clear ho hP CN hB1 hx1 hS1 hS hg
   have hc4:=hB2.cell (gr:=gr) rfl pend.length (g:=g) (by simp)
   have hNl:pend.length≤16384:=by have:=hG.hl;omega
   rw [hN.out] at hc4 hNl ⊢
   have w1:IntKind.i64.wrap (((N+1:Nat):Int) - 1)=(N:Int):=by rw [IntWalk.i64_in _ (by omega)];omega
   have w2:IntKind.i64.wrap ((N:Int)+1 - 1)=(N:Int):=by rw [IntWalk.i64_in _ (by omega)];omega
   have n0:(0:Int)≤(N:Int):=by omega
   have n1:(N:Int)<(N:Int)+1:=by omega
   go_upto_region 5 with fail
   clear hc4 w1 w2 n0 n1 hNl
   rw [←hN.out] at *
   have hS2:=hB2.st hG h
   have CN:=hR.out _ _ _ _ _ hS2 (hO.out.grown hB2.fr hg1.out) (by omega) l2 h0 h1
   go_upto_region 6 with (first|(go_at_call 132;(with_reducible refine CN.mono ?_);rintro e w' hP;rcases hP.elim with ⟨x,a3,d3,ho,hg,⟨v,rfl,op,num,nm,A,n,cp,ps_,rfl,hE⟩,hS⟩|⟨p,er,ho,hg,rfl,a',d',hS⟩;(have hx3:=hB2.box (by simp) h hx2 hg;have p3:∀o,(w'.alloc o).cell? ⟨g,3,none⟩=some nilv:=(fun o=>(bC ((_root_.Go.heap_alloc_old w' o (Array.getElem?_eq_some_iff.1 hx3).1).trans hx3) 3).trans rfl);have o3:∀o,(w'.alloc o).frozen? ⟨g,3,none⟩=false:=(fun o=>bF ((_root_.Go.heap_alloc_old w' o (Array.getElem?_eq_some_iff.1 hx3).1).trans hx3) 3))))
   case inr =>
    rw [show S=.bad p er by rw [←hsp.out,brS];simp only [Out.bind,q1.out,ho];exact wrapB_bad _ _ _]
    exact ⟨rfl,Post.mk_bad (Q4 hB2.fr hg) hS⟩
   obtain ⟨m1,m2,m3⟩:=hF.out _ _ (by omega) h0 h1 _ _ _ ho
   have q2:=A0.mk ho
   have m3:=m3.symm
   subst m3
   obtain ⟨P3,hB3,hx4,hA4⟩:=hB2.litE h hg hS hx2 hE (E93 op num nm A n cp ps_) rfl
   generalize (w'.alloc _).setCell _ _=X3 at hB3 hx4 hA4 ⊢
   generalize (some ⟨w'.heap.size,0,none⟩:Option Addr)=A5 at hx4 hA4 ⊢
   clear p3 o3 hx3 ho hP CN hB2 hx2 hS2 hS hg hE
   have hA4:=A0.mk hA4
   have hS3:=hB3.st hG h
   have CN:=hRB.out _ _ _ _ _ hS3 (hO.out.grown hB3.fr hg1.out) (by omega) m2 h0 h1
   go_upto_region 7 with (first|(go_at_call 58;(with_reducible refine CN.mono ?_);rintro e w2 hP;rcases hP.elim with ⟨b,a4,d4,ho,hg,⟨v,rfl,A6,n6,c6,rfl,hB⟩,hS⟩|⟨p,er,ho,hg,rfl,a',d',hS⟩;(have hx5:=hB3.box (by simp) h hx4 hg;have p4:∀o,(w2.alloc o).cell? ⟨g,4,none⟩=some nilv:=(fun o=>(bC ((_root_.Go.heap_alloc_old w2 o (Array.getElem?_eq_some_iff.1 hx5).1).trans hx5) 4).trans rfl);have o4:∀o,(w2.alloc o).frozen? ⟨g,4,none⟩=false:=(fun o=>bF ((_root_.Go.heap_alloc_old w2 o (Array.getElem?_eq_some_iff.1 hx5).1).trans hx5) 4))))
   case inr =>
    rw [show S=.bad p er by rw [←hsp.out,brS];simp only [Out.bind,q1.out,q2.out,ho];exact wrapB_bad _ _ _]
    exact ⟨rfl,Post.mk_bad (Q4 hB3.fr hg) hS⟩
   obtain ⟨r1,r2,r3⟩:=hFB.out _ _ (by omega) h0 h1 _ _ _ ho
   have q3:=A0.mk ho
   have r3:=r3.symm
   subst r3
   obtain ⟨P4,hB4,hp4⟩:=hB3.litB h hg hS hx4 hA4.out hB
   generalize (w2.alloc _).setCell _ _=X4 at hB4 hp4 ⊢
   clear p4 o4 hx5 ho hP CN hB3 hx4 hA4 hS3 hS hg hB
   have hp4:=A0.mk hp4
   have hS4:=hB4.st hG h
   have CN:=take_call hG hS4 (by omega) 10 (by omega)
   go_upto_if 33 with (first|(go_at_call 98;(with_reducible refine CN.mono ?_);rintro e w3 hP;rcases hP.elim with ⟨el,a5,d5,ho,hg,⟨v,rfl,rfl⟩,hS⟩|⟨p,er,ho,hg,rfl,a',d',hS⟩))
   case inr =>
    rw [show S=.bad p er by rw [←hsp.out,brS];simp only [Out.bind,q1.out,q2.out,q3.out,ho];exact wrapB_bad _ _ _]
    exact ⟨rfl,Post.mk_bad (Q4 hB4.fr hg) hS⟩
   obtain ⟨t1,t2,t3,tt,tf⟩:=take_fine (by omega) (by omega) r2 ho
   have q4:=A0.mk ho
   have t3:=t3.symm
   have tt:=A0.mk tt
   subst t3
   have hB5:=hB4.step h hg hS.blk
   have hp5:=A0.mk (PdAt.step hB4 h hp4.out hg)
   clear ho hP CN hB4 hp4 hS4 hS hg tf
   cases el with
   | false =>
    obtain ⟨A1,n1,c1,A2,n2,c2,hbx,hst⟩:=hp5.out.stmt
    have hbx:=A0.mk hbx
    have hst:=A0.mk hst
    have hNl:pend.length≤20000:=by have:=hG.hl;omega
    have hNl:=A0.mk hNl
    have hS5:A0 (wrapB pend (.ok (.mk 4 nN nN [x] [b] [] (ps c a1)) a5 d)=S):=⟨by rw [←hsp.out,brS];simp only [Out.bind,q1.out,q2.out,q3.out,q4.out,Bool.false_eq_true,↓reduceIte]⟩
    have hB5:=A0.mk hB5
    go_wp2
    go_meet
    exact ⟨P4,pend,g,_,a5,d,A1,n1,c1,A2,n2,c2,_,hB5.out,hbx.out,hst.out,hS5.out,hNl.out⟩
   | true =>
    have t4:=tt.out rfl
    subst t4
    have hS5:=hB5.st hG h
    have KD:=kC hS5
    by_cases hk:kd c (a4+1)=11
    ·have hkb:(kd c (a4+1) != 11)=false:=by rw [hk];rfl
     have hsp2:A0 (wrapB pend ((brS c ex blk f (a4+1) d).bind fun s a d=>.ok (.mk 4 nN nN [x] [b,[s]] [] (ps c a1)) a d)=S):=⟨by rw [←hsp.out,brS];simp only [q1.out,q2.out,q3.out,q4.out,↓reduceIte,hk,Out.bind]⟩
     clear hk
     go_upto_if 36 with (first|(go_at_call 55;with_reducible refine KD.mono ?_;rintro e w' ⟨rfl,q,rfl⟩))
     have hB6:=hB5.drewN h q
     have hp6:=A0.mk (PdAt.step hB5 h hp5.out (Q6 (World.grownBy.refl _ _) q))
     have PS:=qC (hB6.st hG h)
     have hNl:pend.length≤16384:=by have:=hG.hl;omega
     have hNl:=A0.mk hNl
     have hws:=A0.mk (hB5.wsize (g:=g) (by simp))
     have hinfo:(Tryz.prog.info? 155).map (fun i=>(i.zero,i.size,i.bytes))=some (some (.pointer none),1,8):=by kernel_rfl
     obtain ⟨i0,hi,hz0,hz1,hz2⟩:=info_parts hinfo
     have hB7:=fun q2 o1 o2=>((hB5.drewN h (q+q2)).alloc h o1).alloc h o2
     have hB5:=A0.mk hB5
     clear hinfo hS5
     go_wp2_with (first
      | (go_at_call 56;(with_reducible refine PS.mono ?_);rintro e w' ⟨rfl,q2,rfl⟩)
      | (at_builtin;refine wpList_append_prim (R:=RepPtr) repPtr_keeps rfl (.tmp 48) (.tmp 53) 167 rfl (W.heap.size+2) 155 i0 (.pointer none) 1 8 Tryz.underlying167 hi hz0 hz1 hz2 rfl (by decide) (.slice (some ⟨gr,0,none⟩) (pend.length+1) cap) (pend.map Pd.g++[g]) ((pend.map Pd.g++[g]).map fun g=>[ptr g]) rfl (fun k=>(Value.slice (some ⟨gr,0,none⟩) (pend.length+1) cap).ownBlock≠some k) (hB7 q2 _ _).row (all2_ptr _) (fun _ hb=>hb) ⟨w3.heap.size+1,0,none⟩ 1 w3.heap.size [ptr w3.heap.size] rfl rfl ?c1 ?c2 rfl (by have:=hNl.out;simp [maxLen];omega) (by have:=hNl.out;simp;omega) (by have:=hws.out;simp;omega) ?_))
     case c1 =>
      intro j u hu
      have esz:((w3.drewN (q+q2)).alloc (.cells (E107 4 nN nN nilv nilv nilv (ps c (a4+1))) 107)).heap.size=w3.heap.size+1:=by simp
      have hq:=oA (w:=(w3.drewN (q+q2)).alloc (.cells (E107 4 nN nN nilv nilv nilv (ps c (a4+1))) 107)) #[ptr w3.heap.size] 155 [ptr w3.heap.size] rfl j u hu
      rw [esz] at hq
      exact hq
     case c2 =>
      intro u hu
      simp at hu
      subst hu
      rfl
     intro v6 w6 hown6 _ hg6 hwh
     obtain ⟨A6,n6,c6,rfl⟩:=own_form hown6
     have hb1:=bN (w3.drewN (q+q2)) (.cells (E107 4 nN nN nilv nilv nilv (ps c (a4+1))) 107)
     have hb2:=(_root_.Go.heap_alloc_old _ (.cells #[ptr w3.heap.size] 155) (Array.getElem?_eq_some_iff.1 hb1).1).trans hb1
     have hfr:=hB6.fresh (g:=g) (by simp) (b:=w3.heap.size) (Nat.le_refl _)
     have hPu:=Br.push (hB7 q2 (.cells (E107 4 nN nN nilv nilv nilv (ps c (a4+1))) 107) (.cells #[ptr w3.heap.size] 155)) h (g':=w3.heap.size) (PdAt.step hB5.out h hp5.out (grown_alloc (grown_alloc (Q6 (World.grownBy.refl _ _) (q+q2)) _) _)) (by have:=hws.out;omega) (by simp;omega) hfr.1 hfr.2.1 (fun hb=>by have:=(hB6.pl _ hb).2;simp at this) hg6 (by simpa using hown6) (by simpa using hwh)
     have hbx:=(hg6.block w3.heap.size (by simp;omega) (fun e=>hfr.2.1 e.symm)).trans hb2
     have hPu:=A0.mk hPu
     have hbx:=A0.mk hbx
     clear hown6 hg6 hwh
     go_wp2
     go_roundg f
     case rel=>exact ⟨P4,pend++[⟨g,x,b,ps c a1⟩],w3.heap.size,a4+1,hPu.out,hbx.out,by rw [wrapB_snoc];exact hsp2.out,by omega,t2,by omega,by simp;omega⟩
     case measure=>omega
    ·have hkb:(kd c (a4+1) != 11)=true:=bne_iff_ne.mpr hk
     have hsp2:A0 (wrapB pend ((blk (a4+1) d).bind fun b2 a d=>.ok (.mk 4 nN nN [x] [b,b2] [] (ps c a1)) a d)=S):=⟨by rw [←hsp.out,brS];simp only [q1.out,q2.out,q3.out,q4.out,↓reduceIte,if_neg hk,Out.bind]⟩
     clear hk
     go_upto_region 9 with (first|(go_at_call 55;with_reducible refine KD.mono ?_;rintro e w' ⟨rfl,q,rfl⟩))
     have hB6:=hB5.drewN h q
     have hp6:=PdAt.step hB5 h hp5.out (Q6 (World.grownBy.refl _ _) q)
     obtain ⟨Y,hY⟩:∃Y:World,Y=w3.drewN q:=⟨_,rfl⟩
     rw [←hY] at hB6 hp6 ⊢
     clear hY hB5 hp5 hS5
     obtain ⟨A,n1,c1,gb,hx,hAE,us,hown,hpu,hall⟩:=hp6
     have hx:=A0.mk hx
     have hAE:=A0.mk hAE
     have hown:=A0.mk hown
     have hall:=A0.mk hall
     have hws:=A0.mk (hB6.wsize (g:=g) (by simp))
     have hinfo:(Tryz.prog.info? 25).map (fun i=>(i.zero,i.size,i.bytes))=some (some (.slice none 0 0),1,24):=by kernel_rfl
     obtain ⟨i0,hi,hz0,hz1,hz2⟩:=info_parts hinfo
     have hBd:=hB6.drew h
     have hSd:=hBd.st hG h
     have CN:=hRB.out _ _ _ _ _ hSd (hO.out.grown hBd.fr hg1.out) (by omega) t2 h0 h1
     have z4:Y.cell? ⟨g,4,none⟩=some (.slice (some ⟨gb,0,none⟩) 1 1):=(bC hx.out 4).trans rfl
     clear hinfo hSd hpu
     go_region_law (first
      | (go_simp;go_at_call 58;(with_reducible refine CN.mono ?_);rintro e1 w1 hP;rcases hP.elim with ⟨x5,a7,d7,ho,hg,⟨v2,rfl,A7,n7,c7,rfl,hB⟩,hS⟩|⟨p,er,ho,hg,rfl,a',d',hS⟩;rotate_left 1;(exact ⟨rfl,by rw [show S=.bad p er by rw [←hsp2.out];simp only [Out.bind,ho];exact wrapB_bad _ _ _];exact Post.mk_bad (Q4 hBd.fr hg) hS⟩);(have hB1:=hBd.step h hg hS.blk;have hx1:=hBd.box (by simp) h hx.out hg;have hx2:=(fun o=>(_root_.Go.heap_alloc_old w1 o (Array.getElem?_eq_some_iff.1 hx1).1).trans hx1);have t4:w1.cell? ⟨g,4,none⟩=some (.slice (some ⟨gb,0,none⟩) 1 1):=(bC hx1 4).trans rfl;have t5:∀o,(w1.alloc o).cell? ⟨g,4,none⟩=some (.slice (some ⟨gb,0,none⟩) 1 1):=(fun o=>(bC (hx2 o) 4).trans rfl);have hx1:=A0.mk hx1;have hx2:=A0.mk hx2;have hB:=A0.mk hB;have ho:=A0.mk ho;have hfw:Far (W.heap.size+2) Y w1:=((Far.refl _ _).drew).trans (Far.ofGrown hg (by have:=hws.out;omega));have hfw:=A0.mk hfw;have hg:=A0.mk hg;dsimp only))
      | (refine step_append_full rfl (.tmp 41) (.tmp 44) 104 rfl (W.heap.size+2) 25 i0 (.slice none 0 0) 1 24 Tryz.underlying104 hi hz0 hz1 hz2 rfl (by decide) gb 1 us.flatten rfl (oF (hown.out) (hfw.out.alloc _)) ⟨w1.heap.size,0,none⟩ 1 [.slice A7 n7 c7] rfl rfl (oA _ _ _ rfl) (by intro u hu;simp at hu;subst hu;rfl) (by simp [maxLen]) (by simp) (by have:=hws.out;have:=hfw.out.size;simp;omega) ?_;intro cp2 w5 hown5 hg5;(have hx5:=(hg5.block g (Array.getElem?_eq_some_iff.1 (hx2.out _)).1 (by simp)).trans (hx2.out _);have u4:w5.cell? ⟨g,4,none⟩=some (.slice (some ⟨gb,0,none⟩) 1 1):=(bC hx5 4).trans rfl;have uf4:w5.frozen? ⟨g,4,none⟩=false:=bF hx5 4;have hx5:=A0.mk hx5;have hown5:=A0.mk hown5;have hg5:=A0.mk hg5)))
     all_goals (
      obtain ⟨s1,s2,s3⟩:=hFB.out _ _ (by omega) h0 h1 _ _ _ ho.out
      have s3:=s3.symm
      subst s3
      go_wp2
      go_meet
      have hal:=hfw.out.alloc (.cells #[.slice A7 n7 c7] 25)
      have hws2:=hws.out
      have hk2:∀k,P4 k→k<Y.heap.size→(w1.alloc (.cells #[.slice A7 n7 c7] 25)).heap[k]?=Y.heap[k]?:=fun k hk hl=>hal.block k (hB6.pl k hk).1 hl
      obtain ⟨P5,k1,k2,k3⟩:=Br.second (w3:=w5) (hB1.alloc h (.cells #[.slice A7 n7 c7] 25)) (by simp) h (hx2.out _) (hAE.out.keepE (fun _ hb=>hb) hk2) (hall.out.imp fun _ _ hr=>rK hr (fun _ hb=>hb) hk2)
       (Q:=fun k=>Y.heap.size≤k∧k<(w1.alloc (.cells #[.slice A7 n7 c7] 25)).heap.size) (fun k hk=>⟨by omega,hk.2,(hB6.fresh (g:=g) (by simp) hk.1).1,(hB6.fresh (g:=g) (by simp) hk.1).2.1⟩) (b2:=x5) (u:=.slice A7 n7 c7)
       (rK (repB_lt hB.out) (fun k hk=>⟨hk.1,by have:=hk.2;simp;omega⟩) fun k _ hl=>_root_.Go.heap_alloc_old w1 _ hl) hg5.out hown5.out (hown5.out.lt _ rfl).2
      have esz:(w1.alloc (.cells #[.slice A7 n7 c7] 25)).heap.size=w1.heap.size+1:=by simp
      rw [esz] at k1 k2 k3
      exact ⟨P5,pend,g,_,a7,d,A,n1,c1,_,2,cp2,_,k1,k2,k3,by rw [←hsp2.out];simp only [Out.bind,ho.out],by have:=hG.hl;omega⟩)
 case rest =>
  obtain ⟨P,pend,g,s,a1,d1,A1,n1,c1,A2,n2,c2,pos,hB,hx,hst,hw,hlen⟩:=hcut.ex
  clear hcut hA
  obtain ⟨gr,cap,rfl⟩:=hB.form
  obtain ⟨N,hN⟩:∃N,pend.length=N:=⟨_,rfl⟩
  rw [hN] at hlen hB ⊢
  have w1:IntKind.i64.wrap ((N:Int)+1 - 1)=(N:Int):=by rw [IntWalk.i64_in _ (by omega)];omega
  have hA:A0 (BackAt c W S fp fe (.slice (some ⟨gr,0,none⟩) (N+1) cap) N wc):=⟨⟨P,pend,[],g,s,a1,d1,A1,n1,c1,A2,n2,c2,pos,hB,hN,hx,hst,hw⟩⟩
  clear hB hN hx hst hw
  go_wp2
  go_loopg [6] N (fun k i X=>i=.int .i64 (k:Int)∧BackAt c W S fp fe (.slice (some ⟨gr,0,none⟩) (N+1) cap) k X)
  case atStart=>exact ⟨rfl,hA.out⟩
  case round =>
   obtain ⟨rfl,hBk⟩:=hrel
   obtain ⟨P,pend,tl,g,s,a1,d1,A1,n1,c1,A2,n2,c2,pos,hB,hk,hx,hst,hw⟩:=hBk.ex
   clear hBk hA
   rcases Nat.eq_zero_or_pos gk with rfl | hpos
   ·have hp0:pend=[]:=List.eq_nil_of_length_eq_zero hk
    subst hp0
    have hg:g=W.heap.size+1:=by have:=hB.hd;simpa using this
    subst hg
    have hT:Tw c W wr (W.heap.size+1) 107 Z107 (E107 4 nN nN (.slice A1 n1 c1) (.slice A2 n2 c2) nilv pos) a1 d1 fp fe:=⟨hB.fr,hB.rb,hx,hB.pb,Nat.lt_succ_self _⟩
    have hSv:A0 (S=.ok s a1 d1):=⟨hw.symm⟩
    have hE9:=A0.mk (RepS.keep (Q:=fun b=>W.heap.size+2≤b) (fun b hb=>(hB.pl b hb).1) (fun _ _ _=>rfl) _ _ hst)
    clear hB hx hst hw hk
    have z0:wr.cell? ⟨W.heap.size+1,0,none⟩=some (.int .i64 4):=hT.vc 0 rfl;have y0:=hT.vf 0
    have z1:wr.cell? ⟨W.heap.size+1,1,none⟩=some (.string nN):=hT.vc 1 rfl;have y1:=hT.vf 1
    have z2:wr.cell? ⟨W.heap.size+1,2,none⟩=some (.string nN):=hT.vc 2 rfl;have y2:=hT.vf 2
    have z3:wr.cell? ⟨W.heap.size+1,3,none⟩=some (.slice A1 n1 c1):=hT.vc 3 rfl;have y3:=hT.vf 3
    have z4:wr.cell? ⟨W.heap.size+1,4,none⟩=some (.slice A2 n2 c2):=hT.vc 4 rfl;have y4:=hT.vf 4
    have z5:wr.cell? ⟨W.heap.size+1,5,none⟩=some (.slice none 0 0):=hT.vc 5 rfl;have y5:=hT.vf 5
    have z6:wr.cell? ⟨W.heap.size+1,6,none⟩=some (.int .i64 pos):=hT.vc 6 rfl;have y6:=hT.vf 6
    have r0:wr.cell? ⟨W.heap.size,0,none⟩=some (.int .i64 0):=hT.rc 0 rfl;have x0:=hT.rf 0
    have r1:wr.cell? ⟨W.heap.size,1,none⟩=some (.string ⟨#[]⟩):=hT.rc 1 rfl;have x1:=hT.rf 1
    have r2:wr.cell? ⟨W.heap.size,2,none⟩=some (.string ⟨#[]⟩):=hT.rc 2 rfl;have x2:=hT.rf 2
    have r3:wr.cell? ⟨W.heap.size,3,none⟩=some (.slice none 0 0):=hT.rc 3 rfl;have x3:=hT.rf 3
    have r4:wr.cell? ⟨W.heap.size,4,none⟩=some (.slice none 0 0):=hT.rc 4 rfl;have x4:=hT.rf 4
    have r5:wr.cell? ⟨W.heap.size,5,none⟩=some (.slice none 0 0):=hT.rc 5 rfl;have x5:=hT.rf 5
    have r6:wr.cell? ⟨W.heap.size,6,none⟩=some (.int .i64 0):=hT.rc 6 rfl;have x6:=hT.rf 6
    go_wp2
    have hTR:=Tw.all7 h (.int .i64 4) (.string nN) (.string nN) (.slice A1 n1 c1) (.slice A2 n2 c2) (.slice none 0 0) (.int .i64 pos) hT
    rw [hSv.out]
    exact bodyPost_ret (res_c rfl _ _ W.heap.size 107 _ (0,0) _ rfl hTR.rb Tryz.underlying107 rfl (by kernel_rfl)) rfl (Post.mk_ok (rep:=repSt W.heap.size) hTR.fr ⟨_,_,_,_,_,_,_,_,_,_,_,_,_,rfl,hE9.out.far (far7 _ (by omega) _ _ _ _ _ _ _) (by omega)⟩ (hTR.st hG h))
   ·obtain ⟨k,rfl⟩:∃k,gk=k+1:=⟨gk - 1,by omega⟩
    obtain ⟨pend,p,rfl⟩:∃l p,pend=l++[p]:=by
     rcases List.eq_nil_or_concat pend with h | ⟨l,p,h⟩
     ·rw [h] at hk;simp at hk
     ·exact ⟨l,p,by simpa [List.concat_eq_append] using h⟩
    have hk2:pend.length=k:=by simpa using hk
    obtain ⟨Ap,np,cq,gb,hxp,hAE,us,hown,hpu,hall⟩:=hB.pd p (by simp)
    have hBp:=hB.pop
    have hgm:g ∈ (pend++[p]).map Pd.g++(g :: tl):=by simp
    have hgg:=hB.ge g hgm
    have hpgm:p.g ∈ pend.map Pd.g++(p.g :: g :: tl):=by simp
    have hpgg:=hBp.ge p.g hpgm
    have hne:g≠p.g:=by
     have:=(List.nodup_append.1 hBp.nd).2.1
     simp at this
     exact fun e=>this.1.1 e.symm
    have hgr:gr≠p.g:=fun e=>(hBp.pv gr rfl).2 (e ▸ hpgm)
    have hNk:k+1+(tl.length+1)=N+1:=by
     have:=(own_len hB.row).1
     simp at this
     omega
    have hc1:=hB.cell (gr:=gr) rfl k (g:=p.g) (by simp [hk2])
    have hc2:=hB.cell (gr:=gr) rfl (k+1) (g:=g) (by simp [←hk2])
    have hgrl:=(hB.row.lt gr rfl).2
    have SK:∀Y:World,(∀b,b<wr.heap.size→b≠p.g→Y.heap[b]?=wr.heap[b]?)→(fun w:World=>w.cell? ⟨gr,k,none⟩=some (ptr p.g)∧w.cell? ⟨gr,k+1,none⟩=some (ptr g)∧w.cell? ⟨g,0,none⟩=some (.int .i64 4)∧w.cell? ⟨g,1,none⟩=some (.string nN)∧w.cell? ⟨g,2,none⟩=some (.string nN)∧w.cell? ⟨g,3,none⟩=some (.slice A1 n1 c1)∧w.cell? ⟨g,4,none⟩=some (.slice A2 n2 c2)∧w.cell? ⟨g,5,none⟩=some (.slice none 0 0)∧w.cell? ⟨g,6,none⟩=some (.int .i64 pos)) Y:=fun Y hY =>
     ⟨(World.cell?_of_block (hY gr hgrl hgr)).trans hc1,(World.cell?_of_block (hY gr hgrl hgr)).trans hc2,(bC ((hY g hgg.2.1 hne).trans hx) 0).trans rfl,(bC ((hY g hgg.2.1 hne).trans hx) 1).trans rfl,(bC ((hY g hgg.2.1 hne).trans hx) 2).trans rfl,(bC ((hY g hgg.2.1 hne).trans hx) 3).trans rfl,(bC ((hY g hgg.2.1 hne).trans hx) 4).trans rfl,(bC ((hY g hgg.2.1 hne).trans hx) 5).trans rfl,(bC ((hY g hgg.2.1 hne).trans hx) 6).trans rfl⟩
    have SK:=A0.mk SK
    have z4:wr.cell? ⟨p.g,4,none⟩=some (.slice (some ⟨gb,0,none⟩) 1 1):=(bC hxp 4).trans rfl
    have hxp1:=fun o=>(_root_.Go.heap_alloc_old wr o (Array.getElem?_eq_some_iff.1 hxp).1).trans hxp
    have hxp2:=fun o o'=>(_root_.Go.heap_alloc_old (wr.alloc o) o' (Array.getElem?_eq_some_iff.1 (hxp1 o)).1).trans (hxp1 o)
    have z5:∀o,(wr.alloc o).cell? ⟨p.g,4,none⟩=some (.slice (some ⟨gb,0,none⟩) 1 1):=fun o=>(bC (hxp1 o) 4).trans rfl
    have z6:∀o o',((wr.alloc o).alloc o').cell? ⟨p.g,4,none⟩=some (.slice (some ⟨gb,0,none⟩) 1 1):=fun o o'=>(bC (hxp2 o o') 4).trans rfl
    have hws:=A0.mk (hB.wsize (g:=g) (by simp))
    have hinfo:(Tryz.prog.info? 25).map (fun i=>(i.zero,i.size,i.bytes))=some (some (.slice none 0 0),1,24):=by kernel_rfl
    obtain ⟨i0,hi,hz0,hz1,hz2⟩:=info_parts hinfo
    have w2:IntKind.i64.wrap (((k+1:Nat):Int) - 1)=(k:Int):=by rw [IntWalk.i64_in _ (by omega)];omega
    have w3:IntKind.i64.wrap ((k:Int)+1 - 1)=(k:Int):=by rw [IntWalk.i64_in _ (by omega)];omega
    have n0:(0:Int)≤(k:Int):=by omega
    have n1':(k:Int)<(N:Int)+1:=by omega
    have n2':(k:Int)+1<(N:Int)+1:=by omega
    have n3':(0:Int)≤(k:Int)+1:=by omega
    have n4':k<N+1:=by omega
    have n5':k+1<N+1:=by omega
    have n6':k≤N:=by omega
    have n7':k<N:=by omega
    have n8':(k:Int)≤(N:Int):=by omega
    have n9':(k:Int)<(N:Int):=by omega
    have m1':¬ (N+1≤k):=by omega
    have m2':¬ (N≤k):=by omega
    have m3':¬ (N<k):=by omega
    have w4:IntKind.i64.wrap (k:Int)=(k:Int):=IntWalk.i64_in _ (by omega)
    have cc:∀(j:Nat) (u:Value),([.slice (some ⟨wr.heap.size,0,none⟩) 1 1]:List Value)[j]?=some u→((wr.alloc (.cells (E107 4 nN nN (.slice A1 n1 c1) (.slice A2 n2 c2) nilv pos) 107)).alloc (.cells #[.slice (some ⟨wr.heap.size,0,none⟩) 1 1] 25)).cell? ((⟨wr.heap.size+1,0,none⟩:Addr).add j)=some u:=by
     intro j u hu
     have esz:(wr.alloc (.cells (E107 4 nN nN (.slice A1 n1 c1) (.slice A2 n2 c2) nilv pos) 107)).heap.size=wr.heap.size+1:=by simp
     have hq:=oA (w:=wr.alloc (.cells (E107 4 nN nN (.slice A1 n1 c1) (.slice A2 n2 c2) nilv pos) 107)) #[.slice (some ⟨wr.heap.size,0,none⟩) 1 1] 25 [.slice (some ⟨wr.heap.size,0,none⟩) 1 1] rfl j u hu
     rw [esz] at hq
     exact hq
    have cc:=A0.mk cc
    have hown:=A0.mk hown
    have hx:=A0.mk hx
    have hxp:=A0.mk hxp
    have hxp2:=A0.mk hxp2
    have hk2:=A0.mk hk2
    clear hinfo hc1 hc2 hxp1 hk
    go_wp2
    refine wp_region_held_drew (S:=(fun w:World=>w.cell? ⟨gr,k,none⟩=some (ptr p.g)∧w.cell? ⟨gr,k+1,none⟩=some (ptr g)∧w.cell? ⟨g,0,none⟩=some (.int .i64 4)∧w.cell? ⟨g,1,none⟩=some (.string nN)∧w.cell? ⟨g,2,none⟩=some (.string nN)∧w.cell? ⟨g,3,none⟩=some (.slice A1 n1 c1)∧w.cell? ⟨g,4,none⟩=some (.slice A2 n2 c2)∧w.cell? ⟨g,5,none⟩=some (.slice none 0 0)∧w.cell? ⟨g,6,none⟩=some (.int .i64 pos))) (by kernel_rfl) (SK.out _ (fun b hb hne=>rfl)) (fun hHeld=>?_)
    refine take1 0 62 (.slice (some ⟨gr,0,none⟩) (N+1) cap) rfl rfl (by kernel_rfl) (by kernel_rfl) (by kernel_rfl) (fun _ _ _ h=>h) (Or.inl ⟨by kernel_rfl,fun w hSw=>by (try dsimp only at hSw);go_simp⟩) (by assumption) ?_
    try simp only [List.setIfInBounds_toArray,List.set_cons_zero,List.set_cons_succ]
    refine take1 1 63 (.int .i64 ((k:Int)+1)) rfl rfl (by kernel_rfl) (by kernel_rfl) (by kernel_rfl) (fun _ _ _ h=>h) (Or.inl ⟨by kernel_rfl,fun w hSw=>by (try dsimp only at hSw);go_simp⟩) (by assumption) ?_
    try simp only [List.setIfInBounds_toArray,List.set_cons_zero,List.set_cons_succ]
    refine take1 2 64 (.int .i64 (k:Int)) rfl rfl (by kernel_rfl) (by kernel_rfl) (by kernel_rfl) (fun _ _ _ h=>h) (Or.inl ⟨by kernel_rfl,fun w hSw=>by (try dsimp only at hSw);go_simp⟩) (by assumption) ?_
    try simp only [List.setIfInBounds_toArray,List.set_cons_zero,List.set_cons_succ]
    refine take1 3 65 (.pointer (some ⟨gr,k,none⟩)) rfl rfl (by kernel_rfl) (by kernel_rfl) (by kernel_rfl) (fun _ _ _ h=>h) (Or.inl ⟨by kernel_rfl,fun w hSw=>by (try dsimp only at hSw);go_simp⟩) (by assumption) ?_
    try simp only [List.setIfInBounds_toArray,List.set_cons_zero,List.set_cons_succ]
    refine take1 4 66 (ptr p.g) rfl rfl (by kernel_rfl) (by kernel_rfl) (by kernel_rfl) (fun _ _ _ h=>h) (Or.inl ⟨by kernel_rfl,fun w hSw=>by (try dsimp only at hSw);go_simp⟩) (by assumption) ?_
    try simp only [List.setIfInBounds_toArray,List.set_cons_zero,List.set_cons_succ]
    refine take1 5 67 (.slice (some ⟨gr,0,none⟩) (N+1) cap) rfl rfl (by kernel_rfl) (by kernel_rfl) (by kernel_rfl) (fun _ _ _ h=>h) (Or.inl ⟨by kernel_rfl,fun w hSw=>by (try dsimp only at hSw);go_simp⟩) (by assumption) ?_
    try simp only [List.setIfInBounds_toArray,List.set_cons_zero,List.set_cons_succ]
    refine take1 6 68 (.int .i64 ((k:Int)+1)) rfl rfl (by kernel_rfl) (by kernel_rfl) (by kernel_rfl) (fun _ _ _ h=>h) (Or.inl ⟨by kernel_rfl,fun w hSw=>by (try dsimp only at hSw);go_simp⟩) (by assumption) ?_
    try simp only [List.setIfInBounds_toArray,List.set_cons_zero,List.set_cons_succ]
    refine take1 7 69 (.int .i64 (k:Int)) rfl rfl (by kernel_rfl) (by kernel_rfl) (by kernel_rfl) (fun _ _ _ h=>h) (Or.inl ⟨by kernel_rfl,fun w hSw=>by (try dsimp only at hSw);go_simp⟩) (by assumption) ?_
    try simp only [List.setIfInBounds_toArray,List.set_cons_zero,List.set_cons_succ]
    refine take1 8 70 (.pointer (some ⟨gr,k,none⟩)) rfl rfl (by kernel_rfl) (by kernel_rfl) (by kernel_rfl) (fun _ _ _ h=>h) (Or.inl ⟨by kernel_rfl,fun w hSw=>by (try dsimp only at hSw);go_simp⟩) (by assumption) ?_
    try simp only [List.setIfInBounds_toArray,List.set_cons_zero,List.set_cons_succ]
    refine take1 9 71 (ptr p.g) rfl rfl (by kernel_rfl) (by kernel_rfl) (by kernel_rfl) (fun _ _ _ h=>h) (Or.inl ⟨by kernel_rfl,fun w hSw=>by (try dsimp only at hSw);go_simp⟩) (by assumption) ?_
    try simp only [List.setIfInBounds_toArray,List.set_cons_zero,List.set_cons_succ]
    refine take1 10 72 (ptr p.g) rfl rfl (by kernel_rfl) (by kernel_rfl) (by kernel_rfl) (fun _ _ _ h=>h) (Or.inl ⟨by kernel_rfl,fun w hSw=>by (try dsimp only at hSw);go_simp⟩) (by assumption) ?_
    try simp only [List.setIfInBounds_toArray,List.set_cons_zero,List.set_cons_succ]
    refine take1 11 73 (.pointer (some ⟨p.g,4,none⟩)) rfl rfl (by kernel_rfl) (by kernel_rfl) (by kernel_rfl) (fun _ _ _ h=>h) (Or.inl ⟨by kernel_rfl,fun w hSw=>by (try dsimp only at hSw);go_simp⟩) (by assumption) ?_
    try simp only [List.setIfInBounds_toArray,List.set_cons_zero,List.set_cons_succ]
    refine take1 13 75 (.slice (some ⟨gr,0,none⟩) (N+1) cap) rfl rfl (by kernel_rfl) (by kernel_rfl) (by kernel_rfl) (fun _ _ _ h=>h) (Or.inl ⟨by kernel_rfl,fun w hSw=>by (try dsimp only at hSw);go_simp⟩) (by assumption) ?_
    try simp only [List.setIfInBounds_toArray,List.set_cons_zero,List.set_cons_succ]
    refine take1 14 76 (.int .i64 ((k:Int)+1)) rfl rfl (by kernel_rfl) (by kernel_rfl) (by kernel_rfl) (fun _ _ _ h=>h) (Or.inl ⟨by kernel_rfl,fun w hSw=>by (try dsimp only at hSw);go_simp⟩) (by assumption) ?_
    try simp only [List.setIfInBounds_toArray,List.set_cons_zero,List.set_cons_succ]
    refine take1 15 77 (.pointer (some ⟨gr,k+1,none⟩)) rfl rfl (by kernel_rfl) (by kernel_rfl) (by kernel_rfl) (fun _ _ _ h=>h) (Or.inl ⟨by kernel_rfl,fun w hSw=>by (try dsimp only at hSw);go_simp⟩) (by assumption) ?_
    try simp only [List.setIfInBounds_toArray,List.set_cons_zero,List.set_cons_succ]
    refine take1 16 78 (ptr g) rfl rfl (by kernel_rfl) (by kernel_rfl) (by kernel_rfl) (fun _ _ _ h=>h) (Or.inl ⟨by kernel_rfl,fun w hSw=>by (try dsimp only at hSw);go_simp⟩) (by assumption) ?_
    try simp only [List.setIfInBounds_toArray,List.set_cons_zero,List.set_cons_succ]
    refine take1 17 79 (ptr g) rfl rfl (by kernel_rfl) (by kernel_rfl) (by kernel_rfl) (fun _ _ _ h=>h) (Or.inl ⟨by kernel_rfl,fun w hSw=>by (try dsimp only at hSw);go_simp⟩) (by assumption) ?_
    try simp only [List.setIfInBounds_toArray,List.set_cons_zero,List.set_cons_succ]
    refine take1 18 80 (.agg #[.int .i64 4,.string nN,.string nN,.slice A1 n1 c1,.slice A2 n2 c2,.slice none 0 0,.int .i64 pos]) rfl rfl (by kernel_rfl) (by kernel_rfl) (by kernel_rfl) (fun _ _ _ h=>h) (Or.inl ⟨by kernel_rfl,fun w hSw=>by (try dsimp only at hSw);go_simp⟩) (by assumption) ?_
    try simp only [List.setIfInBounds_toArray,List.set_cons_zero,List.set_cons_succ]
    refine wpAnyH_ready (rs:=[12,19]) (by kernel_rfl) (by simp) ?_
    refine AllReadyH.cons rfl (fun K hK=>?_) (AllReadyH.cons rfl (fun K hK=>?_) AllReadyH.nil)
    go_simp
    refine hK.out _ _ (SK.out _ (fun b hb hne=>rfl)) (fun hHeld=>?_)
    clear hK K
    try simp only [Act.put,List.setIfInBounds_toArray,List.set_cons_zero,List.set_cons_succ]
    refine wpAnyH_ready (rs:=[19]) (by kernel_rfl) (by simp) ?_
    refine AllReadyH.cons rfl (fun K hK=>?_) AllReadyH.nil
    go_simp
    refine hK.out _ _ (SK.out _ (fun b hb hne=>_root_.Go.heap_alloc_old wr _ hb)) (fun hHeld=>?_)
    clear hK K
    try simp only [Act.put,List.setIfInBounds_toArray,List.set_cons_zero,List.set_cons_succ]
    refine wpAnyH_ready (rs:=[20]) (by kernel_rfl) (by simp) ?_
    refine AllReadyH.cons rfl (fun K hK=>?_) AllReadyH.nil
    go_simp
    refine hK.out _ _ (SK.out _ (fun b hb hne=>(_root_.Go.heap_alloc_old (wr.alloc _) _ (by simp;omega)).trans (_root_.Go.heap_alloc_old wr _ hb))) (fun hHeld=>?_)
    clear hK K
    try simp only [Act.put,List.setIfInBounds_toArray,List.set_cons_zero,List.set_cons_succ]
    refine wpAnyH_ready (rs:=[21]) (by kernel_rfl) (by simp) ?_
    refine AllReadyH.cons rfl (fun K hK=>?_) AllReadyH.nil
    (refine step_append_full rfl (.tmp 74) (.tmp 82) 104 rfl (W.heap.size+2) 25 i0 (.slice none 0 0) 1 24 Tryz.underlying104 hi hz0 hz1 hz2 rfl (by decide) gb 1 us.flatten rfl (oF hown.out (((Far.refl _ wr).alloc _).alloc _).drew) ⟨wr.heap.size+1,0,none⟩ 1 [.slice (some ⟨wr.heap.size,0,none⟩) 1 1] rfl rfl (fun j u hu=>cc.out j u hu) (by intro u hu;simp at hu;subst hu;rfl) (by simp [maxLen]) (by simp) (by have:=hws.out;simp;omega) ?_;intro cp2 w5 hown5 hg5;(have hx5:=(hg5.block p.g (by have:=hpgg.2.1;simp;omega) (by simp)).trans (hxp2.out _ _);have u4:w5.cell? ⟨p.g,4,none⟩=some (.slice (some ⟨gb,0,none⟩) 1 1):=(bC hx5 4).trans rfl;have uf4:w5.frozen? ⟨p.g,4,none⟩=false:=bF hx5 4;have hb5:∀b,b<wr.heap.size→w5.heap[b]?=wr.heap[b]?:=(fun b hb=>(hg5.block b (by simp;omega) (by simp)).trans ((_root_.Go.heap_alloc_old (wr.alloc _) _ (by simp;omega)).trans (_root_.Go.heap_alloc_old wr _ hb)));have hSw5:=A0.mk (SK.out w5 (fun b hb _=>hb5 b hb));have hSw6:=A0.mk (fun v=>SK.out (w5.setCell ⟨p.g,4,none⟩ v) (fun b hb hne=>(Below.heap_setCell _ _ _ b hne).trans (hb5 b hb)));have hown5:=A0.mk hown5;have hg5:=A0.mk hg5;have hb5:=A0.mk hb5;have hx5:=A0.mk hx5))
    refine hK.out _ _ (hSw5.out) (fun hHeld=>?_)
    clear hK K
    try simp only [Act.put,List.setIfInBounds_toArray,List.set_cons_zero,List.set_cons_succ]
    refine take1 22 84 (ptr p.g) rfl rfl (by kernel_rfl) (by kernel_rfl) (by kernel_rfl) (fun _ _ _ h=>h) (Or.inl ⟨by kernel_rfl,fun w hSw=>by (try dsimp only at hSw);go_simp⟩) (by assumption) ?_
    try simp only [List.setIfInBounds_toArray,List.set_cons_zero,List.set_cons_succ]
    refine take1 23 85 (.pointer (some ⟨p.g,4,none⟩)) rfl rfl (by kernel_rfl) (by kernel_rfl) (by kernel_rfl) (fun _ _ _ h=>h) (Or.inl ⟨by kernel_rfl,fun w hSw=>by (try dsimp only at hSw);go_simp⟩) (by assumption) ?_
    try simp only [List.setIfInBounds_toArray,List.set_cons_zero,List.set_cons_succ]
    refine wpAnyH_ready (rs:=[24]) (by kernel_rfl) (by simp) ?_
    refine AllReadyH.cons rfl (fun K hK=>?_) AllReadyH.nil
    go_simp
    refine hK.out _ _ (hSw6.out _) (fun hHeld=>?_)
    clear hK K
    try simp only [Act.put]
    refine wpAnyH_done (by kernel_rfl) ?_ _
    rotate_left 1
    go_simp
    refine hK.out _ _ (SK.out _ (fun b hb hne=>_root_.Go.heap_alloc_old wr _ hb)) (fun hHeld=>?_)
    clear hK K
    try simp only [Act.put,List.setIfInBounds_toArray,List.set_cons_zero,List.set_cons_succ]
    refine wpAnyH_ready (rs:=[12,20]) (by kernel_rfl) (by simp) ?_
    refine AllReadyH.cons rfl (fun K hK=>?_) (AllReadyH.cons rfl (fun K hK=>?_) AllReadyH.nil)
    go_simp
    refine hK.out _ _ (SK.out _ (fun b hb hne=>_root_.Go.heap_alloc_old wr _ hb)) (fun hHeld=>?_)
    clear hK K
    try simp only [Act.put,List.setIfInBounds_toArray,List.set_cons_zero,List.set_cons_succ]
    refine wpAnyH_ready (rs:=[20]) (by kernel_rfl) (by simp) ?_
    refine AllReadyH.cons rfl (fun K hK=>?_) AllReadyH.nil
    go_simp
    refine hK.out _ _ (SK.out _ (fun b hb hne=>(_root_.Go.heap_alloc_old (wr.alloc _) _ (by simp;omega)).trans (_root_.Go.heap_alloc_old wr _ hb))) (fun hHeld=>?_)
    clear hK K
    try simp only [Act.put,List.setIfInBounds_toArray,List.set_cons_zero,List.set_cons_succ]
    refine wpAnyH_ready (rs:=[21]) (by kernel_rfl) (by simp) ?_
    refine AllReadyH.cons rfl (fun K hK=>?_) AllReadyH.nil
    (refine step_append_full rfl (.tmp 74) (.tmp 82) 104 rfl (W.heap.size+2) 25 i0 (.slice none 0 0) 1 24 Tryz.underlying104 hi hz0 hz1 hz2 rfl (by decide) gb 1 us.flatten rfl (oF hown.out (((Far.refl _ wr).alloc _).alloc _).drew) ⟨wr.heap.size+1,0,none⟩ 1 [.slice (some ⟨wr.heap.size,0,none⟩) 1 1] rfl rfl (fun j u hu=>cc.out j u hu) (by intro u hu;simp at hu;subst hu;rfl) (by simp [maxLen]) (by simp) (by have:=hws.out;simp;omega) ?_;intro cp2 w5 hown5 hg5;(have hx5:=(hg5.block p.g (by have:=hpgg.2.1;simp;omega) (by simp)).trans (hxp2.out _ _);have u4:w5.cell? ⟨p.g,4,none⟩=some (.slice (some ⟨gb,0,none⟩) 1 1):=(bC hx5 4).trans rfl;have uf4:w5.frozen? ⟨p.g,4,none⟩=false:=bF hx5 4;have hb5:∀b,b<wr.heap.size→w5.heap[b]?=wr.heap[b]?:=(fun b hb=>(hg5.block b (by simp;omega) (by simp)).trans ((_root_.Go.heap_alloc_old (wr.alloc _) _ (by simp;omega)).trans (_root_.Go.heap_alloc_old wr _ hb)));have hSw5:=A0.mk (SK.out w5 (fun b hb _=>hb5 b hb));have hSw6:=A0.mk (fun v=>SK.out (w5.setCell ⟨p.g,4,none⟩ v) (fun b hb hne=>(Below.heap_setCell _ _ _ b hne).trans (hb5 b hb)));have hown5:=A0.mk hown5;have hg5:=A0.mk hg5;have hb5:=A0.mk hb5;have hx5:=A0.mk hx5))
    refine hK.out _ _ (hSw5.out) (fun hHeld=>?_)
    clear hK K
    try simp only [Act.put,List.setIfInBounds_toArray,List.set_cons_zero,List.set_cons_succ]
    refine take1 22 84 (ptr p.g) rfl rfl (by kernel_rfl) (by kernel_rfl) (by kernel_rfl) (fun _ _ _ h=>h) (Or.inl ⟨by kernel_rfl,fun w hSw=>by (try dsimp only at hSw);go_simp⟩) (by assumption) ?_
    try simp only [List.setIfInBounds_toArray,List.set_cons_zero,List.set_cons_succ]
    refine take1 23 85 (.pointer (some ⟨p.g,4,none⟩)) rfl rfl (by kernel_rfl) (by kernel_rfl) (by kernel_rfl) (fun _ _ _ h=>h) (Or.inl ⟨by kernel_rfl,fun w hSw=>by (try dsimp only at hSw);go_simp⟩) (by assumption) ?_
    try simp only [List.setIfInBounds_toArray,List.set_cons_zero,List.set_cons_succ]
    refine wpAnyH_ready (rs:=[24]) (by kernel_rfl) (by simp) ?_
    refine AllReadyH.cons rfl (fun K hK=>?_) AllReadyH.nil
    go_simp
    refine hK.out _ _ (hSw6.out _) (fun hHeld=>?_)
    clear hK K
    try simp only [Act.put]
    refine wpAnyH_done (by kernel_rfl) ?_ _
    rotate_left 1
    go_simp
    refine hK.out _ _ (SK.out _ (fun b hb hne=>(_root_.Go.heap_alloc_old (wr.alloc _) _ (by simp;omega)).trans (_root_.Go.heap_alloc_old wr _ hb))) (fun hHeld=>?_)
    clear hK K
    try simp only [Act.put,List.setIfInBounds_toArray,List.set_cons_zero,List.set_cons_succ]
    refine wpAnyH_ready (rs:=[12]) (by kernel_rfl) (by simp) ?_
    refine AllReadyH.cons rfl (fun K hK=>?_) AllReadyH.nil
    go_simp
    refine hK.out _ _ (SK.out _ (fun b hb hne=>(_root_.Go.heap_alloc_old (wr.alloc _) _ (by simp;omega)).trans (_root_.Go.heap_alloc_old wr _ hb))) (fun hHeld=>?_)
    clear hK K
    try simp only [Act.put,List.setIfInBounds_toArray,List.set_cons_zero,List.set_cons_succ]
    refine wpAnyH_ready (rs:=[21]) (by kernel_rfl) (by simp) ?_
    refine AllReadyH.cons rfl (fun K hK=>?_) AllReadyH.nil
    (refine step_append_full rfl (.tmp 74) (.tmp 82) 104 rfl (W.heap.size+2) 25 i0 (.slice none 0 0) 1 24 Tryz.underlying104 hi hz0 hz1 hz2 rfl (by decide) gb 1 us.flatten rfl (oF hown.out (((Far.refl _ wr).alloc _).alloc _).drew) ⟨wr.heap.size+1,0,none⟩ 1 [.slice (some ⟨wr.heap.size,0,none⟩) 1 1] rfl rfl (fun j u hu=>cc.out j u hu) (by intro u hu;simp at hu;subst hu;rfl) (by simp [maxLen]) (by simp) (by have:=hws.out;simp;omega) ?_;intro cp2 w5 hown5 hg5;(have hx5:=(hg5.block p.g (by have:=hpgg.2.1;simp;omega) (by simp)).trans (hxp2.out _ _);have u4:w5.cell? ⟨p.g,4,none⟩=some (.slice (some ⟨gb,0,none⟩) 1 1):=(bC hx5 4).trans rfl;have uf4:w5.frozen? ⟨p.g,4,none⟩=false:=bF hx5 4;have hb5:∀b,b<wr.heap.size→w5.heap[b]?=wr.heap[b]?:=(fun b hb=>(hg5.block b (by simp;omega) (by simp)).trans ((_root_.Go.heap_alloc_old (wr.alloc _) _ (by simp;omega)).trans (_root_.Go.heap_alloc_old wr _ hb)));have hSw5:=A0.mk (SK.out w5 (fun b hb _=>hb5 b hb));have hSw6:=A0.mk (fun v=>SK.out (w5.setCell ⟨p.g,4,none⟩ v) (fun b hb hne=>(Below.heap_setCell _ _ _ b hne).trans (hb5 b hb)));have hown5:=A0.mk hown5;have hg5:=A0.mk hg5;have hb5:=A0.mk hb5;have hx5:=A0.mk hx5))
    refine hK.out _ _ (hSw5.out) (fun hHeld=>?_)
    clear hK K
    try simp only [Act.put,List.setIfInBounds_toArray,List.set_cons_zero,List.set_cons_succ]
    refine take1 22 84 (ptr p.g) rfl rfl (by kernel_rfl) (by kernel_rfl) (by kernel_rfl) (fun _ _ _ h=>h) (Or.inl ⟨by kernel_rfl,fun w hSw=>by (try dsimp only at hSw);go_simp⟩) (by assumption) ?_
    try simp only [List.setIfInBounds_toArray,List.set_cons_zero,List.set_cons_succ]
    refine take1 23 85 (.pointer (some ⟨p.g,4,none⟩)) rfl rfl (by kernel_rfl) (by kernel_rfl) (by kernel_rfl) (fun _ _ _ h=>h) (Or.inl ⟨by kernel_rfl,fun w hSw=>by (try dsimp only at hSw);go_simp⟩) (by assumption) ?_
    try simp only [List.setIfInBounds_toArray,List.set_cons_zero,List.set_cons_succ]
    refine wpAnyH_ready (rs:=[24]) (by kernel_rfl) (by simp) ?_
    refine AllReadyH.cons rfl (fun K hK=>?_) AllReadyH.nil
    go_simp
    refine hK.out _ _ (hSw6.out _) (fun hHeld=>?_)
    clear hK K
    try simp only [Act.put]
    refine wpAnyH_done (by kernel_rfl) ?_ _
    all_goals (
     have hal:∀b,b<wr.heap.size→(((wr.alloc (.cells (E107 4 nN nN (.slice A1 n1 c1) (.slice A2 n2 c2) nilv pos) 107)).alloc (.cells #[.slice (some ⟨wr.heap.size,0,none⟩) 1 1] 25)).drew).heap[b]?=wr.heap[b]?:=fun b hb=>(_root_.Go.heap_alloc_old (wr.alloc _) _ (by simp;omega)).trans (_root_.Go.heap_alloc_old wr _ hb)
     have hws2:=hws.out
     have hst':=hst
     have hrow:Row (fun b=>P b∨b=wr.heap.size) (((wr.alloc (.cells (E107 4 nN nN (.slice A1 n1 c1) (.slice A2 n2 c2) nilv pos) 107)).alloc (.cells #[.slice (some ⟨wr.heap.size,0,none⟩) 1 1] 25)).drew) (some ⟨wr.heap.size,0,none⟩) ([stCells 4 nN nN A1 n1 c1 A2 n2 c2 none 0 0 pos]:List (List Value)).flatten:=by
      have hr:=row_lit (P:=fun b=>P b∨b=wr.heap.size) (X:=wr) (cs:=E107 4 nN nN (.slice A1 n1 c1) (.slice A2 n2 c2) nilv pos) (t:=107) (Or.inr rfl)
      exact Row.keep hr (fun _ hb=>hb) fun b _ hl=>_root_.Go.heap_alloc_old (wr.alloc (.cells (E107 4 nN nN (.slice A1 n1 c1) (.slice A2 n2 c2) nilv pos) 107)) (.cells #[.slice (some ⟨wr.heap.size,0,none⟩) 1 1] 25) hl
     obtain ⟨P6,k1,k2,k3⟩:=Br.second (w3:=w5) (((hBp.alloc h (.cells (E107 4 nN nN (.slice A1 n1 c1) (.slice A2 n2 c2) nilv pos) 107)).alloc h (.cells #[.slice (some ⟨wr.heap.size,0,none⟩) 1 1] 25)).drew h) (by simp) h (hxp2.out _ _) (hAE.keepE (fun _ hb=>hb) fun b _ hl=>hal b hl) (hall.imp fun _ _ hr=>rK hr (fun _ hb=>hb) fun b _ hl=>hal b hl)
      (Q:=fun b=>P b∨b=wr.heap.size) (fun b hb=>by
       have hsz:(((wr.alloc (.cells (E107 4 nN nN (.slice A1 n1 c1) (.slice A2 n2 c2) nilv pos) 107)).alloc (.cells #[.slice (some ⟨wr.heap.size,0,none⟩) 1 1] 25)).drew).heap.size=wr.heap.size+2:=by simp
       rw [hsz]
       rcases hb with hb | rfl
       ·exact ⟨(hBp.pl b hb).1,by have:=(hBp.pl b hb).2;omega,fun hm=>(hBp.ge b hm).2.2 hb,fun e=>(hBp.pv b e).1 hb⟩
       ·exact ⟨hws2,by omega,(hBp.fresh (g:=p.g) (by simp) (Nat.le_refl _)).1,(hBp.fresh (g:=p.g) (by simp) (Nat.le_refl _)).2.1⟩)
      (b2:=[s]) (u:=.slice (some ⟨wr.heap.size,0,none⟩) 1 1) ⟨_,1,_,rfl,Nat.le_refl _,hrow,repSs_iff.2 ⟨RepS.keep (fun _ hb=>Or.inl hb) (fun b _ hl=>hal b hl) _ _ hst',trivial⟩⟩ hg5.out hown5.out (hown5.out.lt _ rfl).2
     have esz:(((wr.alloc (.cells (E107 4 nN nN (.slice A1 n1 c1) (.slice A2 n2 c2) nilv pos) 107)).alloc (.cells #[.slice (some ⟨wr.heap.size,0,none⟩) 1 1] 25)).drew).heap.size=wr.heap.size+2:=by simp
     rw [esz] at k1 k2 k3
     have k1:=A0.mk k1
     have k2:=A0.mk k2
     have k3:=A0.mk k3
     have hw2:A0 (wrapB pend (.ok (.mk 4 nN nN [p.e] [p.b,[s]] [] p.pos) a1 d1)=S):=⟨by rw [←hw,wrapB_snoc];rfl⟩
     clear hal hrow esz hst' hst hw hAE hall
     go_wp2
     go_roundg k
     case rel=>exact ⟨by go_num,P6,pend,g :: tl,p.g,_,a1,d1,Ap,np,cq,_,2,cp2,p.pos,k1.out,hk2.out,k2.out,k3.out,hw2.out⟩
     case measure=>omega)
end Go.Proofs.YtgaoapnaplgaiaaGreatDoor.Sc
