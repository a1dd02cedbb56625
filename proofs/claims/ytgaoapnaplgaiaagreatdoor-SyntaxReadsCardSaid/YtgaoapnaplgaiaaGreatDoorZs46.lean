/- This claim's own texts, joined, with only what the claim uses: RdN, RdO, RdQ0, RdS0, RdS1, RdT1, RdV, RdU, RdU2, RdW0, RdW, RdX. -/
import Derived.Test.YtgaoapnaplgaiaaGreatDoorZs45
import Derived.Test.YtgaoapnaplgaiaaGreatDoorZs16
import Derived.Test.YtgaoapnaplgaiaaGreatDoorZs17
import Derived.Test.YtgaoapnaplgaiaaGreatDoorZs20
import Derived.Test.YtgaoapnaplgaiaaGreatDoorZs22
import Derived.Test.YtgaoapnaplgaiaaGreatDoorZs21
import Derived.Deep.RegionWith
import Derived.Deep.CutRange
import Derived.Deep.RegionLaw
namespace Go.Proofs.YtgaoapnaplgaiaaGreatDoor.Sc
set_option maxRecDepth 100000
open Go.RowKit Tk Go.Proofs.YtgaoapnaplgaiaaGreatDoor.Wd
structure RkAt (c:Ctx) (W:World) (next:Rd Ex) (r:Int) (once:Bool) (g2 a0:Nat) (S:Out Ex) (f:Nat) (X:World):Prop where
 ex:∃(o:Out Ex) (op num:Int) (nm:ByteArray) (A:Option Addr) (n cap:Nat) (pos:Int),Fr c W X o.sta∧Bx X W.heap.size 93 Z93∧Bx X g2 93 (E93 op num nm A n cap pos) ∧
  (∀y,o.val=some y→RepE (fun b=>W.heap.size+1≤b∧b≠g2) X y (eC op num nm A n cap pos))∧o.bind (fun e a d=>lL c next r once f e a d)=S∧(∀e a d,o=.ok e a d→a0≤a∧0≤d∧c.L.length+1≤f+a)
def Out.posn:Out Ex→Nat
 | .ok _ a _=>a
 | .bad _ _=>0
theorem repE_fars {lo g:Nat} {X Y:World} {y:Ex} {v:List Value} (h:RepE (fun b=>lo≤b∧b≠g) X y v) (hk:∀b,lo≤b→b≠g→b<X.heap.size→Y.heap[b]?=X.heap[b]?):RepE (fun b=>lo≤b∧b≠g) Y y v :=
 RepE.keep (P:=fun b=>lo≤b∧b≠g) (fun _ hb=>hb) (fun b hb hl=>hk b hb.1 hb.2 hl) y v h
set_option maxHeartbeats 8000000 in
theorem rrank_reads {c:Ctx} (hG:Good c) {next:Rd Ex} {a0:Nat} {r:Int} (h1:1≤r) (h5:r≤5) (hF:Fine c next a0) (hR:RRank c (r+1) next a0) (once:Bool) (hon:(r==3)=once):RRank c r (leftS c next r once) a0:=by
 intro W s0 h hl
 have F:=(Fr.start h).alloc (.cells Z93 93)
 have hr:Bx (W.alloc (.cells Z93 93)) W.heap.size 93 Z93:=xN W 93 _
 have hsz:W.heap.size+1≤(W.alloc (.cells Z93 93)).heap.size:=by simp
 obtain ⟨S,hS⟩:∃S,A0 (s0.go (leftS c next r once)=S):=⟨_,⟨rfl⟩⟩
 rw [hS.out]
 replace hR:=A0.mk hR
 replace hF:=A0.mk hF
 have hgl:=F.gl
 have n6:(r==6)=false:=beq_eq_false_iff_ne.mpr (by omega)
 have wr1:IntKind.i64.wrap (r+1)=r+1:=IntWalk.i64_in _ (by omega)
 match s0,h,hl,F,hS with
 | .lost p er,h,hl,F,hS =>
  have hS2:A0 (S=.bad p er):=⟨hS.out.symm⟩
  obtain ⟨he,a,d,hA⟩:=F.st hG
  have c5:=hA.c5
  have e1:(er==0)=false:=beq_eq_false_iff_ne.mpr he
  clear hS hA hsz he
  rw [hS2.out]
  go_enter Tryz.func155,Tryz.ntmps155
  go_upto_region 1 with fail
  generalize W.alloc (.cells #[.int .i64 0,.int .i64 0,.string ⟨#[]⟩,.slice none 0 0,.int .i64 0] 93)=X at F hr c5 ⊢
  have x0:X.cell? ⟨W.heap.size,0,none⟩=some (.int .i64 0):=bC hr 0;have y0:=bF hr 0
  have x1:X.cell? ⟨W.heap.size,1,none⟩=some (.int .i64 0):=bC hr 1;have y1:=bF hr 1
  have x2:X.cell? ⟨W.heap.size,2,none⟩=some (.string ⟨#[]⟩):=bC hr 2;have y2:=bF hr 2
  have x3:X.cell? ⟨W.heap.size,3,none⟩=some (.slice none 0 0):=bC hr 3;have y3:=bF hr 3
  have x4:X.cell? ⟨W.heap.size,4,none⟩=some (.int .i64 0):=bC hr 4;have y4:=bF hr 4
  go_wp2
  exact fin93 (S:=.bad p er) hG rfl rfl rfl F hr rfl rfl (fun y hy=>by cases hy)
 | .here a d,h,hl,F,hS =>
  obtain ⟨hl1,hl2⟩:=hl a d rfl
  have c5:=(F.st hG).1.c5
  have hd64:=F.pb.2.2.2
  obtain ⟨o,ho⟩:∃o,A0 ((Sta.here a d).go next=o):=⟨_,⟨rfl⟩⟩
  have hS2:A0 ((o.bind fun e a1 d1=>lL c next r once (c.L.length+1 - a1) e a1 d1)=S):=⟨by rw [←hS.out,←ho.out];rfl⟩
  have CN:=hR.out.c (F.st hG) (fun a' d' e=>by cases e;exact ⟨hl1,hl2⟩) ho
  clear hS h hl
  go_enter Tryz.func155,Tryz.ntmps155
  go_upto_block 0 with (first|(go_at_call 155;(with_reducible refine CN.mono ?_);rintro e w3 ⟨hg,⟨op,num,nm,A,n,cap,pos,rfl,hE⟩,hR0⟩))
  have hA:RkAt c W next r once w3.heap.size a0 S (c.L.length+1 - o.posn) (w3.alloc (.cells (E93 op num nm A n cap pos) 93)) :=
   ⟨o,op,num,nm,A,n,cap,pos,(F.call hg hR0).alloc _,xB (xC hr hg hgl) (bA w3 _),xN w3 93 _,
    fun y hy=>RepE.keep (P:=fun b=>(W.heap.size+1≤b)∧b<w3.heap.size) (fun b hb=>⟨hb.1,by omega⟩) (fun b hb hk=>_root_.Go.heap_alloc_old w3 _ hk) y _ (RepE.lt _ _ ((hE.out y hy).far (Far.refl _ _) hsz)),
    by rw [←hS2.out];cases o <;> rfl,fun e a1 d1 he=>by
     subst he
     obtain ⟨q1,q2,q3⟩:=hF.out _ _ hl1 hl2 hd64 _ _ _ ho.out
     exact ⟨by omega,by omega,by simp only [Out.posn];omega⟩⟩
  have hg3:W.heap.size+1≤w3.heap.size:=by have:=hg.size;omega
  generalize c.L.length+1 - o.posn=G0 at hA
  generalize w3.alloc (.cells #[.int .i64 op,.int .i64 num,.string nm,.slice A n cap,.int .i64 pos] 93)=X at hA ⊢
  generalize w3.heap.size=g2 at hA hg3 ⊢
  clear CN hg hE hR0 ho hS2 F hr hsz hl1 hl2 c5 hd64
  replace hA:=A0.mk hA
  go_wp2
  go_loopg [] G0 (fun f X=>RkAt c W next r once g2 a0 S f X)
  case atStart=>exact hA.out
  case round =>
   obtain ⟨o,op,num,nm,A,n,cap,pos,F,hr,hv,hE,hLp,hlim⟩:=hrel.ex
   replace hE:=A0.mk hE
   replace hLp:=A0.mk hLp
   replace hlim:=A0.mk hlim
   have OPS:=ops_call h1 h5 wr
   obtain ⟨nO,hnO⟩:∃nO,(opsK r).length=nO:=⟨_,rfl⟩
   have hn6:=opsK_len h1 h5
   rw [hnO] at OPS hn6
   have hin:=opsK_in h1 h5
   rw [hnO] at hin
   replace hin:=A0.mk hin
   have hth:=fun a d=>@opTo_here c a d r h1 h5
   rw [hnO] at hth
   replace hth:=A0.mk hth
   have hbA:=bA wr (opsBox r)
   have hcl:A0 (∀k,k<nO→(wr.alloc (opsBox r)).cell? ⟨wr.heap.size,k,none⟩=some (.string (wordB ((opsK r).getD k 0)))):=⟨fun k hk=>by
    rw [bC (bN wr (opsBox r)) k]
    simp [List.getD,hnO,hk]⟩
   have F1:=F.below hbA
   have hr1:=xB hr hbA
   have hv1:=xB hv hbA
   have hE1:A0 (∀y,o.val=some y→RepE (fun b=>W.heap.size+1≤b∧b≠g2) (wr.alloc (opsBox r)) y (eC op num nm A n cap pos)):=⟨fun y hy=>repE_fars (hE.out y hy) fun b _ _ hb=>_root_.Go.heap_alloc_old wr _ hb⟩
   clear hA hrel hnO F hr hv hE
   go_upto_block 2 with (first|(go_at_call 159;(with_reducible refine OPS.mono ?_);rintro e w4 ⟨rfl,rfl⟩))
   generalize hlb:wr.heap.size=lb at hcl hbA ⊢
   replace hlb:=A0.mk hlb
   generalize wr.alloc (opsBox r)=Y at F1 hr1 hv1 hE1 hcl ⊢
   clear OPS hbA
   have hbY:=Below.refl Y.heap.size Y
   replace hbY:=A0.mk hbY
   go_wp2
   go_loopw [7,8] (fun opv kv X2=>∃k:Nat,k≤nO∧kv=.int .i64 (k:Int)∧opv=.int .i64 (opTo c o.sta r k)∧Below Y.heap.size Y X2) (fun _ kv _=>nO - (intOf kv).toNat)
   case atStart=>exact ⟨0,Nat.zero_le _,rfl,rfl,hbY.out⟩
   case round =>
    obtain ⟨k,hk,rfl,rfl,hb⟩:=hrel
    by_cases hkn:k<nO
    ·have d0:decide ((k:Int)<(nO:Int))=true:=decide_eq_true (by omega)
     have k0:(0:Int)≤(k:Int):=by omega
     have k1:(k:Int)<(nO:Int):=by omega
     have wk:wrap64 ((k:Int)+1)=(k:Int)+1:=IntWalk.wrap64_in _ (by omega)
     have hst:opTo c o.sta r (k+1)=if o.sta.sees c ((opsK r).getD k 0) then opR r k else opTo c o.sta r k:=rfl
     replace hst:=A0.mk hst
     have cl:=(hb.cell (World.block_lt_of_cell? _ _ (hcl.out k hkn))).trans (hcl.out k hkn)
     have IS:=ris_call hG ((F1.below hb).st hG) ((opsK r).getD k 0) (hin.out k hkn) _ rfl
     have OO:=fun Z=>opOf_call h1 h5 k (by omega) Z
     generalize wordB ((opsK r).getD k 0)=T at cl IS
     generalize o.sta.sees c ((opsK r).getD k 0)=b at IS hst
     cases b with
     | true =>
      go_wp2_with (first|(go_at_call 31;(with_reducible refine IS.mono ?_);rintro e w5 ⟨rfl,hb5⟩)|(go_at_call 160;(with_reducible refine (OO _).mono ?_);rintro e w6 ⟨rfl,h6⟩;have h6:=h6.symm;subst h6))
      go_roundw
      case rel=>exact ⟨k+1,hkn,by (try rw [wk]) <;> rfl,by rw [hst.out];rfl,hb.trans (hb5.mono hb.size)⟩
      case measure=>(try rw [wk]) <;> simp [intOf] <;> omega
     | false =>
      go_wp2_with (first|(go_at_call 31;(with_reducible refine IS.mono ?_);rintro e w5 ⟨rfl,hb5⟩))
      go_roundw
      case rel=>exact ⟨k+1,hkn,by (try rw [wk]) <;> rfl,by rw [hst.out];rfl,hb.trans (hb5.mono hb.size)⟩
      case measure=>(try rw [wk]) <;> simp [intOf] <;> omega
    ·obtain rfl:k=nO:=by omega
     have d0:decide ((k:Int)<(k:Int))=false:=decide_eq_false (by omega)
     have F2:=F1.below hb
     have hr2:=xB hr1 hb
     have hv2:=xB hv1 hb
     have hE2:A0 (∀y,o.val=some y→RepE (fun b=>W.heap.size+1≤b∧b≠g2) wr y (eC op num nm A n cap pos)):=⟨fun y hy=>repE_fars (hE1.out y hy) fun b _ _ hl=>hb.block b hl⟩
     generalize wr=X2 at F2 hr2 hv2 hE2 ⊢
     clear F1 hr1 hv1 hE1 hbY hb hcl hin
     by_cases hop:opTo c o.sta r k=0
     ·have hfin:A0 (S.sta=o.sta∧∀y,S.val=some y→o.val=some y):=⟨by
       rw [←hLp.out]
       cases o with
       | bad p er=>exact ⟨rfl,fun y hy=>hy⟩
       | ok e a1 d1 =>
        obtain ⟨_,_,hf⟩:=hlim.out _ _ _ rfl
        have ha1:=F2.pb.2.1
        obtain ⟨f,rfl⟩:∃f,gk=f+1:=⟨gk - 1,by omega⟩
        simp only [Out.bind]
        rw [lL,if_pos (by rw [←hth.out a1 d1];exact hop)]
        exact ⟨rfl,fun y hy=>hy⟩⟩
      rw [hop]
      have z0:X2.cell? ⟨g2,0,none⟩=some (.int .i64 (op)):=bC hv2 0
      have z1:X2.cell? ⟨g2,1,none⟩=some (.int .i64 num):=bC hv2 1
      have z2:X2.cell? ⟨g2,2,none⟩=some (.string nm):=bC hv2 2
      have z3:X2.cell? ⟨g2,3,none⟩=some (.slice A n cap):=bC hv2 3
      have z4:X2.cell? ⟨g2,4,none⟩=some (.int .i64 (pos)):=bC hv2 4
      have x0:X2.cell? ⟨W.heap.size,0,none⟩=some (.int .i64 0):=bC hr2 0;have y0:=bF hr2 0
      have x1:X2.cell? ⟨W.heap.size,1,none⟩=some (.int .i64 0):=bC hr2 1;have y1:=bF hr2 1
      have x2:X2.cell? ⟨W.heap.size,2,none⟩=some (.string ⟨#[]⟩):=bC hr2 2;have y2:=bF hr2 2
      have x3:X2.cell? ⟨W.heap.size,3,none⟩=some (.slice none 0 0):=bC hr2 3;have y3:=bF hr2 3
      have x4:X2.cell? ⟨W.heap.size,4,none⟩=some (.int .i64 0):=bC hr2 4;have y4:=bF hr2 4
      clear hop hth hLp hlim
      go_wp2
      exact fin93 hG rfl rfl rfl F2 hr2 rfl hfin.out.1 (fun y hy=>RepE.keep (P:=fun b=>W.heap.size+1≤b∧b≠g2) (fun _ hb=>hb.1) (fun _ _ _=>rfl) _ _ (hE2.out y (hfin.out.2 y hy)))
     ·obtain ⟨e,a1,d1,rfl⟩:∃e a1 d1,o=.ok e a1 d1:=by
       cases o with
       | bad p er=>exact absurd (opTo_lost r k) hop
       | ok e a1 d1=>exact ⟨e,a1,d1,rfl⟩
      obtain ⟨q1,q2,q3⟩:=hlim.out _ _ _ rfl
      obtain ⟨P,hP⟩:∃P,A0 (opTo c (Out.ok e a1 d1).sta r k=P):=⟨_,⟨rfl⟩⟩
      have hopf:A0 (opOf r (kd c a1)=P):=⟨by rw [←hP.out];exact (hth.out a1 d1).symm⟩
      rw [hP.out] at hop ⊢
      have ob:(P==0)=false:=beq_eq_false_iff_ne.mpr hop
      have hal:a1<c.L.length:=by
       rcases Nat.lt_or_ge a1 c.L.length with h | h
       ·exact h
       ·exact absurd (hopf.out.symm.trans (by rw [kd_end h];exact opAt0 r 23)) hop
      have hal2:=hG.hl
      have wa:IntKind.i64.wrap ((a1:Int)+1)=(a1:Int)+1:=IntWalk.i64_in _ (by omega)
      have hd1:=F2.pb.2.2.2
      obtain ⟨f,rfl⟩:∃f,gk=f+1:=⟨gk - 1,by omega⟩
      obtain ⟨o2,ho2⟩:∃o,A0 ((Sta.here (a1+1) d1).go next=o):=⟨_,⟨rfl⟩⟩
      have hSv:A0 ((o2.bind fun e2 a2 d2=>if once then .ok (.mk P 0 nN [e,e2] (ps c a1)) a2 d2 else lL c next r once f (.mk P 0 nN [e,e2] (ps c a1)) a2 d2)=S):=⟨by
       rw [←hLp.out,←ho2.out]
       simp only [Out.bind.eq_1,Sta.go]
       rw [lL,if_neg (by rw [hopf.out];exact hop),hopf.out]⟩
      have hEe:A0 (RepE (fun b=>W.heap.size+1≤b∧b≠g2) X2 e (eC op num nm A n cap pos)):=⟨hE2.out e rfl⟩
      have PS:=pC (F2.st hG).1
      have S2:=fun q=>(F2.drewN q).pb.1
      have s2:=fun q=>bC (S2 q) 2
      have f2:=fun q=>bF (S2 q) 2
      clear hop hP hopf hLp hlim hth hE2 S2
      go_upto_region 17 with (first|(go_at_call 33;(with_reducible refine PS.mono ?_);rintro e' w' ⟨rfl,q,rfl⟩;have s2:=s2 q;have f2:=f2 q))
      have F3:=(F2.drewN q).step hal
      have hv3:=Q5 (xB hv2 (bel_dN (Below.refl _ _) q)) (p:=⟨c.g,2,none⟩) (by dsimp only;omega) (.int .i64 ((a1:Int)+1))
      have hr3:=Q5 (xB hr2 (bel_dN (Below.refl _ _) q)) (p:=⟨c.g,2,none⟩) (by dsimp only;omega) (.int .i64 ((a1:Int)+1))
      have hE3:A0 (RepE (fun b=>W.heap.size+1≤b∧b≠g2) ((X2.drewN q).setCell ⟨c.g,2,none⟩ (.int .i64 ((a1:Int)+1))) e (eC op num nm A n cap pos)):=⟨repE_fars hEe.out fun b hb _ _=>Below.heap_setCell _ _ _ b (by dsimp only;omega)⟩
      generalize (X2.drewN q).setCell ⟨c.g,2,none⟩ (.int .i64 ((a1:Int)+1))=Y3 at F3 hv3 hr3 hE3 ⊢
      clear s2 f2 PS wa F2 hr2 hv2 hEe
      have hgY:=bL hv3
      have CN:=hR.out.c (F3.st hG) (fun a' d' e=>by cases e;exact ⟨by omega,q2⟩) ho2
      go_upto_region 18 with (first|(go_at_call 155;(with_reducible refine CN.mono ?_);rintro e' w6 ⟨hg6,⟨op2,num2,nm2,A2,n2,cap2,pos2,rfl,hE6⟩,hR6⟩))
      have hs6:=hg6.size
      have F4:=(F3.call hg6 hR6).alloc (.cells #[.int .i64 op2,.int .i64 num2,.string nm2,.slice A2 n2 cap2,.int .i64 pos2] 93)
      have hb6:=bA w6 (.cells #[.int .i64 op2,.int .i64 num2,.string nm2,.slice A2 n2 cap2,.int .i64 pos2] 93)
      have hv4:=xB (xC hv3 hg6 (by omega)) hb6
      have hr4:=xB (xC hr3 hg6 hgl) hb6
      have ht4:=xN w6 93 #[.int .i64 op2,.int .i64 num2,.string nm2,.slice A2 n2 cap2,.int .i64 pos2]
      have hE4:A0 (RepE (fun b=>W.heap.size+1≤b∧b≠g2) (w6.alloc (.cells #[.int .i64 op2,.int .i64 num2,.string nm2,.slice A2 n2 cap2,.int .i64 pos2] 93)) e (eC op num nm A n cap pos)):=⟨repE_fars hE3.out fun b hb hne hl=>(_root_.Go.heap_alloc_old w6 _ (by omega)).trans (hg6.block b hl (fun e=>by have:=Option.some.inj e;omega))⟩
      have hE5:A0 (∀y,o2.val=some y→RepE (fun b=>W.heap.size+1≤b∧b≠g2) (w6.alloc (.cells #[.int .i64 op2,.int .i64 num2,.string nm2,.slice A2 n2 cap2,.int .i64 pos2] 93)) y (eC op2 num2 nm2 A2 n2 cap2 pos2)):=⟨fun y hy=>RepE.keep (P:=fun b=>Y3.heap.size≤b) (fun b hb=>⟨by omega,by omega⟩) (fun b hb hl=>_root_.Go.heap_alloc_old w6 _ hl) y _ (hE6.out y hy)⟩
      generalize hw6:w6.alloc (.cells #[.int .i64 op2,.int .i64 num2,.string nm2,.slice A2 n2 cap2,.int .i64 pos2] 93)=Z at F4 hv4 hr4 ht4 hE4 hE5 ⊢
      generalize hg6s:w6.heap.size=g6 at ht4 hs6 ⊢
      clear hw6 CN hg6 hE6 hR6 hb6 F3 hv3 hr3 hE3
      replace hg6s:=A0.mk hg6s
      have z0:Z.cell? ⟨g2,0,none⟩=some (.int .i64 (op)):=bC hv4 0
      have z1:Z.cell? ⟨g2,1,none⟩=some (.int .i64 num):=bC hv4 1
      have z2:Z.cell? ⟨g2,2,none⟩=some (.string nm):=bC hv4 2
      have z3:Z.cell? ⟨g2,3,none⟩=some (.slice A n cap):=bC hv4 3
      have z4:Z.cell? ⟨g2,4,none⟩=some (.int .i64 (pos)):=bC hv4 4
      have b0:=bF hv4 0;have b1:=bF hv4 1;have b2:=bF hv4 2;have b3:=bF hv4 3;have b4:=bF hv4 4
      have t0:Z.cell? ⟨g6,0,none⟩=some (.int .i64 op2):=bC ht4 0
      have t1:Z.cell? ⟨g6,1,none⟩=some (.int .i64 num2):=bC ht4 1
      have t2:Z.cell? ⟨g6,2,none⟩=some (.string nm2):=bC ht4 2
      have t3:Z.cell? ⟨g6,3,none⟩=some (.slice A2 n2 cap2):=bC ht4 3
      have t4:Z.cell? ⟨g6,4,none⟩=some (.int .i64 pos2):=bC ht4 4
      have hgZ:=bL hv4
      go_upto_region 19 with fail
      have hZs:(((((Z.setCell ⟨g2,0,none⟩ (.int .i64 P)).setCell ⟨g2,1,none⟩ (.int .i64 0)).setCell ⟨g2,2,none⟩ (.string ⟨#[]⟩)).setCell ⟨g2,3,none⟩ (.slice (some ⟨Z.heap.size,0,none⟩) 2 2)).setCell ⟨g2,4,none⟩ (.int .i64 (ps c a1))).heap.size=Z.heap.size:=by simp [World.setCell]
      have hbB:=(Below.refl (((((Z.setCell ⟨g2,0,none⟩ (.int .i64 P)).setCell ⟨g2,1,none⟩ (.int .i64 0)).setCell ⟨g2,2,none⟩ (.string ⟨#[]⟩)).setCell ⟨g2,3,none⟩ (.slice (some ⟨Z.heap.size,0,none⟩) 2 2)).setCell ⟨g2,4,none⟩ (.int .i64 (ps c a1))).heap.size (((((Z.setCell ⟨g2,0,none⟩ (.int .i64 P)).setCell ⟨g2,1,none⟩ (.int .i64 0)).setCell ⟨g2,2,none⟩ (.string ⟨#[]⟩)).setCell ⟨g2,3,none⟩ (.slice (some ⟨Z.heap.size,0,none⟩) 2 2)).setCell ⟨g2,4,none⟩ (.int .i64 (ps c a1)))).alloc (Nat.le_refl _) (.cells #[.int .i64 op,.int .i64 num,.string nm,.slice A n cap,.int .i64 pos,.int .i64 op2,.int .i64 num2,.string nm2,.slice A2 n2 cap2,.int .i64 pos2] 93)
      have F5:=(fr_set5 F4 (g:=g2) (by omega) (.int .i64 P) (.int .i64 0) (.string ⟨#[]⟩) (.slice (some ⟨Z.heap.size,0,none⟩) 2 2) (.int .i64 (ps c a1))).below hbB
      have hv5:Bx _ g2 93 (E93 P 0 nN (some ⟨Z.heap.size,0,none⟩) 2 2 (ps c a1)):=xB (all93 (a:=.int .i64 P) (b:=.int .i64 0) (c:=.string ⟨#[]⟩) (d:=.slice (some ⟨Z.heap.size,0,none⟩) 2 2) (e:=.int .i64 (ps c a1)) hv4 rfl) hbB
      have hr5:=xB (Q5 (Q5 (Q5 (Q5 (Q5 hr4 (p:=⟨g2,0,none⟩) (by dsimp only;omega) (.int .i64 P)) (p:=⟨g2,1,none⟩) (by dsimp only;omega) (.int .i64 0)) (p:=⟨g2,2,none⟩) (by dsimp only;omega) (.string ⟨#[]⟩)) (p:=⟨g2,3,none⟩) (by dsimp only;omega) (.slice (some ⟨Z.heap.size,0,none⟩) 2 2)) (p:=⟨g2,4,none⟩) (by dsimp only;omega) (.int .i64 (ps c a1))) hbB
      have hE6:A0 (∀y,o2.val=some y→RepE (fun b=>W.heap.size+1≤b∧b≠g2) ((((((Z.setCell ⟨g2,0,none⟩ (.int .i64 P)).setCell ⟨g2,1,none⟩ (.int .i64 0)).setCell ⟨g2,2,none⟩ (.string ⟨#[]⟩)).setCell ⟨g2,3,none⟩ (.slice (some ⟨Z.heap.size,0,none⟩) 2 2)).setCell ⟨g2,4,none⟩ (.int .i64 (ps c a1))).alloc (.cells #[.int .i64 op,.int .i64 num,.string nm,.slice A n cap,.int .i64 pos,.int .i64 op2,.int .i64 num2,.string nm2,.slice A2 n2 cap2,.int .i64 pos2] 93)) (.mk P 0 nN [e,y] (ps c a1)) (eC P 0 nN (some ⟨Z.heap.size,0,none⟩) 2 2 (ps c a1))):=⟨fun y hy=>by
       have:=repE_two (apart5 hE4.out (.int .i64 P) (.int .i64 0) (.string ⟨#[]⟩) (.slice (some ⟨Z.heap.size,0,none⟩) 2 2) (.int .i64 (ps c a1))) (apart5 (hE5.out y hy) (.int .i64 P) (.int .i64 0) (.string ⟨#[]⟩) (.slice (some ⟨Z.heap.size,0,none⟩) 2 2) (.int .i64 (ps c a1))) (by rw [hZs];exact ⟨by omega,by omega⟩) #[.int .i64 op,.int .i64 num,.string nm,.slice A n cap,.int .i64 pos,.int .i64 op2,.int .i64 num2,.string nm2,.slice A2 n2 cap2,.int .i64 pos2] rfl P 0 nN (ps c a1)
       rw [hZs] at this
       exact this⟩
      generalize (((((Z.setCell ⟨g2,0,none⟩ (.int .i64 P)).setCell ⟨g2,1,none⟩ (.int .i64 0)).setCell ⟨g2,2,none⟩ (.string ⟨#[]⟩)).setCell ⟨g2,3,none⟩ (.slice (some ⟨Z.heap.size,0,none⟩) 2 2)).setCell ⟨g2,4,none⟩ (.int .i64 (ps c a1))).alloc (.cells #[.int .i64 op,.int .i64 num,.string nm,.slice A n cap,.int .i64 pos,.int .i64 op2,.int .i64 num2,.string nm2,.slice A2 n2 cap2,.int .i64 pos2] 93)=V at F5 hv5 hr5 hE6 ⊢
      clear z0 z1 z2 z3 z4 b0 b1 b2 b3 b4 t0 t1 t2 t3 t4 hbB hZs F4 hv4 hr4 ht4 hE4 hE5 hs6 hgZ
      generalize Z.heap.size=gz at hv5 hE6 ⊢
      cases once with
      | true =>
       have hfin:A0 (S.sta=o2.sta∧∀y,S.val=some y→∃e2,o2.val=some e2∧y=.mk P 0 nN [e,e2] (ps c a1)):=⟨by
        rw [←hSv.out]
        cases o2 with
        | bad p er=>exact ⟨rfl,fun y hy=>by cases hy⟩
        | ok e2 a2 d2=>exact ⟨rfl,fun y hy=>⟨e2,rfl,by cases hy;rfl⟩⟩⟩
       have z0:V.cell? ⟨g2,0,none⟩=some (.int .i64 (P)):=bC hv5 0
       have z1:V.cell? ⟨g2,1,none⟩=some (.int .i64 0):=bC hv5 1
       have z2:V.cell? ⟨g2,2,none⟩=some (.string nN):=bC hv5 2
       have z3:V.cell? ⟨g2,3,none⟩=some (.slice (some ⟨gz,0,none⟩) 2 2):=bC hv5 3
       have z4:V.cell? ⟨g2,4,none⟩=some (.int .i64 (ps c a1)):=bC hv5 4
       have x0:V.cell? ⟨W.heap.size,0,none⟩=some (.int .i64 0):=bC hr5 0;have y0:=bF hr5 0
       have x1:V.cell? ⟨W.heap.size,1,none⟩=some (.int .i64 0):=bC hr5 1;have y1:=bF hr5 1
       have x2:V.cell? ⟨W.heap.size,2,none⟩=some (.string ⟨#[]⟩):=bC hr5 2;have y2:=bF hr5 2
       have x3:V.cell? ⟨W.heap.size,3,none⟩=some (.slice none 0 0):=bC hr5 3;have y3:=bF hr5 3
       have x4:V.cell? ⟨W.heap.size,4,none⟩=some (.int .i64 0):=bC hr5 4;have y4:=bF hr5 4
       clear hSv ho2
       go_wp2
       exact fin93 hG rfl rfl rfl F5 hr5 rfl hfin.out.1 (fun y hy=>by
        obtain ⟨e2,h2,rfl⟩:=hfin.out.2 y hy
        exact RepE.keep (P:=fun b=>W.heap.size+1≤b∧b≠g2) (fun _ hb=>hb.1) (fun _ _ _=>rfl) _ _ (hE6.out e2 h2))
      | false =>
       have hdd:=F5.pb
       have hno:A0 (RkAt c W next r false g2 a0 S f V):=⟨⟨⟨o2.bind fun e2 a2 d2=>.ok (.mk P 0 nN [e,e2] (ps c a1)) a2 d2,P,0,nN,some ⟨gz,0,none⟩,2,2,ps c a1,by cases o2 <;> exact F5,hr5,hv5,fun y hy=>by
        cases o2 with
        | bad p er=>cases hy
        | ok e2 a2 d2=>cases hy;exact hE6.out e2 rfl,by rw [←hSv.out];cases o2 <;> rfl,fun e' a' d' he=>by
        cases o2 with
        | bad p er=>cases he
        | ok e2 a2 d2 =>
         cases he
         obtain ⟨r1,r2,r3⟩:=hF.out _ _ (by omega) q2 hd1 _ _ _ ho2.out
         exact ⟨by omega,by omega,by omega⟩⟩⟩⟩
       clear F5 hv5 hr5 hE6 hSv ho2 hdd
       go_wp2
       go_roundg f
       case rel=>exact hno.out
       case measure=>omega
def RUn (c:Ctx) (K:Nat) (S:Rd Ex) (a0:Nat):Prop:=∀W a d,RSt c W (.here a d)→a0≤a→0≤d→Calls Tryz.prog K #[c.me] W (RPost c W (repEo W.heap.size) (S a d))
theorem RUn.c {c:Ctx} {K:Nat} {S:Rd Ex} {a0:Nat} (h:RUn c K S a0) {W:World} {a:Nat} {d:Int} (hS:RSt c W (.here a d)) (ha:a0≤a) (h0:0≤d) {o:Out Ex} (ho:A0 (S a d=o)) :
  Calls Tryz.prog K #[c.me] W fun e W'=>W.grownBy W' (some c.g)∧(∃op num nm A n cap pos,e=.returned (.agg #[.int .i64 op,.int .i64 num,.string nm,.slice A n cap,.int .i64 pos])∧A0 (∀y,o.val=some y→RepE (fun b=>W.heap.size≤b) W' y (eC op num nm A n cap pos)))∧RSt c W' o.sta :=
 (h W a d hS ha h0).mono fun e w ⟨hg,⟨v,he,op,num,nm,A,n,cap,pos,hv,hy⟩,hR⟩=>by
  rw [ho.out] at hy hR
  exact ⟨hg,⟨op,num,nm,A,n,cap,pos,he.trans (congrArg _ hv),hy⟩,hR⟩
set_option maxHeartbeats 2000000 in
theorem rrank6_reads {c:Ctx} (hG:Good c) {un:Rd Ex} {a0:Nat} (hU:RUn c 168 un a0):RRank c 6 un a0:=by
 intro W s0 h hl
 have F:=(Fr.start h).alloc (.cells Z93 93)
 have hr:Bx (W.alloc (.cells Z93 93)) W.heap.size 93 Z93:=xN W 93 _
 have hsz:W.heap.size+1≤(W.alloc (.cells Z93 93)).heap.size:=by simp
 obtain ⟨o,ho⟩:∃o,A0 (s0.go un=o):=⟨_,⟨rfl⟩⟩
 rw [ho.out]
 have hgl:=F.gl
 replace hU:=A0.mk hU
 match s0,h,hl,F,ho with
 | .lost p er,h,hl,F,ho =>
  obtain ⟨he,a,d,hA⟩:=F.st hG
  have c5:=hA.c5
  have e1:(er==0)=false:=beq_eq_false_iff_ne.mpr he
  have ho2:A0 (o=.bad p er):=⟨ho.out.symm⟩
  clear hA hsz he ho
  rw [ho2.out]
  go_enter Tryz.func155,Tryz.ntmps155
  go_upto_region 1 with fail
  generalize W.alloc (.cells #[.int .i64 0,.int .i64 0,.string ⟨#[]⟩,.slice none 0 0,.int .i64 0] 93)=X at F hr c5 ⊢
  have x0:X.cell? ⟨W.heap.size,0,none⟩=some (.int .i64 0):=bC hr 0
  have x1:X.cell? ⟨W.heap.size,1,none⟩=some (.int .i64 0):=bC hr 1
  have x2:X.cell? ⟨W.heap.size,2,none⟩=some (.string ⟨#[]⟩):=bC hr 2
  have x3:X.cell? ⟨W.heap.size,3,none⟩=some (.slice none 0 0):=bC hr 3
  have x4:X.cell? ⟨W.heap.size,4,none⟩=some (.int .i64 0):=bC hr 4
  have y0:=bF hr 0
  have y1:=bF hr 1
  have y2:=bF hr 2
  have y3:=bF hr 3
  have y4:=bF hr 4
  go_wp2
  exact fin93 (S:=.bad p er) hG rfl rfl rfl F hr rfl rfl (fun y hy=>by cases hy)
 | .here a d,h,hl,F,ho =>
  obtain ⟨hl1,hl2⟩:=hl a d rfl
  have c5:=(F.st hG).1.c5
  have CN:=hU.out.c (F.st hG) hl1 hl2 ho
  clear h hl hU
  go_enter Tryz.func155,Tryz.ntmps155
  go_wp2_with (first|(go_at_call 168;(with_reducible refine CN.mono ?_);rintro e w3 ⟨hg,⟨op,num,nm,A,n,cap,pos,rfl,hE⟩,hR0⟩;(have hr2:=xC hr hg hgl;have x0:w3.cell? ⟨W.heap.size,0,none⟩=some (.int .i64 0):=bC hr2 0;have y0:=bF hr2 0;have x1:w3.cell? ⟨W.heap.size,1,none⟩=some (.int .i64 0):=bC hr2 1;have y1:=bF hr2 1;have x2:w3.cell? ⟨W.heap.size,2,none⟩=some (.string ⟨#[]⟩):=bC hr2 2;have y2:=bF hr2 2;have x3:w3.cell? ⟨W.heap.size,3,none⟩=some (.slice none 0 0):=bC hr2 3;have y3:=bF hr2 3;have x4:w3.cell? ⟨W.heap.size,4,none⟩=some (.int .i64 0):=bC hr2 4;have y4:=bF hr2 4)))
  exact fin93 hG rfl rfl rfl (F.call hg hR0) hr2 rfl rfl (fun y hy=>(hE.out y hy).far (Far.refl _ _) hsz)
set_option maxHeartbeats 8000000 in
theorem runary_neg {c:Ctx} (hG:Good c) {un:Rd Ex} {a0:Nat} (hF:Fine c un (a0+1)) (hU:RUn c 168 un (a0+1)) (K op:Int) (hK:(K=37∧op=4)∨(K=28∧op=22)) (W:World) (a:Nat) (d:Int) (h:RSt c W (.here a d)) (ha:a0≤a) (h0:0≤d) (hkd:kd c a=K) :
  Calls Tryz.prog 168 #[c.me] W (RPost c W (repEo W.heap.size) (negS c un op a d)):=by
 have hal:a<c.L.length:=by rcases hK with ⟨rfl,_⟩|⟨rfl,_⟩ <;> exact kL hkd (by omega)
 obtain ⟨S,hS⟩:∃S,A0 (negS c un op a d=S):=⟨_,⟨rfl⟩⟩
 rw [hS.out]
 replace hU:=A0.mk hU
 replace hF:=A0.mk hF
 have F0:=(Fr.start h).alloc (.cells Z93 93)
 have PS:=pC (F0.st hG).1
 have F1:=A0.mk (fun q=>(F0.drewN q).alloc (.cells (E93 0 0 nN none 0 0 (ps c a)) 93))
 have r1:∀q,Bx (((W.alloc (.cells Z93 93)).drewN q).alloc (.cells (E93 0 0 nN none 0 0 (ps c a)) 93)) W.heap.size 93 Z93:=fun q=>xB (X:=(W.alloc (.cells Z93 93)).drewN q) (xN W 93 _) (bA _ _)
 have v1:∀q,Bx (((W.alloc (.cells Z93 93)).drewN q).alloc (.cells (E93 0 0 nN none 0 0 (ps c a)) 93)) (W.heap.size+1) 93 (E93 0 0 nN none 0 0 (ps c a)):=fun q=>by
  have:=xN ((W.alloc (.cells Z93 93)).drewN q) 93 (E93 0 0 nN none 0 0 (ps c a))
  rwa [show ((W.alloc (.cells Z93 93)).drewN q).heap.size=W.heap.size+1 by simp] at this
 replace r1:=A0.mk r1
 replace v1:=A0.mk v1
 have hal2:=hG.hl
 have hll:=h.2.1
 have hd64:=h.2.2.2
 go_enter Tryz.func168,Tryz.ntmps168
 go_upto_region 2 with (first|(go_at_call 33;(with_reducible refine PS.mono ?_);rintro e w2 ⟨rfl,q,rfl⟩))
 have F:=F1.out q
 have hr:=r1.out q
 have hv:=v1.out q
 generalize ((W.alloc (.cells #[.int .i64 0,.int .i64 0,.string ⟨#[]⟩,.slice none 0 0,.int .i64 0] 93)).drewN q).alloc (.cells #[.int .i64 0,.int .i64 0,.string ⟨#[]⟩,.slice none 0 0,.int .i64 (ps c a)] 93)=X at F hr hv ⊢
 clear F0 F1 r1 v1 PS
 have hgl:=F.gl
 have hb0:Below X.heap.size X X:=Below.refl _ _
 have T1:=fun Y (hb:Below X.heap.size X Y)=>rI hG ((F.below hb).st hG).1 37 (by omega) ⟨#[45]⟩ rfl
 have T2:=fun Y (hb:Below X.heap.size X Y)=>rI hG ((F.below hb).st hG).1 28 (by omega) ⟨#[33]⟩ rfl
 rcases hK with ⟨rfl,rfl⟩|⟨rfl,rfl⟩
 ·simp only [hkd,decide_true] at T1
  clear T2
  replace hkd:=A0.mk hkd
  go_upto_region 7 with (first|(go_at_call 31;(with_reducible refine (T1 _ hb0).mono ?_);rintro e w3 ⟨rfl,hb1⟩;have hv1:=xB hv hb1;have z0:w3.cell? ⟨W.heap.size+1,0,none⟩=some (.int .i64 0):=bC hv1 0;have y0:=bF hv1 0))
  have F1:=(F.below hb1).set (p:=⟨W.heap.size+1,0,none⟩) (Nat.le_succ _) (.int .i64 4)
  have hr1:=Q5 (xB hr hb1) (p:=⟨W.heap.size+1,0,none⟩) (by dsimp only;omega) (.int .i64 4)
  replace hv1:Bx _ (W.heap.size+1) 93 (E93 4 0 nN none 0 0 (ps c a)):=bP hv1 0 (.int .i64 4) rfl
  generalize w3.setCell ⟨W.heap.size+1,0,none⟩ (.int .i64 4)=X1 at F1 hv1 hr1 ⊢
  clear z0 y0 T1 hb0 hb1 F hr hv
  have hsz1:=bL hv1
  by_cases h64:d=64
  ·have hS2:A0 (S=.bad (ps c a) 41):=⟨by rw [←hS.out];unfold negS deeperS;rw [if_pos h64];rfl⟩
   subst h64
   have DB:=rdeeper_bad hG (F1.st hG).1
   clear hS hU hF
   go_upto_region 9 with (first|(go_at_call 69;(with_reducible refine DB.mono ?_);rintro e w5 ⟨rfl,hR,hg⟩;have c5:=hR.c5))
   have F2:=F1.call (s':=.lost (ps c a) 41) hg ⟨by decide,a,_,hR⟩
   have hv2:=xC hv1 hg (by omega)
   have hr2:=xC hr1 hg hgl
   clear DB hR hg c5 F1 hv1 hr1
   have z0:w5.cell? ⟨W.heap.size+1,0,none⟩=some (.int .i64 4):=bC hv2 0
   have z1:w5.cell? ⟨W.heap.size+1,1,none⟩=some (.int .i64 0):=bC hv2 1
   have z2:w5.cell? ⟨W.heap.size+1,2,none⟩=some (.string nN):=bC hv2 2
   have z3:w5.cell? ⟨W.heap.size+1,3,none⟩=some (.slice none 0 0):=bC hv2 3
   have z4:w5.cell? ⟨W.heap.size+1,4,none⟩=some (.int .i64 (ps c a)):=bC hv2 4
   have x0:w5.cell? ⟨W.heap.size,0,none⟩=some (.int .i64 0):=bC hr2 0
   have x1:w5.cell? ⟨W.heap.size,1,none⟩=some (.int .i64 0):=bC hr2 1
   have x2:w5.cell? ⟨W.heap.size,2,none⟩=some (.string ⟨#[]⟩):=bC hr2 2
   have x3:w5.cell? ⟨W.heap.size,3,none⟩=some (.slice none 0 0):=bC hr2 3
   have x4:w5.cell? ⟨W.heap.size,4,none⟩=some (.int .i64 0):=bC hr2 4
   have y0:=bF hr2 0
   have y1:=bF hr2 1
   have y2:=bF hr2 2
   have y3:=bF hr2 3
   have y4:=bF hr2 4
   go_wp2
   rw [hS2.out]
   exact fin93 (S:=.bad (ps c a) 41) hG rfl rfl rfl F2 hr2 rfl rfl (fun y hy=>by cases hy)
  ·obtain ⟨o,ho⟩:∃o,A0 (un (a+1) (d+1)=o):=⟨_,⟨rfl⟩⟩
   have hS2:A0 ((o.bind fun e a2 d2=>.ok (.mk 4 0 nN [e] (ps c a)) a2 (d2 - 1))=S):=⟨by rw [←hS.out,←ho.out];unfold negS deeperS;rw [if_neg h64];rfl⟩
   have DO:=rdeeper_ok hG (F1.st hG).1 (by omega)
   clear hS
   go_upto_region 10 with (first|(go_at_call 69;(with_reducible refine DO.mono ?_);rintro e w5 ⟨rfl,hR,hg⟩;have c5:=hR.c5))
   have F2:=F1.call (s':=.here a (d+1)) hg ⟨hR,by omega,by omega,by omega⟩
   have hv2:=xC hv1 hg (by omega)
   have hr2:=xC hr1 hg hgl
   have c2:=hR.c2
   have f2:=hR.fz 2
   have hs5:=hg.size
   clear DO hR hg c5 F1 hv1 hr1
   have wa:IntKind.i64.wrap ((a:Int)+1)=(a:Int)+1:=IntWalk.i64_in _ (by omega)
   go_upto_region 11 with fail
   have F3:=F2.step hal
   have hv3:=Q5 hv2 (p:=⟨c.g,2,none⟩) (by dsimp only;omega) (.int .i64 ((a:Int)+1))
   have hr3:=Q5 hr2 (p:=⟨c.g,2,none⟩) (by dsimp only;omega) (.int .i64 ((a:Int)+1))
   generalize w5.setCell ⟨c.g,2,none⟩ (.int .i64 ((a:Int)+1))=X3 at F3 hv3 hr3 ⊢
   have hs3:=bL hv3
   clear F2 hv2 hr2 c2 f2 wa hs5 hsz1
   have CN:=hU.out.c (F3.st hG) (by omega) (by omega) ho
   go_upto_region 12 with (first|(go_at_call 168;(with_reducible refine CN.mono ?_);rintro e w6 ⟨hg6,⟨op2,num2,nm2,A2,n2,cap2,pos2,rfl,hE6⟩,hR6⟩;have hv4:=xC hv3 hg6 (by omega);have hr4:=xC hr3 hg6 hgl;have k3:w6.cell? ⟨W.heap.size+1,3,none⟩=some (.slice none 0 0):=bC hv4 3;have j3:=bF hv4 3;have k3':∀o,(w6.alloc o).cell? ⟨W.heap.size+1,3,none⟩=some (.slice none 0 0):=fun o=>bC (xB hv4 (bA _ o)) 3;have j3':∀o,(w6.alloc o).frozen? ⟨W.heap.size+1,3,none⟩=false:=fun o=>bF (xB hv4 (bA _ o)) 3))
   have hs6:=hg6.size
   have F4:=((F3.call hg6 hR6).alloc (.cells #[.int .i64 op2,.int .i64 num2,.string nm2,.slice A2 n2 cap2,.int .i64 pos2] 93)).set (p:=⟨W.heap.size+1,3,none⟩) (Nat.le_succ _) (.slice (some ⟨w6.heap.size,0,none⟩) 1 1)
   have hbB:=bA w6 (.cells #[.int .i64 op2,.int .i64 num2,.string nm2,.slice A2 n2 cap2,.int .i64 pos2] 93)
   have hv5:Bx _ (W.heap.size+1) 93 (E93 4 0 nN (some ⟨w6.heap.size,0,none⟩) 1 1 (ps c a)):=bP (xB hv4 hbB) 3 (.slice (some ⟨w6.heap.size,0,none⟩) 1 1) rfl
   have hr5:=Q5 (xB hr4 hbB) (p:=⟨W.heap.size+1,3,none⟩) (by dsimp only;omega) (.slice (some ⟨w6.heap.size,0,none⟩) 1 1)
   have hE5:A0 (∀y,o.val=some y→RepE (fun b=>W.heap.size+1≤b∧b≠W.heap.size+1) ((w6.alloc (.cells #[.int .i64 op2,.int .i64 num2,.string nm2,.slice A2 n2 cap2,.int .i64 pos2] 93)).setCell ⟨W.heap.size+1,3,none⟩ (.slice (some ⟨w6.heap.size,0,none⟩) 1 1)) (.mk 4 0 nN [y] (ps c a)) (eC 4 0 nN (some ⟨w6.heap.size,0,none⟩) 1 1 (ps c a))):=⟨fun y hy=>by
    have h1:RepE (fun b=>W.heap.size+1≤b∧b≠W.heap.size+1) w6 y (eC op2 num2 nm2 A2 n2 cap2 pos2):=RepE.keep (P:=fun b=>X3.heap.size≤b) (fun b hb=>⟨by omega,by omega⟩) (fun _ _ _=>rfl) y _ (hE6.out y hy)
    have h2:=repE_one h1 ⟨by omega,by omega⟩ #[.int .i64 op2,.int .i64 num2,.string nm2,.slice A2 n2 cap2,.int .i64 pos2] rfl 4 0 nN (ps c a)
    exact RepE.keep (P:=fun b=>W.heap.size+1≤b∧b≠W.heap.size+1) (fun _ hb=>hb) (fun b hb _=>Below.heap_setCell _ _ _ b (by have:=hb.2;dsimp only;omega)) _ _ h2⟩
   generalize (w6.alloc (.cells #[.int .i64 op2,.int .i64 num2,.string nm2,.slice A2 n2 cap2,.int .i64 pos2] 93)).setCell ⟨W.heap.size+1,3,none⟩ (.slice (some ⟨w6.heap.size,0,none⟩) 1 1)=V at F4 hv5 hr5 hE5 ⊢
   generalize w6.heap.size=g6 at hv5 hE5 ⊢
   clear CN hg6 hE6 hR6 k3 j3 k3' j3' hv4 hr4 hbB hs6 F3 hv3 hr3 hs3
   cases o with
   | bad p er =>
    have hS3:A0 (S=.bad p er):=⟨hS2.out.symm⟩
    obtain ⟨he,a',d',hb'⟩:=F4.pb
    have k3:=bC hb' 3
    have j3:=bF hb' 3
    clear hS2 ho hE5 hU hF
    go_upto_region 13 with fail
    have F5:Fr c W (V.setCell ⟨c.g,3,none⟩ (.int .i64 (wrap64 (d' - 1)))) (.lost p er):=⟨gP F4.fr _,F4.lies,F4.toks,F4.gl,he,a',wrap64 (d' - 1),bP hb' 3 _ rfl⟩
    have hv6:=Q5 hv5 (p:=⟨c.g,3,none⟩) (by dsimp only;omega) (.int .i64 (wrap64 (d' - 1)))
    have hr6:=Q5 hr5 (p:=⟨c.g,3,none⟩) (by dsimp only;omega) (.int .i64 (wrap64 (d' - 1)))
    generalize V.setCell ⟨c.g,3,none⟩ (.int .i64 (wrap64 (d' - 1)))=V2 at F5 hv6 hr6 ⊢
    clear k3 j3 F4 hv5 hr5 hb' he
    have z0:V2.cell? ⟨W.heap.size+1,0,none⟩=some (.int .i64 4):=bC hv6 0
    have z1:V2.cell? ⟨W.heap.size+1,1,none⟩=some (.int .i64 0):=bC hv6 1
    have z2:V2.cell? ⟨W.heap.size+1,2,none⟩=some (.string nN):=bC hv6 2
    have z3:V2.cell? ⟨W.heap.size+1,3,none⟩=some (.slice (some ⟨g6,0,none⟩) 1 1):=bC hv6 3
    have z4:V2.cell? ⟨W.heap.size+1,4,none⟩=some (.int .i64 (ps c a)):=bC hv6 4
    have x0:V2.cell? ⟨W.heap.size,0,none⟩=some (.int .i64 0):=bC hr6 0
    have x1:V2.cell? ⟨W.heap.size,1,none⟩=some (.int .i64 0):=bC hr6 1
    have x2:V2.cell? ⟨W.heap.size,2,none⟩=some (.string ⟨#[]⟩):=bC hr6 2
    have x3:V2.cell? ⟨W.heap.size,3,none⟩=some (.slice none 0 0):=bC hr6 3
    have x4:V2.cell? ⟨W.heap.size,4,none⟩=some (.int .i64 0):=bC hr6 4
    have y0:=bF hr6 0
    have y1:=bF hr6 1
    have y2:=bF hr6 2
    have y3:=bF hr6 3
    have y4:=bF hr6 4
    go_wp2
    rw [hS3.out]
    exact fin93 (S:=.bad p er) hG rfl rfl rfl F5 hr6 rfl rfl (fun y hy=>by cases hy)
   | ok e a2 d2 =>
    obtain ⟨r1,r2,r3⟩:=hF.out _ _ (by omega) (by omega) (by omega) _ _ _ ho.out
    subst r3
    have hS3:A0 (S=.ok (.mk 4 0 nN [e] (ps c a)) a2 d):=⟨by rw [←hS2.out];simp only [Out.bind];congr 1;omega⟩
    have hb':=F4.pb.1
    have k3:=bC hb' 3
    have j3:=bF hb' 3
    have wd:IntKind.i64.wrap (d+1 - 1)=d:=by rw [IntWalk.i64_in _ (by omega)];omega
    have hEe:=A0.mk (hE5.out e rfl)
    have F5:=F4.dep (d':=d) (by omega) hd64
    clear hS2 ho hE5 hb' hU hF
    go_upto_region 13 with fail
    have hv6:=Q5 hv5 (p:=⟨c.g,3,none⟩) (by dsimp only;omega) (.int .i64 d)
    have hr6:=Q5 hr5 (p:=⟨c.g,3,none⟩) (by dsimp only;omega) (.int .i64 d)
    have hEf:A0 (RepE (fun b=>W.heap.size+1≤b) (V.setCell ⟨c.g,3,none⟩ (.int .i64 d)) (.mk 4 0 nN [e] (ps c a)) (eC 4 0 nN (some ⟨g6,0,none⟩) 1 1 (ps c a))):=⟨RepE.keep (P:=fun b=>W.heap.size+1≤b∧b≠W.heap.size+1) (fun _ hb=>hb.1) (fun b hb _=>Below.heap_setCell _ _ _ b (by have:=hb.1;dsimp only;omega)) _ _ hEe.out⟩
    generalize V.setCell ⟨c.g,3,none⟩ (.int .i64 d)=V2 at F5 hv6 hr6 hEf ⊢
    clear k3 j3 F4 hv5 hr5 wd hEe
    have z0:V2.cell? ⟨W.heap.size+1,0,none⟩=some (.int .i64 4):=bC hv6 0
    have z1:V2.cell? ⟨W.heap.size+1,1,none⟩=some (.int .i64 0):=bC hv6 1
    have z2:V2.cell? ⟨W.heap.size+1,2,none⟩=some (.string nN):=bC hv6 2
    have z3:V2.cell? ⟨W.heap.size+1,3,none⟩=some (.slice (some ⟨g6,0,none⟩) 1 1):=bC hv6 3
    have z4:V2.cell? ⟨W.heap.size+1,4,none⟩=some (.int .i64 (ps c a)):=bC hv6 4
    have x0:V2.cell? ⟨W.heap.size,0,none⟩=some (.int .i64 0):=bC hr6 0
    have x1:V2.cell? ⟨W.heap.size,1,none⟩=some (.int .i64 0):=bC hr6 1
    have x2:V2.cell? ⟨W.heap.size,2,none⟩=some (.string ⟨#[]⟩):=bC hr6 2
    have x3:V2.cell? ⟨W.heap.size,3,none⟩=some (.slice none 0 0):=bC hr6 3
    have x4:V2.cell? ⟨W.heap.size,4,none⟩=some (.int .i64 0):=bC hr6 4
    have y0:=bF hr6 0
    have y1:=bF hr6 1
    have y2:=bF hr6 2
    have y3:=bF hr6 3
    have y4:=bF hr6 4
    go_wp2
    rw [hS3.out]
    exact fin93 (S:=.ok (.mk 4 0 nN [e] (ps c a)) a2 d) hG rfl rfl rfl F5 hr6 rfl rfl (fun y hy=>by cases hy;exact hEf.out)
 ·simp only [hkd,decide_true] at T2
  simp only [hkd] at T1
  replace hkd:=A0.mk hkd
  go_upto_region 7 with (first|(go_at_call 31;(with_reducible refine (T1 _ hb0).mono ?_);rintro e w3 ⟨rfl,hb1⟩)|(go_at_call 31;(with_reducible refine (T2 _ hb1).mono ?_);rintro e w4 ⟨rfl,hb2⟩;have hb2:=hb1.trans (hb2.mono hb1.size);have hv1:=xB hv hb2;have z0:w4.cell? ⟨W.heap.size+1,0,none⟩=some (.int .i64 0):=bC hv1 0;have y0:=bF hv1 0))
  have F1:=(F.below hb2).set (p:=⟨W.heap.size+1,0,none⟩) (Nat.le_succ _) (.int .i64 22)
  have hr1:=Q5 (xB hr hb2) (p:=⟨W.heap.size+1,0,none⟩) (by dsimp only;omega) (.int .i64 22)
  replace hv1:Bx _ (W.heap.size+1) 93 (E93 22 0 nN none 0 0 (ps c a)):=bP hv1 0 (.int .i64 22) rfl
  generalize w4.setCell ⟨W.heap.size+1,0,none⟩ (.int .i64 22)=X1 at F1 hv1 hr1 ⊢
  clear z0 y0 T1 T2 hb0 hb1 hb2 F hr hv
  have hsz1:=bL hv1
  by_cases h64:d=64
  ·have hS2:A0 (S=.bad (ps c a) 41):=⟨by rw [←hS.out];unfold negS deeperS;rw [if_pos h64];rfl⟩
   subst h64
   have DB:=rdeeper_bad hG (F1.st hG).1
   clear hS hU hF
   go_upto_region 9 with (first|(go_at_call 69;(with_reducible refine DB.mono ?_);rintro e w5 ⟨rfl,hR,hg⟩;have c5:=hR.c5))
   have F2:=F1.call (s':=.lost (ps c a) 41) hg ⟨by decide,a,_,hR⟩
   have hv2:=xC hv1 hg (by omega)
   have hr2:=xC hr1 hg hgl
   clear DB hR hg c5 F1 hv1 hr1
   have z0:w5.cell? ⟨W.heap.size+1,0,none⟩=some (.int .i64 22):=bC hv2 0
   have z1:w5.cell? ⟨W.heap.size+1,1,none⟩=some (.int .i64 0):=bC hv2 1
   have z2:w5.cell? ⟨W.heap.size+1,2,none⟩=some (.string nN):=bC hv2 2
   have z3:w5.cell? ⟨W.heap.size+1,3,none⟩=some (.slice none 0 0):=bC hv2 3
   have z4:w5.cell? ⟨W.heap.size+1,4,none⟩=some (.int .i64 (ps c a)):=bC hv2 4
   have x0:w5.cell? ⟨W.heap.size,0,none⟩=some (.int .i64 0):=bC hr2 0
   have x1:w5.cell? ⟨W.heap.size,1,none⟩=some (.int .i64 0):=bC hr2 1
   have x2:w5.cell? ⟨W.heap.size,2,none⟩=some (.string ⟨#[]⟩):=bC hr2 2
   have x3:w5.cell? ⟨W.heap.size,3,none⟩=some (.slice none 0 0):=bC hr2 3
   have x4:w5.cell? ⟨W.heap.size,4,none⟩=some (.int .i64 0):=bC hr2 4
   have y0:=bF hr2 0
   have y1:=bF hr2 1
   have y2:=bF hr2 2
   have y3:=bF hr2 3
   have y4:=bF hr2 4
   go_wp2
   rw [hS2.out]
   exact fin93 (S:=.bad (ps c a) 41) hG rfl rfl rfl F2 hr2 rfl rfl (fun y hy=>by cases hy)
  ·obtain ⟨o,ho⟩:∃o,A0 (un (a+1) (d+1)=o):=⟨_,⟨rfl⟩⟩
   have hS2:A0 ((o.bind fun e a2 d2=>.ok (.mk 22 0 nN [e] (ps c a)) a2 (d2 - 1))=S):=⟨by rw [←hS.out,←ho.out];unfold negS deeperS;rw [if_neg h64];rfl⟩
   have DO:=rdeeper_ok hG (F1.st hG).1 (by omega)
   clear hS
   go_upto_region 10 with (first|(go_at_call 69;(with_reducible refine DO.mono ?_);rintro e w5 ⟨rfl,hR,hg⟩;have c5:=hR.c5))
   have F2:=F1.call (s':=.here a (d+1)) hg ⟨hR,by omega,by omega,by omega⟩
   have hv2:=xC hv1 hg (by omega)
   have hr2:=xC hr1 hg hgl
   have c2:=hR.c2
   have f2:=hR.fz 2
   have hs5:=hg.size
   clear DO hR hg c5 F1 hv1 hr1
   have wa:IntKind.i64.wrap ((a:Int)+1)=(a:Int)+1:=IntWalk.i64_in _ (by omega)
   go_upto_region 11 with fail
   have F3:=F2.step hal
   have hv3:=Q5 hv2 (p:=⟨c.g,2,none⟩) (by dsimp only;omega) (.int .i64 ((a:Int)+1))
   have hr3:=Q5 hr2 (p:=⟨c.g,2,none⟩) (by dsimp only;omega) (.int .i64 ((a:Int)+1))
   generalize w5.setCell ⟨c.g,2,none⟩ (.int .i64 ((a:Int)+1))=X3 at F3 hv3 hr3 ⊢
   have hs3:=bL hv3
   clear F2 hv2 hr2 c2 f2 wa hs5 hsz1
   have CN:=hU.out.c (F3.st hG) (by omega) (by omega) ho
   go_upto_region 12 with (first|(go_at_call 168;(with_reducible refine CN.mono ?_);rintro e w6 ⟨hg6,⟨op2,num2,nm2,A2,n2,cap2,pos2,rfl,hE6⟩,hR6⟩;have hv4:=xC hv3 hg6 (by omega);have hr4:=xC hr3 hg6 hgl;have k3:w6.cell? ⟨W.heap.size+1,3,none⟩=some (.slice none 0 0):=bC hv4 3;have j3:=bF hv4 3;have k3':∀o,(w6.alloc o).cell? ⟨W.heap.size+1,3,none⟩=some (.slice none 0 0):=fun o=>bC (xB hv4 (bA _ o)) 3;have j3':∀o,(w6.alloc o).frozen? ⟨W.heap.size+1,3,none⟩=false:=fun o=>bF (xB hv4 (bA _ o)) 3))
   have hs6:=hg6.size
   have F4:=((F3.call hg6 hR6).alloc (.cells #[.int .i64 op2,.int .i64 num2,.string nm2,.slice A2 n2 cap2,.int .i64 pos2] 93)).set (p:=⟨W.heap.size+1,3,none⟩) (Nat.le_succ _) (.slice (some ⟨w6.heap.size,0,none⟩) 1 1)
   have hbB:=bA w6 (.cells #[.int .i64 op2,.int .i64 num2,.string nm2,.slice A2 n2 cap2,.int .i64 pos2] 93)
   have hv5:Bx _ (W.heap.size+1) 93 (E93 22 0 nN (some ⟨w6.heap.size,0,none⟩) 1 1 (ps c a)):=bP (xB hv4 hbB) 3 (.slice (some ⟨w6.heap.size,0,none⟩) 1 1) rfl
   have hr5:=Q5 (xB hr4 hbB) (p:=⟨W.heap.size+1,3,none⟩) (by dsimp only;omega) (.slice (some ⟨w6.heap.size,0,none⟩) 1 1)
   have hE5:A0 (∀y,o.val=some y→RepE (fun b=>W.heap.size+1≤b∧b≠W.heap.size+1) ((w6.alloc (.cells #[.int .i64 op2,.int .i64 num2,.string nm2,.slice A2 n2 cap2,.int .i64 pos2] 93)).setCell ⟨W.heap.size+1,3,none⟩ (.slice (some ⟨w6.heap.size,0,none⟩) 1 1)) (.mk 22 0 nN [y] (ps c a)) (eC 22 0 nN (some ⟨w6.heap.size,0,none⟩) 1 1 (ps c a))):=⟨fun y hy=>by
    have h1:RepE (fun b=>W.heap.size+1≤b∧b≠W.heap.size+1) w6 y (eC op2 num2 nm2 A2 n2 cap2 pos2):=RepE.keep (P:=fun b=>X3.heap.size≤b) (fun b hb=>⟨by omega,by omega⟩) (fun _ _ _=>rfl) y _ (hE6.out y hy)
    have h2:=repE_one h1 ⟨by omega,by omega⟩ #[.int .i64 op2,.int .i64 num2,.string nm2,.slice A2 n2 cap2,.int .i64 pos2] rfl 22 0 nN (ps c a)
    exact RepE.keep (P:=fun b=>W.heap.size+1≤b∧b≠W.heap.size+1) (fun _ hb=>hb) (fun b hb _=>Below.heap_setCell _ _ _ b (by have:=hb.2;dsimp only;omega)) _ _ h2⟩
   generalize (w6.alloc (.cells #[.int .i64 op2,.int .i64 num2,.string nm2,.slice A2 n2 cap2,.int .i64 pos2] 93)).setCell ⟨W.heap.size+1,3,none⟩ (.slice (some ⟨w6.heap.size,0,none⟩) 1 1)=V at F4 hv5 hr5 hE5 ⊢
   generalize w6.heap.size=g6 at hv5 hE5 ⊢
   clear CN hg6 hE6 hR6 k3 j3 k3' j3' hv4 hr4 hbB hs6 F3 hv3 hr3 hs3
   cases o with
   | bad p er =>
    have hS3:A0 (S=.bad p er):=⟨hS2.out.symm⟩
    obtain ⟨he,a',d',hb'⟩:=F4.pb
    have k3:=bC hb' 3
    have j3:=bF hb' 3
    clear hS2 ho hE5 hU hF
    go_upto_region 13 with fail
    have F5:Fr c W (V.setCell ⟨c.g,3,none⟩ (.int .i64 (wrap64 (d' - 1)))) (.lost p er):=⟨gP F4.fr _,F4.lies,F4.toks,F4.gl,he,a',wrap64 (d' - 1),bP hb' 3 _ rfl⟩
    have hv6:=Q5 hv5 (p:=⟨c.g,3,none⟩) (by dsimp only;omega) (.int .i64 (wrap64 (d' - 1)))
    have hr6:=Q5 hr5 (p:=⟨c.g,3,none⟩) (by dsimp only;omega) (.int .i64 (wrap64 (d' - 1)))
    generalize V.setCell ⟨c.g,3,none⟩ (.int .i64 (wrap64 (d' - 1)))=V2 at F5 hv6 hr6 ⊢
    clear k3 j3 F4 hv5 hr5 hb' he
    have z0:V2.cell? ⟨W.heap.size+1,0,none⟩=some (.int .i64 22):=bC hv6 0
    have z1:V2.cell? ⟨W.heap.size+1,1,none⟩=some (.int .i64 0):=bC hv6 1
    have z2:V2.cell? ⟨W.heap.size+1,2,none⟩=some (.string nN):=bC hv6 2
    have z3:V2.cell? ⟨W.heap.size+1,3,none⟩=some (.slice (some ⟨g6,0,none⟩) 1 1):=bC hv6 3
    have z4:V2.cell? ⟨W.heap.size+1,4,none⟩=some (.int .i64 (ps c a)):=bC hv6 4
    have x0:V2.cell? ⟨W.heap.size,0,none⟩=some (.int .i64 0):=bC hr6 0
    have x1:V2.cell? ⟨W.heap.size,1,none⟩=some (.int .i64 0):=bC hr6 1
    have x2:V2.cell? ⟨W.heap.size,2,none⟩=some (.string ⟨#[]⟩):=bC hr6 2
    have x3:V2.cell? ⟨W.heap.size,3,none⟩=some (.slice none 0 0):=bC hr6 3
    have x4:V2.cell? ⟨W.heap.size,4,none⟩=some (.int .i64 0):=bC hr6 4
    have y0:=bF hr6 0
    have y1:=bF hr6 1
    have y2:=bF hr6 2
    have y3:=bF hr6 3
    have y4:=bF hr6 4
    go_wp2
    rw [hS3.out]
    exact fin93 (S:=.bad p er) hG rfl rfl rfl F5 hr6 rfl rfl (fun y hy=>by cases hy)
   | ok e a2 d2 =>
    obtain ⟨r1,r2,r3⟩:=hF.out _ _ (by omega) (by omega) (by omega) _ _ _ ho.out
    subst r3
    have hS3:A0 (S=.ok (.mk 22 0 nN [e] (ps c a)) a2 d):=⟨by rw [←hS2.out];simp only [Out.bind];congr 1;omega⟩
    have hb':=F4.pb.1
    have k3:=bC hb' 3
    have j3:=bF hb' 3
    have wd:IntKind.i64.wrap (d+1 - 1)=d:=by rw [IntWalk.i64_in _ (by omega)];omega
    have hEe:=A0.mk (hE5.out e rfl)
    have F5:=F4.dep (d':=d) (by omega) hd64
    clear hS2 ho hE5 hb' hU hF
    go_upto_region 13 with fail
    have hv6:=Q5 hv5 (p:=⟨c.g,3,none⟩) (by dsimp only;omega) (.int .i64 d)
    have hr6:=Q5 hr5 (p:=⟨c.g,3,none⟩) (by dsimp only;omega) (.int .i64 d)
    have hEf:A0 (RepE (fun b=>W.heap.size+1≤b) (V.setCell ⟨c.g,3,none⟩ (.int .i64 d)) (.mk 22 0 nN [e] (ps c a)) (eC 22 0 nN (some ⟨g6,0,none⟩) 1 1 (ps c a))):=⟨RepE.keep (P:=fun b=>W.heap.size+1≤b∧b≠W.heap.size+1) (fun _ hb=>hb.1) (fun b hb _=>Below.heap_setCell _ _ _ b (by have:=hb.1;dsimp only;omega)) _ _ hEe.out⟩
    generalize V.setCell ⟨c.g,3,none⟩ (.int .i64 d)=V2 at F5 hv6 hr6 hEf ⊢
    clear k3 j3 F4 hv5 hr5 wd hEe
    have z0:V2.cell? ⟨W.heap.size+1,0,none⟩=some (.int .i64 22):=bC hv6 0
    have z1:V2.cell? ⟨W.heap.size+1,1,none⟩=some (.int .i64 0):=bC hv6 1
    have z2:V2.cell? ⟨W.heap.size+1,2,none⟩=some (.string nN):=bC hv6 2
    have z3:V2.cell? ⟨W.heap.size+1,3,none⟩=some (.slice (some ⟨g6,0,none⟩) 1 1):=bC hv6 3
    have z4:V2.cell? ⟨W.heap.size+1,4,none⟩=some (.int .i64 (ps c a)):=bC hv6 4
    have x0:V2.cell? ⟨W.heap.size,0,none⟩=some (.int .i64 0):=bC hr6 0
    have x1:V2.cell? ⟨W.heap.size,1,none⟩=some (.int .i64 0):=bC hr6 1
    have x2:V2.cell? ⟨W.heap.size,2,none⟩=some (.string ⟨#[]⟩):=bC hr6 2
    have x3:V2.cell? ⟨W.heap.size,3,none⟩=some (.slice none 0 0):=bC hr6 3
    have x4:V2.cell? ⟨W.heap.size,4,none⟩=some (.int .i64 0):=bC hr6 4
    have y0:=bF hr6 0
    have y1:=bF hr6 1
    have y2:=bF hr6 2
    have y3:=bF hr6 3
    have y4:=bF hr6 4
    go_wp2
    rw [hS3.out]
    exact fin93 (S:=.ok (.mk 22 0 nN [e] (ps c a)) a2 d) hG rfl rfl rfl F5 hr6 rfl rfl (fun y hy=>by cases hy;exact hEf.out)
set_option maxHeartbeats 2000000 in
theorem runary_other {c:Ctx} (hG:Good c) {pr:Rd Ex} {a0:Nat} (hP:RUn c 177 pr a0) (W:World) (a:Nat) (d:Int) (h:RSt c W (.here a d)) (ha:a0≤a) (h0:0≤d) (n1:kd c a≠37) (n2:kd c a≠28) :
  Calls Tryz.prog 168 #[c.me] W (RPost c W (repEo W.heap.size) (pr a d)):=by
 obtain ⟨o,ho⟩:∃o,A0 (pr a d=o):=⟨_,⟨rfl⟩⟩
 rw [ho.out]
 replace hP:=A0.mk hP
 have F0:=(Fr.start h).alloc (.cells Z93 93)
 have PS:=pC (F0.st hG).1
 have F1:=A0.mk (fun q=>(F0.drewN q).alloc (.cells (E93 0 0 nN none 0 0 (ps c a)) 93))
 have r1:∀q,Bx (((W.alloc (.cells Z93 93)).drewN q).alloc (.cells (E93 0 0 nN none 0 0 (ps c a)) 93)) W.heap.size 93 Z93:=fun q=>xB (X:=(W.alloc (.cells Z93 93)).drewN q) (xN W 93 _) (bA _ _)
 have v1:∀q,Bx (((W.alloc (.cells Z93 93)).drewN q).alloc (.cells (E93 0 0 nN none 0 0 (ps c a)) 93)) (W.heap.size+1) 93 (E93 0 0 nN none 0 0 (ps c a)):=fun q=>by
  have:=xN ((W.alloc (.cells Z93 93)).drewN q) 93 (E93 0 0 nN none 0 0 (ps c a))
  rwa [show ((W.alloc (.cells Z93 93)).drewN q).heap.size=W.heap.size+1 by simp] at this
 replace r1:=A0.mk r1
 replace v1:=A0.mk v1
 have hal2:=hG.hl
 have hll:=h.2.1
 have hd64:=h.2.2.2
 go_enter Tryz.func168,Tryz.ntmps168
 go_upto_region 2 with (first|(go_at_call 33;(with_reducible refine PS.mono ?_);rintro e w2 ⟨rfl,q,rfl⟩))
 have F:=F1.out q
 have hr:=r1.out q
 have hv:=v1.out q
 generalize ((W.alloc (.cells #[.int .i64 0,.int .i64 0,.string ⟨#[]⟩,.slice none 0 0,.int .i64 0] 93)).drewN q).alloc (.cells #[.int .i64 0,.int .i64 0,.string ⟨#[]⟩,.slice none 0 0,.int .i64 (ps c a)] 93)=X at F hr hv ⊢
 clear F0 F1 r1 v1 PS
 have hgl:=F.gl
 have hb0:Below X.heap.size X X:=Below.refl _ _
 have T1:=fun Y (hb:Below X.heap.size X Y)=>rI hG ((F.below hb).st hG).1 37 (by omega) ⟨#[45]⟩ rfl
 have T2:=fun Y (hb:Below X.heap.size X Y)=>rI hG ((F.below hb).st hG).1 28 (by omega) ⟨#[33]⟩ rfl
 have CN:=fun Y (hb:Below X.heap.size X Y)=>hP.out.c ((F.below hb).st hG) ha h0 ho
 simp only [n1,decide_false] at T1
 simp only [n2,decide_false] at T2
 have hXs:=bL hv
 clear n1 n2 hP
 go_wp2_with (first|(go_at_call 31;(with_reducible refine (T1 _ hb0).mono ?_);rintro e w3 ⟨rfl,hb1⟩)|(go_at_call 31;(with_reducible refine (T2 _ hb1).mono ?_);rintro e w4 ⟨rfl,hb2⟩;have hb2:=hb1.trans (hb2.mono hb1.size))|(go_at_call 177;(with_reducible refine (CN _ hb2).mono ?_);rintro e w5 ⟨hg,⟨op,num,nm,A,n,cap,pos,rfl,hE⟩,hR0⟩;(have hr2:=xC (xB hr hb2) hg hgl;have x0:w5.cell? ⟨W.heap.size,0,none⟩=some (.int .i64 0):=bC hr2 0;have y0:=bF hr2 0;have x1:w5.cell? ⟨W.heap.size,1,none⟩=some (.int .i64 0):=bC hr2 1;have y1:=bF hr2 1;have x2:w5.cell? ⟨W.heap.size,2,none⟩=some (.string ⟨#[]⟩):=bC hr2 2;have y2:=bF hr2 2;have x3:w5.cell? ⟨W.heap.size,3,none⟩=some (.slice none 0 0):=bC hr2 3;have y3:=bF hr2 3;have x4:w5.cell? ⟨W.heap.size,4,none⟩=some (.int .i64 0):=bC hr2 4;have y4:=bF hr2 4)))
 exact fin93 hG rfl rfl rfl ((F.below hb2).call hg hR0) hr2 rfl rfl (fun y hy=>(hE.out y hy).far (Far.refl _ _) (by have:=hb2.size;omega))
def OptE:Rel (Option Ex):=fun P W x v=>∃op num nm A n cap pos,v=eC op num nm A n cap pos∧∀y,x=some y→RepE P W y v
theorem optE_keeps:Keeps OptE:=fun ⟨op,num,nm,A,n,cap,pos,e,h⟩ hq hk=>⟨op,num,nm,A,n,cap,pos,e,fun y hy=>repE_keeps (h y hy) hq hk⟩
theorem optE_lt {w:World} {P:Nat→Prop} {x:Option Ex} {v:List Value} (h:OptE P w x v):OptE (fun b=>P b∧b<w.heap.size) w x v:=by
 obtain ⟨op,num,nm,A,n,cap,pos,e,h⟩:=h
 exact ⟨op,num,nm,A,n,cap,pos,e,fun y hy=>RepE.lt _ _ (h y hy)⟩
theorem optE_into {lo lo':Nat} {w:World} {x:Option Ex} {u:Value} {op num:Int} {nm:ByteArray} {A:Option Addr} {n cap:Nat} {pos:Int} (h:∀y,x=some y→RepE (fun b=>lo'≤b) w y (eC op num nm A n cap pos)) (hl:lo≤lo') (hu:∀k,u.ownBlock=some k→k<lo') (o:Obj) :
  OptE (fun b=>lo≤b∧u.ownBlock≠some b) (w.alloc o) x (eC op num nm A n cap pos):=⟨op,num,nm,A,n,cap,pos,rfl,fun y hy=>repE_into (h y hy) hl hu o⟩
theorem all2_map {α β γ:Type} {R:β→γ→Prop} {f:α→β}:∀{xs:List α} {ys:List γ},All2 R (xs.map f) ys→All2 (fun x y=>R (f x) y) xs ys
 | [],[],_=>trivial
 | _ :: _,_ :: _,h=>⟨h.1,all2_map h.2⟩
 | [],_ :: _,h=>h
 | _ :: _,[],h=>h
theorem map_all2 {α β γ:Type} {R:β→γ→Prop} {f:α→β}:∀{xs:List α} {ys:List γ},All2 (fun x y=>R (f x) y) xs ys→All2 R (xs.map f) ys
 | [],[],_=>trivial
 | _ :: _,_ :: _,h=>⟨h.1,map_all2 h.2⟩
 | [],_ :: _,h=>h
 | _ :: _,[],h=>h
theorem acc_unopt {lo:Nat} {W:World} {v:Value} {l:List Ex} (h:Acc OptE 93 5 lo W v (l.map some)):Acc RepE 93 5 lo W v l:=by
 obtain ⟨vs,hown,hall⟩:=h.ex
 rw [List.length_map] at hown
 exact ⟨vs,hown,(all2_map hall).imp fun x y ⟨_,_,_,_,_,_,_,_,hr⟩=>hr x rfl⟩
theorem repE_cells {P:Nat→Prop} {W:World} {x:Ex} {v:List Value} (h:RepE P W x v):∃op num nm A n cap pos,v=eC op num nm A n cap pos:=by
 cases x with
 | mk op num name args pos =>
  rw [RepE] at h
  obtain ⟨A,cap,vs,e,_⟩:=h
  exact ⟨_,_,_,_,_,_,_,e⟩
theorem acc_opt {lo:Nat} {W:World} {v:Value} {l:List Ex} (h:Acc RepE 93 5 lo W v l):Acc OptE 93 5 lo W v (l.map some):=by
 obtain ⟨vs,hown,hall⟩:=h.ex
 refine ⟨vs,by rw [List.length_map];exact hown,map_all2 (hall.imp fun x y hr=>?_)⟩
 obtain ⟨op,num,nm,A,n,cap,pos,e⟩:=repE_cells hr
 exact ⟨op,num,nm,A,n,cap,pos,e,fun z hz=>by cases hz;exact hr⟩
section
variable {c:Ctx} {W X Y:World} {s:Sta}
theorem Fr.row (h:Fr c W X s) {o:Option Nat} (hg:X.grownBy Y o) (ho:∀k,o=some k→W.heap.size≤k):Fr c W Y s where
 fr:=⟨hg.os.trans h.fr.os,hg.tape.trans h.fr.tape,hg.output.trans h.fr.output,Nat.le_trans h.fr.size hg.size,fun k hk hne=>(hg.block k (Nat.lt_of_lt_of_le hk h.fr.size) (fun e=>by have:=ho k e.symm;omega)).trans (h.fr.block k hk hne)⟩
 lies:=h.lies
 toks:=h.toks
 gl:=h.gl
 pb:=h.pb.keep (hg.block _ h.pb.gl (fun e=>by have:=ho _ e.symm;have:=h.gl;omega))
theorem bx_row {g:Nat} {t:TypeId} {cs:Array Value} (h:Bx X g t cs) {o:Option Nat} (hg:X.grownBy Y o) (ho:∀k,o=some k→g<k):Bx Y g t cs:=(hg.block g (bL h) (fun e=>by have:=ho _ e.symm;omega)).trans h
end
structure RgAt (c:Ctx) (W:World) (ex:Rd Ex) (o pos:Int) (m i:Nat) (R:Out (List Ex)) (a0:Nat) (X:World):Prop where
 ex:∃(q:Out (List Ex)) (A:Option Addr) (k cap:Nat),Fr c W X q.sta∧Bx X W.heap.size 93 Z93∧Bx X (W.heap.size+1) 93 (E93 o 0 nN A k cap pos)∧(∀l,q.val=some l→Acc RepE 93 5 (W.heap.size+2) X (.slice A k cap) l∧l.length=i)∧(q.bind fun l a d=>argsS c ex m i l a d)=R∧q.sta.lim a0
structure RsAt (c:Ctx) (W:World) (ex:Rd Ex) (o pos:Int) (m i:Nat) (l:List Ex) (A:Option Addr) (k cap:Nat) (R:Out (List Ex)) (a0:Nat) (X:World):Prop where
 ex:∃q1:Out Unit,Fr c W X q1.sta∧Bx X W.heap.size 93 Z93∧Bx X (W.heap.size+1) 93 (E93 o 0 nN A k cap pos)∧Acc RepE 93 5 (W.heap.size+2) X (.slice A k cap) l∧(q1.bind fun _ a d=>(ex a d).bind fun e a2 d2=>argsS c ex m (i+1) (l++[e]) a2 d2)=R∧q1.sta.lim a0
theorem argsS_step {c:Ctx} {ex:Rd Ex} {m i:Nat} {l:List Ex} {a:Nat} {d:Int}:argsS c ex (m+1) i l a d=(if i=0 then .ok () a d else tkS c 36 a d:Out Unit).bind fun _ a1 d1=>(ex a1 d1).bind fun e a2 d2=>argsS c ex m (i+1) (l++[e]) a2 d2:=rfl
def Opt {α:Type} (R:Rel α):Rel (Option α):=fun P W x v=>∀y,x=some y→R P W y v
theorem opt_keeps {α:Type} {R:Rel α} (hK:Keeps R):Keeps (Opt R):=fun h hq hk y hy=>hK (h y hy) hq hk
theorem optS_keeps:Keeps (Opt RepS):=opt_keeps (R:=RepS) repS_keeps
theorem optB_keeps:Keeps (Opt RepB):=opt_keeps (R:=RepB) rK
theorem Acc.toOpt {α:Type} {R:Rel α} {ty size lo:Nat} {W:World} {v:Value} {l:List α} (h:Acc R ty size lo W v l):Acc (Opt R) ty size lo W v (l.map some):=by
 obtain ⟨vs,hown,hall⟩:=h.ex
 exact ⟨vs,by rw [List.length_map];exact hown,map_all2 (hall.imp fun x y hr z hz=>by cases hz;exact hr)⟩
theorem Acc.ofOpt {α:Type} {R:Rel α} {ty size lo:Nat} {W:World} {v:Value} {l:List α} (h:Acc (Opt R) ty size lo W v (l.map some)):Acc R ty size lo W v l:=by
 obtain ⟨vs,hown,hall⟩:=h.ex
 rw [List.length_map] at hown
 exact ⟨vs,hown,(all2_map hall).imp fun x y hr=>hr x rfl⟩
abbrev repSo (lo:Nat):World→Value→Option Stm→Prop:=fun W v x=>∃op name read A1 n1 c1 A2 n2 c2 A3 n3 c3 pos,v=.agg #[.int .i64 op,.string name,.string read,.slice A1 n1 c1,.slice A2 n2 c2,.slice A3 n3 c3,.int .i64 pos]∧A0 (∀y,x=some y→RepS (fun b=>lo≤b) W y (stCells op name read A1 n1 c1 A2 n2 c2 A3 n3 c3 pos))
abbrev repBo (lo:Nat):World→Value→Option (List Stm)→Prop:=fun W v x=>∃A n cap,v=.slice A n cap∧A0 (∀y,x=some y→RepB (fun b=>lo≤b) W y [.slice A n cap])
def RSt1 (c:Ctx) (K:Nat) (S:Rd Stm) (a0:Nat):Prop:=∀W a d,RSt c W (.here a d)→a0≤a→0≤d→Calls Tryz.prog K #[c.me] W (RPost c W (repSo W.heap.size) (S a d))
theorem RSt1.c {c:Ctx} {K:Nat} {S:Rd Stm} {a0:Nat} (h:RSt1 c K S a0) {W:World} {a:Nat} {d:Int} (hS:RSt c W (.here a d)) (ha:a0≤a) (h0:0≤d) {o:Out Stm} (ho:A0 (S a d=o)) :
  Calls Tryz.prog K #[c.me] W fun e W'=>W.grownBy W' (some c.g)∧(∃op name read A1 n1 c1 A2 n2 c2 A3 n3 c3 pos,e=.returned (.agg #[.int .i64 op,.string name,.string read,.slice A1 n1 c1,.slice A2 n2 c2,.slice A3 n3 c3,.int .i64 pos])∧A0 (∀y,o.val=some y→RepS (fun b=>W.heap.size≤b) W' y (stCells op name read A1 n1 c1 A2 n2 c2 A3 n3 c3 pos)))∧RSt c W' o.sta :=
 (h W a d hS ha h0).mono fun e w ⟨hg,⟨v,he,op,name,read,A1,n1,c1,A2,n2,c2,A3,n3,c3,pos,hv,hy⟩,hR⟩=>by
  rw [ho.out] at hy hR
  exact ⟨hg,⟨op,name,read,A1,n1,c1,A2,n2,c2,A3,n3,c3,pos,he.trans (congrArg _ hv),hy⟩,hR⟩
def RBlk (c:Ctx) (S:Rd (List Stm)) (a0:Nat):Prop:=∀W s0,RSt c W s0→s0.lim a0→Calls Tryz.prog 35 #[c.me] W (RPost c W (repBo W.heap.size) (s0.go S))
theorem RBlk.c {c:Ctx} {S:Rd (List Stm)} {a0:Nat} (h:RBlk c S a0) {W:World} {s0:Sta} (hS:RSt c W s0) (hl:s0.lim a0) {o:Out (List Stm)} (ho:A0 (s0.go S=o)) :
  Calls Tryz.prog 35 #[c.me] W fun e W'=>W.grownBy W' (some c.g)∧(∃A n cap,e=.returned (.slice A n cap)∧A0 (∀y,o.val=some y→RepB (fun b=>W.heap.size≤b) W' y [.slice A n cap]))∧RSt c W' o.sta :=
 (h W s0 hS hl).mono fun e w ⟨hg,⟨v,he,A,n,cap,hv,hy⟩,hR⟩=>by
  rw [ho.out] at hy hR
  exact ⟨hg,⟨A,n,cap,he.trans (congrArg _ hv),hy⟩,hR⟩
structure BgAt (c:Ctx) (W:World) (st:Rd Stm) (R:Out (List Stm)) (a0:Nat) (f:Nat) (v:Value) (X:World):Prop where
 ex:∃(q:Out (List Stm)) (A:Option Addr) (k cap:Nat),v=.slice A k cap∧Fr c W X q.sta∧(∀l,q.val=some l→Acc RepS 107 7 W.heap.size X v l)∧(q.bind fun l a d=>bl c st f l a d)=R∧q.sta.lim a0∧(∀l a d,q=.ok l a d→c.L.length+1≤f+a∧l.length≤a)
theorem optS_into {lo lo':Nat} {w:World} {x:Option Stm} {v:List Value} {u:Value} (h:∀y,x=some y→RepS (fun b=>lo'≤b) w y v) (hl:lo≤lo') (hu:∀k,u.ownBlock=some k→k<lo') (o:Obj):Opt RepS (fun b=>lo≤b∧u.ownBlock≠some b) (w.alloc o) x v:=fun y hy=>repS_into (h y hy) hl hu o
theorem optS_lt {w:World} {P:Nat→Prop} {x:Option Stm} {v:List Value} (h:Opt RepS P w x v):Opt RepS (fun b=>P b∧b<w.heap.size) w x v:=fun y hy=>repS_lt (h y hy)
set_option maxHeartbeats 8000000 in
theorem rblock_reads {c:Ctx} (hG:Good c) {st:Rd Stm} {a0:Nat} (hF:Fine c st (a0+1)) (hR:RSt1 c 67 st (a0+1)):RBlk c (blockS c st) a0:=by
 intro W s0 h hl
 have F:=Fr.start h
 have hgl:=F.gl
 obtain ⟨S,hS⟩:∃S,A0 (s0.go (blockS c st)=S):=⟨_,⟨rfl⟩⟩
 rw [hS.out]
 replace hR:=A0.mk hR
 replace hF:=A0.mk hF
 obtain ⟨o0,ho0⟩:∃o,A0 (s0.go (tkS c 50)=o):=⟨_,⟨rfl⟩⟩
 have CN:=tC hG h 50 (by omega) ⟨#[123]⟩ rfl ho0
 have hl0:=tk_open_lim (by omega) hl ho0
 obtain ⟨R,hRs⟩:∃R,A0 ((o0.bind fun _ a1 d1=>bl c st (c.L.length+1 - a1) [] a1 d1)=R):=⟨_,⟨rfl⟩⟩
 have hSp:A0 (S=R.bind fun l a2 d2=>(tkS c 52 a2 d2).bind fun _ a3 d3=>.ok l a3 d3):=⟨by
  rw [←hS.out,←hRs.out,←ho0.out]
  cases s0 with
  | lost p er=>rfl
  | here a d =>
   simp only [Sta.go]
   unfold blockS
   simp only [tk_bind,bind_bind]⟩
 have hinfo:(Tryz.prog.info? 107).map (fun i=>(i.zero,i.size,i.bytes))=some (some (.agg Z7),7,120):=by kernel_rfl
 obtain ⟨i0,hi,hz0,hz1,hz2⟩:=info_parts hinfo
 clear hinfo hS hl h
 go_enter Tryz.func35,Tryz.ntmps35
 go_upto_block 0 with (first|(go_at_call 36;(with_reducible refine CN.mono ?_);rintro e w2 ⟨hg,rfl,hR1⟩))
 replace F:=F.call hg hR1
 obtain ⟨G0,hG0⟩:∃G0,A0 (G0=match o0 with | .ok _ a1 _=>c.L.length+1 - a1 | .bad _ _=>0):=⟨_,⟨rfl⟩⟩
 have hA:A0 (BgAt c W st R (a0+1) G0 (.slice none 0 0) w2):=⟨⟨o0.bind fun _ a1 d1=>.ok [] a1 d1,none,0,0,rfl,by cases o0 <;> exact F,fun l hl=>by
  cases o0 with
  | bad p er=>cases hl
  | ok x a1 d1=>cases hl;exact Acc.nil _,by
  rw [←hRs.out,hG0.out]
  cases o0 <;> rfl,by
  cases o0 with
  | bad p er=>intro a' d' e;cases e
  | ok x a1 d1=>exact hl0,fun l a d e=>by
  cases o0 with
  | bad p er=>cases e
  | ok x a1 d1 =>
   cases e
   have:=F.pb.2.1
   have:=hG0.out
   simp only at this
   exact ⟨by omega,by simp⟩⟩⟩
 clear CN hg hR1 F ho0 hl0 hRs hG0
 go_wp2
 go_loopg [3] G0 (fun f v X=>BgAt c W st R (a0+1) f v X)
 case atStart=>exact hA.out
 case round =>
  obtain ⟨q,Av,nv,cv,rfl,F,hAc,hsp,hlim,hfu⟩:=hrel.ex
  clear hA hrel
  replace hsp:=A0.mk hsp
  replace hAc:=A0.mk hAc
  replace hlim:=A0.mk hlim
  replace hfu:=A0.mk hfu
  by_cases hgo:∃l a1 d1,q=.ok l a1 d1∧kd c a1≠52
  ·obtain ⟨l,a1,d1,rfl,hk⟩:=hgo
   obtain ⟨f1,f2⟩:=hfu.out _ _ _ rfl
   obtain ⟨q1,q2⟩:=hlim.out a1 d1 rfl
   have hll:=F.pb.2.1
   have hd64:=F.pb.2.2.2
   have hal2:=hG.hl
   obtain ⟨f,rfl⟩:∃f,gk=f+1:=⟨gk - 1,by omega⟩
   have c5:wr.cell? ⟨c.g,5,none⟩=some (.int .i64 0):=(F.st hG).1.c5
   have IS:=rI hG (F.st hG).1 52 (by omega) ⟨#[125]⟩ rfl
   rw [decide_eq_false hk] at IS
   obtain ⟨o,ho⟩:∃o,A0 (st a1 d1=o):=⟨_,⟨rfl⟩⟩
   have hsp2:A0 ((o.bind fun s a2 d2=>bl c st f (l++[s]) a2 d2)=R):=⟨by rw [←hsp.out,←ho.out];simp only [Out.bind.eq_1];rw [bl,if_neg hk]⟩
   have CN:=fun Y (hb:Below wr.heap.size wr Y)=>hR.out.c ((F.below hb).st hG) q1 q2 ho
   have hAl:=A0.mk (hAc.out l rfl)
   have hlv:∀k,(Value.slice Av nv cv).ownBlock=some k→W.heap.size≤k∧k<wr.heap.size:=hAl.out.lt
   replace hlv:=A0.mk hlv
   have hsz:=A0.mk F.fr.size
   replace f2:=A0.mk f2
   clear hk hAc hsp hlim hfu
   go_upto_region 4 with (first|(go_at_call 31;(with_reducible refine IS.mono ?_);rintro e w3 ⟨rfl,hb⟩))
   have F3:=F.below hb
   have hA3:=A0.mk (hAl.out.farS (W':=w3) ⟨hb.size,fun b _ hl=>hb.block b hl⟩)
   have hs3:=hb.size
   go_wp2_with (first
    | (go_at_call 67;(with_reducible refine (CN _ hb).mono ?_);rintro e1 w1 ⟨hg,⟨op,name,read,A1,n1,c1,A2,n2,c2,A3,n3,c3,pos,rfl,hE⟩,hR1⟩;(have hgs:=hg.size;have hA1:=A0.mk ((hA3.out.farS (Far.ofGrown hg hgl)).toOpt)))
    | (at_builtin;refine wpList_append_acc (R:=Opt RepS) optS_keeps rfl (.tmp 16) (.tmp 19) 25 rfl W.heap.size 107 i0 (.agg Z7) 7 120 Tryz.underlying25 hi hz0 hz1 hz2 rfl (by decide) (.slice Av nv cv) (l.map some) rfl (Acc.far (R:=Opt RepS) optS_keeps hA1.out ((Far.refl _ _).alloc _)) ⟨w1.heap.size,0,none⟩ 1 o.val (stCells op name read A1 n1 c1 A2 n2 c2 A3 n3 c3 pos) rfl rfl (oA _ _ _ rfl) (one7 _ _ _ _ _ _ _ _ _ _ _ _ _) (optS_into hE.out (by have:=hsz.out;omega) (fun k hk=>by have:=(hlv.out k hk).2;omega) _) optS_lt (by have:=f2.out;rw [List.length_map];unfold maxLen;omega) (by have:=f2.out;rw [List.length_map];omega) (by have:=hsz.out;simp;omega) ?_;intro v3 w4 hA4 hg4;(obtain ⟨A6,n6,c6,rfl⟩:=hA4.form)))
   have Fe:=((F3.call hg hR1).alloc (.cells (E107 op name read (.slice A1 n1 c1) (.slice A2 n2 c2) (.slice A3 n3 c3) pos) 107)).row hg4 (fun k hk=>(hlv.out k hk).1)
   have hno:A0 (BgAt c W st R (a0+1) f (.slice A6 n6 c6) w4):=⟨⟨o.bind fun s a2 d2=>.ok (l++[s]) a2 d2,A6,n6,c6,rfl,by cases o <;> exact Fe,fun l' hl'=>by
    cases o with
    | bad p er=>cases hl'
    | ok y a2 d2 =>
     cases hl'
     have hA5:Acc (Opt RepS) 107 7 W.heap.size w4 (.slice A6 n6 c6) ((l++[y]).map some):=by rw [List.map_append];exact hA4
     exact hA5.ofOpt,by rw [←hsp2.out];cases o <;> rfl,by
    intro a' d' e
    cases o with
    | bad p er=>cases e
    | ok y a2 d2 =>
     cases e
     obtain ⟨r1,r2,r3⟩:=hF.out _ _ q1 q2 hd64 _ _ _ ho.out
     exact ⟨by omega,by omega⟩,fun l' a' d' e=>by
    cases o with
    | bad p er=>cases e
    | ok y a2 d2 =>
     cases e
     obtain ⟨r1,r2,r3⟩:=hF.out _ _ q1 q2 hd64 _ _ _ ho.out
     have:=f2.out
     exact ⟨by omega,by simp;omega⟩⟩⟩
   clear Fe hA4 hg4 hA1 hE hg hR1 hA3 F3 F hAl hsp2
   go_wp2
   go_roundg f
   case rel=>exact hno.out
   case measure=>omega
  ·have hRq:A0 (R=q):=⟨by
    rw [←hsp.out]
    cases q with
    | bad p er=>rfl
    | ok l a1 d1 =>
     have hk:kd c a1=52:=Classical.byContradiction fun hk=>hgo ⟨l,a1,d1,rfl,hk⟩
     obtain ⟨f1,_⟩:=hfu.out _ _ _ rfl
     have:=F.pb.2.1
     obtain ⟨f,rfl⟩:∃f,gk=f+1:=⟨gk - 1,by omega⟩
     simp only [Out.bind]
     rw [bl,if_pos hk]⟩
   have hse:(∃er,wr.cell? ⟨c.g,5,none⟩=some (.int .i64 er)∧((er==0)=false∨er=0∧q.sta.sees c 52=true)):=by
    cases q with
    | bad p er =>
     obtain ⟨he,a',d',hb'⟩:=F.pb
     exact ⟨er,bC hb' 5,.inl (beq_eq_false_iff_ne.mpr he)⟩
    | ok l a1 d1=>exact ⟨0,(F.st hG).1.c5,.inr ⟨rfl,decide_eq_true (Classical.byContradiction fun hk=>hgo ⟨l,a1,d1,rfl,hk⟩)⟩⟩
   obtain ⟨er,c5,hex⟩:=hse
   obtain ⟨o3,ho3⟩:∃o,A0 (q.sta.go (tkS c 52)=o):=⟨_,⟨rfl⟩⟩
   have CN:=fun Y (hb:Below wr.heap.size wr Y)=>tC hG ((F.below hb).st hG) 52 (by omega) ⟨#[125]⟩ rfl ho3
   have IS:=ris_call hG (F.st hG) 52 (by omega) ⟨#[125]⟩ rfl
   have hfin:A0 (S.sta=o3.sta∧∀y,S.val=some y→q.val=some y):=⟨by
    have e3:=ho3.out
    rw [hSp.out,hRq.out]
    cases q with
    | bad p er=>simp only [Out.sta,Sta.go] at e3;subst e3;exact ⟨rfl,fun y hy=>by cases hy⟩
    | ok l a1 d1 =>
     simp only [Out.sta,Sta.go] at e3
     simp only [Out.bind]
     rw [e3]
     cases o3 with
     | bad p er=>exact ⟨rfl,fun y hy=>by cases hy⟩
     | ok x a2 d2=>exact ⟨rfl,fun y hy=>hy⟩⟩
   have hb0:Below wr.heap.size wr wr:=Below.refl _ _
   clear hgo hsp hSp hlim hfu ho3
   rcases hex with he | ⟨rfl,hs⟩
   ·clear IS
    go_wp2_with (first|(go_at_call 36;(with_reducible refine (CN _ hb0).mono ?_);rintro e w13 ⟨hg,rfl,hR1⟩))
    go_ret
    refine ((F.below hb0).call hg hR1).end hG hfin.out.1 ⟨_,_,_,rfl,⟨fun y hy=>((hAc.out y (hfin.out.2 y hy)).farS (Far.ofGrown hg hgl)).block⟩⟩
   ·rw [hs] at IS
    go_wp2_with (first|(go_at_call 31;(with_reducible refine IS.mono ?_);rintro e w12 ⟨rfl,hb⟩)|(go_at_call 36;(with_reducible refine (CN _ hb).mono ?_);rintro e w13 ⟨hg,rfl,hR1⟩))
    go_ret
    refine ((F.below hb).call hg hR1).end hG hfin.out.1 ⟨_,_,_,rfl,⟨fun y hy=>(((hAc.out y (hfin.out.2 y hy)).farS (W':=w12) ⟨hb.size,fun b _ hl=>hb.block b hl⟩).farS (Far.ofGrown hg hgl)).block⟩⟩
abbrev set7 (X:World) (g:Nat) (u0 u1 u2 u3 u4 u5 u6:Value):World :=
 ((((((X.setCell ⟨g,0,none⟩ u0).setCell ⟨g,1,none⟩ u1).setCell ⟨g,2,none⟩ u2).setCell ⟨g,3,none⟩ u3).setCell ⟨g,4,none⟩ u4).setCell ⟨g,5,none⟩ u5).setCell ⟨g,6,none⟩ u6
theorem all107 {X:World} {g:Nat} {u0 u1 u2 u3 u4 u5 u6:Value} {cs:Array Value} (h:Bx X g 107 cs) (hs:cs.size=7):Bx (set7 X g u0 u1 u2 u3 u4 u5 u6) g 107 #[u0,u1,u2,u3,u4,u5,u6]:=by
 obtain ⟨l⟩:=cs
 match l,hs with
 | [r0,r1,r2,r3,r4,r5,r6],_ =>
  have g0:=bP h 0 u0 (cs':=#[u0,r1,r2,r3,r4,r5,r6]) rfl
  have g1:=bP g0 1 u1 (cs':=#[u0,u1,r2,r3,r4,r5,r6]) rfl
  have g2:=bP g1 2 u2 (cs':=#[u0,u1,u2,r3,r4,r5,r6]) rfl
  have g3:=bP g2 3 u3 (cs':=#[u0,u1,u2,u3,r4,r5,r6]) rfl
  have g4:=bP g3 4 u4 (cs':=#[u0,u1,u2,u3,u4,r5,r6]) rfl
  have g5:=bP g4 5 u5 (cs':=#[u0,u1,u2,u3,u4,u5,r6]) rfl
  exact bP g5 6 u6 rfl
theorem fr_set7 {c:Ctx} {W X:World} {s:Sta} (h:Fr c W X s) {g:Nat} (hg:W.heap.size≤g) (u0 u1 u2 u3 u4 u5 u6:Value):Fr c W (set7 X g u0 u1 u2 u3 u4 u5 u6) s :=
 ((((((h.set (p:=⟨g,0,none⟩) hg u0).set (p:=⟨g,1,none⟩) hg u1).set (p:=⟨g,2,none⟩) hg u2).set (p:=⟨g,3,none⟩) hg u3).set (p:=⟨g,4,none⟩) hg u4).set (p:=⟨g,5,none⟩) hg u5).set (p:=⟨g,6,none⟩) hg u6
theorem fin107 {c:Ctx} (hG:Good c) {W X:World} {s:Sta} {fn:Func} {p:Tmp} {g:Nat} (hr:fn.results=#[.cell p 107]) {a:Act} (hp:a.tmps.getD p undef=.pointer (some ⟨g,0,none⟩)) (hd:a.defers=[]) (F:Fr c W X s) (hg:W.heap.size≤g) (hg2:g<W.heap.size+2) {cs:Array Value} (h:Bx X g 107 cs) (hs:cs.size=7) {S:Out Stm}
  {op:Int} {name read:ByteArray} {A1:Option Addr} {n1 c1:Nat} {A2:Option Addr} {n2 c2:Nat} {A3:Option Addr} {n3 c3:Nat} {pos:Int} (hst:S.sta=s) (hE:∀y,S.val=some y→RepS (fun b=>W.heap.size+2≤b) X y (stCells op name read A1 n1 c1 A2 n2 c2 A3 n3 c3 pos)) :
  bodyPost Tryz.prog fn (RPost c W (repSo W.heap.size) S) .ret a (set7 X g (.int .i64 op) (.string name) (.string read) (.slice A1 n1 c1) (.slice A2 n2 c2) (.slice A3 n3 c3) (.int .i64 pos)) :=
 bodyPost_ret (res_c hr _ _ g 107 _ (0,0) _ hp (all107 h hs) Tryz.underlying107 rfl (by kernel_rfl)) hd
  ((fr_set7 F hg _ _ _ _ _ _ _).end hG hst ⟨_,_,_,_,_,_,_,_,_,_,_,_,_,rfl,⟨fun y hy=>(hE y hy).far (far7 (lo:=W.heap.size+2) X hg2 _ _ _ _ _ _ _) (by omega)⟩⟩)
theorem tk_lim {c:Ctx} {K:Int} (hK:1≤K) (hn:K≠32∧K≠48∧K≠50∧K≠33∧K≠49∧K≠52) {s0:Sta} {a0:Nat} (hl:s0.lim a0) {o:Out Unit} (ho:A0 (s0.go (tkS c K)=o)):o.sta.lim a0:=by
 intro a d e
 cases s0 with
 | lost p er=>rw [←ho.out] at e;cases e
 | here a1 d1 =>
  obtain ⟨h1,h2⟩:=hl _ _ rfl
  have h:=ho.out
  simp only [Sta.go] at h
  cases o with
  | bad p er=>cases e
  | ok x a2 d2 =>
   cases e
   obtain ⟨t,a3,d3,h3,h4⟩:=bO h
   cases h4
   obtain ⟨e1,_,e2⟩:=wF hK hn h3
   exact ⟨by omega,by omega⟩
theorem idx_lim {c:Ctx} {ex:Rd Ex} {a0 a:Nat} {d:Int} (hF:Fine c ex (a0+1)) (ha:a0≤a) (h0:0≤d) (h1:d≤64) {o0 o2:Out Unit} {o1:Out Ex} (ho0:A0 ((Sta.here (a+1) d).go (tkS c 48)=o0)) (ho1:A0 (o0.sta.go ex=o1)) (ho2:A0 (o1.sta.go (tkS c 49)=o2)):o2.sta.lim (a0+1):=by
 intro a' d' e
 have e0:=ho0.out;have e1:=ho1.out;have e2:=ho2.out
 simp only [Sta.go] at e0
 cases o0 with
 | bad p er=>simp only [Out.sta,Sta.go] at e1;subst e1;simp only [Out.sta,Sta.go] at e2;subst e2;cases e
 | ok x a1 d1 =>
  obtain ⟨t,a9,d9,g1,g2⟩:=bO e0
  cases g2
  obtain ⟨r1,r2,r3,r4⟩:=want_open (by omega) g1
  simp only [Out.sta,Sta.go] at e1
  cases o1 with
  | bad p er=>simp only [Out.sta,Sta.go] at e2;subst e2;cases e
  | ok y a2 d2 =>
   obtain ⟨s1,s2,s3⟩:=hF _ _ (by omega) (by omega) (by omega) _ _ _ e1
   simp only [Out.sta,Sta.go] at e2
   cases o2 with
   | bad p er=>cases e
   | ok z a3 d3 =>
    cases e
    obtain ⟨t,a9,d9,g1,g2⟩:=bO e2
    cases g2
    obtain ⟨u1,u2,u3⟩:=want_shut (by omega) g1
    exact ⟨by omega,by omega⟩
set_option maxHeartbeats 8000000 in
theorem rst_call {c:Ctx} (hG:Good c) {a0:Nat} (W:World) (a:Nat) (d:Int) (h:RSt c W (.here a d)) (ha:a0≤a) (h0:0≤d) (hkd:kd c a=5) :
  Calls Tryz.prog 67 #[c.me] W (RPost c W (repSo W.heap.size) (callStS c a d)):=by
 obtain ⟨S,hS⟩:∃S,A0 (callStS c a d=S):=⟨_,⟨rfl⟩⟩
 rw [hS.out]
 have hal:=kL hkd (by omega)
 have hSp:A0 (S=(nS c (a+1) d).bind fun s a1 d1=>(tkS c 41 a1 d1).bind fun _ a2 d2=>.ok (.mk 7 s nN [] [] [] (ps c a)) a2 d2):=⟨by
  rw [←hS.out]
  unfold callStS
  simp only [tk_bind]⟩
 have F0:=(Fr.start h).alloc (.cells Z7 107)
 have PS:=pC (F0.st hG).1
 have F1:=A0.mk (fun q=>(F0.drewN q).alloc (.cells (P7 (ps c a)) 107))
 have r1:∀q,Bx (((W.alloc (.cells Z7 107)).drewN q).alloc (.cells (P7 (ps c a)) 107)) W.heap.size 107 Z7:=fun q=>xB (X:=(W.alloc (.cells Z7 107)).drewN q) (xN W 107 _) (bA _ _)
 have v1:∀q,Bx (((W.alloc (.cells Z7 107)).drewN q).alloc (.cells (P7 (ps c a)) 107)) (W.heap.size+1) 107 (P7 (ps c a)):=fun q=>by
  have:=xN ((W.alloc (.cells Z7 107)).drewN q) 107 (P7 (ps c a))
  rwa [show ((W.alloc (.cells Z7 107)).drewN q).heap.size=W.heap.size+1 by simp] at this
 replace r1:=A0.mk r1
 replace v1:=A0.mk v1
 have hal2:=hG.hl
 have hll:=h.2.1
 have hd64:=h.2.2.2
 have wa:IntKind.i64.wrap ((a:Int)+1)=(a:Int)+1:=IntWalk.i64_in _ (by omega)
 go_enter Tryz.func67,Tryz.ntmps67
 go_upto_region 2 with (first|(go_at_call 33;(with_reducible refine PS.mono ?_);rintro e w2 ⟨rfl,q,rfl⟩))
 have F:=F1.out q
 have hr:=r1.out q
 have hv:=v1.out q
 generalize ((W.alloc (.cells Z7 107)).drewN q).alloc (.cells (P7 (ps c a)) 107)=X at F hr hv ⊢
 clear F0 F1 r1 v1 PS
 have hgl:=F.gl
 have hb0:Below X.heap.size X X:=Below.refl _ _
 have T0:=fun Y (hb:Below X.heap.size X Y)=>rI hG ((F.below hb).st hG).1 1 (by omega) ⟨#[110,97,109,101]⟩ rfl
 simp only [show decide (kd c a=1)=false from decide_eq_false (by omega)] at T0
 have T1:=fun Y (hb:Below X.heap.size X Y)=>rI hG ((F.below hb).st hG).1 11 (by omega) ⟨#[105,102]⟩ rfl
 simp only [show decide (kd c a=11)=false from decide_eq_false (by omega)] at T1
 have T2:=fun Y (hb:Below X.heap.size X Y)=>rI hG ((F.below hb).st hG).1 27 (by omega) ⟨#[119,104,105,108,101]⟩ rfl
 simp only [show decide (kd c a=27)=false from decide_eq_false (by omega)] at T2
 have T3:=fun Y (hb:Below X.heap.size X Y)=>rI hG ((F.below hb).st hG).1 24 (by omega) ⟨#[115,119,105,116,99,104]⟩ rfl
 simp only [show decide (kd c a=24)=false from decide_eq_false (by omega)] at T3
 have T4:=fun Y (hb:Below X.heap.size X Y)=>rI hG ((F.below hb).st hG).1 5 (by omega) ⟨#[99,97,108,108]⟩ rfl
 simp only [show decide (kd c a=5)=true from decide_eq_true hkd] at T4
 clear hS hkd
 go_upto_region 16 with (first|(go_at_call 31;(with_reducible refine (T0 _ hb0).mono ?_);rintro e w3 ⟨rfl,hb1⟩;replace hb1:=hb0.trans (hb1.mono hb0.size))|(go_at_call 31;(with_reducible refine (T1 _ hb1).mono ?_);rintro e w4 ⟨rfl,hb2⟩;replace hb2:=hb1.trans (hb2.mono hb1.size))|(go_at_call 31;(with_reducible refine (T2 _ hb2).mono ?_);rintro e w5 ⟨rfl,hb3⟩;replace hb3:=hb2.trans (hb3.mono hb2.size))|(go_at_call 31;(with_reducible refine (T3 _ hb3).mono ?_);rintro e w6 ⟨rfl,hb4⟩;replace hb4:=hb3.trans (hb4.mono hb3.size))|(go_at_call 31;(with_reducible refine (T4 _ hb4).mono ?_);rintro e w7 ⟨rfl,hb5⟩;replace hb5:=hb4.trans (hb5.mono hb4.size);have k2:=((F.below hb5).st hG).1.c2;have j2:=((F.below hb5).st hG).1.fz 2))
 clear k2 j2
 replace F:=F.below hb5
 replace hv:=xB hv hb5
 replace hr:=xB hr hb5
 clear T0 T1 T2 T3 T4 hb5 hb4 hb3 hb2 hb1 hb0
 replace F:=F.step hal
 replace hv:=Q5 hv (p:=⟨c.g,2,none⟩) (by dsimp only;omega) (.int .i64 ((a:Int)+1))
 replace hr:=Q5 hr (p:=⟨c.g,2,none⟩) (by dsimp only;omega) (.int .i64 ((a:Int)+1))
 generalize w7.setCell ⟨c.g,2,none⟩ (.int .i64 ((a:Int)+1))=X11 at F hv hr ⊢
 have z0:X11.cell? ⟨W.heap.size+1,0,none⟩=some (.int .i64 0):=bC hv 0
 have y0:=bF hv 0
 go_upto_region 17 with fail
 clear z0 y0
 replace F:=F.set (p:=⟨W.heap.size+1,0,none⟩) (by dsimp only;omega) (.int .i64 7)
 replace hv:Bx _ (W.heap.size+1) 107 #[.int .i64 7,.string ⟨#[]⟩,.string ⟨#[]⟩,.slice none 0 0,.slice none 0 0,.slice none 0 0,.int .i64 (ps c a)]:=bP hv 0 (.int .i64 7) rfl
 replace hr:=Q5 hr (p:=⟨W.heap.size+1,0,none⟩) (by dsimp only;omega) (.int .i64 7)
 generalize X11.setCell ⟨W.heap.size+1,0,none⟩ (.int .i64 7)=X12 at F hv hr ⊢
 obtain ⟨o0,ho0⟩:∃o,A0 (((Sta.here (a+1) d)).go (nS c)=o):=⟨_,⟨rfl⟩⟩
 have CN:=rname_c hG (F.st hG) ho0
 go_upto_region 24 with (first|(go_at_call 34;(with_reducible refine CN.mono ?_);rintro e X13 ⟨hg,⟨nm0,rfl,h0⟩,hR1⟩;have hv2:=xC hv hg (by omega);have z0:X13.cell? ⟨W.heap.size+1,1,none⟩=some (.string ⟨#[]⟩):=bC hv2 1;have y0:=bF hv2 1))
 replace F:=F.call hg hR1
 replace hv:=xC hv hg (by omega)
 replace hr:=xC hr hg (by omega)
 clear CN hg hR1 hv2 z0 y0
 replace F:=F.set (p:=⟨W.heap.size+1,1,none⟩) (by dsimp only;omega) (.string nm0)
 replace hv:Bx _ (W.heap.size+1) 107 #[.int .i64 7,.string nm0,.string ⟨#[]⟩,.slice none 0 0,.slice none 0 0,.slice none 0 0,.int .i64 (ps c a)]:=bP hv 1 (.string nm0) rfl
 replace hr:=Q5 hr (p:=⟨W.heap.size+1,1,none⟩) (by dsimp only;omega) (.string nm0)
 generalize X13.setCell ⟨W.heap.size+1,1,none⟩ (.string nm0)=X14 at F hv hr ⊢
 obtain ⟨o1,ho1⟩:∃o,A0 ((o0.sta).go (tkS c 41)=o):=⟨_,⟨rfl⟩⟩
 have CN:=tC hG (F.st hG) 41 (by omega) ⟨#[59]⟩ rfl ho1
 go_upto_region 25 with (first|(go_at_call 36;(with_reducible refine CN.mono ?_);rintro e X15 ⟨hg,rfl,hR1⟩))
 replace F:=F.call hg hR1
 replace hv:=xC hv hg (by omega)
 replace hr:=xC hr hg (by omega)
 clear CN hg hR1
 have hfin:A0 (S.sta=o1.sta∧∀y,S.val=some y→y=.mk 7 nm0 nN [] [] [] (ps c a)):=by
  have g0:=ho0.out
  have g1:=ho1.out
  refine ⟨?_⟩
  rw [hSp.out]
  simp only [Out.sta,Sta.go] at g0
  rw [g0]
  cases o0 with
  | bad p er =>
   simp only [Out.sta,Sta.go] at g1;subst g1
   exact ⟨rfl,fun y hy=>by cases hy⟩
  | ok x0 a0' d0' =>
   simp only [Out.bind]
   simp only [Out.sta,Sta.go] at g1
   rw [g1]
   cases o1 with
   | bad p er =>
    exact ⟨rfl,fun y hy=>by cases hy⟩
   | ok x1 a1' d1' =>
    obtain rfl:=(h0.out _ rfl:x0=nm0)
    exact ⟨rfl,fun y hy=>by cases hy;rfl⟩
 have z0:X15.cell? ⟨W.heap.size+1,0,none⟩=some (.int .i64 7):=bC hv 0
 have x0:X15.cell? ⟨W.heap.size,0,none⟩=some (.int .i64 0):=bC hr 0;have y0:=bF hr 0
 have z1:X15.cell? ⟨W.heap.size+1,1,none⟩=some (.string nm0):=bC hv 1
 have x1:X15.cell? ⟨W.heap.size,1,none⟩=some (.string ⟨#[]⟩):=bC hr 1;have y1:=bF hr 1
 have z2:X15.cell? ⟨W.heap.size+1,2,none⟩=some (.string ⟨#[]⟩):=bC hv 2
 have x2:X15.cell? ⟨W.heap.size,2,none⟩=some (.string ⟨#[]⟩):=bC hr 2;have y2:=bF hr 2
 have z3:X15.cell? ⟨W.heap.size+1,3,none⟩=some (.slice none 0 0):=bC hv 3
 have x3:X15.cell? ⟨W.heap.size,3,none⟩=some (.slice none 0 0):=bC hr 3;have y3:=bF hr 3
 have z4:X15.cell? ⟨W.heap.size+1,4,none⟩=some (.slice none 0 0):=bC hv 4
 have x4:X15.cell? ⟨W.heap.size,4,none⟩=some (.slice none 0 0):=bC hr 4;have y4:=bF hr 4
 have z5:X15.cell? ⟨W.heap.size+1,5,none⟩=some (.slice none 0 0):=bC hv 5
 have x5:X15.cell? ⟨W.heap.size,5,none⟩=some (.slice none 0 0):=bC hr 5;have y5:=bF hr 5
 have z6:X15.cell? ⟨W.heap.size+1,6,none⟩=some (.int .i64 (ps c a)):=bC hv 6
 have x6:X15.cell? ⟨W.heap.size,6,none⟩=some (.int .i64 0):=bC hr 6;have y6:=bF hr 6
 clear hSp ho0 ho1
 go_wp2
 exact fin107 hG rfl rfl rfl F (by omega) (by omega) hr rfl hfin.out.1 (fun y hy=>by
  obtain rfl:=hfin.out.2 y hy
  exact Acc.stmt (Acc.nil _) (Acc.nil _) (Acc.nil _) 7 nm0 nN (ps c a))
set_option maxHeartbeats 8000000 in
theorem rst_assert {c:Ctx} (hG:Good c) {ex:Rd Ex} {a0:Nat} (hR:RReads c 107 (paS c ex) a0) (W:World) (a:Nat) (d:Int) (h:RSt c W (.here a d)) (ha:a0≤a) (h0:0≤d) (hkd:kd c a=4) :
  Calls Tryz.prog 67 #[c.me] W (RPost c W (repSo W.heap.size) (assertS c ex a d)):=by
 obtain ⟨S,hS⟩:∃S,A0 (assertS c ex a d=S):=⟨_,⟨rfl⟩⟩
 rw [hS.out]
 have hal:=kL hkd (by omega)
 replace hR:=A0.mk hR
 have hSp:A0 (S=(paS c ex (a+1) d).bind fun e a1 d1=>(tkS c 41 a1 d1).bind fun _ a2 d2=>.ok (.mk 8 nN nN [e] [] [] (ps c a)) a2 d2):=⟨by
  rw [←hS.out]
  unfold assertS
  simp only [tk_bind]⟩
 have F0:=(Fr.start h).alloc (.cells Z7 107)
 have PS:=pC (F0.st hG).1
 have F1:=A0.mk (fun q=>(F0.drewN q).alloc (.cells (P7 (ps c a)) 107))
 have r1:∀q,Bx (((W.alloc (.cells Z7 107)).drewN q).alloc (.cells (P7 (ps c a)) 107)) W.heap.size 107 Z7:=fun q=>xB (X:=(W.alloc (.cells Z7 107)).drewN q) (xN W 107 _) (bA _ _)
 have v1:∀q,Bx (((W.alloc (.cells Z7 107)).drewN q).alloc (.cells (P7 (ps c a)) 107)) (W.heap.size+1) 107 (P7 (ps c a)):=fun q=>by
  have:=xN ((W.alloc (.cells Z7 107)).drewN q) 107 (P7 (ps c a))
  rwa [show ((W.alloc (.cells Z7 107)).drewN q).heap.size=W.heap.size+1 by simp] at this
 replace r1:=A0.mk r1
 replace v1:=A0.mk v1
 have hal2:=hG.hl
 have hll:=h.2.1
 have hd64:=h.2.2.2
 have wa:IntKind.i64.wrap ((a:Int)+1)=(a:Int)+1:=IntWalk.i64_in _ (by omega)
 go_enter Tryz.func67,Tryz.ntmps67
 go_upto_region 2 with (first|(go_at_call 33;(with_reducible refine PS.mono ?_);rintro e w2 ⟨rfl,q,rfl⟩))
 have F:=F1.out q
 have hr:=r1.out q
 have hv:=v1.out q
 generalize ((W.alloc (.cells Z7 107)).drewN q).alloc (.cells (P7 (ps c a)) 107)=X at F hr hv ⊢
 clear F0 F1 r1 v1 PS
 have hgl:=F.gl
 have hb0:Below X.heap.size X X:=Below.refl _ _
 have T0:=fun Y (hb:Below X.heap.size X Y)=>rI hG ((F.below hb).st hG).1 1 (by omega) ⟨#[110,97,109,101]⟩ rfl
 simp only [show decide (kd c a=1)=false from decide_eq_false (by omega)] at T0
 have T1:=fun Y (hb:Below X.heap.size X Y)=>rI hG ((F.below hb).st hG).1 11 (by omega) ⟨#[105,102]⟩ rfl
 simp only [show decide (kd c a=11)=false from decide_eq_false (by omega)] at T1
 have T2:=fun Y (hb:Below X.heap.size X Y)=>rI hG ((F.below hb).st hG).1 27 (by omega) ⟨#[119,104,105,108,101]⟩ rfl
 simp only [show decide (kd c a=27)=false from decide_eq_false (by omega)] at T2
 have T3:=fun Y (hb:Below X.heap.size X Y)=>rI hG ((F.below hb).st hG).1 24 (by omega) ⟨#[115,119,105,116,99,104]⟩ rfl
 simp only [show decide (kd c a=24)=false from decide_eq_false (by omega)] at T3
 have T4:=fun Y (hb:Below X.heap.size X Y)=>rI hG ((F.below hb).st hG).1 5 (by omega) ⟨#[99,97,108,108]⟩ rfl
 simp only [show decide (kd c a=5)=false from decide_eq_false (by omega)] at T4
 have T5:=fun Y (hb:Below X.heap.size X Y)=>rI hG ((F.below hb).st hG).1 4 (by omega) ⟨#[97,115,115,101,114,116]⟩ rfl
 simp only [show decide (kd c a=4)=true from decide_eq_true hkd] at T5
 clear hS hkd
 go_upto_region 20 with (first|(go_at_call 31;(with_reducible refine (T0 _ hb0).mono ?_);rintro e w3 ⟨rfl,hb1⟩;replace hb1:=hb0.trans (hb1.mono hb0.size))|(go_at_call 31;(with_reducible refine (T1 _ hb1).mono ?_);rintro e w4 ⟨rfl,hb2⟩;replace hb2:=hb1.trans (hb2.mono hb1.size))|(go_at_call 31;(with_reducible refine (T2 _ hb2).mono ?_);rintro e w5 ⟨rfl,hb3⟩;replace hb3:=hb2.trans (hb3.mono hb2.size))|(go_at_call 31;(with_reducible refine (T3 _ hb3).mono ?_);rintro e w6 ⟨rfl,hb4⟩;replace hb4:=hb3.trans (hb4.mono hb3.size))|(go_at_call 31;(with_reducible refine (T4 _ hb4).mono ?_);rintro e w7 ⟨rfl,hb5⟩;replace hb5:=hb4.trans (hb5.mono hb4.size))|(go_at_call 31;(with_reducible refine (T5 _ hb5).mono ?_);rintro e w8 ⟨rfl,hb6⟩;replace hb6:=hb5.trans (hb6.mono hb5.size);have k2:=((F.below hb6).st hG).1.c2;have j2:=((F.below hb6).st hG).1.fz 2))
 clear k2 j2
 replace F:=F.below hb6
 replace hv:=xB hv hb6
 replace hr:=xB hr hb6
 clear T0 T1 T2 T3 T4 T5 hb6 hb5 hb4 hb3 hb2 hb1 hb0
 replace F:=F.step hal
 replace hv:=Q5 hv (p:=⟨c.g,2,none⟩) (by dsimp only;omega) (.int .i64 ((a:Int)+1))
 replace hr:=Q5 hr (p:=⟨c.g,2,none⟩) (by dsimp only;omega) (.int .i64 ((a:Int)+1))
 generalize w8.setCell ⟨c.g,2,none⟩ (.int .i64 ((a:Int)+1))=X11 at F hv hr ⊢
 have z0:X11.cell? ⟨W.heap.size+1,0,none⟩=some (.int .i64 0):=bC hv 0
 have y0:=bF hv 0
 go_upto_region 21 with fail
 clear z0 y0
 replace F:=F.set (p:=⟨W.heap.size+1,0,none⟩) (by dsimp only;omega) (.int .i64 8)
 replace hv:Bx _ (W.heap.size+1) 107 #[.int .i64 8,.string ⟨#[]⟩,.string ⟨#[]⟩,.slice none 0 0,.slice none 0 0,.slice none 0 0,.int .i64 (ps c a)]:=bP hv 0 (.int .i64 8) rfl
 replace hr:=Q5 hr (p:=⟨W.heap.size+1,0,none⟩) (by dsimp only;omega) (.int .i64 8)
 generalize X11.setCell ⟨W.heap.size+1,0,none⟩ (.int .i64 8)=X12 at F hv hr ⊢
 obtain ⟨o0,ho0⟩:∃o,A0 (((Sta.here (a+1) d)).go (paS c ex)=o):=⟨_,⟨rfl⟩⟩
 have CN:=hR.out.c (F.st hG) (fun a' d' e=>by cases e;exact ⟨by omega,h0⟩) ho0
 have hlo:=F.fr.size
 have hlo2:W.heap.size+2≤X12.heap.size:=by have:=bL hv;have:=bL hr;omega
 go_upto_region 24 with (first|(go_at_call 107;(with_reducible refine CN.mono ?_);rintro e X13 ⟨hg,⟨op2,num2,nm2,A2,n2,cap2,pos2,rfl,hE⟩,hR1⟩;have hv2:=xC hv hg (by omega);have k3:X13.cell? ⟨W.heap.size+1,3,none⟩=some (.slice none 0 0):=bC hv2 3;have j3:=bF hv2 3;have k3':∀o,(X13.alloc o).cell? ⟨W.heap.size+1,3,none⟩=some (.slice none 0 0):=fun o=>bC (xB hv2 (bA _ o)) 3;have j3':∀o,(X13.alloc o).frozen? ⟨W.heap.size+1,3,none⟩=false:=fun o=>bF (xB hv2 (bA _ o)) 3))
 have hgs:=hg.size
 replace F:=F.call hg hR1
 replace hv:=xC hv hg (by omega)
 replace hr:=xC hr hg (by omega)
 replace F:=(F.alloc (.cells #[.int .i64 op2,.int .i64 num2,.string nm2,.slice A2 n2 cap2,.int .i64 pos2] 93)).set (p:=⟨W.heap.size+1,3,none⟩) (by dsimp only;omega) (.slice (some ⟨X13.heap.size,0,none⟩) 1 1)
 have hbB:=bA X13 (.cells #[.int .i64 op2,.int .i64 num2,.string nm2,.slice A2 n2 cap2,.int .i64 pos2] 93)
 replace hv:Bx _ (W.heap.size+1) 107 #[.int .i64 8,.string ⟨#[]⟩,.string ⟨#[]⟩,.slice (some ⟨X13.heap.size,0,none⟩) 1 1,.slice none 0 0,.slice none 0 0,.int .i64 (ps c a)]:=bP (xB hv hbB) 3 (.slice (some ⟨X13.heap.size,0,none⟩) 1 1) rfl
 replace hr:=Q5 (xB hr hbB) (p:=⟨W.heap.size+1,3,none⟩) (by dsimp only;omega) (.slice (some ⟨X13.heap.size,0,none⟩) 1 1)
 have cl0:A0 (∀y,o0.val=some y→Acc RepE 93 5 (W.heap.size+2) ((X13.alloc (.cells #[.int .i64 op2,.int .i64 num2,.string nm2,.slice A2 n2 cap2,.int .i64 pos2] 93)).setCell ⟨W.heap.size+1,3,none⟩ (.slice (some ⟨X13.heap.size,0,none⟩) 1 1)) (.slice (some ⟨X13.heap.size,0,none⟩) 1 1) [y]):=⟨fun y hy=>by
  have:=accE_one (lo:=W.heap.size+2) (w:=X13) ((hE.out y hy).far (Far.refl (X12).heap.size _) hlo2) (by omega) #[.int .i64 op2,.int .i64 num2,.string nm2,.slice A2 n2 cap2,.int .i64 pos2] rfl
  exact this.farE ((Far.refl (W.heap.size+2) _).put (p:=⟨W.heap.size+1,3,none⟩) (by dsimp only;omega) _)⟩
 generalize (X13.alloc (.cells #[.int .i64 op2,.int .i64 num2,.string nm2,.slice A2 n2 cap2,.int .i64 pos2] 93)).setCell ⟨W.heap.size+1,3,none⟩ (.slice (some ⟨X13.heap.size,0,none⟩) 1 1)=X14 at F hv hr cl0 ⊢
 clear CN hE hg hR1 hv2 k3 j3 k3' j3' hbB hlo hlo2 hgs
 generalize X13.heap.size=gr0 at hv cl0 ⊢
 obtain ⟨o1,ho1⟩:∃o,A0 ((o0.sta).go (tkS c 41)=o):=⟨_,⟨rfl⟩⟩
 have CN:=tC hG (F.st hG) 41 (by omega) ⟨#[59]⟩ rfl ho1
 go_upto_region 25 with (first|(go_at_call 36;(with_reducible refine CN.mono ?_);rintro e X15 ⟨hg,rfl,hR1⟩))
 replace F:=F.call hg hR1
 replace hv:=xC hv hg (by omega)
 replace hr:=xC hr hg (by omega)
 replace cl0:A0 (∀y,o0.val=some y→Acc RepE 93 5 (W.heap.size+2) (X15) (.slice (some ⟨gr0,0,none⟩) 1 1) [y]):=⟨fun y hy=>(cl0.out y hy).farE (Far.ofGrown hg (by omega))⟩
 clear CN hg hR1
 have hfin:A0 (S.sta=o1.sta∧∀y,S.val=some y→∃e0,o0.val=some e0∧y=.mk 8 nN nN [e0] [] [] (ps c a)):=by
  have g0:=ho0.out
  have g1:=ho1.out
  refine ⟨?_⟩
  rw [hSp.out]
  simp only [Out.sta,Sta.go] at g0
  rw [g0]
  cases o0 with
  | bad p er =>
   simp only [Out.sta,Sta.go] at g1;subst g1
   exact ⟨rfl,fun y hy=>by cases hy⟩
  | ok x0 a0' d0' =>
   simp only [Out.bind]
   simp only [Out.sta,Sta.go] at g1
   rw [g1]
   cases o1 with
   | bad p er =>
    exact ⟨rfl,fun y hy=>by cases hy⟩
   | ok x1 a1' d1' =>
    exact ⟨rfl,fun y hy=>⟨x0,rfl,by cases hy;rfl⟩⟩
 have z0:X15.cell? ⟨W.heap.size+1,0,none⟩=some (.int .i64 8):=bC hv 0
 have x0:X15.cell? ⟨W.heap.size,0,none⟩=some (.int .i64 0):=bC hr 0;have y0:=bF hr 0
 have z1:X15.cell? ⟨W.heap.size+1,1,none⟩=some (.string ⟨#[]⟩):=bC hv 1
 have x1:X15.cell? ⟨W.heap.size,1,none⟩=some (.string ⟨#[]⟩):=bC hr 1;have y1:=bF hr 1
 have z2:X15.cell? ⟨W.heap.size+1,2,none⟩=some (.string ⟨#[]⟩):=bC hv 2
 have x2:X15.cell? ⟨W.heap.size,2,none⟩=some (.string ⟨#[]⟩):=bC hr 2;have y2:=bF hr 2
 have z3:X15.cell? ⟨W.heap.size+1,3,none⟩=some (.slice (some ⟨gr0,0,none⟩) 1 1):=bC hv 3
 have x3:X15.cell? ⟨W.heap.size,3,none⟩=some (.slice none 0 0):=bC hr 3;have y3:=bF hr 3
 have z4:X15.cell? ⟨W.heap.size+1,4,none⟩=some (.slice none 0 0):=bC hv 4
 have x4:X15.cell? ⟨W.heap.size,4,none⟩=some (.slice none 0 0):=bC hr 4;have y4:=bF hr 4
 have z5:X15.cell? ⟨W.heap.size+1,5,none⟩=some (.slice none 0 0):=bC hv 5
 have x5:X15.cell? ⟨W.heap.size,5,none⟩=some (.slice none 0 0):=bC hr 5;have y5:=bF hr 5
 have z6:X15.cell? ⟨W.heap.size+1,6,none⟩=some (.int .i64 (ps c a)):=bC hv 6
 have x6:X15.cell? ⟨W.heap.size,6,none⟩=some (.int .i64 0):=bC hr 6;have y6:=bF hr 6
 clear hSp ho0 ho1
 go_wp2
 exact fin107 hG rfl rfl rfl F (by omega) (by omega) hr rfl hfin.out.1 (fun y hy=>by
  obtain ⟨e0,q0,rfl⟩:=hfin.out.2 y hy
  exact Acc.stmt (cl0.out _ q0) (Acc.nil _) (Acc.nil _) 8 nN nN (ps c a))
set_option maxHeartbeats 8000000 in
theorem rst_skip {c:Ctx} (hG:Good c) {a0:Nat} (W:World) (a:Nat) (d:Int) (h:RSt c W (.here a d)) (ha:a0≤a) (h0:0≤d) (hkd:kd c a≠1∧kd c a≠11∧kd c a≠27∧kd c a≠24∧kd c a≠5∧kd c a≠4) :
  Calls Tryz.prog 67 #[c.me] W (RPost c W (repSo W.heap.size) (skipS c a d)):=by
 obtain ⟨S,hS⟩:∃S,A0 (skipS c a d=S):=⟨_,⟨rfl⟩⟩
 rw [hS.out]
 have hSp:A0 (S=(tkS c 23 a d).bind fun _ a1 d1=>(tkS c 41 a1 d1).bind fun _ a2 d2=>.ok (.mk 9 nN nN [] [] [] (ps c a)) a2 d2):=⟨by
  rw [←hS.out]
  unfold skipS
  simp only [tk_bind]⟩
 have F0:=(Fr.start h).alloc (.cells Z7 107)
 have PS:=pC (F0.st hG).1
 have F1:=A0.mk (fun q=>(F0.drewN q).alloc (.cells (P7 (ps c a)) 107))
 have r1:∀q,Bx (((W.alloc (.cells Z7 107)).drewN q).alloc (.cells (P7 (ps c a)) 107)) W.heap.size 107 Z7:=fun q=>xB (X:=(W.alloc (.cells Z7 107)).drewN q) (xN W 107 _) (bA _ _)
 have v1:∀q,Bx (((W.alloc (.cells Z7 107)).drewN q).alloc (.cells (P7 (ps c a)) 107)) (W.heap.size+1) 107 (P7 (ps c a)):=fun q=>by
  have:=xN ((W.alloc (.cells Z7 107)).drewN q) 107 (P7 (ps c a))
  rwa [show ((W.alloc (.cells Z7 107)).drewN q).heap.size=W.heap.size+1 by simp] at this
 replace r1:=A0.mk r1
 replace v1:=A0.mk v1
 have hal2:=hG.hl
 have hll:=h.2.1
 have hd64:=h.2.2.2
 have wa:IntKind.i64.wrap ((a:Int)+1)=(a:Int)+1:=IntWalk.i64_in _ (by omega)
 go_enter Tryz.func67,Tryz.ntmps67
 go_upto_region 2 with (first|(go_at_call 33;(with_reducible refine PS.mono ?_);rintro e w2 ⟨rfl,q,rfl⟩))
 have F:=F1.out q
 have hr:=r1.out q
 have hv:=v1.out q
 generalize ((W.alloc (.cells Z7 107)).drewN q).alloc (.cells (P7 (ps c a)) 107)=X at F hr hv ⊢
 clear F0 F1 r1 v1 PS
 have hgl:=F.gl
 have hb0:Below X.heap.size X X:=Below.refl _ _
 have T0:=fun Y (hb:Below X.heap.size X Y)=>rI hG ((F.below hb).st hG).1 1 (by omega) ⟨#[110,97,109,101]⟩ rfl
 simp only [show decide (kd c a=1)=false from decide_eq_false (by omega)] at T0
 have T1:=fun Y (hb:Below X.heap.size X Y)=>rI hG ((F.below hb).st hG).1 11 (by omega) ⟨#[105,102]⟩ rfl
 simp only [show decide (kd c a=11)=false from decide_eq_false (by omega)] at T1
 have T2:=fun Y (hb:Below X.heap.size X Y)=>rI hG ((F.below hb).st hG).1 27 (by omega) ⟨#[119,104,105,108,101]⟩ rfl
 simp only [show decide (kd c a=27)=false from decide_eq_false (by omega)] at T2
 have T3:=fun Y (hb:Below X.heap.size X Y)=>rI hG ((F.below hb).st hG).1 24 (by omega) ⟨#[115,119,105,116,99,104]⟩ rfl
 simp only [show decide (kd c a=24)=false from decide_eq_false (by omega)] at T3
 have T4:=fun Y (hb:Below X.heap.size X Y)=>rI hG ((F.below hb).st hG).1 5 (by omega) ⟨#[99,97,108,108]⟩ rfl
 simp only [show decide (kd c a=5)=false from decide_eq_false (by omega)] at T4
 have T5:=fun Y (hb:Below X.heap.size X Y)=>rI hG ((F.below hb).st hG).1 4 (by omega) ⟨#[97,115,115,101,114,116]⟩ rfl
 simp only [show decide (kd c a=4)=false from decide_eq_false (by omega)] at T5
 clear hS hkd
 go_upto_region 22 with (first|(go_at_call 31;(with_reducible refine (T0 _ hb0).mono ?_);rintro e w3 ⟨rfl,hb1⟩;replace hb1:=hb0.trans (hb1.mono hb0.size))|(go_at_call 31;(with_reducible refine (T1 _ hb1).mono ?_);rintro e w4 ⟨rfl,hb2⟩;replace hb2:=hb1.trans (hb2.mono hb1.size))|(go_at_call 31;(with_reducible refine (T2 _ hb2).mono ?_);rintro e w5 ⟨rfl,hb3⟩;replace hb3:=hb2.trans (hb3.mono hb2.size))|(go_at_call 31;(with_reducible refine (T3 _ hb3).mono ?_);rintro e w6 ⟨rfl,hb4⟩;replace hb4:=hb3.trans (hb4.mono hb3.size))|(go_at_call 31;(with_reducible refine (T4 _ hb4).mono ?_);rintro e w7 ⟨rfl,hb5⟩;replace hb5:=hb4.trans (hb5.mono hb4.size))|(go_at_call 31;(with_reducible refine (T5 _ hb5).mono ?_);rintro e w8 ⟨rfl,hb6⟩;replace hb6:=hb5.trans (hb6.mono hb5.size)))
 replace F:=F.below hb6
 replace hv:=xB hv hb6
 replace hr:=xB hr hb6
 clear T0 T1 T2 T3 T4 T5 hb6 hb5 hb4 hb3 hb2 hb1 hb0
 obtain ⟨o0,ho0⟩:∃o,A0 (((Sta.here a d)).go (tkS c 23)=o):=⟨_,⟨rfl⟩⟩
 have CN:=tC hG (F.st hG) 23 (by omega) ⟨#[115,107,105,112]⟩ rfl ho0
 go_upto_region 23 with (first|(go_at_call 36;(with_reducible refine CN.mono ?_);rintro e X11 ⟨hg,rfl,hR1⟩))
 replace F:=F.call hg hR1
 replace hv:=xC hv hg (by omega)
 replace hr:=xC hr hg (by omega)
 clear CN hg hR1
 have z0:X11.cell? ⟨W.heap.size+1,0,none⟩=some (.int .i64 0):=bC hv 0
 have y0:=bF hv 0
 go_upto_region 24 with fail
 clear z0 y0
 replace F:=F.set (p:=⟨W.heap.size+1,0,none⟩) (by dsimp only;omega) (.int .i64 9)
 replace hv:Bx _ (W.heap.size+1) 107 #[.int .i64 9,.string ⟨#[]⟩,.string ⟨#[]⟩,.slice none 0 0,.slice none 0 0,.slice none 0 0,.int .i64 (ps c a)]:=bP hv 0 (.int .i64 9) rfl
 replace hr:=Q5 hr (p:=⟨W.heap.size+1,0,none⟩) (by dsimp only;omega) (.int .i64 9)
 generalize X11.setCell ⟨W.heap.size+1,0,none⟩ (.int .i64 9)=X12 at F hv hr ⊢
 obtain ⟨o1,ho1⟩:∃o,A0 ((o0.sta).go (tkS c 41)=o):=⟨_,⟨rfl⟩⟩
 have CN:=tC hG (F.st hG) 41 (by omega) ⟨#[59]⟩ rfl ho1
 go_upto_region 25 with (first|(go_at_call 36;(with_reducible refine CN.mono ?_);rintro e X13 ⟨hg,rfl,hR1⟩))
 replace F:=F.call hg hR1
 replace hv:=xC hv hg (by omega)
 replace hr:=xC hr hg (by omega)
 clear CN hg hR1
 have hfin:A0 (S.sta=o1.sta∧∀y,S.val=some y→y=.mk 9 nN nN [] [] [] (ps c a)):=by
  have g0:=ho0.out
  have g1:=ho1.out
  refine ⟨?_⟩
  rw [hSp.out]
  simp only [Out.sta,Sta.go] at g0
  rw [g0]
  cases o0 with
  | bad p er =>
   simp only [Out.sta,Sta.go] at g1;subst g1
   exact ⟨rfl,fun y hy=>by cases hy⟩
  | ok x0 a0' d0' =>
   simp only [Out.bind]
   simp only [Out.sta,Sta.go] at g1
   rw [g1]
   cases o1 with
   | bad p er =>
    exact ⟨rfl,fun y hy=>by cases hy⟩
   | ok x1 a1' d1' =>
    exact ⟨rfl,fun y hy=>by cases hy;rfl⟩
 have z0:X13.cell? ⟨W.heap.size+1,0,none⟩=some (.int .i64 9):=bC hv 0
 have x0:X13.cell? ⟨W.heap.size,0,none⟩=some (.int .i64 0):=bC hr 0;have y0:=bF hr 0
 have z1:X13.cell? ⟨W.heap.size+1,1,none⟩=some (.string ⟨#[]⟩):=bC hv 1
 have x1:X13.cell? ⟨W.heap.size,1,none⟩=some (.string ⟨#[]⟩):=bC hr 1;have y1:=bF hr 1
 have z2:X13.cell? ⟨W.heap.size+1,2,none⟩=some (.string ⟨#[]⟩):=bC hv 2
 have x2:X13.cell? ⟨W.heap.size,2,none⟩=some (.string ⟨#[]⟩):=bC hr 2;have y2:=bF hr 2
 have z3:X13.cell? ⟨W.heap.size+1,3,none⟩=some (.slice none 0 0):=bC hv 3
 have x3:X13.cell? ⟨W.heap.size,3,none⟩=some (.slice none 0 0):=bC hr 3;have y3:=bF hr 3
 have z4:X13.cell? ⟨W.heap.size+1,4,none⟩=some (.slice none 0 0):=bC hv 4
 have x4:X13.cell? ⟨W.heap.size,4,none⟩=some (.slice none 0 0):=bC hr 4;have y4:=bF hr 4
 have z5:X13.cell? ⟨W.heap.size+1,5,none⟩=some (.slice none 0 0):=bC hv 5
 have x5:X13.cell? ⟨W.heap.size,5,none⟩=some (.slice none 0 0):=bC hr 5;have y5:=bF hr 5
 have z6:X13.cell? ⟨W.heap.size+1,6,none⟩=some (.int .i64 (ps c a)):=bC hv 6
 have x6:X13.cell? ⟨W.heap.size,6,none⟩=some (.int .i64 0):=bC hr 6;have y6:=bF hr 6
 clear hSp ho0 ho1
 go_wp2
 exact fin107 hG rfl rfl rfl F (by omega) (by omega) hr rfl hfin.out.1 (fun y hy=>by
  obtain rfl:=hfin.out.2 y hy
  exact Acc.stmt (Acc.nil _) (Acc.nil _) (Acc.nil _) 9 nN nN (ps c a))
set_option maxHeartbeats 8000000 in
theorem rst_while {c:Ctx} (hG:Good c) {ex:Rd Ex} {blk:Rd (List Stm)} {a0:Nat} (hF:Fine c (paS c ex) a0) (hR:RReads c 107 (paS c ex) a0) (hB:RBlk c blk a0) (W:World) (a:Nat) (d:Int) (h:RSt c W (.here a d)) (ha:a0≤a) (h0:0≤d) (hkd:kd c a=27) :
  Calls Tryz.prog 67 #[c.me] W (RPost c W (repSo W.heap.size) (whileS c ex blk a d)):=by
 obtain ⟨S,hS⟩:∃S,A0 (whileS c ex blk a d=S):=⟨_,⟨rfl⟩⟩
 rw [hS.out]
 have hal:=kL hkd (by omega)
 replace hR:=A0.mk hR
 replace hB:=A0.mk hB
 replace hF:=A0.mk hF
 have hSp:A0 (S=(paS c ex (a+1) d).bind fun e a1 d1=>(blk a1 d1).bind fun b a2 d2=>.ok (.mk 5 nN nN [e] [b] [] (ps c a)) a2 d2):=⟨by
  rw [←hS.out]
  rfl⟩
 have F0:=(Fr.start h).alloc (.cells Z7 107)
 have PS:=pC (F0.st hG).1
 have F1:=A0.mk (fun q=>(F0.drewN q).alloc (.cells (P7 (ps c a)) 107))
 have r1:∀q,Bx (((W.alloc (.cells Z7 107)).drewN q).alloc (.cells (P7 (ps c a)) 107)) W.heap.size 107 Z7:=fun q=>xB (X:=(W.alloc (.cells Z7 107)).drewN q) (xN W 107 _) (bA _ _)
 have v1:∀q,Bx (((W.alloc (.cells Z7 107)).drewN q).alloc (.cells (P7 (ps c a)) 107)) (W.heap.size+1) 107 (P7 (ps c a)):=fun q=>by
  have:=xN ((W.alloc (.cells Z7 107)).drewN q) 107 (P7 (ps c a))
  rwa [show ((W.alloc (.cells Z7 107)).drewN q).heap.size=W.heap.size+1 by simp] at this
 replace r1:=A0.mk r1
 replace v1:=A0.mk v1
 have hal2:=hG.hl
 have hll:=h.2.1
 have hd64:=h.2.2.2
 have wa:IntKind.i64.wrap ((a:Int)+1)=(a:Int)+1:=IntWalk.i64_in _ (by omega)
 go_enter Tryz.func67,Tryz.ntmps67
 go_upto_region 2 with (first|(go_at_call 33;(with_reducible refine PS.mono ?_);rintro e w2 ⟨rfl,q,rfl⟩))
 have F:=F1.out q
 have hr:=r1.out q
 have hv:=v1.out q
 generalize ((W.alloc (.cells Z7 107)).drewN q).alloc (.cells (P7 (ps c a)) 107)=X at F hr hv ⊢
 clear F0 F1 r1 v1 PS
 have hgl:=F.gl
 have hb0:Below X.heap.size X X:=Below.refl _ _
 have T0:=fun Y (hb:Below X.heap.size X Y)=>rI hG ((F.below hb).st hG).1 1 (by omega) ⟨#[110,97,109,101]⟩ rfl
 simp only [show decide (kd c a=1)=false from decide_eq_false (by omega)] at T0
 have T1:=fun Y (hb:Below X.heap.size X Y)=>rI hG ((F.below hb).st hG).1 11 (by omega) ⟨#[105,102]⟩ rfl
 simp only [show decide (kd c a=11)=false from decide_eq_false (by omega)] at T1
 have T2:=fun Y (hb:Below X.heap.size X Y)=>rI hG ((F.below hb).st hG).1 27 (by omega) ⟨#[119,104,105,108,101]⟩ rfl
 simp only [show decide (kd c a=27)=true from decide_eq_true hkd] at T2
 clear hS hkd
 go_upto_region 8 with (first|(go_at_call 31;(with_reducible refine (T0 _ hb0).mono ?_);rintro e w3 ⟨rfl,hb1⟩;replace hb1:=hb0.trans (hb1.mono hb0.size))|(go_at_call 31;(with_reducible refine (T1 _ hb1).mono ?_);rintro e w4 ⟨rfl,hb2⟩;replace hb2:=hb1.trans (hb2.mono hb1.size))|(go_at_call 31;(with_reducible refine (T2 _ hb2).mono ?_);rintro e w5 ⟨rfl,hb3⟩;replace hb3:=hb2.trans (hb3.mono hb2.size);have k2:=((F.below hb3).st hG).1.c2;have j2:=((F.below hb3).st hG).1.fz 2))
 clear k2 j2
 replace F:=F.below hb3
 replace hv:=xB hv hb3
 replace hr:=xB hr hb3
 clear T0 T1 T2 hb3 hb2 hb1 hb0
 replace F:=F.step hal
 replace hv:=Q5 hv (p:=⟨c.g,2,none⟩) (by dsimp only;omega) (.int .i64 ((a:Int)+1))
 replace hr:=Q5 hr (p:=⟨c.g,2,none⟩) (by dsimp only;omega) (.int .i64 ((a:Int)+1))
 generalize w5.setCell ⟨c.g,2,none⟩ (.int .i64 ((a:Int)+1))=X11 at F hv hr ⊢
 have z0:X11.cell? ⟨W.heap.size+1,0,none⟩=some (.int .i64 0):=bC hv 0
 have y0:=bF hv 0
 go_upto_region 9 with fail
 clear z0 y0
 replace F:=F.set (p:=⟨W.heap.size+1,0,none⟩) (by dsimp only;omega) (.int .i64 5)
 replace hv:Bx _ (W.heap.size+1) 107 #[.int .i64 5,.string ⟨#[]⟩,.string ⟨#[]⟩,.slice none 0 0,.slice none 0 0,.slice none 0 0,.int .i64 (ps c a)]:=bP hv 0 (.int .i64 5) rfl
 replace hr:=Q5 hr (p:=⟨W.heap.size+1,0,none⟩) (by dsimp only;omega) (.int .i64 5)
 generalize X11.setCell ⟨W.heap.size+1,0,none⟩ (.int .i64 5)=X12 at F hv hr ⊢
 obtain ⟨o0,ho0⟩:∃o,A0 (((Sta.here (a+1) d)).go (paS c ex)=o):=⟨_,⟨rfl⟩⟩
 have CN:=hR.out.c (F.st hG) (fun a' d' e=>by cases e;exact ⟨by omega,h0⟩) ho0
 have hlo:=F.fr.size
 have hlo2:W.heap.size+2≤X12.heap.size:=by have:=bL hv;have:=bL hr;omega
 go_upto_region 10 with (first|(go_at_call 107;(with_reducible refine CN.mono ?_);rintro e X13 ⟨hg,⟨op2,num2,nm2,A2,n2,cap2,pos2,rfl,hE⟩,hR1⟩;have hv2:=xC hv hg (by omega);have k3:X13.cell? ⟨W.heap.size+1,3,none⟩=some (.slice none 0 0):=bC hv2 3;have j3:=bF hv2 3;have k3':∀o,(X13.alloc o).cell? ⟨W.heap.size+1,3,none⟩=some (.slice none 0 0):=fun o=>bC (xB hv2 (bA _ o)) 3;have j3':∀o,(X13.alloc o).frozen? ⟨W.heap.size+1,3,none⟩=false:=fun o=>bF (xB hv2 (bA _ o)) 3))
 have hgs:=hg.size
 replace F:=F.call hg hR1
 replace hv:=xC hv hg (by omega)
 replace hr:=xC hr hg (by omega)
 replace F:=(F.alloc (.cells #[.int .i64 op2,.int .i64 num2,.string nm2,.slice A2 n2 cap2,.int .i64 pos2] 93)).set (p:=⟨W.heap.size+1,3,none⟩) (by dsimp only;omega) (.slice (some ⟨X13.heap.size,0,none⟩) 1 1)
 have hbB:=bA X13 (.cells #[.int .i64 op2,.int .i64 num2,.string nm2,.slice A2 n2 cap2,.int .i64 pos2] 93)
 replace hv:Bx _ (W.heap.size+1) 107 #[.int .i64 5,.string ⟨#[]⟩,.string ⟨#[]⟩,.slice (some ⟨X13.heap.size,0,none⟩) 1 1,.slice none 0 0,.slice none 0 0,.int .i64 (ps c a)]:=bP (xB hv hbB) 3 (.slice (some ⟨X13.heap.size,0,none⟩) 1 1) rfl
 replace hr:=Q5 (xB hr hbB) (p:=⟨W.heap.size+1,3,none⟩) (by dsimp only;omega) (.slice (some ⟨X13.heap.size,0,none⟩) 1 1)
 have cl0:A0 (∀y,o0.val=some y→Acc RepE 93 5 (W.heap.size+2) ((X13.alloc (.cells #[.int .i64 op2,.int .i64 num2,.string nm2,.slice A2 n2 cap2,.int .i64 pos2] 93)).setCell ⟨W.heap.size+1,3,none⟩ (.slice (some ⟨X13.heap.size,0,none⟩) 1 1)) (.slice (some ⟨X13.heap.size,0,none⟩) 1 1) [y]):=⟨fun y hy=>by
  have:=accE_one (lo:=W.heap.size+2) (w:=X13) ((hE.out y hy).far (Far.refl (X12).heap.size _) hlo2) (by omega) #[.int .i64 op2,.int .i64 num2,.string nm2,.slice A2 n2 cap2,.int .i64 pos2] rfl
  exact this.farE ((Far.refl (W.heap.size+2) _).put (p:=⟨W.heap.size+1,3,none⟩) (by dsimp only;omega) _)⟩
 generalize (X13.alloc (.cells #[.int .i64 op2,.int .i64 num2,.string nm2,.slice A2 n2 cap2,.int .i64 pos2] 93)).setCell ⟨W.heap.size+1,3,none⟩ (.slice (some ⟨X13.heap.size,0,none⟩) 1 1)=X14 at F hv hr cl0 ⊢
 clear CN hE hg hR1 hv2 k3 j3 k3' j3' hbB hlo hlo2 hgs
 generalize X13.heap.size=gr0 at hv cl0 ⊢
 have hl1:=fine_lim hF.out (Nat.le_refl _) (fun a' d' e=>by cases e;exact ⟨by omega,h0,hd64⟩) ho0
 obtain ⟨o1,ho1⟩:∃o,A0 ((o0.sta).go (blk)=o):=⟨_,⟨rfl⟩⟩
 have CN:=hB.out.c (F.st hG) hl1 ho1
 have hlo:=F.fr.size
 have hlo2:W.heap.size+2≤X14.heap.size:=by have:=bL hv;have:=bL hr;omega
 go_upto_region 11 with (first|(go_at_call 35;(with_reducible refine CN.mono ?_);rintro e X15 ⟨hg,⟨A2,n2,cap2,rfl,hE⟩,hR1⟩;have hv2:=xC hv hg (by omega);have k3:X15.cell? ⟨W.heap.size+1,4,none⟩=some (.slice none 0 0):=bC hv2 4;have j3:=bF hv2 4;have k3':∀o,(X15.alloc o).cell? ⟨W.heap.size+1,4,none⟩=some (.slice none 0 0):=fun o=>bC (xB hv2 (bA _ o)) 4;have j3':∀o,(X15.alloc o).frozen? ⟨W.heap.size+1,4,none⟩=false:=fun o=>bF (xB hv2 (bA _ o)) 4))
 have hgs:=hg.size
 replace F:=F.call hg hR1
 replace hv:=xC hv hg (by omega)
 replace hr:=xC hr hg (by omega)
 replace cl0:A0 (∀y,o0.val=some y→Acc RepE 93 5 (W.heap.size+2) (X15) (.slice (some ⟨gr0,0,none⟩) 1 1) [y]):=⟨fun y hy=>(cl0.out y hy).farE (Far.ofGrown hg (by omega))⟩
 replace F:=(F.alloc (.cells #[.slice A2 n2 cap2] 25)).set (p:=⟨W.heap.size+1,4,none⟩) (by dsimp only;omega) (.slice (some ⟨X15.heap.size,0,none⟩) 1 1)
 have hbB:=bA X15 (.cells #[.slice A2 n2 cap2] 25)
 replace hv:Bx _ (W.heap.size+1) 107 #[.int .i64 5,.string ⟨#[]⟩,.string ⟨#[]⟩,.slice (some ⟨gr0,0,none⟩) 1 1,.slice (some ⟨X15.heap.size,0,none⟩) 1 1,.slice none 0 0,.int .i64 (ps c a)]:=bP (xB hv hbB) 4 (.slice (some ⟨X15.heap.size,0,none⟩) 1 1) rfl
 replace hr:=Q5 (xB hr hbB) (p:=⟨W.heap.size+1,4,none⟩) (by dsimp only;omega) (.slice (some ⟨X15.heap.size,0,none⟩) 1 1)
 replace cl0:A0 (∀y,o0.val=some y→Acc RepE 93 5 (W.heap.size+2) ((X15.alloc (.cells #[.slice A2 n2 cap2] 25)).setCell ⟨W.heap.size+1,4,none⟩ (.slice (some ⟨X15.heap.size,0,none⟩) 1 1)) (.slice (some ⟨gr0,0,none⟩) 1 1) [y]):=⟨fun y hy=>(cl0.out y hy).farE (((Far.refl _ _).alloc _).put (p:=⟨W.heap.size+1,4,none⟩) (by dsimp only;omega) _)⟩
 have cl1:A0 (∀y,o1.val=some y→Acc RepB 25 1 (W.heap.size+2) ((X15.alloc (.cells #[.slice A2 n2 cap2] 25)).setCell ⟨W.heap.size+1,4,none⟩ (.slice (some ⟨X15.heap.size,0,none⟩) 1 1)) (.slice (some ⟨X15.heap.size,0,none⟩) 1 1) [y]):=⟨fun y hy=>by
  have:=accB_one (lo:=W.heap.size+2) (w:=X15) ((hE.out y hy).far (Far.refl (X14).heap.size _) hlo2) (by omega)
  exact this.farB ((Far.refl (W.heap.size+2) _).put (p:=⟨W.heap.size+1,4,none⟩) (by dsimp only;omega) _)⟩
 generalize (X15.alloc (.cells #[.slice A2 n2 cap2] 25)).setCell ⟨W.heap.size+1,4,none⟩ (.slice (some ⟨X15.heap.size,0,none⟩) 1 1)=X16 at F hv hr cl0 cl1 ⊢
 clear CN hE hg hR1 hv2 k3 j3 k3' j3' hbB hlo hlo2 hgs
 generalize X15.heap.size=gr1 at hv cl0 cl1 ⊢
 have hfin:A0 (S.sta=o1.sta∧∀y,S.val=some y→∃e0,∃e1,o0.val=some e0∧o1.val=some e1∧y=.mk 5 nN nN [e0] [e1] [] (ps c a)):=by
  have g0:=ho0.out
  have g1:=ho1.out
  refine ⟨?_⟩
  rw [hSp.out]
  simp only [Out.sta,Sta.go] at g0
  rw [g0]
  cases o0 with
  | bad p er =>
   simp only [Out.sta,Sta.go] at g1;subst g1
   exact ⟨rfl,fun y hy=>by cases hy⟩
  | ok x0 a0' d0' =>
   simp only [Out.bind]
   simp only [Out.sta,Sta.go] at g1
   rw [g1]
   cases o1 with
   | bad p er =>
    exact ⟨rfl,fun y hy=>by cases hy⟩
   | ok x1 a1' d1' =>
    exact ⟨rfl,fun y hy=>⟨x0,x1,rfl,rfl,by cases hy;rfl⟩⟩
 have z0:X16.cell? ⟨W.heap.size+1,0,none⟩=some (.int .i64 5):=bC hv 0
 have x0:X16.cell? ⟨W.heap.size,0,none⟩=some (.int .i64 0):=bC hr 0;have y0:=bF hr 0
 have z1:X16.cell? ⟨W.heap.size+1,1,none⟩=some (.string ⟨#[]⟩):=bC hv 1
 have x1:X16.cell? ⟨W.heap.size,1,none⟩=some (.string ⟨#[]⟩):=bC hr 1;have y1:=bF hr 1
 have z2:X16.cell? ⟨W.heap.size+1,2,none⟩=some (.string ⟨#[]⟩):=bC hv 2
 have x2:X16.cell? ⟨W.heap.size,2,none⟩=some (.string ⟨#[]⟩):=bC hr 2;have y2:=bF hr 2
 have z3:X16.cell? ⟨W.heap.size+1,3,none⟩=some (.slice (some ⟨gr0,0,none⟩) 1 1):=bC hv 3
 have x3:X16.cell? ⟨W.heap.size,3,none⟩=some (.slice none 0 0):=bC hr 3;have y3:=bF hr 3
 have z4:X16.cell? ⟨W.heap.size+1,4,none⟩=some (.slice (some ⟨gr1,0,none⟩) 1 1):=bC hv 4
 have x4:X16.cell? ⟨W.heap.size,4,none⟩=some (.slice none 0 0):=bC hr 4;have y4:=bF hr 4
 have z5:X16.cell? ⟨W.heap.size+1,5,none⟩=some (.slice none 0 0):=bC hv 5
 have x5:X16.cell? ⟨W.heap.size,5,none⟩=some (.slice none 0 0):=bC hr 5;have y5:=bF hr 5
 have z6:X16.cell? ⟨W.heap.size+1,6,none⟩=some (.int .i64 (ps c a)):=bC hv 6
 have x6:X16.cell? ⟨W.heap.size,6,none⟩=some (.int .i64 0):=bC hr 6;have y6:=bF hr 6
 clear hSp ho0 ho1
 go_wp2
 exact fin107 hG rfl rfl rfl F (by omega) (by omega) hr rfl hfin.out.1 (fun y hy=>by
  obtain ⟨e0,e1,q0,q1,rfl⟩:=hfin.out.2 y hy
  exact Acc.stmt (cl0.out _ q0) (cl1.out _ q1) (Acc.nil _) 5 nN nN (ps c a))
def RWhen (c:Ctx) (S:Nat→Rd Stm) (f a0:Nat):Prop:=∀W a d,RSt c W (.here a d)→a0≤a→0≤d→kd c a=11→c.L.length+1≤f+a→Calls Tryz.prog 106 #[c.me] W (RPost c W (repSo W.heap.size) (S f a d))
theorem RWhen.c {c:Ctx} {S:Nat→Rd Stm} {f a0:Nat} (h:RWhen c S f a0) {W:World} {a:Nat} {d:Int} (hS:RSt c W (.here a d)) (ha:a0≤a) (h0:0≤d) (hk:kd c a=11) (hf:c.L.length+1≤f+a) {o:Out Stm} (ho:A0 (S f a d=o)) :
  Calls Tryz.prog 106 #[c.me] W fun e W'=>W.grownBy W' (some c.g)∧(∃op name read A1 n1 c1 A2 n2 c2 A3 n3 c3 pos,e=.returned (.agg #[.int .i64 op,.string name,.string read,.slice A1 n1 c1,.slice A2 n2 c2,.slice A3 n3 c3,.int .i64 pos])∧A0 (∀y,o.val=some y→RepS (fun b=>W.heap.size≤b) W' y (stCells op name read A1 n1 c1 A2 n2 c2 A3 n3 c3 pos)))∧RSt c W' o.sta :=
 (h W a d hS ha h0 hk hf).mono fun e w ⟨hg,⟨v,he,op,name,read,A1,n1,c1,A2,n2,c2,A3,n3,c3,pos,hv,hy⟩,hR⟩=>by
  rw [ho.out] at hy hR
  exact ⟨hg,⟨op,name,read,A1,n1,c1,A2,n2,c2,A3,n3,c3,pos,he.trans (congrArg _ hv),hy⟩,hR⟩
theorem accS_one {lo:Nat} {w:World} {x:Stm} {v:List Value} (h:RepS (fun b=>lo≤b) w x v) (hl:lo≤w.heap.size) (cs:Array Value) (hcs:cs.toList=v) (h7:v.length=7):Acc RepS 107 7 lo (w.alloc (.cells cs 107)) (.slice (some ⟨w.heap.size,0,none⟩) 1 1) [x] :=
 Acc.lit (R:=RepS) repS_keeps (xs:=[x]) (vs:=[v]) cs ⟨h,trivial⟩ (by rw [hcs];simp) (by simp [h7]) hl (by simp [maxLen]) repS_lt
theorem step_append_two {α:Type} {R:Rel α} (hK:Keeps R) {P:Program} {w:World} {ops:Array Oper} {o:Oper} {a:Act} {K:Act→World→Prop} {Q:Exit→Act→World→Prop} {E:Prop} (hgd:o.guard=none) (s x:Operand) (t:TypeId)
  (ho:o.op=.call { callee:=.builtin .append,args:=#[s,x],argTypes:=#[t,t] })
  (lo:Nat) (e:TypeId) (i:TypeInfo) (z:Value) (size bytes:Nat) (ht:P.underlying t=some (.slice e)) (hi:P.info? e=some i) (hz:i.zero=some z)
  (hsize:i.size=size) (hby:i.bytes=bytes) (hzs:z.cells.size=size) (hsz:0<size)
  (g:Nat) (x0:α) (hs:a.eval s=.slice (some ⟨g,0,none⟩) 1 1) (hacc:Acc R e size lo w (.slice (some ⟨g,0,none⟩) 1 1) [x0])
  (ad:Addr) (c:Nat) (y:α) (news:List Value) (hx:a.eval x=.slice (some ad) 1 c) (hl:news.length=size) (hnews:∀j u,news[j]?=some u→w.cell? (ad.add j)=some u) (h1:∀u ∈ news,u.oneCell'=true)
  (hy:R (fun b=>lo≤b) w y news)
  (hlt:∀{P:Nat→Prop} {x:α} {v:List Value},R P w x v→R (fun b=>P b∧b<w.heap.size) w x v)
  (h63:1+1≤maxLen) (hbytes:(1+1) * bytes≤140737488355328) (hbase:lo≤w.heap.size)
  (h:∀g' cap w',Acc R e size lo w' (.slice (some ⟨g',0,none⟩) 2 cap) [x0,y]→w.grownBy w' none→K (a.put o.dst (.slice (some ⟨g',0,none⟩) 2 cap)) w') :
  if Region.wanted o (yielded ops a.tmps)=true then Oper.wp P o a w K Q else E:=by
 obtain ⟨vs,hown,hall⟩:=hacc.ex
 refine step_append_full hgd s x t ho lo e i z size bytes ht hi hz hsize hby hzs hsz g 1 vs.flatten hs hown ad c news hx hl hnews h1 h63 hbytes hbase fun cap w' hown' hg'=>h _ cap w' ⟨vs++[news],?_,?_⟩ hg'
 ·rw [List.flatten_append,show [news].flatten=news by simp]
  exact hown'
 ·have hk:∀{P:Nat→Prop} {x:α} {v:List Value},(∀b,P b→lo≤b)→R P w x v→R (fun b=>lo≤b∧(Value.slice (some ⟨w.heap.size,0,none⟩) 2 cap).ownBlock≠some b) w' x v:=fun hP hr =>
   hK (hlt hr) (fun b hb=>⟨hP b hb.1,fun e=>by have:w.heap.size=b:=Option.some.inj e;have:=hb.2;omega⟩) fun b hb hl=>hg'.block b hl (by simp)
  exact All2.snoc (xs:=[x0]) (hk (fun _ hb=>hb) hy) (hall.imp fun _ _ hr=>hk (fun _ hb=>hb.1) hr)
theorem optB_far {lo lo':Nat} {w:World} {x:Option (List Stm)} {v:List Value} (h:∀y,x=some y→RepB (fun b=>lo'≤b) w y v) (hl:lo≤lo') (o:Obj):Opt RepB (fun b=>lo≤b) (w.alloc o) x v:=fun y hy =>
 rK (h y hy) (fun b hb=>Nat.le_trans hl hb) (fun b _ hk=>_root_.Go.heap_alloc_old w o hk)
theorem optS_one {lo:Nat} {w:World} {o:Option Stm} {v:List Value} (hE:∀y,o=some y→RepS (fun b=>lo≤b) w y v) (hl:lo≤w.heap.size) (cs:Array Value) (hcs:cs.toList=v) (h7:v.length=7):∀y,o.map (fun s=>[s])=some y→RepB (fun b=>lo≤b) (w.alloc (.cells cs 107)) y [.slice (some ⟨w.heap.size,0,none⟩) 1 1]:=fun y hy=>by
 cases o with
 | none=>cases hy
 | some s=>cases hy;exact (accS_one (hE s rfl) hl cs hcs h7).block
theorem optB_lt {w:World} {P:Nat→Prop} {x:Option (List Stm)} {v:List Value} (h:Opt RepB P w x v):Opt RepB (fun b=>P b∧b<w.heap.size) w x v:=fun y hy=>repB_lt (h y hy)
set_option maxHeartbeats 8000000 in
theorem rwhen_step {c:Ctx} (hG:Good c) {ex:Rd Ex} {blk:Rd (List Stm)} {a0:Nat} (hF:Fine c (paS c ex) a0) (hR:RReads c 107 (paS c ex) a0) (hFB:Fine c blk a0) (hB:RBlk c blk a0) (f:Nat) (ih:RWhen c (brS c ex blk) f a0):RWhen c (brS c ex blk) (f+1) a0:=by
 intro W a d h ha h0 hkd hfu
 obtain ⟨S,hS⟩:∃S,A0 (brS c ex blk (f+1) a d=S):=⟨_,⟨rfl⟩⟩
 rw [hS.out]
 have hal:=kL hkd (by omega)
 replace hR:=A0.mk hR
 replace hB:=A0.mk hB
 replace hF:=A0.mk hF
 replace hFB:=A0.mk hFB
 replace ih:=A0.mk ih
 replace hfu:=A0.mk hfu
 have hS1:A0 (S=(paS c ex (a+1) d).bind fun e a2 d2=>(blk a2 d2).bind fun b a3 d3=>(takeS c 10 a3 d3).bind fun el a4 d4 =>
   if el then (if kd c a4=11 then (brS c ex blk f a4 d4).bind fun s a5 d5=>.ok (.mk 4 nN nN [e] [b,[s]] [] (ps c a)) a5 d5
    else (blk a4 d4).bind fun b2 a5 d5=>.ok (.mk 4 nN nN [e] [b,b2] [] (ps c a)) a5 d5)
   else .ok (.mk 4 nN nN [e] [b] [] (ps c a)) a4 d4):=⟨by
  rw [←hS.out,brS]
  unfold wS
  rw [if_pos hkd,if_neg (by omega),if_neg (by omega)]
  rfl⟩
 have hIF:(Sta.here a d).go (tkS c 11)=.ok () (a+1) d:=by show tkS c 11 a d=_;unfold tkS wS;rw [if_pos hkd,if_neg (by omega),if_neg (by omega)];rfl
 replace hIF:=A0.mk hIF
 clear hS hkd
 have F0:=(Fr.start h).alloc (.cells Z7 107)
 have PS:=pC (F0.st hG).1
 have F1:=A0.mk (fun q=>(F0.drewN q).alloc (.cells #[.int .i64 4,.string ⟨#[]⟩,.string ⟨#[]⟩,.slice none 0 0,.slice none 0 0,.slice none 0 0,.int .i64 (ps c a)] 107))
 have r1:∀q,Bx (((W.alloc (.cells Z7 107)).drewN q).alloc (.cells #[.int .i64 4,.string ⟨#[]⟩,.string ⟨#[]⟩,.slice none 0 0,.slice none 0 0,.slice none 0 0,.int .i64 (ps c a)] 107)) W.heap.size 107 Z7:=fun q=>xB (X:=(W.alloc (.cells Z7 107)).drewN q) (xN W 107 _) (bA _ _)
 have v1:∀q,Bx (((W.alloc (.cells Z7 107)).drewN q).alloc (.cells #[.int .i64 4,.string ⟨#[]⟩,.string ⟨#[]⟩,.slice none 0 0,.slice none 0 0,.slice none 0 0,.int .i64 (ps c a)] 107)) (W.heap.size+1) 107 #[.int .i64 4,.string ⟨#[]⟩,.string ⟨#[]⟩,.slice none 0 0,.slice none 0 0,.slice none 0 0,.int .i64 (ps c a)]:=fun q=>by
  have:=xN ((W.alloc (.cells Z7 107)).drewN q) 107 #[.int .i64 4,.string ⟨#[]⟩,.string ⟨#[]⟩,.slice none 0 0,.slice none 0 0,.slice none 0 0,.int .i64 (ps c a)]
  rwa [show ((W.alloc (.cells Z7 107)).drewN q).heap.size=W.heap.size+1 by simp] at this
 replace r1:=A0.mk r1
 replace v1:=A0.mk v1
 have hal2:=hG.hl
 have hll:=h.2.1
 have hd64:=h.2.2.2
 have wa:IntKind.i64.wrap ((a:Int)+1)=(a:Int)+1:=IntWalk.i64_in _ (by omega)
 go_enter Tryz.func106,Tryz.ntmps106
 go_upto_region 2 with (first|(go_at_call 33;(with_reducible refine PS.mono ?_);rintro e w2 ⟨rfl,q,rfl⟩))
 have F:=F1.out q
 have hr:=r1.out q
 have hv:=v1.out q
 generalize ((W.alloc (.cells Z7 107)).drewN q).alloc (.cells #[.int .i64 4,.string ⟨#[]⟩,.string ⟨#[]⟩,.slice none 0 0,.slice none 0 0,.slice none 0 0,.int .i64 (ps c a)] 107)=X at F hr hv ⊢
 clear F0 F1 r1 v1 PS
 have hgl:=F.gl
 have CN:=tC hG (F.st hG) 11 (by omega) ⟨#[105,102]⟩ rfl hIF
 go_upto_region 3 with (first|(go_at_call 36;(with_reducible refine CN.mono ?_);rintro e X11 ⟨hg,rfl,hR1⟩))
 replace F:=F.call hg hR1
 replace hv:=xC hv hg (by omega)
 replace hr:=xC hr hg (by omega)
 clear CN hg hR1 hIF
 obtain ⟨o0,ho0⟩:∃o,A0 (((Sta.here (a+1) d)).go (paS c ex)=o):=⟨_,⟨rfl⟩⟩
 have CN:=hR.out.c (F.st hG) (fun a' d' e=>by cases e;exact ⟨by omega,h0⟩) ho0
 have hlo:=F.fr.size
 have hlo2:W.heap.size+2≤X11.heap.size:=by have:=bL hv;have:=bL hr;omega
 go_upto_region 4 with (first|(go_at_call 107;(with_reducible refine CN.mono ?_);rintro e X12 ⟨hg,⟨op2,num2,nm2,A2,n2,cap2,pos2,rfl,hE⟩,hR1⟩;have hv2:=xC hv hg (by omega);have k3:X12.cell? ⟨W.heap.size+1,3,none⟩=some (.slice none 0 0):=bC hv2 3;have j3:=bF hv2 3;have k3':∀o,(X12.alloc o).cell? ⟨W.heap.size+1,3,none⟩=some (.slice none 0 0):=fun o=>bC (xB hv2 (bA _ o)) 3;have j3':∀o,(X12.alloc o).frozen? ⟨W.heap.size+1,3,none⟩=false:=fun o=>bF (xB hv2 (bA _ o)) 3))
 have hgs:=hg.size
 replace F:=F.call hg hR1
 replace hv:=xC hv hg (by omega)
 replace hr:=xC hr hg (by omega)
 replace F:=(F.alloc (.cells #[.int .i64 op2,.int .i64 num2,.string nm2,.slice A2 n2 cap2,.int .i64 pos2] 93)).set (p:=⟨W.heap.size+1,3,none⟩) (by dsimp only;omega) (.slice (some ⟨X12.heap.size,0,none⟩) 1 1)
 have hbB:=bA X12 (.cells #[.int .i64 op2,.int .i64 num2,.string nm2,.slice A2 n2 cap2,.int .i64 pos2] 93)
 replace hv:Bx _ (W.heap.size+1) 107 #[.int .i64 4,.string ⟨#[]⟩,.string ⟨#[]⟩,.slice (some ⟨X12.heap.size,0,none⟩) 1 1,.slice none 0 0,.slice none 0 0,.int .i64 (ps c a)]:=bP (xB hv hbB) 3 (.slice (some ⟨X12.heap.size,0,none⟩) 1 1) rfl
 replace hr:=Q5 (xB hr hbB) (p:=⟨W.heap.size+1,3,none⟩) (by dsimp only;omega) (.slice (some ⟨X12.heap.size,0,none⟩) 1 1)
 have cl0:A0 (∀y,o0.val=some y→Acc RepE 93 5 (W.heap.size+2) ((X12.alloc (.cells #[.int .i64 op2,.int .i64 num2,.string nm2,.slice A2 n2 cap2,.int .i64 pos2] 93)).setCell ⟨W.heap.size+1,3,none⟩ (.slice (some ⟨X12.heap.size,0,none⟩) 1 1)) (.slice (some ⟨X12.heap.size,0,none⟩) 1 1) [y]):=⟨fun y hy=>by
  have:=accE_one (lo:=W.heap.size+2) (w:=X12) ((hE.out y hy).far (Far.refl (X11).heap.size _) hlo2) (by omega) #[.int .i64 op2,.int .i64 num2,.string nm2,.slice A2 n2 cap2,.int .i64 pos2] rfl
  exact this.farE ((Far.refl (W.heap.size+2) _).put (p:=⟨W.heap.size+1,3,none⟩) (by dsimp only;omega) _)⟩
 generalize (X12.alloc (.cells #[.int .i64 op2,.int .i64 num2,.string nm2,.slice A2 n2 cap2,.int .i64 pos2] 93)).setCell ⟨W.heap.size+1,3,none⟩ (.slice (some ⟨X12.heap.size,0,none⟩) 1 1)=X13 at F hv hr cl0 ⊢
 clear CN hE hg hR1 hv2 k3 j3 k3' j3' hbB hlo hlo2 hgs
 generalize X12.heap.size=gr0 at hv cl0 ⊢
 have hl0:=fine_lim hF.out (Nat.le_refl _) (fun a' d' e=>by cases e;exact ⟨by omega,h0,hd64⟩) ho0
 obtain ⟨o1,ho1⟩:∃o,A0 ((o0.sta).go (blk)=o):=⟨_,⟨rfl⟩⟩
 have CN:=hB.out.c (F.st hG) hl0 ho1
 have hlo:=F.fr.size
 have hlo2:W.heap.size+2≤X13.heap.size:=by have:=bL hv;have:=bL hr;omega
 go_upto_region 5 with (first|(go_at_call 35;(with_reducible refine CN.mono ?_);rintro e X14 ⟨hg,⟨A2,n2,cap2,rfl,hE⟩,hR1⟩;have hv2:=xC hv hg (by omega);have k3:X14.cell? ⟨W.heap.size+1,4,none⟩=some (.slice none 0 0):=bC hv2 4;have j3:=bF hv2 4;have k3':∀o,(X14.alloc o).cell? ⟨W.heap.size+1,4,none⟩=some (.slice none 0 0):=fun o=>bC (xB hv2 (bA _ o)) 4;have j3':∀o,(X14.alloc o).frozen? ⟨W.heap.size+1,4,none⟩=false:=fun o=>bF (xB hv2 (bA _ o)) 4))
 have hgs:=hg.size
 replace F:=F.call hg hR1
 replace hv:=xC hv hg (by omega)
 replace hr:=xC hr hg (by omega)
 replace cl0:A0 (∀y,o0.val=some y→Acc RepE 93 5 (W.heap.size+2) (X14) (.slice (some ⟨gr0,0,none⟩) 1 1) [y]):=⟨fun y hy=>(cl0.out y hy).farE (Far.ofGrown hg (by omega))⟩
 replace F:=(F.alloc (.cells #[.slice A2 n2 cap2] 25)).set (p:=⟨W.heap.size+1,4,none⟩) (by dsimp only;omega) (.slice (some ⟨X14.heap.size,0,none⟩) 1 1)
 have hbB:=bA X14 (.cells #[.slice A2 n2 cap2] 25)
 replace hv:Bx _ (W.heap.size+1) 107 #[.int .i64 4,.string ⟨#[]⟩,.string ⟨#[]⟩,.slice (some ⟨gr0,0,none⟩) 1 1,.slice (some ⟨X14.heap.size,0,none⟩) 1 1,.slice none 0 0,.int .i64 (ps c a)]:=bP (xB hv hbB) 4 (.slice (some ⟨X14.heap.size,0,none⟩) 1 1) rfl
 replace hr:=Q5 (xB hr hbB) (p:=⟨W.heap.size+1,4,none⟩) (by dsimp only;omega) (.slice (some ⟨X14.heap.size,0,none⟩) 1 1)
 replace cl0:A0 (∀y,o0.val=some y→Acc RepE 93 5 (W.heap.size+2) ((X14.alloc (.cells #[.slice A2 n2 cap2] 25)).setCell ⟨W.heap.size+1,4,none⟩ (.slice (some ⟨X14.heap.size,0,none⟩) 1 1)) (.slice (some ⟨gr0,0,none⟩) 1 1) [y]):=⟨fun y hy=>(cl0.out y hy).farE (((Far.refl _ _).alloc _).put (p:=⟨W.heap.size+1,4,none⟩) (by dsimp only;omega) _)⟩
 have cl1:A0 (∀y,o1.val=some y→Acc RepB 25 1 (W.heap.size+2) ((X14.alloc (.cells #[.slice A2 n2 cap2] 25)).setCell ⟨W.heap.size+1,4,none⟩ (.slice (some ⟨X14.heap.size,0,none⟩) 1 1)) (.slice (some ⟨X14.heap.size,0,none⟩) 1 1) [y]):=⟨fun y hy=>by
  have:=accB_one (lo:=W.heap.size+2) (w:=X14) ((hE.out y hy).far (Far.refl (X13).heap.size _) hlo2) (by omega)
  exact this.farB ((Far.refl (W.heap.size+2) _).put (p:=⟨W.heap.size+1,4,none⟩) (by dsimp only;omega) _)⟩
 generalize (X14.alloc (.cells #[.slice A2 n2 cap2] 25)).setCell ⟨W.heap.size+1,4,none⟩ (.slice (some ⟨X14.heap.size,0,none⟩) 1 1)=X15 at F hv hr cl0 cl1 ⊢
 clear CN hE hg hR1 hv2 k3 j3 k3' j3' hbB hlo hlo2 hgs
 generalize X14.heap.size=gr1 at hv cl0 cl1 ⊢
 have hl0':∀a' d',o0.sta=.here a' d'→a0≤a'∧0≤d'∧d'≤64:=fun a' d' e=>by
  cases o0 with
  | bad p er=>cases e
  | ok x a1 d1=>cases e;obtain ⟨r1,r2,r3⟩:=hF.out _ _ (by omega) h0 hd64 _ _ _ ho0.out;exact ⟨by omega,by omega,by omega⟩
 have hl1:=fine_lim hFB.out (Nat.le_refl _) hl0' ho1
 have IS:=ris_call hG (F.st hG) 10 (by omega) ⟨#[101,108,115,101]⟩ rfl
 cases hse:o1.sta.sees c 10 with
 | false =>
  rw [hse] at IS
  have hSp:A0 (S=(paS c ex (a+1) d).bind fun e a1 d1=>(blk a1 d1).bind fun b a2 d2=>.ok (.mk 4 nN nN [e] [b] [] (ps c a)) a2 d2):=⟨by
   rw [hS1.out]
   refine bind_congr fun e a2 d2 h2=>bind_congr fun b a3 d3 h3=>?_
   have hk:¬ kd c a3=10:=by
    have g0:=ho0.out;have g1:=ho1.out
    simp only [Sta.go] at g0;rw [h2] at g0;subst g0
    simp only [Out.sta,Sta.go] at g1;rw [h3] at g1;subst g1
    exact of_decide_eq_false hse
   unfold takeS;rw [if_neg hk];rfl⟩
  clear hS1 hse
  go_upto_region 10 with (first|(go_at_call 31;(with_reducible refine IS.mono ?_);rintro e X16 ⟨rfl,hb⟩))
  replace F:=F.below hb
  replace hv:=xB hv hb
  replace hr:=xB hr hb
  replace cl0:A0 (∀y,o0.val=some y→Acc RepE 93 5 (W.heap.size+2) (X16) (.slice (some ⟨gr0,0,none⟩) 1 1) [y]):=⟨fun y hy=>(cl0.out y hy).farE (⟨hb.size,fun b _ hl=>hb.block b hl⟩)⟩
  replace cl1:A0 (∀y,o1.val=some y→Acc RepB 25 1 (W.heap.size+2) (X16) (.slice (some ⟨gr1,0,none⟩) 1 1) [y]):=⟨fun y hy=>(cl1.out y hy).farB (⟨hb.size,fun b _ hl=>hb.block b hl⟩)⟩
  clear IS hb
  have hfin:A0 (S.sta=o1.sta∧∀y,S.val=some y→∃e0,∃e1,o0.val=some e0∧o1.val=some e1∧y=.mk 4 nN nN [e0] [e1] [] (ps c a)):=by
   have g0:=ho0.out
   have g1:=ho1.out
   refine ⟨?_⟩
   rw [hSp.out]
   simp only [Out.sta,Sta.go] at g0
   rw [g0]
   cases o0 with
   | bad p er =>
    simp only [Out.sta,Sta.go] at g1;subst g1
    exact ⟨rfl,fun y hy=>by cases hy⟩
   | ok x0 a0' d0' =>
    simp only [Out.bind]
    simp only [Out.sta,Sta.go] at g1
    rw [g1]
    cases o1 with
    | bad p er =>
     exact ⟨rfl,fun y hy=>by cases hy⟩
    | ok x1 a1' d1' =>
     exact ⟨rfl,fun y hy=>⟨x0,x1,rfl,rfl,by cases hy;rfl⟩⟩
  have z0:X16.cell? ⟨W.heap.size+1,0,none⟩=some (.int .i64 4):=bC hv 0
  have x0:X16.cell? ⟨W.heap.size,0,none⟩=some (.int .i64 0):=bC hr 0;have y0:=bF hr 0
  have z1:X16.cell? ⟨W.heap.size+1,1,none⟩=some (.string ⟨#[]⟩):=bC hv 1
  have x1:X16.cell? ⟨W.heap.size,1,none⟩=some (.string ⟨#[]⟩):=bC hr 1;have y1:=bF hr 1
  have z2:X16.cell? ⟨W.heap.size+1,2,none⟩=some (.string ⟨#[]⟩):=bC hv 2
  have x2:X16.cell? ⟨W.heap.size,2,none⟩=some (.string ⟨#[]⟩):=bC hr 2;have y2:=bF hr 2
  have z3:X16.cell? ⟨W.heap.size+1,3,none⟩=some (.slice (some ⟨gr0,0,none⟩) 1 1):=bC hv 3
  have x3:X16.cell? ⟨W.heap.size,3,none⟩=some (.slice none 0 0):=bC hr 3;have y3:=bF hr 3
  have z4:X16.cell? ⟨W.heap.size+1,4,none⟩=some (.slice (some ⟨gr1,0,none⟩) 1 1):=bC hv 4
  have x4:X16.cell? ⟨W.heap.size,4,none⟩=some (.slice none 0 0):=bC hr 4;have y4:=bF hr 4
  have z5:X16.cell? ⟨W.heap.size+1,5,none⟩=some (.slice none 0 0):=bC hv 5
  have x5:X16.cell? ⟨W.heap.size,5,none⟩=some (.slice none 0 0):=bC hr 5;have y5:=bF hr 5
  have z6:X16.cell? ⟨W.heap.size+1,6,none⟩=some (.int .i64 (ps c a)):=bC hv 6
  have x6:X16.cell? ⟨W.heap.size,6,none⟩=some (.int .i64 0):=bC hr 6;have y6:=bF hr 6
  clear hSp ho0 ho1
  go_wp2
  exact fin107 hG rfl rfl rfl F (by omega) (by omega) hr rfl hfin.out.1 (fun y hy=>by
   obtain ⟨e0,e1,q0,q1,rfl⟩:=hfin.out.2 y hy
   exact Acc.stmt (cl0.out _ q0) (cl1.out _ q1) (Acc.nil _) 4 nN nN (ps c a))
 | true =>
  rw [hse] at IS
  obtain ⟨b,a1,d1,rfl⟩:∃b a1 d1,o1=.ok b a1 d1:=by
   cases o1 with
   | bad p er=>cases hse
   | ok b a1 d1=>exact ⟨b,a1,d1,rfl⟩
  have hk10:kd c a1=10:=of_decide_eq_true hse
  obtain ⟨e0,a9,d9,rfl⟩:∃e0 a9 d9,o0=.ok e0 a9 d9:=by
   cases o0 with
   | bad p er=>have g1:=ho1.out;cases g1
   | ok b a1 d1=>exact ⟨b,a1,d1,rfl⟩
  have hal1:=kL hk10 (by omega)
  obtain ⟨hq1,hq2⟩:=hl1 a1 d1 rfl
  have hq3:=F.pb.2.2.2
  have haa:a+1≤a1:=by
   obtain ⟨r1,r2,r3⟩:=hF.out _ _ (by omega) h0 hd64 _ _ _ ho0.out
   obtain ⟨s1,s2,s3⟩:=hFB.out _ _ (by omega) (by omega) (by omega) _ _ _ (show blk a9 d9=.ok b a1 d1 from ho1.out)
   omega
  have wb:IntKind.i64.wrap ((a1:Int)+1)=(a1:Int)+1:=IntWalk.i64_in _ (by omega)
  have hS2:A0 (S=if kd c (a1+1)=11 then (brS c ex blk f (a1+1) d1).bind fun s a5 d5=>.ok (.mk 4 nN nN [e0] [b,[s]] [] (ps c a)) a5 d5 else (blk (a1+1) d1).bind fun b2 a5 d5=>.ok (.mk 4 nN nN [e0] [b,b2] [] (ps c a)) a5 d5):=⟨by
   have g0:=ho0.out;have g1:=ho1.out
   simp only [Sta.go] at g0;simp only [Out.sta,Sta.go] at g1
   rw [hS1.out,g0];simp only [oB];rw [g1];simp only [oB]
   unfold takeS wS;rw [if_pos hk10,if_pos hk10,if_neg (by omega),if_neg (by omega)]
   simp only [Out.bind,↓reduceIte]⟩
  have cA:=A0.mk (cl0.out e0 rfl)
  have cB:=A0.mk (cl1.out b rfl)
  clear hS1 hse hk10 cl0 cl1 ho0 ho1 hl0 hl0' hl1
  go_upto_region 6 with (first|(go_at_call 31;(with_reducible refine IS.mono ?_);rintro e X16 ⟨rfl,hb⟩))
  replace F:=F.below hb
  replace hv:=xB hv hb
  replace hr:=xB hr hb
  replace cA:=A0.mk (cA.out.farE (W':=X16) ⟨hb.size,fun b _ hl=>hb.block b hl⟩)
  replace cB:=A0.mk (cB.out.farB (W':=X16) ⟨hb.size,fun b _ hl=>hb.block b hl⟩)
  clear IS hb
  have k2:=(F.st hG).1.c2
  have j2:=(F.st hG).1.fz 2
  go_upto_region 7 with fail
  clear k2 j2
  replace F:=F.step hal1
  replace hv:=Q5 hv (p:=⟨c.g,2,none⟩) (by dsimp only;omega) (.int .i64 ((a1:Int)+1))
  replace hr:=Q5 hr (p:=⟨c.g,2,none⟩) (by dsimp only;omega) (.int .i64 ((a1:Int)+1))
  replace cA:=A0.mk (cA.out.farE ((Far.refl _ _).put (p:=⟨c.g,2,none⟩) (by dsimp only;omega) (.int .i64 ((a1:Int)+1))))
  replace cB:=A0.mk (cB.out.farB ((Far.refl _ _).put (p:=⟨c.g,2,none⟩) (by dsimp only;omega) (.int .i64 ((a1:Int)+1))))
  generalize X16.setCell ⟨c.g,2,none⟩ (.int .i64 ((a1:Int)+1))=X17 at F hv hr cA cB ⊢
  have IS:=rI hG (F.st hG).1 11 (by omega) ⟨#[105,102]⟩ rfl
  have hinfo:(Tryz.prog.info? 25).map (fun i=>(i.zero,i.size,i.bytes))=some (some (.slice none 0 0),1,24):=by kernel_rfl
  obtain ⟨i0,hi,hz0,hz1,hz2⟩:=info_parts hinfo
  clear hinfo wb wa hal hal1
  by_cases h11:kd c (a1+1)=11
  ·rw [decide_eq_true h11] at IS
   obtain ⟨o2,ho2⟩:∃o,A0 (brS c ex blk f (a1+1) d1=o):=⟨_,⟨rfl⟩⟩
   have hSp:A0 (S=o2.bind fun s a5 d5=>.ok (.mk 4 nN nN [e0] [b,[s]] [] (ps c a)) a5 d5):=⟨by rw [hS2.out,if_pos h11,ho2.out]⟩
   replace h11:=A0.mk h11
   clear hS2
   go_upto_region 8 with (first|(go_at_call 31;(with_reducible refine IS.mono ?_);rintro e wx ⟨rfl,hb⟩))
   replace F:=F.below hb
   replace hv:=xB hv hb
   replace hr:=xB hr hb
   replace cA:=A0.mk (cA.out.farE (W':=wx) ⟨hb.size,fun b _ hl=>hb.block b hl⟩)
   replace cB:=A0.mk (cB.out.farB (W':=wx) ⟨hb.size,fun b _ hl=>hb.block b hl⟩)
   clear IS hb
   have Fd:=F.drew
   have hvd:=bD hv
   have hrd:=bD hr
   have CN:=ih.out.c (Fd.st hG) (by omega) hq2 h11.out (by have:=hfu.out;omega) ho2
   have z4:wx.cell? ⟨W.heap.size+1,4,none⟩=some (.slice (some ⟨gr1,0,none⟩) 1 1):=bC hv 4
   have hlv:∀k,(Value.slice (some ⟨gr1,0,none⟩) 1 1).ownBlock=some k→W.heap.size+2≤k∧k<wx.drew.heap.size:=cB.out.lt
   replace hlv:=A0.mk hlv
   have hl3:W.heap.size+1<wx.drew.heap.size:=bL hvd
   replace hl3:=A0.mk hl3
   go_region_law (first
    | (go_simp;go_at_call 106;(with_reducible refine CN.mono ?_);rintro e1 w1 ⟨hg,⟨op,name,read,A1,n1,c1,A2,n2,c2,A3,n3,c3,pos,rfl,hE⟩,hR1⟩;(have hgs:=hg.size;have Fc:=Fd.call hg hR1;have hvc:=xC hvd hg (by omega);have hrc:=xC hrd hg (by omega);have t3:w1.cell? ⟨W.heap.size+1,4,none⟩=some (.slice (some ⟨gr1,0,none⟩) 1 1):=bC hvc 4;have t4:∀o,(w1.alloc o).cell? ⟨W.heap.size+1,4,none⟩=some (.slice (some ⟨gr1,0,none⟩) 1 1):=fun o=>bC (xB hvc (bA _ o)) 4;have t5:∀o o',((w1.alloc o).alloc o').cell? ⟨W.heap.size+1,4,none⟩=some (.slice (some ⟨gr1,0,none⟩) 1 1):=fun o o'=>bC (xB hvc ((bA _ o).alloc (by simp) o')) 4;have hA1:=A0.mk (((cB.out.farB ((Far.refl _ _).drew)).farB (Far.ofGrown hg (by omega))).toOpt);have hE2:A0 (∀y,(o2.val.map fun s=>[s])=some y→RepB (fun b=>wx.drew.heap.size≤b) (w1.alloc (.cells (E107 op name read (.slice A1 n1 c1) (.slice A2 n2 c2) (.slice A3 n3 c3) pos) 107)) y [.slice (some ⟨w1.heap.size,0,none⟩) 1 1]):=⟨optS_one hE.out hgs (E107 op name read (.slice A1 n1 c1) (.slice A2 n2 c2) (.slice A3 n3 c3) pos) rfl rfl⟩;have hsA:(w1.alloc (.cells (E107 op name read (.slice A1 n1 c1) (.slice A2 n2 c2) (.slice A3 n3 c3) pos) 107)).heap.size=w1.heap.size+1:=by simp;try dsimp only))
    | (refine step_append_two (R:=Opt RepB) optB_keeps rfl (.tmp 29) (.tmp 33) 104 rfl (W.heap.size+2) 25 i0 (.slice none 0 0) 1 24 Tryz.underlying104 hi hz0 hz1 hz2 rfl (by decide) gr1 (some b) rfl (Acc.far (R:=Opt RepB) optB_keeps hA1.out (((Far.refl _ _).alloc (.cells (E107 op name read (.slice A1 n1 c1) (.slice A2 n2 c2) (.slice A3 n3 c3) pos) 107)).alloc (.cells #[.slice (some ⟨w1.heap.size,0,none⟩) 1 1] 25))) ⟨w1.heap.size+1,0,none⟩ 1 (o2.val.map fun s=>[s]) [.slice (some ⟨w1.heap.size,0,none⟩) 1 1] rfl rfl (fun j u hu=>by have:=oA (w:=(w1.alloc (.cells (E107 op name read (.slice A1 n1 c1) (.slice A2 n2 c2) (.slice A3 n3 c3) pos) 107))) #[.slice (some ⟨w1.heap.size,0,none⟩) 1 1] 25 [.slice (some ⟨w1.heap.size,0,none⟩) 1 1] rfl j u hu;rwa [hsA] at this) (fun u hu=>by simp at hu;subst hu;rfl) (optB_far hE2.out (by have:=hl3.out;omega) _) optB_lt (by simp [maxLen]) (by simp) (by have:=hl3.out;simp;omega) ?_;intro g9 cp w3 hA3 hg3;(have Fe:=(Fc.below ((bA w1 (.cells (E107 op name read (.slice A1 n1 c1) (.slice A2 n2 c2) (.slice A3 n3 c3) pos) 107)).alloc (by simp) (.cells #[.slice (some ⟨w1.heap.size,0,none⟩) 1 1] 25))).row hg3 (fun k hk=>by cases hk);have hve:=bx_row (xB hvc ((bA w1 (.cells (E107 op name read (.slice A1 n1 c1) (.slice A2 n2 c2) (.slice A3 n3 c3) pos) 107)).alloc (by simp) (.cells #[.slice (some ⟨w1.heap.size,0,none⟩) 1 1] 25))) hg3 (fun k hk=>by cases hk);have hre:=bx_row (xB hrc ((bA w1 (.cells (E107 op name read (.slice A1 n1 c1) (.slice A2 n2 c2) (.slice A3 n3 c3) pos) 107)).alloc (by simp) (.cells #[.slice (some ⟨w1.heap.size,0,none⟩) 1 1] 25))) hg3 (fun k hk=>by cases hk);have cA3:=A0.mk ((((cA.out.farE ((Far.refl _ _).drew)).farE (Far.ofGrown hg (by omega))).farE (((Far.refl _ _).alloc (.cells (E107 op name read (.slice A1 n1 c1) (.slice A2 n2 c2) (.slice A3 n3 c3) pos) 107)).alloc (.cells #[.slice (some ⟨w1.heap.size,0,none⟩) 1 1] 25))).farE (W':=w3) ⟨hg3.size,fun b _ hl=>hg3.block b hl (by simp)⟩);have u3:w3.cell? ⟨W.heap.size+1,4,none⟩=some (.slice (some ⟨gr1,0,none⟩) 1 1):=bC hve 4;have uf3:=bF hve 4)))
   all_goals (
    have F9:=Fe.set (p:=⟨W.heap.size+1,4,none⟩) (by dsimp only;omega) (.slice (some ⟨g9,0,none⟩) 2 cp)
    have hv9:Bx _ (W.heap.size+1) 107 #[.int .i64 4,.string ⟨#[]⟩,.string ⟨#[]⟩,.slice (some ⟨gr0,0,none⟩) 1 1,.slice (some ⟨g9,0,none⟩) 2 cp,.slice none 0 0,.int .i64 (ps c a)]:=bP hve 4 (.slice (some ⟨g9,0,none⟩) 2 cp) rfl
    have hr9:=Q5 hre (p:=⟨W.heap.size+1,4,none⟩) (by dsimp only;omega) (.slice (some ⟨g9,0,none⟩) 2 cp)
    have cA9:=A0.mk (cA3.out.farE ((Far.refl _ _).put (p:=⟨W.heap.size+1,4,none⟩) (by dsimp only;omega) (.slice (some ⟨g9,0,none⟩) 2 cp)))
    have cB9:=A0.mk (Acc.far (R:=Opt RepB) optB_keeps hA3 ((Far.refl _ _).put (p:=⟨W.heap.size+1,4,none⟩) (by dsimp only;omega) (.slice (some ⟨g9,0,none⟩) 2 cp)))
    generalize w3.setCell ⟨W.heap.size+1,4,none⟩ (.slice (some ⟨g9,0,none⟩) 2 cp)=X9 at F9 hv9 hr9 cA9 cB9 ⊢
    have hfin:A0 (S.sta=o2.sta∧∀y,S.val=some y→∃s,o2.val=some s∧y=.mk 4 nN nN [e0] [b,[s]] [] (ps c a)):=⟨by
     rw [hSp.out]
     cases o2 with
     | bad p er=>exact ⟨rfl,fun y hy=>by cases hy⟩
     | ok s a5 d5=>exact ⟨rfl,fun y hy=>⟨s,rfl,by cases hy;rfl⟩⟩⟩
    have z0:X9.cell? ⟨W.heap.size+1,0,none⟩=some (.int .i64 4):=bC hv9 0
    have x0:X9.cell? ⟨W.heap.size,0,none⟩=some (.int .i64 0):=bC hr9 0;have y0:=bF hr9 0
    have z1:X9.cell? ⟨W.heap.size+1,1,none⟩=some (.string ⟨#[]⟩):=bC hv9 1
    have x1:X9.cell? ⟨W.heap.size,1,none⟩=some (.string ⟨#[]⟩):=bC hr9 1;have y1:=bF hr9 1
    have z2:X9.cell? ⟨W.heap.size+1,2,none⟩=some (.string ⟨#[]⟩):=bC hv9 2
    have x2:X9.cell? ⟨W.heap.size,2,none⟩=some (.string ⟨#[]⟩):=bC hr9 2;have y2:=bF hr9 2
    have z3:X9.cell? ⟨W.heap.size+1,3,none⟩=some (.slice (some ⟨gr0,0,none⟩) 1 1):=bC hv9 3
    have x3:X9.cell? ⟨W.heap.size,3,none⟩=some (.slice none 0 0):=bC hr9 3;have y3:=bF hr9 3
    have z4:X9.cell? ⟨W.heap.size+1,4,none⟩=some (.slice (some ⟨g9,0,none⟩) 2 cp):=bC hv9 4
    have x4:X9.cell? ⟨W.heap.size,4,none⟩=some (.slice none 0 0):=bC hr9 4;have y4:=bF hr9 4
    have z5:X9.cell? ⟨W.heap.size+1,5,none⟩=some (.slice none 0 0):=bC hv9 5
    have x5:X9.cell? ⟨W.heap.size,5,none⟩=some (.slice none 0 0):=bC hr9 5;have y5:=bF hr9 5
    have z6:X9.cell? ⟨W.heap.size+1,6,none⟩=some (.int .i64 (ps c a)):=bC hv9 6
    have x6:X9.cell? ⟨W.heap.size,6,none⟩=some (.int .i64 0):=bC hr9 6;have y6:=bF hr9 6
    clear u3 uf3 t3 t4 hve hre hvc hrc Fc Fe hA3 hg3 hgs hg hE hR1 hE2 cA3 hA1 t5 hsA CN Fd hvd hrd hSp ho2 hlv hl3 cA cB F hv hr hi hz0 hz1 hz2
    go_wp2
    exact fin107 hG rfl rfl rfl F9 (by omega) (by omega) hr9 rfl hfin.out.1 (fun y hy=>by
     obtain ⟨s,q,rfl⟩:=hfin.out.2 y hy
     have h9:=cB9.out
     rw [q] at h9
     exact Acc.stmt cA9.out (Acc.ofOpt (l:=[b,[s]]) h9) (Acc.nil _) 4 nN nN (ps c a)))
  ·rw [decide_eq_false h11] at IS
   obtain ⟨o2,ho2⟩:∃o,A0 ((Sta.here (a1+1) d1).go blk=o):=⟨_,⟨rfl⟩⟩
   have hSp:A0 (S=o2.bind fun b2 a5 d5=>.ok (.mk 4 nN nN [e0] [b,b2] [] (ps c a)) a5 d5):=⟨by rw [hS2.out,if_neg h11,←ho2.out];rfl⟩
   clear h11
   clear hS2
   go_upto_region 9 with (first|(go_at_call 31;(with_reducible refine IS.mono ?_);rintro e wx ⟨rfl,hb⟩))
   replace F:=F.below hb
   replace hv:=xB hv hb
   replace hr:=xB hr hb
   replace cA:=A0.mk (cA.out.farE (W':=wx) ⟨hb.size,fun b _ hl=>hb.block b hl⟩)
   replace cB:=A0.mk (cB.out.farB (W':=wx) ⟨hb.size,fun b _ hl=>hb.block b hl⟩)
   clear IS hb
   have Fd:=F.drew
   have hvd:=bD hv
   have hrd:=bD hr
   have CN:=hB.out.c (Fd.st hG) (fun a' d' e=>by cases e;exact ⟨by omega,hq2⟩) ho2
   have z4:wx.cell? ⟨W.heap.size+1,4,none⟩=some (.slice (some ⟨gr1,0,none⟩) 1 1):=bC hv 4
   have hlv:∀k,(Value.slice (some ⟨gr1,0,none⟩) 1 1).ownBlock=some k→W.heap.size+2≤k∧k<wx.drew.heap.size:=cB.out.lt
   replace hlv:=A0.mk hlv
   have hl3:W.heap.size+1<wx.drew.heap.size:=bL hvd
   replace hl3:=A0.mk hl3
   go_region_law (first
    | (go_simp;go_at_call 35;(with_reducible refine CN.mono ?_);rintro e1 w1 ⟨hg,⟨A2,n2,cap2,rfl,hE⟩,hR1⟩;(have hgs:=hg.size;have Fc:=Fd.call hg hR1;have hvc:=xC hvd hg (by omega);have hrc:=xC hrd hg (by omega);have t3:w1.cell? ⟨W.heap.size+1,4,none⟩=some (.slice (some ⟨gr1,0,none⟩) 1 1):=bC hvc 4;have t4:∀o,(w1.alloc o).cell? ⟨W.heap.size+1,4,none⟩=some (.slice (some ⟨gr1,0,none⟩) 1 1):=fun o=>bC (xB hvc (bA _ o)) 4;have t5:∀o o',((w1.alloc o).alloc o').cell? ⟨W.heap.size+1,4,none⟩=some (.slice (some ⟨gr1,0,none⟩) 1 1):=fun o o'=>bC (xB hvc ((bA _ o).alloc (by simp) o')) 4;have hA1:=A0.mk (((cB.out.farB ((Far.refl _ _).drew)).farB (Far.ofGrown hg (by omega))).toOpt);have hE2:=hE;try dsimp only))
    | (refine step_append_two (R:=Opt RepB) optB_keeps rfl (.tmp 37) (.tmp 40) 104 rfl (W.heap.size+2) 25 i0 (.slice none 0 0) 1 24 Tryz.underlying104 hi hz0 hz1 hz2 rfl (by decide) gr1 (some b) rfl (Acc.far (R:=Opt RepB) optB_keeps hA1.out ((Far.refl _ _).alloc (.cells #[.slice A2 n2 cap2] 25))) ⟨w1.heap.size,0,none⟩ 1 o2.val [.slice A2 n2 cap2] rfl rfl (oA _ _ _ rfl) (fun u hu=>by simp at hu;subst hu;rfl) (optB_far hE2.out (by have:=hl3.out;omega) _) optB_lt (by simp [maxLen]) (by simp) (by have:=hl3.out;simp;omega) ?_;intro g9 cp w3 hA3 hg3;(have Fe:=(Fc.below (bA w1 (.cells #[.slice A2 n2 cap2] 25))).row hg3 (fun k hk=>by cases hk);have hve:=bx_row (xB hvc (bA w1 (.cells #[.slice A2 n2 cap2] 25))) hg3 (fun k hk=>by cases hk);have hre:=bx_row (xB hrc (bA w1 (.cells #[.slice A2 n2 cap2] 25))) hg3 (fun k hk=>by cases hk);have cA3:=A0.mk ((((cA.out.farE ((Far.refl _ _).drew)).farE (Far.ofGrown hg (by omega))).farE ((Far.refl _ _).alloc (.cells #[.slice A2 n2 cap2] 25))).farE (W':=w3) ⟨hg3.size,fun b _ hl=>hg3.block b hl (by simp)⟩);have u3:w3.cell? ⟨W.heap.size+1,4,none⟩=some (.slice (some ⟨gr1,0,none⟩) 1 1):=bC hve 4;have uf3:=bF hve 4)))
   all_goals (
    have F9:=Fe.set (p:=⟨W.heap.size+1,4,none⟩) (by dsimp only;omega) (.slice (some ⟨g9,0,none⟩) 2 cp)
    have hv9:Bx _ (W.heap.size+1) 107 #[.int .i64 4,.string ⟨#[]⟩,.string ⟨#[]⟩,.slice (some ⟨gr0,0,none⟩) 1 1,.slice (some ⟨g9,0,none⟩) 2 cp,.slice none 0 0,.int .i64 (ps c a)]:=bP hve 4 (.slice (some ⟨g9,0,none⟩) 2 cp) rfl
    have hr9:=Q5 hre (p:=⟨W.heap.size+1,4,none⟩) (by dsimp only;omega) (.slice (some ⟨g9,0,none⟩) 2 cp)
    have cA9:=A0.mk (cA3.out.farE ((Far.refl _ _).put (p:=⟨W.heap.size+1,4,none⟩) (by dsimp only;omega) (.slice (some ⟨g9,0,none⟩) 2 cp)))
    have cB9:=A0.mk (Acc.far (R:=Opt RepB) optB_keeps hA3 ((Far.refl _ _).put (p:=⟨W.heap.size+1,4,none⟩) (by dsimp only;omega) (.slice (some ⟨g9,0,none⟩) 2 cp)))
    generalize w3.setCell ⟨W.heap.size+1,4,none⟩ (.slice (some ⟨g9,0,none⟩) 2 cp)=X9 at F9 hv9 hr9 cA9 cB9 ⊢
    have hfin:A0 (S.sta=o2.sta∧∀y,S.val=some y→∃s,o2.val=some s∧y=.mk 4 nN nN [e0] [b,s] [] (ps c a)):=⟨by
     rw [hSp.out]
     cases o2 with
     | bad p er=>exact ⟨rfl,fun y hy=>by cases hy⟩
     | ok s a5 d5=>exact ⟨rfl,fun y hy=>⟨s,rfl,by cases hy;rfl⟩⟩⟩
    have z0:X9.cell? ⟨W.heap.size+1,0,none⟩=some (.int .i64 4):=bC hv9 0
    have x0:X9.cell? ⟨W.heap.size,0,none⟩=some (.int .i64 0):=bC hr9 0;have y0:=bF hr9 0
    have z1:X9.cell? ⟨W.heap.size+1,1,none⟩=some (.string ⟨#[]⟩):=bC hv9 1
    have x1:X9.cell? ⟨W.heap.size,1,none⟩=some (.string ⟨#[]⟩):=bC hr9 1;have y1:=bF hr9 1
    have z2:X9.cell? ⟨W.heap.size+1,2,none⟩=some (.string ⟨#[]⟩):=bC hv9 2
    have x2:X9.cell? ⟨W.heap.size,2,none⟩=some (.string ⟨#[]⟩):=bC hr9 2;have y2:=bF hr9 2
    have z3:X9.cell? ⟨W.heap.size+1,3,none⟩=some (.slice (some ⟨gr0,0,none⟩) 1 1):=bC hv9 3
    have x3:X9.cell? ⟨W.heap.size,3,none⟩=some (.slice none 0 0):=bC hr9 3;have y3:=bF hr9 3
    have z4:X9.cell? ⟨W.heap.size+1,4,none⟩=some (.slice (some ⟨g9,0,none⟩) 2 cp):=bC hv9 4
    have x4:X9.cell? ⟨W.heap.size,4,none⟩=some (.slice none 0 0):=bC hr9 4;have y4:=bF hr9 4
    have z5:X9.cell? ⟨W.heap.size+1,5,none⟩=some (.slice none 0 0):=bC hv9 5
    have x5:X9.cell? ⟨W.heap.size,5,none⟩=some (.slice none 0 0):=bC hr9 5;have y5:=bF hr9 5
    have z6:X9.cell? ⟨W.heap.size+1,6,none⟩=some (.int .i64 (ps c a)):=bC hv9 6
    have x6:X9.cell? ⟨W.heap.size,6,none⟩=some (.int .i64 0):=bC hr9 6;have y6:=bF hr9 6
    clear u3 uf3 t3 t4 hve hre hvc hrc Fc Fe hA3 hg3 hgs hg hE hR1 hE2 cA3 hA1 t5 CN Fd hvd hrd hSp ho2 hlv hl3 cA cB F hv hr hi hz0 hz1 hz2
    go_wp2
    exact fin107 hG rfl rfl rfl F9 (by omega) (by omega) hr9 rfl hfin.out.1 (fun y hy=>by
     obtain ⟨s,q,rfl⟩:=hfin.out.2 y hy
     have h9:=cB9.out
     rw [q] at h9
     exact Acc.stmt cA9.out (Acc.ofOpt (l:=[b,s]) h9) (Acc.nil _) 4 nN nN (ps c a)))
theorem accE_two {lo:Nat} {w:World} {x y:Ex} {u v:List Value} (h1:RepE (fun b=>lo≤b) w x u) (h2:RepE (fun b=>lo≤b) w y v) (hl:lo≤w.heap.size) (cs:Array Value) (hcs:cs.toList=u++v):Acc RepE 93 5 lo (w.alloc (.cells cs 93)) (.slice (some ⟨w.heap.size,0,none⟩) 2 2) [x,y] :=
 Acc.lit (R:=RepE) repE_keeps (xs:=[x,y]) (vs:=[u,v]) cs ⟨h1,h2,trivial⟩ (by simpa using hcs) (by have:=repE_len h1;have:=repE_len h2;simp;omega) hl (by simp [maxLen]) repE_lt
set_option maxHeartbeats 8000000 in
theorem rnamed_store {c:Ctx} (hG:Good c) {ex:Rd Ex} {a0:Nat} (hF:Fine c ex (a0+1)) (hR:RReads c 138 ex (a0+1)) (W:World) (a:Nat) (d:Int) (h:RSt c W (.here a d)) (ha:a0≤a) (h0:0≤d) (hkd:kd c a=1) (h48:kd c (a+1)=48) :
  Calls Tryz.prog 105 #[c.me,.agg (P7 (ps c a))] W (RPost c W (repSo W.heap.size) (asgS c ex a d)):=by
 obtain ⟨S,hS⟩:∃S,A0 (asgS c ex a d=S):=⟨_,⟨rfl⟩⟩
 rw [hS.out]
 have hal:=kL hkd (by omega)
 replace hR:=A0.mk hR
 replace hF:=A0.mk hF
 obtain ⟨T,hT⟩:∃T,textS c (c.L.getD a zTok)=T:=⟨_,rfl⟩
 have hS1:A0 (S=((takeS c 48 (a+1) d).bind fun b a2 d2 =>
   if b then (ex a2 d2).bind fun i a3 d3=>(wS c 49 a3 d3).bind fun _ a4 d4=>(wS c 44 a4 d4).bind fun _ a5 d5=>(ex a5 d5).bind fun x a6 d6=>.ok ((2,T,nN,[i,x]):Asg) a6 d6
   else (wS c 44 a2 d2).bind fun _ a3 d3=>(takeS c 22 a3 d3).bind fun r a4 d4=>if r then (nS c a4 d4).bind fun t a5 d5=>.ok ((3,T,t,[]):Asg) a5 d5 else (ex a4 d4).bind fun x a5 d5=>.ok ((1,T,nN,[x]):Asg) a5 d5).bind fun q a1 d1=>(wS c 41 a1 d1).bind fun _ a2 d2=>.ok (.mk q.1 q.2.1 q.2.2.1 q.2.2.2 [] [] (ps c a)) a2 d2):=⟨by
  rw [←hS.out];unfold asgS assignS;rw [nameS_ok hkd,hT];rfl⟩
 have NM:=fun Z (hZ:RSt c Z (.here a d))=>rname_ok hG hZ hkd
 rw [hT] at NM
 have hal2:=hG.hl
 have hd64:=h.2.2.2
 have F:=((Fr.start h).alloc (.cells (P7 (ps c a)) 107)).alloc (.cells Z7 107)
 have hv:Bx ((W.alloc (.cells (P7 (ps c a)) 107)).alloc (.cells Z7 107)) W.heap.size 107 (P7 (ps c a)):=xB (X:=W.alloc (.cells (P7 (ps c a)) 107)) (xN W 107 _) (bA _ _)
 have hr:Bx ((W.alloc (.cells (P7 (ps c a)) 107)).alloc (.cells Z7 107)) (W.heap.size+1) 107 Z7:=by
  have:=xN (W.alloc (.cells (P7 (ps c a)) 107)) 107 Z7
  rwa [show (W.alloc (.cells (P7 (ps c a)) 107)).heap.size=W.heap.size+1 by simp] at this
 have hgl:=F.gl
 replace hkd:=A0.mk hkd
 clear hS hT
 go_enter Tryz.func105,Tryz.ntmps105
 go_upto_region 1 with fail
 generalize (W.alloc (.cells (P7 (ps c a)) 107)).alloc (.cells Z7 107)=X at F hv hr ⊢
 have CN:=NM _ (F.st hG)
 go_upto_region 2 with (first|(go_at_call 34;(with_reducible refine CN.mono ?_);rintro e w9 ⟨hg,rfl,hR1⟩;have hv2:=xC hv hg (by omega);have z0:w9.cell? ⟨W.heap.size,1,none⟩=some (.string ⟨#[]⟩):=bC hv2 1;have y0:=bF hv2 1))
 replace F:=F.call hg hR1
 replace hv:=xC hv hg (by omega)
 replace hr:=xC hr hg (by omega)
 clear CN NM hg hR1 hv2 z0 y0
 replace F:=F.set (p:=⟨W.heap.size,1,none⟩) (by dsimp only;omega) (.string T)
 replace hv:Bx _ (W.heap.size) 107 #[.int .i64 0,.string T,.string ⟨#[]⟩,.slice none 0 0,.slice none 0 0,.slice none 0 0,.int .i64 (ps c a)]:=bP hv 1 (.string T) rfl
 replace hr:=Q5 hr (p:=⟨W.heap.size,1,none⟩) (by dsimp only;omega) (.string T)
 generalize w9.setCell ⟨W.heap.size,1,none⟩ (.string T)=X11 at F hv hr ⊢
 have IS:=rI hG (F.st hG).1 48 (by omega) ⟨#[91]⟩ rfl
 rw [decide_eq_true h48] at IS
 have hSp:A0 (S=(tkS c 48 (a+1) d).bind fun _ a2 d2=>(ex a2 d2).bind fun i a3 d3=>(tkS c 49 a3 d3).bind fun _ a4 d4=>(tkS c 44 a4 d4).bind fun _ a5 d5=>(ex a5 d5).bind fun x a6 d6=>(tkS c 41 a6 d6).bind fun _ a7 d7=>.ok (.mk 2 T nN [i,x] [] [] (ps c a)) a7 d7):=⟨by
  rw [hS1.out];unfold takeS;rw [if_pos h48];simp only [bind_bind,oB,tk_bind,↓reduceIte]⟩
 clear h48 hS1 hal
 go_upto_region 3 with (first|(go_at_call 31;(with_reducible refine IS.mono ?_);rintro e X12 ⟨rfl,hb⟩))
 replace F:=F.below hb
 replace hv:=xB hv hb
 replace hr:=xB hr hb
 clear IS hb
 have z0:X12.cell? ⟨W.heap.size,0,none⟩=some (.int .i64 0):=bC hv 0
 have y0:=bF hv 0
 go_upto_region 4 with fail
 clear z0 y0
 replace F:=F.set (p:=⟨W.heap.size,0,none⟩) (by dsimp only;omega) (.int .i64 2)
 replace hv:Bx _ (W.heap.size) 107 #[.int .i64 2,.string T,.string ⟨#[]⟩,.slice none 0 0,.slice none 0 0,.slice none 0 0,.int .i64 (ps c a)]:=bP hv 0 (.int .i64 2) rfl
 replace hr:=Q5 hr (p:=⟨W.heap.size,0,none⟩) (by dsimp only;omega) (.int .i64 2)
 generalize X12.setCell ⟨W.heap.size,0,none⟩ (.int .i64 2)=X13 at F hv hr ⊢
 obtain ⟨o0,ho0⟩:∃o,A0 (((Sta.here (a+1) d)).go (tkS c 48)=o):=⟨_,⟨rfl⟩⟩
 have CN:=tC hG (F.st hG) 48 (by omega) ⟨#[91]⟩ rfl ho0
 go_upto_region 5 with (first|(go_at_call 36;(with_reducible refine CN.mono ?_);rintro e X14 ⟨hg,rfl,hR1⟩))
 replace F:=F.call hg hR1
 replace hv:=xC hv hg (by omega)
 replace hr:=xC hr hg (by omega)
 clear CN hg hR1
 have hl0:=tk_open_lim (a0:=a0+1) (by omega) (fun a' d' e=>by cases e;exact ⟨by omega,h0⟩) ho0
 obtain ⟨o1,ho1⟩:∃o,A0 (o0.sta.go ex=o):=⟨_,⟨rfl⟩⟩
 have CN:=hR.out.c (F.st hG) (fun a' d' e=>⟨by have:=(hl0 a' d' e).1;omega,(hl0 a' d' e).2⟩) ho1
 have hlo2:W.heap.size+2≤X14.heap.size:=by have:=bL hr;omega
 go_upto_region 6 with (first|(go_at_call 138;(with_reducible refine CN.mono ?_);rintro e X15 ⟨hg,⟨op2,num2,nm2,A2,n2,cap2,pos2,rfl,hE⟩,hR1⟩))
 have hgs:=hg.size
 replace F:=F.call hg hR1
 replace hv:=xC hv hg (by omega)
 replace hr:=xC hr hg (by omega)
 have hbB:=bA X15 (.cells #[.int .i64 op2,.int .i64 num2,.string nm2,.slice A2 n2 cap2,.int .i64 pos2] 93)
 replace F:=F.below hbB
 replace hv:=xB hv hbB
 replace hr:=xB hr hbB
 have hi:=xN X15 93 #[.int .i64 op2,.int .i64 num2,.string nm2,.slice A2 n2 cap2,.int .i64 pos2]
 have ci:A0 (∀y,o1.val=some y→RepE (fun b=>W.heap.size+2≤b) (X15.alloc (.cells #[.int .i64 op2,.int .i64 num2,.string nm2,.slice A2 n2 cap2,.int .i64 pos2] 93)) y (eC op2 num2 nm2 A2 n2 cap2 pos2)):=⟨fun y hy=>(hE.out y hy).far ((Far.refl X14.heap.size _).alloc _) hlo2⟩
 have hgi:W.heap.size+2≤X15.heap.size:=by omega
 generalize X15.alloc (.cells #[.int .i64 op2,.int .i64 num2,.string nm2,.slice A2 n2 cap2,.int .i64 pos2] 93)=X16 at F hv hr hi ci ⊢
 clear CN hg hE hR1 hgs hbB hlo2
 generalize X15.heap.size=gi at hi hgi ⊢
 obtain ⟨o2,ho2⟩:∃o,A0 ((o1.sta).go (tkS c 49)=o):=⟨_,⟨rfl⟩⟩
 have CN:=tC hG (F.st hG) 49 (by omega) ⟨#[93]⟩ rfl ho2
 go_upto_region 7 with (first|(go_at_call 36;(with_reducible refine CN.mono ?_);rintro e X17 ⟨hg,rfl,hR1⟩))
 replace F:=F.call hg hR1
 replace hv:=xC hv hg (by omega)
 replace hr:=xC hr hg (by omega)
 replace hi:=xC hi hg (by omega)
 replace ci:A0 (∀y,o1.val=some y→RepE (fun b=>W.heap.size+2≤b) X17 y (eC op2 num2 nm2 A2 n2 cap2 pos2)):=⟨fun y hy=>(ci.out y hy).far (Far.ofGrown hg (by omega)) (Nat.le_refl _)⟩
 clear CN hg hR1
 obtain ⟨o3,ho3⟩:∃o,A0 ((o2.sta).go (tkS c 44)=o):=⟨_,⟨rfl⟩⟩
 have CN:=tC hG (F.st hG) 44 (by omega) ⟨#[61]⟩ rfl ho3
 go_upto_region 8 with (first|(go_at_call 36;(with_reducible refine CN.mono ?_);rintro e X18 ⟨hg,rfl,hR1⟩))
 replace F:=F.call hg hR1
 replace hv:=xC hv hg (by omega)
 replace hr:=xC hr hg (by omega)
 replace hi:=xC hi hg (by omega)
 replace ci:A0 (∀y,o1.val=some y→RepE (fun b=>W.heap.size+2≤b) X18 y (eC op2 num2 nm2 A2 n2 cap2 pos2)):=⟨fun y hy=>(ci.out y hy).far (Far.ofGrown hg (by omega)) (Nat.le_refl _)⟩
 clear CN hg hR1
 have hl3:=tk_lim (by omega) (by omega) (idx_lim hF.out ha h0 hd64 ho0 ho1 ho2) ho3
 obtain ⟨o4,ho4⟩:∃o,A0 (o3.sta.go ex=o):=⟨_,⟨rfl⟩⟩
 have Fd:=F.drew
 have hvd:=bD hv
 have hrd:=bD hr
 have hid:=bD hi
 have CN:=hR.out.c (Fd.st hG) hl3 ho4
 have hS0:A0 (X18.drew.cell? ⟨gi,0,none⟩=some (.int .i64 op2)∧X18.drew.cell? ⟨gi,1,none⟩=some (.int .i64 num2)∧X18.drew.cell? ⟨gi,2,none⟩=some (.string nm2)∧X18.drew.cell? ⟨gi,3,none⟩=some (.slice A2 n2 cap2)∧X18.drew.cell? ⟨gi,4,none⟩=some (.int .i64 pos2)):=⟨⟨bC hid 0,bC hid 1,bC hid 2,bC hid 3,bC hid 4⟩⟩
 have hlo2:W.heap.size+2≤X18.drew.heap.size:=Nat.le_trans hgi (Nat.le_of_lt (bL hid))
 have SK:∀Z,Bx Z gi 93 (E93 op2 num2 nm2 A2 n2 cap2 pos2)→Z.cell? ⟨gi,0,none⟩=some (.int .i64 op2)∧Z.cell? ⟨gi,1,none⟩=some (.int .i64 num2)∧Z.cell? ⟨gi,2,none⟩=some (.string nm2)∧Z.cell? ⟨gi,3,none⟩=some (.slice A2 n2 cap2)∧Z.cell? ⟨gi,4,none⟩=some (.int .i64 pos2):=fun Z hZ=>⟨bC hZ 0,bC hZ 1,bC hZ 2,bC hZ 3,bC hZ 4⟩
 replace SK:=A0.mk SK
 go_region_held3 (fun w':World=>w'.cell? ⟨gi,0,none⟩=some (.int .i64 op2)∧w'.cell? ⟨gi,1,none⟩=some (.int .i64 num2)∧w'.cell? ⟨gi,2,none⟩=some (.string nm2)∧w'.cell? ⟨gi,3,none⟩=some (.slice A2 n2 cap2)∧w'.cell? ⟨gi,4,none⟩=some (.int .i64 pos2)) (first | with_reducible exact hS0.out | exact SK.out _ hi5 | exact SK.out _ (xB hi5 (bA _ _)) | exact SK.out _ (Q5 (xB hi5 (bA _ _)) (by dsimp only;omega) _) | exact SK.out _ (xB (Q5 hi5 (by dsimp only;omega) _) (bA _ _)))
  (first|(go_at_call 138;(with_reducible refine CN.mono ?_);rintro e X19 ⟨hg,⟨op4,num4,nm4,A4,n4,cap4,pos4,rfl,hE⟩,hR1⟩;(have hv5:=xC hvd hg (by omega);have hr5:=xC hrd hg (by omega);have hi5:=xC hid hg (by omega);have k3:X19.cell? ⟨W.heap.size,3,none⟩=some (.slice none 0 0):=bC hv5 3;have j3:=bF hv5 3;have k3':∀o,(X19.alloc o).cell? ⟨W.heap.size,3,none⟩=some (.slice none 0 0):=fun o=>bC (xB hv5 (bA _ o)) 3;have j3':∀o,(X19.alloc o).frozen? ⟨W.heap.size,3,none⟩=false:=fun o=>bF (xB hv5 (bA _ o)) 3)))
 have hgs:=hg.size
 replace F:=((Fd.call hg hR1).alloc (.cells #[.int .i64 op2,.int .i64 num2,.string nm2,.slice A2 n2 cap2,.int .i64 pos2,.int .i64 op4,.int .i64 num4,.string nm4,.slice A4 n4 cap4,.int .i64 pos4] 93)).set (p:=⟨W.heap.size,3,none⟩) (by dsimp only;omega) (.slice (some ⟨X19.heap.size,0,none⟩) 2 2)
 have hbB:=bA X19 (.cells #[.int .i64 op2,.int .i64 num2,.string nm2,.slice A2 n2 cap2,.int .i64 pos2,.int .i64 op4,.int .i64 num4,.string nm4,.slice A4 n4 cap4,.int .i64 pos4] 93)
 replace hv:Bx _ (W.heap.size) 107 #[.int .i64 2,.string T,.string ⟨#[]⟩,.slice (some ⟨X19.heap.size,0,none⟩) 2 2,.slice none 0 0,.slice none 0 0,.int .i64 (ps c a)]:=bP (xB hv5 hbB) 3 (.slice (some ⟨X19.heap.size,0,none⟩) 2 2) rfl
 replace hr:=Q5 (xB hr5 hbB) (p:=⟨W.heap.size,3,none⟩) (by dsimp only;omega) (.slice (some ⟨X19.heap.size,0,none⟩) 2 2)
 have cl:A0 (∀y1 y4,o1.val=some y1→o4.val=some y4→Acc RepE 93 5 (W.heap.size+2) ((X19.alloc (.cells #[.int .i64 op2,.int .i64 num2,.string nm2,.slice A2 n2 cap2,.int .i64 pos2,.int .i64 op4,.int .i64 num4,.string nm4,.slice A4 n4 cap4,.int .i64 pos4] 93)).setCell ⟨W.heap.size,3,none⟩ (.slice (some ⟨X19.heap.size,0,none⟩) 2 2)) (.slice (some ⟨X19.heap.size,0,none⟩) 2 2) [y1,y4]):=⟨fun y1 y4 h1 h4=>by
  have:=accE_two (lo:=W.heap.size+2) (w:=X19) (((ci.out y1 h1).far ((Far.refl (W.heap.size+2) _).drew) (Nat.le_refl _)).far (Far.ofGrown hg (by omega)) (Nat.le_refl _)) ((hE.out y4 h4).far (Far.refl _ _) hlo2) (by omega) #[.int .i64 op2,.int .i64 num2,.string nm2,.slice A2 n2 cap2,.int .i64 pos2,.int .i64 op4,.int .i64 num4,.string nm4,.slice A4 n4 cap4,.int .i64 pos4] rfl
  exact this.farE ((Far.refl (W.heap.size+2) _).put (p:=⟨W.heap.size,3,none⟩) (by dsimp only;omega) _)⟩
 generalize (X19.alloc (.cells #[.int .i64 op2,.int .i64 num2,.string nm2,.slice A2 n2 cap2,.int .i64 pos2,.int .i64 op4,.int .i64 num4,.string nm4,.slice A4 n4 cap4,.int .i64 pos4] 93)).setCell ⟨W.heap.size,3,none⟩ (.slice (some ⟨X19.heap.size,0,none⟩) 2 2)=X20 at F hv hr cl ⊢
 clear CN hE hg hR1 hv5 hr5 hi5 k3 j3 k3' j3' hbB hlo2 hgs SK hS0 Fd hvd hrd hid hi ci hgi hl3 hl0
 generalize X19.heap.size=g9 at hv cl ⊢
 obtain ⟨o5,ho5⟩:∃o,A0 ((o4.sta).go (tkS c 41)=o):=⟨_,⟨rfl⟩⟩
 have CN:=tC hG (F.st hG) 41 (by omega) ⟨#[59]⟩ rfl ho5
 go_upto_region 17 with (first|(go_at_call 36;(with_reducible refine CN.mono ?_);rintro e X21 ⟨hg,rfl,hR1⟩))
 replace F:=F.call hg hR1
 replace hv:=xC hv hg (by omega)
 replace hr:=xC hr hg (by omega)
 replace cl:A0 (∀y1 y4,o1.val=some y1→o4.val=some y4→Acc RepE 93 5 (W.heap.size+2) X21 (.slice (some ⟨g9,0,none⟩) 2 2) [y1,y4]):=⟨fun y1 y4 h1 h4=>(cl.out y1 y4 h1 h4).farE (Far.ofGrown hg (by omega))⟩
 clear CN hg hR1
 have hfin:A0 (S.sta=o5.sta∧∀y,S.val=some y→∃e1,∃e4,o1.val=some e1∧o4.val=some e4∧y=.mk 2 T nN [e1,e4] [] [] (ps c a)):=by
  have g0:=ho0.out
  have g1:=ho1.out
  have g2:=ho2.out
  have g3:=ho3.out
  have g4:=ho4.out
  have g5:=ho5.out
  refine ⟨?_⟩
  rw [hSp.out]
  simp only [Out.sta,Sta.go] at g0
  rw [g0]
  cases o0 with
  | bad p er =>
   simp only [Out.sta,Sta.go] at g1;subst g1
   simp only [Out.sta,Sta.go] at g2;subst g2
   simp only [Out.sta,Sta.go] at g3;subst g3
   simp only [Out.sta,Sta.go] at g4;subst g4
   simp only [Out.sta,Sta.go] at g5;subst g5
   exact ⟨rfl,fun y hy=>by cases hy⟩
  | ok x0 a0' d0' =>
   simp only [Out.bind]
   simp only [Out.sta,Sta.go] at g1
   rw [g1]
   cases o1 with
   | bad p er =>
    simp only [Out.sta,Sta.go] at g2;subst g2
    simp only [Out.sta,Sta.go] at g3;subst g3
    simp only [Out.sta,Sta.go] at g4;subst g4
    simp only [Out.sta,Sta.go] at g5;subst g5
    exact ⟨rfl,fun y hy=>by cases hy⟩
   | ok x1 a1' d1' =>
    simp only [Out.bind]
    simp only [Out.sta,Sta.go] at g2
    rw [g2]
    cases o2 with
    | bad p er =>
     simp only [Out.sta,Sta.go] at g3;subst g3
     simp only [Out.sta,Sta.go] at g4;subst g4
     simp only [Out.sta,Sta.go] at g5;subst g5
     exact ⟨rfl,fun y hy=>by cases hy⟩
    | ok x2 a2' d2' =>
     simp only [Out.bind]
     simp only [Out.sta,Sta.go] at g3
     rw [g3]
     cases o3 with
     | bad p er =>
      simp only [Out.sta,Sta.go] at g4;subst g4
      simp only [Out.sta,Sta.go] at g5;subst g5
      exact ⟨rfl,fun y hy=>by cases hy⟩
     | ok x3 a3' d3' =>
      simp only [Out.bind]
      simp only [Out.sta,Sta.go] at g4
      rw [g4]
      cases o4 with
      | bad p er =>
       simp only [Out.sta,Sta.go] at g5;subst g5
       exact ⟨rfl,fun y hy=>by cases hy⟩
      | ok x4 a4' d4' =>
       simp only [Out.bind]
       simp only [Out.sta,Sta.go] at g5
       rw [g5]
       cases o5 with
       | bad p er =>
        exact ⟨rfl,fun y hy=>by cases hy⟩
       | ok x5 a5' d5' =>
        exact ⟨rfl,fun y hy=>⟨x1,x4,rfl,rfl,by cases hy;rfl⟩⟩
 have z0:X21.cell? ⟨W.heap.size,0,none⟩=some (.int .i64 2):=bC hv 0
 have x0:X21.cell? ⟨W.heap.size+1,0,none⟩=some (.int .i64 0):=bC hr 0;have y0:=bF hr 0
 have z1:X21.cell? ⟨W.heap.size,1,none⟩=some (.string T):=bC hv 1
 have x1:X21.cell? ⟨W.heap.size+1,1,none⟩=some (.string ⟨#[]⟩):=bC hr 1;have y1:=bF hr 1
 have z2:X21.cell? ⟨W.heap.size,2,none⟩=some (.string ⟨#[]⟩):=bC hv 2
 have x2:X21.cell? ⟨W.heap.size+1,2,none⟩=some (.string ⟨#[]⟩):=bC hr 2;have y2:=bF hr 2
 have z3:X21.cell? ⟨W.heap.size,3,none⟩=some (.slice (some ⟨g9,0,none⟩) 2 2):=bC hv 3
 have x3:X21.cell? ⟨W.heap.size+1,3,none⟩=some (.slice none 0 0):=bC hr 3;have y3:=bF hr 3
 have z4:X21.cell? ⟨W.heap.size,4,none⟩=some (.slice none 0 0):=bC hv 4
 have x4:X21.cell? ⟨W.heap.size+1,4,none⟩=some (.slice none 0 0):=bC hr 4;have y4:=bF hr 4
 have z5:X21.cell? ⟨W.heap.size,5,none⟩=some (.slice none 0 0):=bC hv 5
 have x5:X21.cell? ⟨W.heap.size+1,5,none⟩=some (.slice none 0 0):=bC hr 5;have y5:=bF hr 5
 have z6:X21.cell? ⟨W.heap.size,6,none⟩=some (.int .i64 (ps c a)):=bC hv 6
 have x6:X21.cell? ⟨W.heap.size+1,6,none⟩=some (.int .i64 0):=bC hr 6;have y6:=bF hr 6
 clear hSp ho0 ho1 ho2 ho3 ho4 ho5
 go_wp2
 exact fin107 hG rfl rfl rfl F (by omega) (by omega) hr rfl hfin.out.1 (fun y hy=>by
  obtain ⟨e1,e4,q1,q4,rfl⟩:=hfin.out.2 y hy
  exact Acc.stmt (cl.out _ _ q1 q4) (Acc.nil _) (Acc.nil _) 2 T nN (ps c a))
set_option maxHeartbeats 8000000 in
theorem rnamed_set {c:Ctx} (hG:Good c) {ex:Rd Ex} {a0:Nat} (hF:Fine c ex (a0+1)) (hR:RReads c 138 ex (a0+1)) (W:World) (a:Nat) (d:Int) (h:RSt c W (.here a d)) (ha:a0≤a) (h0:0≤d) (hkd:kd c a=1) (h48:¬ kd c (a+1)=48) :
  Calls Tryz.prog 105 #[c.me,.agg (P7 (ps c a))] W (RPost c W (repSo W.heap.size) (asgS c ex a d)):=by
 obtain ⟨S,hS⟩:∃S,A0 (asgS c ex a d=S):=⟨_,⟨rfl⟩⟩
 rw [hS.out]
 have hal:=kL hkd (by omega)
 replace hR:=A0.mk hR
 replace hF:=A0.mk hF
 obtain ⟨T,hT⟩:∃T,textS c (c.L.getD a zTok)=T:=⟨_,rfl⟩
 have hS1:A0 (S=((takeS c 48 (a+1) d).bind fun b a2 d2 =>
   if b then (ex a2 d2).bind fun i a3 d3=>(wS c 49 a3 d3).bind fun _ a4 d4=>(wS c 44 a4 d4).bind fun _ a5 d5=>(ex a5 d5).bind fun x a6 d6=>.ok ((2,T,nN,[i,x]):Asg) a6 d6
   else (wS c 44 a2 d2).bind fun _ a3 d3=>(takeS c 22 a3 d3).bind fun r a4 d4=>if r then (nS c a4 d4).bind fun t a5 d5=>.ok ((3,T,t,[]):Asg) a5 d5 else (ex a4 d4).bind fun x a5 d5=>.ok ((1,T,nN,[x]):Asg) a5 d5).bind fun q a1 d1=>(wS c 41 a1 d1).bind fun _ a2 d2=>.ok (.mk q.1 q.2.1 q.2.2.1 q.2.2.2 [] [] (ps c a)) a2 d2):=⟨by
  rw [←hS.out];unfold asgS assignS;rw [nameS_ok hkd,hT];rfl⟩
 have NM:=fun Z (hZ:RSt c Z (.here a d))=>rname_ok hG hZ hkd
 rw [hT] at NM
 have hal2:=hG.hl
 have hd64:=h.2.2.2
 have F:=((Fr.start h).alloc (.cells (P7 (ps c a)) 107)).alloc (.cells Z7 107)
 have hv:Bx ((W.alloc (.cells (P7 (ps c a)) 107)).alloc (.cells Z7 107)) W.heap.size 107 (P7 (ps c a)):=xB (X:=W.alloc (.cells (P7 (ps c a)) 107)) (xN W 107 _) (bA _ _)
 have hr:Bx ((W.alloc (.cells (P7 (ps c a)) 107)).alloc (.cells Z7 107)) (W.heap.size+1) 107 Z7:=by
  have:=xN (W.alloc (.cells (P7 (ps c a)) 107)) 107 Z7
  rwa [show (W.alloc (.cells (P7 (ps c a)) 107)).heap.size=W.heap.size+1 by simp] at this
 have hgl:=F.gl
 replace hkd:=A0.mk hkd
 clear hS hT
 go_enter Tryz.func105,Tryz.ntmps105
 go_upto_region 1 with fail
 generalize (W.alloc (.cells (P7 (ps c a)) 107)).alloc (.cells Z7 107)=X at F hv hr ⊢
 have CN:=NM _ (F.st hG)
 go_upto_region 2 with (first|(go_at_call 34;(with_reducible refine CN.mono ?_);rintro e w9 ⟨hg,rfl,hR1⟩;have hv2:=xC hv hg (by omega);have z0:w9.cell? ⟨W.heap.size,1,none⟩=some (.string ⟨#[]⟩):=bC hv2 1;have y0:=bF hv2 1))
 replace F:=F.call hg hR1
 replace hv:=xC hv hg (by omega)
 replace hr:=xC hr hg (by omega)
 clear CN NM hg hR1 hv2 z0 y0
 replace F:=F.set (p:=⟨W.heap.size,1,none⟩) (by dsimp only;omega) (.string T)
 replace hv:Bx _ (W.heap.size) 107 #[.int .i64 0,.string T,.string ⟨#[]⟩,.slice none 0 0,.slice none 0 0,.slice none 0 0,.int .i64 (ps c a)]:=bP hv 1 (.string T) rfl
 replace hr:=Q5 hr (p:=⟨W.heap.size,1,none⟩) (by dsimp only;omega) (.string T)
 generalize w9.setCell ⟨W.heap.size,1,none⟩ (.string T)=X11 at F hv hr ⊢
 have IS:=rI hG (F.st hG).1 48 (by omega) ⟨#[91]⟩ rfl
 rw [decide_eq_false h48] at IS
 have e48:takeS c 48 (a+1) d=.ok false (a+1) d:=by unfold takeS;rw [if_neg h48]
 have hS2:A0 (S=(tkS c 44 (a+1) d).bind fun _ a3 d3=>(takeS c 22 a3 d3).bind fun r a4 d4=>if r then (nS c a4 d4).bind fun t a5 d5=>(tkS c 41 a5 d5).bind fun _ a6 d6=>.ok (.mk 3 T t [] [] [] (ps c a)) a6 d6 else (ex a4 d4).bind fun x a5 d5=>(tkS c 41 a5 d5).bind fun _ a6 d6=>.ok (.mk 1 T nN [x] [] [] (ps c a)) a6 d6):=⟨by
  rw [hS1.out,e48]
  simp only [oB,bind_bind,tk_bind,Bool.false_eq_true,↓reduceIte]
  refine bind_congr fun _ a3 d3 _=>bind_congr fun r a4 d4 _=>?_
  cases r <;> simp only [Bool.false_eq_true,↓reduceIte,bind_bind,oB]⟩
 clear h48 hS1 hal e48
 go_upto_region 9 with (first|(go_at_call 31;(with_reducible refine IS.mono ?_);rintro e X12 ⟨rfl,hb⟩))
 replace F:=F.below hb
 replace hv:=xB hv hb
 replace hr:=xB hr hb
 clear IS hb
 obtain ⟨o0,ho0⟩:∃o,A0 (((Sta.here (a+1) d)).go (tkS c 44)=o):=⟨_,⟨rfl⟩⟩
 have CN:=tC hG (F.st hG) 44 (by omega) ⟨#[61]⟩ rfl ho0
 go_upto_region 10 with (first|(go_at_call 36;(with_reducible refine CN.mono ?_);rintro e X13 ⟨hg,rfl,hR1⟩))
 replace F:=F.call hg hR1
 replace hv:=xC hv hg (by omega)
 replace hr:=xC hr hg (by omega)
 clear CN hg hR1
 have IS:=ris_call hG (F.st hG) 22 (by omega) ⟨#[114,101,97,100]⟩ rfl
 cases hse:o0.sta.sees c 22 with
 | false =>
  rw [hse] at IS
  have hSp:A0 (S=(tkS c 44 (a+1) d).bind fun _ a3 d3=>(ex a3 d3).bind fun x a5 d5=>(tkS c 41 a5 d5).bind fun _ a6 d6=>.ok (.mk 1 T nN [x] [] [] (ps c a)) a6 d6):=⟨by
   rw [hS2.out]
   refine bind_congr fun u a3 d3 h3=>?_
   have hk:¬ kd c a3=22:=by
    have g0:=ho0.out
    simp only [Sta.go] at g0;rw [h3] at g0;subst g0
    exact of_decide_eq_false hse
   unfold takeS;rw [if_neg hk];rfl⟩
  have hl0:A0 (o0.sta.lim (a0+1)):=⟨tk_lim (by omega) (by omega) (fun a' d' e=>by cases e;exact ⟨by omega,h0⟩) ho0⟩
  clear hS2 hse
  go_upto_region 14 with (first|(go_at_call 31;(with_reducible refine IS.mono ?_);rintro e X14 ⟨rfl,hb⟩))
  replace F:=F.below hb
  replace hv:=xB hv hb
  replace hr:=xB hr hb
  clear IS hb
  have z0:X14.cell? ⟨W.heap.size,0,none⟩=some (.int .i64 0):=bC hv 0
  have y0:=bF hv 0
  go_upto_region 15 with fail
  clear z0 y0
  replace F:=F.set (p:=⟨W.heap.size,0,none⟩) (by dsimp only;omega) (.int .i64 1)
  replace hv:Bx _ (W.heap.size) 107 #[.int .i64 1,.string T,.string ⟨#[]⟩,.slice none 0 0,.slice none 0 0,.slice none 0 0,.int .i64 (ps c a)]:=bP hv 0 (.int .i64 1) rfl
  replace hr:=Q5 hr (p:=⟨W.heap.size,0,none⟩) (by dsimp only;omega) (.int .i64 1)
  generalize X14.setCell ⟨W.heap.size,0,none⟩ (.int .i64 1)=X15 at F hv hr ⊢
  obtain ⟨o1,ho1⟩:∃o,A0 ((o0.sta).go (ex)=o):=⟨_,⟨rfl⟩⟩
  have CN:=hR.out.c (F.st hG) hl0.out ho1
  have hlo:=F.fr.size
  have hlo2:W.heap.size+2≤X15.heap.size:=by have:=bL hv;have:=bL hr;omega
  go_upto_region 16 with (first|(go_at_call 138;(with_reducible refine CN.mono ?_);rintro e X16 ⟨hg,⟨op2,num2,nm2,A2,n2,cap2,pos2,rfl,hE⟩,hR1⟩;have hv2:=xC hv hg (by omega);have k3:X16.cell? ⟨W.heap.size,3,none⟩=some (.slice none 0 0):=bC hv2 3;have j3:=bF hv2 3;have k3':∀o,(X16.alloc o).cell? ⟨W.heap.size,3,none⟩=some (.slice none 0 0):=fun o=>bC (xB hv2 (bA _ o)) 3;have j3':∀o,(X16.alloc o).frozen? ⟨W.heap.size,3,none⟩=false:=fun o=>bF (xB hv2 (bA _ o)) 3))
  have hgs:=hg.size
  replace F:=F.call hg hR1
  replace hv:=xC hv hg (by omega)
  replace hr:=xC hr hg (by omega)
  replace F:=(F.alloc (.cells #[.int .i64 op2,.int .i64 num2,.string nm2,.slice A2 n2 cap2,.int .i64 pos2] 93)).set (p:=⟨W.heap.size,3,none⟩) (by dsimp only;omega) (.slice (some ⟨X16.heap.size,0,none⟩) 1 1)
  have hbB:=bA X16 (.cells #[.int .i64 op2,.int .i64 num2,.string nm2,.slice A2 n2 cap2,.int .i64 pos2] 93)
  replace hv:Bx _ (W.heap.size) 107 #[.int .i64 1,.string T,.string ⟨#[]⟩,.slice (some ⟨X16.heap.size,0,none⟩) 1 1,.slice none 0 0,.slice none 0 0,.int .i64 (ps c a)]:=bP (xB hv hbB) 3 (.slice (some ⟨X16.heap.size,0,none⟩) 1 1) rfl
  replace hr:=Q5 (xB hr hbB) (p:=⟨W.heap.size,3,none⟩) (by dsimp only;omega) (.slice (some ⟨X16.heap.size,0,none⟩) 1 1)
  have cl1:A0 (∀y,o1.val=some y→Acc RepE 93 5 (W.heap.size+2) ((X16.alloc (.cells #[.int .i64 op2,.int .i64 num2,.string nm2,.slice A2 n2 cap2,.int .i64 pos2] 93)).setCell ⟨W.heap.size,3,none⟩ (.slice (some ⟨X16.heap.size,0,none⟩) 1 1)) (.slice (some ⟨X16.heap.size,0,none⟩) 1 1) [y]):=⟨fun y hy=>by
   have:=accE_one (lo:=W.heap.size+2) (w:=X16) ((hE.out y hy).far (Far.refl (X15).heap.size _) hlo2) (by omega) #[.int .i64 op2,.int .i64 num2,.string nm2,.slice A2 n2 cap2,.int .i64 pos2] rfl
   exact this.farE ((Far.refl (W.heap.size+2) _).put (p:=⟨W.heap.size,3,none⟩) (by dsimp only;omega) _)⟩
  generalize (X16.alloc (.cells #[.int .i64 op2,.int .i64 num2,.string nm2,.slice A2 n2 cap2,.int .i64 pos2] 93)).setCell ⟨W.heap.size,3,none⟩ (.slice (some ⟨X16.heap.size,0,none⟩) 1 1)=X17 at F hv hr cl1 ⊢
  clear CN hE hg hR1 hv2 k3 j3 k3' j3' hbB hlo hlo2 hgs
  generalize X16.heap.size=gr1 at hv cl1 ⊢
  obtain ⟨o2,ho2⟩:∃o,A0 ((o1.sta).go (tkS c 41)=o):=⟨_,⟨rfl⟩⟩
  have CN:=tC hG (F.st hG) 41 (by omega) ⟨#[59]⟩ rfl ho2
  go_upto_region 17 with (first|(go_at_call 36;(with_reducible refine CN.mono ?_);rintro e X18 ⟨hg,rfl,hR1⟩))
  replace F:=F.call hg hR1
  replace hv:=xC hv hg (by omega)
  replace hr:=xC hr hg (by omega)
  replace cl1:A0 (∀y,o1.val=some y→Acc RepE 93 5 (W.heap.size+2) (X18) (.slice (some ⟨gr1,0,none⟩) 1 1) [y]):=⟨fun y hy=>(cl1.out y hy).farE (Far.ofGrown hg (by omega))⟩
  clear CN hg hR1
  have hfin:A0 (S.sta=o2.sta∧∀y,S.val=some y→∃e1,o1.val=some e1∧y=.mk 1 T nN [e1] [] [] (ps c a)):=by
   have g0:=ho0.out
   have g1:=ho1.out
   have g2:=ho2.out
   refine ⟨?_⟩
   rw [hSp.out]
   simp only [Out.sta,Sta.go] at g0
   rw [g0]
   cases o0 with
   | bad p er =>
    simp only [Out.sta,Sta.go] at g1;subst g1
    simp only [Out.sta,Sta.go] at g2;subst g2
    exact ⟨rfl,fun y hy=>by cases hy⟩
   | ok x0 a0' d0' =>
    simp only [Out.bind]
    simp only [Out.sta,Sta.go] at g1
    rw [g1]
    cases o1 with
    | bad p er =>
     simp only [Out.sta,Sta.go] at g2;subst g2
     exact ⟨rfl,fun y hy=>by cases hy⟩
    | ok x1 a1' d1' =>
     simp only [Out.bind]
     simp only [Out.sta,Sta.go] at g2
     rw [g2]
     cases o2 with
     | bad p er =>
      exact ⟨rfl,fun y hy=>by cases hy⟩
     | ok x2 a2' d2' =>
      exact ⟨rfl,fun y hy=>⟨x1,rfl,by cases hy;rfl⟩⟩
  have z0:X18.cell? ⟨W.heap.size,0,none⟩=some (.int .i64 1):=bC hv 0
  have x0:X18.cell? ⟨W.heap.size+1,0,none⟩=some (.int .i64 0):=bC hr 0;have y0:=bF hr 0
  have z1:X18.cell? ⟨W.heap.size,1,none⟩=some (.string T):=bC hv 1
  have x1:X18.cell? ⟨W.heap.size+1,1,none⟩=some (.string ⟨#[]⟩):=bC hr 1;have y1:=bF hr 1
  have z2:X18.cell? ⟨W.heap.size,2,none⟩=some (.string ⟨#[]⟩):=bC hv 2
  have x2:X18.cell? ⟨W.heap.size+1,2,none⟩=some (.string ⟨#[]⟩):=bC hr 2;have y2:=bF hr 2
  have z3:X18.cell? ⟨W.heap.size,3,none⟩=some (.slice (some ⟨gr1,0,none⟩) 1 1):=bC hv 3
  have x3:X18.cell? ⟨W.heap.size+1,3,none⟩=some (.slice none 0 0):=bC hr 3;have y3:=bF hr 3
  have z4:X18.cell? ⟨W.heap.size,4,none⟩=some (.slice none 0 0):=bC hv 4
  have x4:X18.cell? ⟨W.heap.size+1,4,none⟩=some (.slice none 0 0):=bC hr 4;have y4:=bF hr 4
  have z5:X18.cell? ⟨W.heap.size,5,none⟩=some (.slice none 0 0):=bC hv 5
  have x5:X18.cell? ⟨W.heap.size+1,5,none⟩=some (.slice none 0 0):=bC hr 5;have y5:=bF hr 5
  have z6:X18.cell? ⟨W.heap.size,6,none⟩=some (.int .i64 (ps c a)):=bC hv 6
  have x6:X18.cell? ⟨W.heap.size+1,6,none⟩=some (.int .i64 0):=bC hr 6;have y6:=bF hr 6
  clear hSp ho0 ho1 ho2
  go_wp2
  exact fin107 hG rfl rfl rfl F (by omega) (by omega) hr rfl hfin.out.1 (fun y hy=>by
   obtain ⟨e1,q1,rfl⟩:=hfin.out.2 y hy
   exact Acc.stmt (cl1.out _ q1) (Acc.nil _) (Acc.nil _) 1 T nN (ps c a))
 | true =>
  rw [hse] at IS
  obtain ⟨a3,d3,e3,hk⟩:∃a3 d3,o0=.ok () a3 d3∧kd c a3=22:=by
   cases o0 with
   | bad p er=>cases hse
   | ok u a3 d3=>exact ⟨a3,d3,rfl,of_decide_eq_true hse⟩
  subst e3
  have hSp:A0 (S=(nS c (a3+1) d3).bind fun t a5 d5=>(tkS c 41 a5 d5).bind fun _ a6 d6=>.ok (.mk 3 T t [] [] [] (ps c a)) a6 d6):=⟨by
   have g0:=ho0.out
   simp only [Sta.go] at g0
   have e22:takeS c 22 a3 d3=.ok true (a3+1) d3:=by unfold takeS;rw [if_pos hk];unfold wS;rw [if_pos hk,if_neg (by omega),if_neg (by omega)];rfl
   rw [hS2.out,g0]
   simp only [oB,e22,↓reduceIte]⟩
  have hal3:=kL hk (by omega)
  have wa3:IntKind.i64.wrap ((a3:Int)+1)=(a3:Int)+1:=IntWalk.i64_in _ (by omega)
  replace F:Fr c W _ (Sta.here a3 d3):=F
  clear hS2 hse hk ho0
  go_upto_region 11 with (first|(go_at_call 31;(with_reducible refine IS.mono ?_);rintro e X14 ⟨rfl,hb⟩))
  replace F:=F.below hb
  replace hv:=xB hv hb
  replace hr:=xB hr hb
  clear IS hb
  have k2:=(F.st hG).1.c2
  have j2:=(F.st hG).1.fz 2
  go_upto_region 12 with fail
  clear k2 j2
  replace F:=F.step hal3
  replace hv:=Q5 hv (p:=⟨c.g,2,none⟩) (by dsimp only;omega) (.int .i64 ((a3:Int)+1))
  replace hr:=Q5 hr (p:=⟨c.g,2,none⟩) (by dsimp only;omega) (.int .i64 ((a3:Int)+1))
  generalize X14.setCell ⟨c.g,2,none⟩ (.int .i64 ((a3:Int)+1))=X15 at F hv hr ⊢
  have z0:X15.cell? ⟨W.heap.size,0,none⟩=some (.int .i64 0):=bC hv 0
  have y0:=bF hv 0
  go_upto_region 13 with fail
  clear z0 y0
  replace F:=F.set (p:=⟨W.heap.size,0,none⟩) (by dsimp only;omega) (.int .i64 3)
  replace hv:Bx _ (W.heap.size) 107 #[.int .i64 3,.string T,.string ⟨#[]⟩,.slice none 0 0,.slice none 0 0,.slice none 0 0,.int .i64 (ps c a)]:=bP hv 0 (.int .i64 3) rfl
  replace hr:=Q5 hr (p:=⟨W.heap.size,0,none⟩) (by dsimp only;omega) (.int .i64 3)
  generalize X15.setCell ⟨W.heap.size,0,none⟩ (.int .i64 3)=X16 at F hv hr ⊢
  obtain ⟨o0,ho0⟩:∃o,A0 (((Sta.here (a3+1) d3)).go (nS c)=o):=⟨_,⟨rfl⟩⟩
  have CN:=rname_c hG (F.st hG) ho0
  go_upto_region 16 with (first|(go_at_call 34;(with_reducible refine CN.mono ?_);rintro e X17 ⟨hg,⟨nm0,rfl,h0⟩,hR1⟩;have hv2:=xC hv hg (by omega);have z0:X17.cell? ⟨W.heap.size,2,none⟩=some (.string ⟨#[]⟩):=bC hv2 2;have y0:=bF hv2 2))
  replace F:=F.call hg hR1
  replace hv:=xC hv hg (by omega)
  replace hr:=xC hr hg (by omega)
  clear CN hg hR1 hv2 z0 y0
  replace F:=F.set (p:=⟨W.heap.size,2,none⟩) (by dsimp only;omega) (.string nm0)
  replace hv:Bx _ (W.heap.size) 107 #[.int .i64 3,.string T,.string nm0,.slice none 0 0,.slice none 0 0,.slice none 0 0,.int .i64 (ps c a)]:=bP hv 2 (.string nm0) rfl
  replace hr:=Q5 hr (p:=⟨W.heap.size,2,none⟩) (by dsimp only;omega) (.string nm0)
  generalize X17.setCell ⟨W.heap.size,2,none⟩ (.string nm0)=X18 at F hv hr ⊢
  obtain ⟨o1,ho1⟩:∃o,A0 ((o0.sta).go (tkS c 41)=o):=⟨_,⟨rfl⟩⟩
  have CN:=tC hG (F.st hG) 41 (by omega) ⟨#[59]⟩ rfl ho1
  go_upto_region 17 with (first|(go_at_call 36;(with_reducible refine CN.mono ?_);rintro e X19 ⟨hg,rfl,hR1⟩))
  replace F:=F.call hg hR1
  replace hv:=xC hv hg (by omega)
  replace hr:=xC hr hg (by omega)
  clear CN hg hR1
  have hfin:A0 (S.sta=o1.sta∧∀y,S.val=some y→y=.mk 3 T nm0 [] [] [] (ps c a)):=by
   have g0:=ho0.out
   have g1:=ho1.out
   refine ⟨?_⟩
   rw [hSp.out]
   simp only [Out.sta,Sta.go] at g0
   rw [g0]
   cases o0 with
   | bad p er =>
    simp only [Out.sta,Sta.go] at g1;subst g1
    exact ⟨rfl,fun y hy=>by cases hy⟩
   | ok x0 a0' d0' =>
    simp only [Out.bind]
    simp only [Out.sta,Sta.go] at g1
    rw [g1]
    cases o1 with
    | bad p er =>
     exact ⟨rfl,fun y hy=>by cases hy⟩
    | ok x1 a1' d1' =>
     obtain rfl:=(h0.out _ rfl:x0=nm0)
     exact ⟨rfl,fun y hy=>by cases hy;rfl⟩
  have z0:X19.cell? ⟨W.heap.size,0,none⟩=some (.int .i64 3):=bC hv 0
  have x0:X19.cell? ⟨W.heap.size+1,0,none⟩=some (.int .i64 0):=bC hr 0;have y0:=bF hr 0
  have z1:X19.cell? ⟨W.heap.size,1,none⟩=some (.string T):=bC hv 1
  have x1:X19.cell? ⟨W.heap.size+1,1,none⟩=some (.string ⟨#[]⟩):=bC hr 1;have y1:=bF hr 1
  have z2:X19.cell? ⟨W.heap.size,2,none⟩=some (.string nm0):=bC hv 2
  have x2:X19.cell? ⟨W.heap.size+1,2,none⟩=some (.string ⟨#[]⟩):=bC hr 2;have y2:=bF hr 2
  have z3:X19.cell? ⟨W.heap.size,3,none⟩=some (.slice none 0 0):=bC hv 3
  have x3:X19.cell? ⟨W.heap.size+1,3,none⟩=some (.slice none 0 0):=bC hr 3;have y3:=bF hr 3
  have z4:X19.cell? ⟨W.heap.size,4,none⟩=some (.slice none 0 0):=bC hv 4
  have x4:X19.cell? ⟨W.heap.size+1,4,none⟩=some (.slice none 0 0):=bC hr 4;have y4:=bF hr 4
  have z5:X19.cell? ⟨W.heap.size,5,none⟩=some (.slice none 0 0):=bC hv 5
  have x5:X19.cell? ⟨W.heap.size+1,5,none⟩=some (.slice none 0 0):=bC hr 5;have y5:=bF hr 5
  have z6:X19.cell? ⟨W.heap.size,6,none⟩=some (.int .i64 (ps c a)):=bC hv 6
  have x6:X19.cell? ⟨W.heap.size+1,6,none⟩=some (.int .i64 0):=bC hr 6;have y6:=bF hr 6
  clear hSp ho0 ho1
  go_wp2
  exact fin107 hG rfl rfl rfl F (by omega) (by omega) hr rfl hfin.out.1 (fun y hy=>by
   obtain rfl:=hfin.out.2 y hy
   exact Acc.stmt (Acc.nil _) (Acc.nil _) (Acc.nil _) 3 T nm0 (ps c a))
structure R3 (lo:Nat) (X:World) (A:Option Addr) (v2 v3:Value) (x:Option Ex) (bs:List (Option (List Stm))) (cs:List Con):Prop where
 args:∀y,x=some y→∃vs,Row (Apart lo v2 v3) X A vs.flatten∧RepEs (Apart lo v2 v3) X [y] vs
 blks:∃vs,X.ownsRow lo 25 1 v2 bs.length vs.flatten∧All2 (Opt RepB (Apart lo v2 v3) X) bs vs
 cass:X.ownsRow lo 67 3 v3 cs.length (cs.map conCells).flatten
 sep:∀k,v2.ownBlock=some k→v3.ownBlock≠some k
section
variable {lo:Nat} {X Y:World} {A:Option Addr} {v2 v3:Value} {x:Option Ex} {bs:List (Option (List Stm))} {cs:List Con}
theorem R3.far (h:R3 lo X A v2 v3 x bs cs) (hf:Far lo X Y):R3 lo Y A v2 v3 x bs cs:=by
 obtain ⟨h1,⟨us,h3,h4⟩,h5,h6⟩:=h
 have hk:∀b,Apart lo v2 v3 b→b<X.heap.size→Y.heap[b]?=X.heap[b]?:=fun b hb hl=>hf.block b hb.1 hl
 refine ⟨fun y hy=>?_,⟨us,oF h3 hf,h4.imp fun x y hr=>optB_keeps hr (fun _ hb=>hb) hk⟩,oF h5 hf,h6⟩
 obtain ⟨vs,a1,a2⟩:=h1 y hy
 exact ⟨vs,a1.keep (fun _ hb=>hb) hk,RepEs.keep (fun _ hb=>hb) hk _ _ a2⟩
theorem R3.start (h:∀y,x=some y→Acc RepE 93 5 lo X (.slice A 1 1) [y]):R3 lo X A (.slice none 0 0) (.slice none 0 0) x [] [] :=
 ⟨fun y hy=>(Rows3.start (h y hy)).args,⟨[],World.ownsRow_nil _ _ _ _,trivial⟩,World.ownsRow_nil _ _ _ _,fun k hk=>by simp [Value.ownBlock] at hk⟩
theorem R3.rows {e:Ex} {bs':List (List Stm)} (h:R3 lo X A v2 v3 (some e) (bs'.map some) cs):Rows3 lo X A 1 1 v2 v3 [e] bs' cs:=by
 obtain ⟨h1,⟨us,h3,h4⟩,h5,h6⟩:=h
 exact ⟨⟨rfl,Nat.le_refl _⟩,h1 e rfl,⟨us,by rwa [List.length_map] at h3,(all2_map h4).imp fun x y hr=>hr x rfl⟩,h5,h6⟩
theorem R3.case (h:R3 lo X A v2 v3 x bs cs) {v3':Value} {k0:Con} (hg:X.grownBy Y v3.ownBlock) (hown:Y.ownsRow lo 67 3 v3' (cs++[k0]).length ((cs++[k0]).map conCells).flatten) (hw:v3'.ownBlock=v3.ownBlock∨v3'.ownBlock=some X.heap.size) :
  R3 lo Y A v2 v3' x bs (cs++[k0]):=by
 obtain ⟨h1,⟨us,h3,h4⟩,h5,h6⟩:=h
 have hq:∀b,Apart lo v2 v3 b∧b<X.heap.size→Apart lo v2 v3' b:=fun b hb=>⟨hb.1.1,hb.1.2.1,fun e=>by
  rcases hw with hw | hw
  ·exact hb.1.2.2 (hw ▸ e)
  ·rw [hw] at e;have:=Option.some.inj e;have:=hb.2;omega⟩
 have hk:∀b,Apart lo v2 v3 b∧b<X.heap.size→b<X.heap.size→Y.heap[b]?=X.heap[b]?:=fun b hb hl=>hg.block b hl fun e=>hb.1.2.2 e.symm
 have h3l:=h3.lt
 refine ⟨fun y hy=>?_,⟨us,⟨h3.1,?_⟩,h4.imp fun x y hr=>optB_keeps (optB_lt hr) hq hk⟩,hown,fun k hk2 e=>?_⟩
 ·obtain ⟨vs,a1,a2⟩:=h1 y hy
  exact ⟨vs,a1.lt.keep hq hk,RepEs.keep hq hk _ _ (RepEs.lt _ _ a2)⟩
 ·rcases h3.2 with hn | ⟨g,cap,cur,rfl,hb,hgg,rest⟩
  ·exact .inl hn
  ·exact .inr ⟨g,cap,cur,rfl,hb,(hg.block g (Array.getElem?_eq_some_iff.1 hgg).1 (fun e=>h6 g rfl e.symm)).trans hgg,rest⟩
 ·rcases hw with hw | hw
  ·exact h6 k hk2 (hw ▸ e)
  ·rw [hw] at e;have:=Option.some.inj e;have:=h3l k hk2;omega
theorem R3.blk (h:R3 lo X A v2 v3 x bs cs) {v2':Value} {l:Option (List Stm)} {us:List (List Value)} (hg:X.grownBy Y v2.ownBlock) (hown:Y.ownsRow lo 25 1 v2' (bs++[l]).length us.flatten) (hall:All2 (Opt RepB (fun b=>Apart lo v2 v3 b∧b<X.heap.size) Y) (bs++[l]) us)
  (hw:v2'.ownBlock=v2.ownBlock∨v2'.ownBlock=some X.heap.size):R3 lo Y A v2' v3 x (bs++[l]) cs:=by
 obtain ⟨h1,⟨us',h3,h4⟩,h5,h6⟩:=h
 have hq:∀b,Apart lo v2 v3 b∧b<X.heap.size→Apart lo v2' v3 b:=fun b hb=>⟨hb.1.1,fun e=>by
  rcases hw with hw | hw
  ·exact hb.1.2.1 (hw ▸ e)
  ·rw [hw] at e;have:=Option.some.inj e;have:=hb.2;omega,hb.1.2.2⟩
 have hk:∀b,Apart lo v2 v3 b∧b<X.heap.size→b<X.heap.size→Y.heap[b]?=X.heap[b]?:=fun b hb hl=>hg.block b hl fun e=>hb.1.2.1 e.symm
 have h5l:=h5.lt
 refine ⟨fun y hy=>?_,⟨us,hown,hall.imp fun x y hr=>optB_keeps hr hq fun _ _ _=>rfl⟩,⟨h5.1,?_⟩,fun k hk2 e=>?_⟩
 ·obtain ⟨vs,a1,a2⟩:=h1 y hy
  exact ⟨vs,a1.lt.keep hq hk,RepEs.keep hq hk _ _ (RepEs.lt _ _ a2)⟩
 ·rcases h5.2 with hn | ⟨g,cap,cur,rfl,hb,hgg,rest⟩
  ·exact .inl hn
  ·exact .inr ⟨g,cap,cur,rfl,hb,(hg.block g (Array.getElem?_eq_some_iff.1 hgg).1 (fun e=>h6 g e.symm rfl)).trans hgg,rest⟩
 ·rcases hw with hw | hw
  ·exact h6 k (hw ▸ hk2) e
  ·rw [hw] at hk2;have:=Option.some.inj hk2;have:=h5l k e;omega
end
theorem optB_new {lo b0:Nat} {w:World} {x:Option (List Stm)} {v:List Value} {v2 v3:Value} (h:∀y,x=some y→RepB (fun b=>b0≤b) w y v) (hl:lo≤b0) (h2:∀k,v2.ownBlock=some k→k<b0) (h3:∀k,v3.ownBlock=some k→k<b0) (o:Obj):Opt RepB (fun b=>Apart lo v2 v3 b∧b<(w.alloc o).heap.size) (w.alloc o) x v:=fun y hy=>repB_new (h y hy) hl h2 h3 o
def CasIs (q:Out Cas) (bs:List (Option (List Stm))) (cs:List Con):Prop:=∀cb,q.val=some cb→cb.1=cs∧cb.2.map some=bs
structure CgAt (c:Ctx) (W:World) (blk:Rd (List Stm)) (R:Out Cas) (A:Option Addr) (x:Option Ex) (pos:Int) (a0 f:Nat) (X:World):Prop where
 ex:∃(q:Out Cas) (bs:List (Option (List Stm))) (cs:List Con) (A2:Option Addr) (n2 c2:Nat) (A3:Option Addr) (n3 c3:Nat),Fr c W X q.sta∧Bx X W.heap.size 107 (E107 6 nN nN (.slice A 1 1) (.slice A2 n2 c2) (.slice A3 n3 c3) pos)∧Bx X (W.heap.size+1) 107 Z107 ∧
  R3 (W.heap.size+2) X A (.slice A2 n2 c2) (.slice A3 n3 c3) x bs cs∧CasIs q bs cs∧(q.bind fun cb a d=>cP c blk f cb.1 cb.2 a d)=R∧q.sta.lim a0∧(∀cb a d,q=.ok cb a d→c.L.length+1≤f+a∧cs.length≤a∧bs.length≤a)
structure CmAt (c:Ctx) (W:World) (A:Option Addr) (x:Option Ex) (pos:Int) (oc:Out Con) (bs:List (Option (List Stm))) (cs:List Con) (X:World):Prop where
 ex:∃(k:Con) (A2:Option Addr) (n2 c2:Nat) (A3:Option Addr) (n3 c3:Nat),Fr c W X oc.sta∧Bx X W.heap.size 107 (E107 6 nN nN (.slice A 1 1) (.slice A2 n2 c2) (.slice A3 n3 c3) pos)∧Bx X (W.heap.size+1) 107 Z107 ∧
  R3 (W.heap.size+2) X A (.slice A2 n2 c2) (.slice A3 n3 c3) x bs (cs++[k])∧(∀y,oc.val=some y→y=k)
structure DgAt (c:Ctx) (W:World) (A:Option Addr) (x:Option Ex) (pos:Int) (D:Out (List (List Stm))) (cs:List Con) (X:World):Prop where
 ex:∃(bs:List (Option (List Stm))) (A2:Option Addr) (n2 c2:Nat) (A3:Option Addr) (n3 c3:Nat),Fr c W X D.sta∧Bx X W.heap.size 107 (E107 6 nN nN (.slice A 1 1) (.slice A2 n2 c2) (.slice A3 n3 c3) pos)∧Bx X (W.heap.size+1) 107 Z107 ∧
  R3 (W.heap.size+2) X A (.slice A2 n2 c2) (.slice A3 n3 c3) x bs cs∧(∀l,D.val=some l→l.map some=bs)
theorem tk_fine {c:Ctx} {K:Int} (hK:1≤K) (hn:K≠32∧K≠48∧K≠50∧K≠33∧K≠49∧K≠52) {u:Unit} {a a':Nat} {d d':Int} (h:tkS c K a d=.ok u a' d'):a'=a+1∧a'≤c.L.length∧d'=d:=by
 unfold tkS at h
 obtain ⟨t,a9,d9,g1,g2⟩:=bO h
 cases g2
 exact wF hK hn g1
theorem take_yes {c:Ctx} {K:Int} (hn:K≠32∧K≠48∧K≠50∧K≠33∧K≠49∧K≠52) {a:Nat} {d:Int} (hk:kd c a=K):takeS c K a d=.ok true (a+1) d:=by
 unfold takeS wS
 rw [if_pos hk,if_pos hk,if_neg (by omega),if_neg (by omega)];rfl
theorem take_no {c:Ctx} {K:Int} {a:Nat} {d:Int} (hk:¬ kd c a=K):takeS c K a d=.ok false a d:=by
 unfold takeS
 rw [if_neg hk]
set_option maxHeartbeats 16000000 in
theorem rchoose_reads {c:Ctx} (hG:Good c) {ex:Rd Ex} {blk:Rd (List Stm)} {a0:Nat} (hF:Fine c (paS c ex) a0) (hR:RReads c 107 (paS c ex) a0) (hFB:Fine c blk a0) (hB:RBlk c blk a0) (W:World) (a:Nat) (d:Int) (h:RSt c W (.here a d)) (ha:a0≤a) (h0:0≤d) (hkd:kd c a=24) :
  Calls Tryz.prog 108 #[c.me,.agg (P7 (ps c a))] W (RPost c W (repSo W.heap.size) (choiceS c ex blk a d)):=by
 obtain ⟨S,hS⟩:∃S,A0 (choiceS c ex blk a d=S):=⟨_,⟨rfl⟩⟩
 rw [hS.out]
 have hal:=kL hkd (by omega)
 replace hR:=A0.mk hR
 replace hB:=A0.mk hB
 replace hF:=A0.mk hF
 replace hFB:=A0.mk hFB
 have hSp:A0 (S=(paS c ex (a+1) d).bind fun e a1 d1=>(tkS c 50 a1 d1).bind fun _ a2 d2=>(cP c blk (c.L.length+1 - a2) [] [] a2 d2).bind fun cb a3 d3=>(dfltS c blk cb.2 a3 d3).bind fun bs a4 d4=>(tkS c 52 a4 d4).bind fun _ a5 d5=>.ok (.mk 6 nN nN [e] bs cb.1 (ps c a)) a5 d5):=⟨by
  rw [←hS.out];unfold choiceS;simp only [tk_bind]⟩
 have hal2:=hG.hl
 have hd64:=h.2.2.2
 have wa:IntKind.i64.wrap ((a:Int)+1)=(a:Int)+1:=IntWalk.i64_in _ (by omega)
 have F:=((Fr.start h).alloc (.cells (P7 (ps c a)) 107)).alloc (.cells Z7 107)
 have hv:Bx ((W.alloc (.cells (P7 (ps c a)) 107)).alloc (.cells Z7 107)) W.heap.size 107 (P7 (ps c a)):=xB (X:=W.alloc (.cells (P7 (ps c a)) 107)) (xN W 107 _) (bA _ _)
 have hr:Bx ((W.alloc (.cells (P7 (ps c a)) 107)).alloc (.cells Z7 107)) (W.heap.size+1) 107 Z7:=by
  have:=xN (W.alloc (.cells (P7 (ps c a)) 107)) 107 Z7
  rwa [show (W.alloc (.cells (P7 (ps c a)) 107)).heap.size=W.heap.size+1 by simp] at this
 have hgl:=F.gl
 have hinfo67:A0 ((Tryz.prog.info? 67).map (fun i=>(i.zero,i.size,i.bytes))=some (some (.agg #[.string ⟨#[]⟩,.int .i64 0,.int .i64 0]),3,32)):=⟨by kernel_rfl⟩
 have hinfo25:A0 ((Tryz.prog.info? 25).map (fun i=>(i.zero,i.size,i.bytes))=some (some (.slice none 0 0),1,24)):=⟨by kernel_rfl⟩
 replace hkd:=A0.mk hkd
 clear hS
 go_enter Tryz.func108,Tryz.ntmps108
 go_upto_region 1 with fail
 generalize (W.alloc (.cells (P7 (ps c a)) 107)).alloc (.cells Z7 107)=X at F hv hr ⊢
 have z0:X.cell? ⟨W.heap.size,0,none⟩=some (.int .i64 0):=bC hv 0
 have y0:=bF hv 0
 go_upto_region 2 with fail
 clear z0 y0
 replace F:=F.set (p:=⟨W.heap.size,0,none⟩) (by dsimp only;omega) (.int .i64 6)
 replace hv:Bx _ (W.heap.size) 107 #[.int .i64 6,.string ⟨#[]⟩,.string ⟨#[]⟩,.slice none 0 0,.slice none 0 0,.slice none 0 0,.int .i64 (ps c a)]:=bP hv 0 (.int .i64 6) rfl
 replace hr:=Q5 hr (p:=⟨W.heap.size,0,none⟩) (by dsimp only;omega) (.int .i64 6)
 generalize X.setCell ⟨W.heap.size,0,none⟩ (.int .i64 6)=X11 at F hv hr ⊢
 have k2:=(F.st hG).1.c2
 have j2:=(F.st hG).1.fz 2
 go_upto_region 3 with fail
 clear k2 j2
 replace F:=F.step hal
 replace hv:=Q5 hv (p:=⟨c.g,2,none⟩) (by dsimp only;omega) (.int .i64 ((a:Int)+1))
 replace hr:=Q5 hr (p:=⟨c.g,2,none⟩) (by dsimp only;omega) (.int .i64 ((a:Int)+1))
 generalize X11.setCell ⟨c.g,2,none⟩ (.int .i64 ((a:Int)+1))=X12 at F hv hr ⊢
 obtain ⟨o0,ho0⟩:∃o,A0 (((Sta.here (a+1) d)).go (paS c ex)=o):=⟨_,⟨rfl⟩⟩
 have CN:=hR.out.c (F.st hG) (fun a' d' e=>by cases e;exact ⟨by omega,h0⟩) ho0
 have hlo:=F.fr.size
 have hlo2:W.heap.size+2≤X12.heap.size:=by have:=bL hv;have:=bL hr;omega
 go_upto_region 4 with (first|(go_at_call 107;(with_reducible refine CN.mono ?_);rintro e X13 ⟨hg,⟨op2,num2,nm2,A2,n2,cap2,pos2,rfl,hE⟩,hR1⟩;have hv2:=xC hv hg (by omega);have k3:X13.cell? ⟨W.heap.size,3,none⟩=some (.slice none 0 0):=bC hv2 3;have j3:=bF hv2 3;have k3':∀o,(X13.alloc o).cell? ⟨W.heap.size,3,none⟩=some (.slice none 0 0):=fun o=>bC (xB hv2 (bA _ o)) 3;have j3':∀o,(X13.alloc o).frozen? ⟨W.heap.size,3,none⟩=false:=fun o=>bF (xB hv2 (bA _ o)) 3))
 have hgs:=hg.size
 replace F:=F.call hg hR1
 replace hv:=xC hv hg (by omega)
 replace hr:=xC hr hg (by omega)
 replace F:=(F.alloc (.cells #[.int .i64 op2,.int .i64 num2,.string nm2,.slice A2 n2 cap2,.int .i64 pos2] 93)).set (p:=⟨W.heap.size,3,none⟩) (by dsimp only;omega) (.slice (some ⟨X13.heap.size,0,none⟩) 1 1)
 have hbB:=bA X13 (.cells #[.int .i64 op2,.int .i64 num2,.string nm2,.slice A2 n2 cap2,.int .i64 pos2] 93)
 replace hv:Bx _ (W.heap.size) 107 #[.int .i64 6,.string ⟨#[]⟩,.string ⟨#[]⟩,.slice (some ⟨X13.heap.size,0,none⟩) 1 1,.slice none 0 0,.slice none 0 0,.int .i64 (ps c a)]:=bP (xB hv hbB) 3 (.slice (some ⟨X13.heap.size,0,none⟩) 1 1) rfl
 replace hr:=Q5 (xB hr hbB) (p:=⟨W.heap.size,3,none⟩) (by dsimp only;omega) (.slice (some ⟨X13.heap.size,0,none⟩) 1 1)
 have cl0:A0 (∀y,o0.val=some y→Acc RepE 93 5 (W.heap.size+2) ((X13.alloc (.cells #[.int .i64 op2,.int .i64 num2,.string nm2,.slice A2 n2 cap2,.int .i64 pos2] 93)).setCell ⟨W.heap.size,3,none⟩ (.slice (some ⟨X13.heap.size,0,none⟩) 1 1)) (.slice (some ⟨X13.heap.size,0,none⟩) 1 1) [y]):=⟨fun y hy=>by
  have:=accE_one (lo:=W.heap.size+2) (w:=X13) ((hE.out y hy).far (Far.refl (X12).heap.size _) hlo2) (by omega) #[.int .i64 op2,.int .i64 num2,.string nm2,.slice A2 n2 cap2,.int .i64 pos2] rfl
  exact this.farE ((Far.refl (W.heap.size+2) _).put (p:=⟨W.heap.size,3,none⟩) (by dsimp only;omega) _)⟩
 generalize (X13.alloc (.cells #[.int .i64 op2,.int .i64 num2,.string nm2,.slice A2 n2 cap2,.int .i64 pos2] 93)).setCell ⟨W.heap.size,3,none⟩ (.slice (some ⟨X13.heap.size,0,none⟩) 1 1)=X14 at F hv hr cl0 ⊢
 clear CN hE hg hR1 hv2 k3 j3 k3' j3' hbB hlo hlo2 hgs
 generalize X13.heap.size=gr0 at hv cl0 ⊢
 have hl0':∀a' d',o0.sta=.here a' d'→a0≤a'∧0≤d'∧d'≤64:=fun a' d' e=>by
  cases o0 with
  | bad p er=>cases e
  | ok x a1 d1=>cases e;obtain ⟨r1,r2,r3⟩:=hF.out _ _ (by omega) h0 hd64 _ _ _ ho0.out;exact ⟨by omega,by omega,by omega⟩
 obtain ⟨o1,ho1⟩:∃o,A0 (o0.sta.go (tkS c 50)=o):=⟨_,⟨rfl⟩⟩
 have CN:=tC hG (F.st hG) 50 (by omega) ⟨#[123]⟩ rfl ho1
 go_upto_block 0 with (first|(go_at_call 36;(with_reducible refine CN.mono ?_);rintro e X15 ⟨hg,rfl,hR1⟩))
 replace F:=F.call hg hR1
 replace hv:=xC hv hg (by omega)
 replace hr:=xC hr hg (by omega)
 replace cl0:A0 (∀y,o0.val=some y→Acc RepE 93 5 (W.heap.size+2) (X15) (.slice (some ⟨gr0,0,none⟩) 1 1) [y]):=⟨fun y hy=>(cl0.out y hy).farE (Far.ofGrown hg (by omega))⟩
 clear CN hg hR1
 have hl1:o1.sta.lim a0:=fun a' d' e=>by
  have:=tk_open_lim (a0:=a0) (by omega) (fun a' d' e=>⟨(hl0' a' d' e).1,(hl0' a' d' e).2.1⟩) ho1 a' d' e
  exact ⟨by have:=this.1;omega,this.2⟩
 obtain ⟨R,hRs⟩:∃R,A0 ((o1.bind fun _ a2 d2=>cP c blk (c.L.length+1 - a2) [] [] a2 d2)=R):=⟨_,⟨rfl⟩⟩
 have hS3:A0 (S=o0.bind fun e _ _=>R.bind fun cb a3 d3=>(dfltS c blk cb.2 a3 d3).bind fun bs a4 d4=>(tkS c 52 a4 d4).bind fun _ a5 d5=>.ok (.mk 6 nN nN [e] bs cb.1 (ps c a)) a5 d5):=⟨by
  have g0:=ho0.out;have g1:=ho1.out
  simp only [Sta.go] at g0
  rw [hSp.out,g0,←hRs.out]
  cases o0 with
  | bad p er=>rfl
  | ok e a1 d1 =>
   simp only [Out.sta,Sta.go] at g1
   simp only [oB]
   rw [g1]
   simp only [bind_bind]⟩
 have hRl:A0 (∀p er,o0=.bad p er→R=.bad p er):=⟨fun p er e=>by
  subst e
  have g1:=ho1.out
  simp only [Out.sta,Sta.go] at g1;subst g1
  exact hRs.out.symm⟩
 obtain ⟨G0,hG0⟩:∃G0,A0 (G0=match o1 with | .ok _ a1 _=>c.L.length+1 - a1 | .bad _ _=>0):=⟨_,⟨rfl⟩⟩
 have hA:A0 (CgAt c W blk R (some ⟨gr0,0,none⟩) o0.val (ps c a) a0 G0 X15):=⟨⟨o1.bind fun _ a1 d1=>.ok ([],[]) a1 d1,[],[],none,0,0,none,0,0,by cases o1 <;> exact F,hv,hr,R3.start cl0.out,fun cb hcb=>by
  cases o1 with
  | bad p er=>cases hcb
  | ok x a1 d1=>cases hcb;exact ⟨rfl,rfl⟩,by
  rw [←hRs.out,hG0.out]
  cases o1 <;> rfl,by
  cases o1 with
  | bad p er=>intro a' d' e;cases e
  | ok x a1 d1=>exact hl1,fun l a d e=>by
  cases o1 with
  | bad p er=>cases e
  | ok x a1 d1 =>
   cases e
   have:=F.pb.2.1
   have:=hG0.out
   simp only at this
   exact ⟨by omega,by simp,by simp⟩⟩⟩
 clear F hv hr cl0 ho0 ho1 hl0' hl1 hRs hG0 hSp hal wa
 go_wp2
 go_loopg [] G0 (fun f X=>CgAt c W blk R (some ⟨gr0,0,none⟩) o0.val (ps c a) a0 f X)
 case atStart=>exact hA.out
 case round =>
  obtain ⟨q,bs,cs,A2,n2,c2,A3,n3,c3,F,hv,hr,hR3,hci,hsp,hlim,hfu⟩:=hrel.ex
  clear hA hrel
  replace hR3:=A0.mk hR3
  replace hci:=A0.mk hci
  replace hsp:=A0.mk hsp
  replace hlim:=A0.mk hlim
  replace hfu:=A0.mk hfu
  have IS:=ris_call hG (F.st hG) 6 (by omega) ⟨#[99,97,115,101]⟩ rfl
  cases hse:q.sta.sees c 6 with
  | true =>
   rw [hse] at IS
   obtain ⟨cb,a1,d1,rfl,hk⟩:∃cb a1 d1,q=.ok cb a1 d1∧kd c a1=6:=by
    cases q with
    | bad p er=>cases hse
    | ok cb a1 d1=>exact ⟨cb,a1,d1,rfl,of_decide_eq_true hse⟩
   obtain ⟨f1,f2,f3⟩:=hfu.out _ _ _ rfl
   obtain ⟨l1,l2⟩:=hlim.out a1 d1 rfl
   obtain ⟨rfl,rfl⟩:=hci.out cb rfl
   have hal1:=kL hk (by omega)
   replace F:Fr c W wr (.here a1 d1):=F
   have hd1:=F.pb.2.2.2
   obtain ⟨m,rfl⟩:∃m,gk=m+1:=⟨gk - 1,by omega⟩
   have wa1:IntKind.i64.wrap ((a1:Int)+1)=(a1:Int)+1:=IntWalk.i64_in _ (by omega)
   have hsp2:A0 (((coS c (a1+1) d1).bind fun k a2 d2=>(tkS c 40 a2 d2).bind fun _ a3 d3=>(blk a3 d3).bind fun l a4 d4=>cP c blk m (cb.1++[k]) (cb.2++[l]) a4 d4)=R):=⟨by
    rw [←hsp.out];simp only [oB];rw [cP,take_yes (by omega) hk];simp only [oB,↓reduceIte,tk_bind]⟩
   rw [List.length_map] at f3
   have hlc:A0 (cb.1.length≤20000∧cb.2.length≤20000):=⟨by omega⟩
   clear hse hsp hlim hfu hci
   go_upto_region 6 with (first|(go_at_call 31;(with_reducible refine IS.mono ?_);rintro e w3 ⟨rfl,hb⟩))
   replace F:=F.below hb
   replace hv:=xB hv hb
   replace hr:=xB hr hb
   replace hR3:=A0.mk (hR3.out.far (Y:=w3) ⟨hb.size,fun b _ hl=>hb.block b hl⟩)
   clear IS hb
   have k2:=(F.st hG).1.c2
   have j2:=(F.st hG).1.fz 2
   go_upto_region 7 with fail
   clear k2 j2
   replace F:=F.step hal1
   replace hv:=Q5 hv (p:=⟨c.g,2,none⟩) (by dsimp only;omega) (.int .i64 ((a1:Int)+1))
   replace hr:=Q5 hr (p:=⟨c.g,2,none⟩) (by dsimp only;omega) (.int .i64 ((a1:Int)+1))
   replace hR3:=A0.mk (hR3.out.far ((Far.refl _ _).put (p:=⟨c.g,2,none⟩) (by dsimp only;omega) (.int .i64 ((a1:Int)+1))))
   generalize w3.setCell ⟨c.g,2,none⟩ (.int .i64 ((a1:Int)+1))=Y at F hv hr hR3 ⊢
   clear wa1
   obtain ⟨oc,hoc⟩:∃o,A0 ((Sta.here (a1+1) d1).go (coS c)=o):=⟨_,⟨rfl⟩⟩
   have hlc1:A0 (∀k a' d',oc=.ok k a' d'→a1+1<a'∧a'≤c.L.length∧d'=d1):=⟨fun k a' d' e=>by
    have g:=hoc.out;simp only [Sta.go] at g;rw [e] at g
    exact constant_fine (by omega) g⟩
   go_cut [] from 28 to 34 (fun X=>CmAt c W (some ⟨gr0,0,none⟩) o0.val (ps c a) oc (cb.2.map some) cb.1 X)
   case first =>
    have Fd:=F.drew
    have hvd:=bD hv
    have hrd:=bD hr
    have CN:=rconst_c hG (Fd.st hG) hoc
    have z5:Y.cell? ⟨W.heap.size,5,none⟩=some (.slice A3 n3 c3):=bC hv 5
    have hlv:A0 (∀k,(.slice A2 n2 c2:Value).ownBlock=some k→W.heap.size+2≤k∧k<Y.heap.size):=⟨hR3.out.blks.elim fun us h=>h.1.lt⟩
    have hlw:A0 (∀k,(.slice A3 n3 c3:Value).ownBlock=some k→W.heap.size+2≤k∧k<Y.heap.size):=⟨hR3.out.cass.lt⟩
    have hTx:A0 (W.heap.size+2≤Y.heap.size):=⟨by have:=bL hr;omega⟩
    obtain ⟨i0,hi,hz0,hz1,hz2⟩:=info_parts hinfo67.out
    go_region_law (first
     | (go_simp;go_at_call 65;(with_reducible refine CN.mono ?_);rintro e1 w1 ⟨hg,⟨nm,kn,kp,rfl,hk5⟩,hR1⟩;(have Fc:=Fd.call hg hR1;have hvc:=xC hvd hg (by omega);have hrc:=xC hrd hg (by omega);have t5:w1.cell? ⟨W.heap.size,5,none⟩=some (.slice A3 n3 c3):=bC hvc 5;have t6:∀o,(w1.alloc o).cell? ⟨W.heap.size,5,none⟩=some (.slice A3 n3 c3):=fun o=>bC (xB hvc (bA _ o)) 5;have hRc:=A0.mk (hR3.out.far (((Far.refl _ _).drew).trans (Far.ofGrown hg (by omega))));have hgs:=A0.mk hg.size;try dsimp only))
     | (have hR2:=fun o=>hRc.out.far ((Far.refl _ w1).alloc o);refine step_append_prim (R:=RepC) repC_keeps rfl (.tmp 29) (.tmp 32) 105 rfl (W.heap.size+2) 67 i0 (.agg #[.string ⟨#[]⟩,.int .i64 0,.int .i64 0]) 3 32 Tryz.underlying105 hi hz0 hz1 hz2 rfl (by decide) (.slice A3 n3 c3) cb.1 (cb.1.map conCells) rfl (fun b=>(.slice A3 n3 c3:Value).ownBlock≠some b) (hR2 _).cass (all2_self _) (fun _ hb=>hb) ⟨w1.heap.size,0,none⟩ 1 (nm,kn,kp) (conCells (nm,kn,kp)) rfl rfl (oA _ _ _ rfl) (one3 _) rfl (by have:=hlc.out;unfold maxLen;omega) (by have:=hlc.out;omega) (by have:=hTx.out;have:=hgs.out;simp at this ⊢;omega) ?_;intro v3 w3 hown3 hall3 hg3 hwh;(obtain ⟨A6,n6,c6,rfl⟩:=own_form hown3;have hRe:=A0.mk (R3.case (hR2 _) hg3 (by simpa using hown3) hwh);have Fe:=(Fc.alloc (.cells #[.string nm,.int .i64 kn,.int .i64 kp] 67)).row hg3 (fun k hk=>by have:=(hlw.out k hk).1;omega);have hve:=bx_row (xB hvc (bA _ (.cells #[.string nm,.int .i64 kn,.int .i64 kp] 67))) hg3 (fun k hk=>by have:=(hlw.out k hk).1;omega);have hre:=bx_row (xB hrc (bA _ (.cells #[.string nm,.int .i64 kn,.int .i64 kp] 67))) hg3 (fun k hk=>by have:=(hlw.out k hk).1;omega);have u5:w3.cell? ⟨W.heap.size,5,none⟩=some (.slice A3 n3 c3):=bC hve 5;have uf5:=bF hve 5)))
    all_goals (
     have F9:=Fe.set (p:=⟨W.heap.size,5,none⟩) (by dsimp only;omega) (.slice A6 n6 c6)
     have hv9:Bx _ W.heap.size 107 (E107 6 nN nN (.slice (some ⟨gr0,0,none⟩) 1 1) (.slice A2 n2 c2) (.slice A6 n6 c6) (ps c a)):=bP hve 5 (.slice A6 n6 c6) rfl
     have hr9:=Q5 hre (p:=⟨W.heap.size,5,none⟩) (by dsimp only;omega) (.slice A6 n6 c6)
     have hR9:=A0.mk (hRe.out.far ((Far.refl _ _).put (p:=⟨W.heap.size,5,none⟩) (by dsimp only;omega) (.slice A6 n6 c6)))
     clear hRe Fe hve hre hRc Fc hvc hrc t5 t6 hgs hg hR1 hg3 hwh hown3 hall3
     go_wp2
     go_meet
     exact ⟨(nm,kn,kp),A2,n2,c2,A6,n6,c6,F9,hv9,hr9,hR9.out,hk5.out⟩)
   case rest =>
    clear F hv hr hR3
    obtain ⟨k,A2,n2,c2,A3,n3,c3,F,hv,hr,hR3,hke⟩:=hcut.ex
    clear hcut
    replace hR3:=A0.mk hR3
    replace hke:=A0.mk hke
    obtain ⟨o2,ho2⟩:∃o,A0 (oc.sta.go (tkS c 40)=o):=⟨_,⟨rfl⟩⟩
    have hl2:A0 (∀u a' d',o2=.ok u a' d'→a1+1<a'∧a'≤c.L.length∧d'=d1):=⟨fun u a' d' e=>by
     have g:=ho2.out
     cases oc with
     | bad p er=>simp only [Out.sta,Sta.go] at g;rw [e] at g;cases g
     | ok y a2 d2 =>
      simp only [Out.sta,Sta.go] at g;rw [e] at g
      obtain ⟨m1,m2,m3⟩:=hlc1.out _ _ _ rfl
      obtain ⟨u1,u2,u3⟩:=tk_fine (by omega) (by omega) g
      exact ⟨by omega,u2,by omega⟩⟩
    have CN:=tC hG (F.st hG) 40 (by omega) ⟨#[58]⟩ rfl ho2
    go_upto_region 9 with (first|(go_at_call 36;(with_reducible refine CN.mono ?_);rintro e Y2 ⟨hg,rfl,hR1⟩))
    replace F:=F.call hg hR1
    replace hv:=xC hv hg (by omega)
    replace hr:=xC hr hg (by omega)
    replace hR3:=A0.mk (hR3.out.far (Far.ofGrown hg (by omega)))
    clear CN hg hR1
    clear Y
    obtain ⟨Y,hY⟩:∃Y:World,Y=Y2:=⟨_,rfl⟩
    rw [←hY] at F hv hr hR3 ⊢
    clear hY
    obtain ⟨ob,hob⟩:∃o,A0 (o2.sta.go blk=o):=⟨_,⟨rfl⟩⟩
    have hl2s:∀a' d',o2.sta=.here a' d'→a0≤a'∧0≤d'∧d'≤64:=fun a' d' e=>by
     cases o2 with
     | bad p er=>cases e
     | ok u a2 d2=>cases e;obtain ⟨m1,m2,m3⟩:=hl2.out _ _ _ rfl;exact ⟨by omega,by omega,by omega⟩
    replace hl2s:=A0.mk hl2s
    have Fd:=F.drew
    have hvd:=bD hv
    have hrd:=bD hr
    have CN:=hB.out.c (Fd.st hG) (fun a' d' e=>⟨(hl2s.out a' d' e).1,(hl2s.out a' d' e).2.1⟩) hob
    have z5:Y.cell? ⟨W.heap.size,4,none⟩=some (.slice A2 n2 c2):=bC hv 4
    have hlv:A0 (∀k,(.slice A2 n2 c2:Value).ownBlock=some k→W.heap.size+2≤k∧k<Y.heap.size):=⟨hR3.out.blks.elim fun us h=>h.1.lt⟩
    have hlw:A0 (∀k,(.slice A3 n3 c3:Value).ownBlock=some k→W.heap.size+2≤k∧k<Y.heap.size):=⟨hR3.out.cass.lt⟩
    have hTx:A0 (W.heap.size+2≤Y.heap.size):=⟨by have:=bL hr;omega⟩
    obtain ⟨i0,hi,hz0,hz1,hz2⟩:=info_parts hinfo25.out
    go_region_law (first
     | (go_simp;go_at_call 35;(with_reducible refine CN.mono ?_);rintro e1 w1 ⟨hg,⟨A5,n5,c5,rfl,hE⟩,hR1⟩;(have Fc:=Fd.call hg hR1;have hvc:=xC hvd hg (by omega);have hrc:=xC hrd hg (by omega);have t5:w1.cell? ⟨W.heap.size,4,none⟩=some (.slice A2 n2 c2):=bC hvc 4;have t6:∀o,(w1.alloc o).cell? ⟨W.heap.size,4,none⟩=some (.slice A2 n2 c2):=fun o=>bC (xB hvc (bA _ o)) 4;have hRc:=A0.mk (hR3.out.far (((Far.refl _ _).drew).trans (Far.ofGrown hg (by omega))));have hgs:=A0.mk hg.size;try dsimp only))
     | (have hR2:=fun o=>hRc.out.far ((Far.refl _ w1).alloc o);obtain ⟨us,hus1,hus2⟩:=(hR2 (.cells #[.slice A5 n5 c5] 25)).blks;refine step_append_prim (R:=Opt RepB) optB_keeps rfl (.tmp 38) (.tmp 41) 104 rfl (W.heap.size+2) 25 i0 (.slice none 0 0) 1 24 Tryz.underlying104 hi hz0 hz1 hz2 rfl (by decide) (.slice A2 n2 c2) (cb.2.map some) us rfl (fun b=>Apart (W.heap.size+2) (.slice A2 n2 c2) (.slice A3 n3 c3) b∧b<(w1.alloc (.cells #[.slice A5 n5 c5] 25)).heap.size) hus1 (hus2.imp fun _ _ hr=>optB_lt hr) (fun _ hb=>hb.1.2.1) ⟨w1.heap.size,0,none⟩ 1 ob.val [.slice A5 n5 c5] rfl rfl (oA _ _ _ rfl) (by intro u hu;simp at hu;subst hu;rfl) (optB_new hE.out (by have:=hTx.out;simpa using this) (fun k hk=>(hlv.out k hk).2) (fun k hk=>(hlw.out k hk).2) _) (by have:=hlc.out;rw [List.length_map];unfold maxLen;omega) (by have:=hlc.out;rw [List.length_map];omega) (by have:=hTx.out;have:=hgs.out;simp at this ⊢;omega) ?_;intro v3 w3 hown3 hall3 hg3 hwh;(obtain ⟨A6,n6,c6,rfl⟩:=own_form hown3;have hRe:=A0.mk (R3.blk (hR2 _) hg3 hown3 hall3 hwh);have Fe:=(Fc.alloc (.cells #[.slice A5 n5 c5] 25)).row hg3 (fun k hk=>by have:=(hlv.out k hk).1;omega);have hve:=bx_row (xB hvc (bA _ (.cells #[.slice A5 n5 c5] 25))) hg3 (fun k hk=>by have:=(hlv.out k hk).1;omega);have hre:=bx_row (xB hrc (bA _ (.cells #[.slice A5 n5 c5] 25))) hg3 (fun k hk=>by have:=(hlv.out k hk).1;omega);have u5:w3.cell? ⟨W.heap.size,4,none⟩=some (.slice A2 n2 c2):=bC hve 4;have uf5:=bF hve 4)))
    all_goals (
     have F9:=Fe.set (p:=⟨W.heap.size,4,none⟩) (by dsimp only;omega) (.slice A6 n6 c6)
     have hv9:Bx _ W.heap.size 107 (E107 6 nN nN (.slice (some ⟨gr0,0,none⟩) 1 1) (.slice A6 n6 c6) (.slice A3 n3 c3) (ps c a)):=bP hve 4 (.slice A6 n6 c6) rfl
     have hr9:=Q5 hre (p:=⟨W.heap.size,4,none⟩) (by dsimp only;omega) (.slice A6 n6 c6)
     have hR9:=A0.mk (hRe.out.far ((Far.refl _ _).put (p:=⟨W.heap.size,4,none⟩) (by dsimp only;omega) (.slice A6 n6 c6)))
     clear hRe Fe hve hre hRc Fc hvc hrc t5 t6 hgs hg hR1 hg3 hwh hown3 hall3
     have hlb:=fine_lim hFB.out (Nat.le_refl _) hl2s.out hob
     go_wp2
     go_roundg m
     case rel=>exact ⟨ob.bind fun l a4 d4=>.ok (cb.1++[k],cb.2++[l]) a4 d4,cb.2.map some++[ob.val],cb.1++[k],A6,n6,c6,A3,n3,c3,by cases ob <;> exact F9,hv9,hr9,hR9.out,fun cb' hcb=>by
       cases ob with
       | bad p er=>cases hcb
       | ok l a4 d4=>cases hcb;exact ⟨rfl,by simp [Out.val]⟩,by
       rw [←hsp2.out]
       have gc:=hoc.out;have g2:=ho2.out;have gb:=hob.out
       simp only [Sta.go] at gc;rw [gc]
       cases oc with
       | bad p er=>simp only [Out.sta,Sta.go] at g2;subst g2;simp only [Out.sta,Sta.go] at gb;subst gb;rfl
       | ok y a2 d2 =>
        obtain rfl:=hke.out y rfl
        simp only [Out.sta,Sta.go] at g2;simp only [oB];rw [g2]
        cases o2 with
        | bad p er=>simp only [Out.sta,Sta.go] at gb;subst gb;rfl
        | ok u a3 d3 =>
         simp only [Out.sta,Sta.go] at gb;simp only [oB];rw [gb]
         cases ob <;> rfl,by
       cases ob with
       | bad p er=>intro a' d' e;cases e
       | ok l a4 d4=>exact hlb,fun cb' a' d' e=>by
       cases ob with
       | bad p er=>cases e
       | ok l a4 d4 =>
        cases e
        have gb:=hob.out
        cases o2 with
        | bad p er=>simp only [Out.sta,Sta.go] at gb;cases gb
        | ok u a3 d3 =>
         simp only [Out.sta,Sta.go] at gb
         obtain ⟨m1,m2,m3⟩:=hl2.out _ _ _ rfl
         obtain ⟨n1',n2',n3'⟩:=hl2s.out _ _ rfl
         obtain ⟨r1,r2,r3⟩:=hFB.out _ _ n1' n2' n3' _ _ _ gb
         exact ⟨by omega,by simp;omega,by simp;omega⟩⟩
     case measure=>omega)
  | false =>
   rw [hse] at IS
   have hRq:A0 (R=q):=⟨by
    rw [←hsp.out]
    cases q with
    | bad p er=>rfl
    | ok cb a1 d1 =>
     obtain ⟨f1,f2,f3⟩:=hfu.out _ _ _ rfl
     have:=F.pb.2.1
     obtain ⟨m,rfl⟩:∃m,gk=m+1:=⟨gk - 1,by omega⟩
     simp only [oB]
     rw [cP,take_no (of_decide_eq_false hse)]
     rfl⟩
   clear hse hsp
   obtain ⟨D,hD⟩:∃D,A0 ((q.bind fun cb a3 d3=>dfltS c blk cb.2 a3 d3)=D):=⟨_,⟨rfl⟩⟩
   obtain ⟨b9,hb9⟩:∃b,A0 (q.sta.sees c 9=b):=⟨_,⟨rfl⟩⟩
   have IS9:=fun Y (hb:Below wr.heap.size wr Y)=>ris_call hG ((F.below hb).st hG) 9 (by omega) ⟨#[100,101,102,97,117,108,116]⟩ rfl
   simp only [hb9.out] at IS9
   go_upto_if 45 with (first|(go_at_call 31;(with_reducible refine IS.mono ?_);rintro e w3 ⟨rfl,hb⟩)|(go_at_call 31;(with_reducible refine (IS9 _ hb).mono ?_);rintro e w4 ⟨rfl,hb2⟩;replace hb2:=hb.trans (hb2.mono hb.size)))
   replace F:=F.below hb2
   replace hv:=xB hv hb2
   replace hr:=xB hr hb2
   replace hR3:=A0.mk (hR3.out.far (Y:=w4) ⟨hb2.size,fun b _ hl=>hb2.block b hl⟩)
   clear IS IS9 hb hb2
   go_cut [] from 45 to 61 (fun X=>DgAt c W (some ⟨gr0,0,none⟩) o0.val (ps c a) D cs X)
   case first =>
    cases b9 with
    | false =>
     go_wp2
     go_meet
     have hDq:D=q.bind fun cb a3 d3=>.ok cb.2 a3 d3:=by
      rw [←hD.out]
      cases q with
      | bad p er=>rfl
      | ok cb a1 d1=>simp only [oB];unfold dfltS;rw [take_no (of_decide_eq_false hb9.out)];rfl
     subst hDq
     exact ⟨bs,A2,n2,c2,A3,n3,c3,by cases q <;> exact F,hv,hr,hR3.out,fun l hl=>by
      cases q with
      | bad p er=>cases hl
      | ok cb a1 d1=>cases hl;exact (hci.out cb rfl).2⟩
    | true =>
     obtain ⟨cb,a1,d1,rfl,hk⟩:∃cb a1 d1,q=.ok cb a1 d1∧kd c a1=9:=by
      have hse:=hb9.out
      cases q with
      | bad p er=>cases hse
      | ok cb a1 d1=>exact ⟨cb,a1,d1,rfl,of_decide_eq_true hse⟩
     obtain ⟨f1,f2,f3⟩:=hfu.out _ _ _ rfl
     obtain ⟨l1,l2⟩:=hlim.out a1 d1 rfl
     obtain ⟨rfl,rfl⟩:=hci.out cb rfl
     have hal1:=kL hk (by omega)
     replace F:Fr c W w4 (.here a1 d1):=F
     have hd1:=F.pb.2.2.2
     have wa1:IntKind.i64.wrap ((a1:Int)+1)=(a1:Int)+1:=IntWalk.i64_in _ (by omega)
     have hD2:A0 (((tkS c 40 (a1+1) d1).bind fun _ a2 d2=>(blk a2 d2).bind fun l a3 d3=>.ok (cb.2++[l]) a3 d3)=D):=⟨by
      rw [←hD.out];simp only [oB];unfold dfltS;rw [take_yes (by omega) hk];simp only [oB,↓reduceIte,tk_bind]⟩
     rw [List.length_map] at f3
     have hlc:A0 (cb.1.length≤20000∧cb.2.length≤20000):=⟨by omega⟩
     clear hb9 hlim hfu hci hD hRq
     have k2:=(F.st hG).1.c2
     have j2:=(F.st hG).1.fz 2
     go_upto_region 12 with fail
     clear k2 j2
     replace F:=F.step hal1
     replace hv:=Q5 hv (p:=⟨c.g,2,none⟩) (by dsimp only;omega) (.int .i64 ((a1:Int)+1))
     replace hr:=Q5 hr (p:=⟨c.g,2,none⟩) (by dsimp only;omega) (.int .i64 ((a1:Int)+1))
     replace hR3:=A0.mk (hR3.out.far ((Far.refl _ _).put (p:=⟨c.g,2,none⟩) (by dsimp only;omega) (.int .i64 ((a1:Int)+1))))
     generalize w4.setCell ⟨c.g,2,none⟩ (.int .i64 ((a1:Int)+1))=Y3 at F hv hr hR3 ⊢
     obtain ⟨o2,ho2⟩:∃o,A0 ((Sta.here (a1+1) d1).go (tkS c 40)=o):=⟨_,⟨rfl⟩⟩
     have hl2:A0 (∀u a' d',o2=.ok u a' d'→a1+1<a'∧a'≤c.L.length∧d'=d1):=⟨fun u a' d' e=>by
      have g:=ho2.out
      simp only [Sta.go] at g;rw [e] at g
      obtain ⟨u1,u2,u3⟩:=tk_fine (by omega) (by omega) g
      exact ⟨by omega,u2,by omega⟩⟩
     have CN:=tC hG (F.st hG) 40 (by omega) ⟨#[58]⟩ rfl ho2
     go_upto_region 13 with (first|(go_at_call 36;(with_reducible refine CN.mono ?_);rintro e Y2 ⟨hg,rfl,hR1⟩))
     replace F:=F.call hg hR1
     replace hv:=xC hv hg (by omega)
     replace hr:=xC hr hg (by omega)
     replace hR3:=A0.mk (hR3.out.far (Far.ofGrown hg (by omega)))
     clear CN hg hR1
     obtain ⟨Y,hY⟩:∃Y:World,Y=Y2:=⟨_,rfl⟩
     rw [←hY] at F hv hr hR3 ⊢
     clear hY
     obtain ⟨ob,hob⟩:∃o,A0 (o2.sta.go blk=o):=⟨_,⟨rfl⟩⟩
     have hl2s:∀a' d',o2.sta=.here a' d'→a0≤a'∧0≤d'∧d'≤64:=fun a' d' e=>by
      cases o2 with
      | bad p er=>cases e
      | ok u a2 d2=>cases e;obtain ⟨m1,m2,m3⟩:=hl2.out _ _ _ rfl;exact ⟨by omega,by omega,by omega⟩
     replace hl2s:=A0.mk hl2s
     have Fd:=F.drew
     have hvd:=bD hv
     have hrd:=bD hr
     have CN:=hB.out.c (Fd.st hG) (fun a' d' e=>⟨(hl2s.out a' d' e).1,(hl2s.out a' d' e).2.1⟩) hob
     have z5:Y.cell? ⟨W.heap.size,4,none⟩=some (.slice A2 n2 c2):=bC hv 4
     have hlv:A0 (∀k,(.slice A2 n2 c2:Value).ownBlock=some k→W.heap.size+2≤k∧k<Y.heap.size):=⟨hR3.out.blks.elim fun us h=>h.1.lt⟩
     have hlw:A0 (∀k,(.slice A3 n3 c3:Value).ownBlock=some k→W.heap.size+2≤k∧k<Y.heap.size):=⟨hR3.out.cass.lt⟩
     have hTx:A0 (W.heap.size+2≤Y.heap.size):=⟨by have:=bL hr;omega⟩
     obtain ⟨i0,hi,hz0,hz1,hz2⟩:=info_parts hinfo25.out
     go_region_law (first
      | (go_simp;go_at_call 35;(with_reducible refine CN.mono ?_);rintro e1 w1 ⟨hg,⟨A5,n5,c5,rfl,hE⟩,hR1⟩;(have Fc:=Fd.call hg hR1;have hvc:=xC hvd hg (by omega);have hrc:=xC hrd hg (by omega);have t5:w1.cell? ⟨W.heap.size,4,none⟩=some (.slice A2 n2 c2):=bC hvc 4;have t6:∀o,(w1.alloc o).cell? ⟨W.heap.size,4,none⟩=some (.slice A2 n2 c2):=fun o=>bC (xB hvc (bA _ o)) 4;have hRc:=A0.mk (hR3.out.far (((Far.refl _ _).drew).trans (Far.ofGrown hg (by omega))));have hgs:=A0.mk hg.size;try dsimp only))
      | (have hR2:=fun o=>hRc.out.far ((Far.refl _ w1).alloc o);obtain ⟨us,hus1,hus2⟩:=(hR2 (.cells #[.slice A5 n5 c5] 25)).blks;refine step_append_prim (R:=Opt RepB) optB_keeps rfl (.tmp 56) (.tmp 59) 104 rfl (W.heap.size+2) 25 i0 (.slice none 0 0) 1 24 Tryz.underlying104 hi hz0 hz1 hz2 rfl (by decide) (.slice A2 n2 c2) (cb.2.map some) us rfl (fun b=>Apart (W.heap.size+2) (.slice A2 n2 c2) (.slice A3 n3 c3) b∧b<(w1.alloc (.cells #[.slice A5 n5 c5] 25)).heap.size) hus1 (hus2.imp fun _ _ hr=>optB_lt hr) (fun _ hb=>hb.1.2.1) ⟨w1.heap.size,0,none⟩ 1 ob.val [.slice A5 n5 c5] rfl rfl (oA _ _ _ rfl) (by intro u hu;simp at hu;subst hu;rfl) (optB_new hE.out (by have:=hTx.out;simpa using this) (fun k hk=>(hlv.out k hk).2) (fun k hk=>(hlw.out k hk).2) _) (by have:=hlc.out;rw [List.length_map];unfold maxLen;omega) (by have:=hlc.out;rw [List.length_map];omega) (by have:=hTx.out;have:=hgs.out;simp at this ⊢;omega) ?_;intro v3 w3 hown3 hall3 hg3 hwh;(obtain ⟨A6,n6,c6,rfl⟩:=own_form hown3;have hRe:=A0.mk (R3.blk (hR2 _) hg3 hown3 hall3 hwh);have Fe:=(Fc.alloc (.cells #[.slice A5 n5 c5] 25)).row hg3 (fun k hk=>by have:=(hlv.out k hk).1;omega);have hve:=bx_row (xB hvc (bA _ (.cells #[.slice A5 n5 c5] 25))) hg3 (fun k hk=>by have:=(hlv.out k hk).1;omega);have hre:=bx_row (xB hrc (bA _ (.cells #[.slice A5 n5 c5] 25))) hg3 (fun k hk=>by have:=(hlv.out k hk).1;omega);have u5:w3.cell? ⟨W.heap.size,4,none⟩=some (.slice A2 n2 c2):=bC hve 4;have uf5:=bF hve 4)))
     all_goals (
      have F9:=Fe.set (p:=⟨W.heap.size,4,none⟩) (by dsimp only;omega) (.slice A6 n6 c6)
      have hv9:Bx _ W.heap.size 107 (E107 6 nN nN (.slice (some ⟨gr0,0,none⟩) 1 1) (.slice A6 n6 c6) (.slice A3 n3 c3) (ps c a)):=bP hve 4 (.slice A6 n6 c6) rfl
      have hr9:=Q5 hre (p:=⟨W.heap.size,4,none⟩) (by dsimp only;omega) (.slice A6 n6 c6)
      have hR9:=A0.mk (hRe.out.far ((Far.refl _ _).put (p:=⟨W.heap.size,4,none⟩) (by dsimp only;omega) (.slice A6 n6 c6)))
      clear hRe Fe hve hre hRc Fc hvc hrc t5 t6 hgs hg hR1 hg3 hwh hown3 hall3
      go_wp2
      go_meet
      have hDq:D=ob.bind fun l a3 d3=>.ok (cb.2++[l]) a3 d3:=by
       have g2:=ho2.out;have gb:=hob.out
       simp only [Sta.go] at g2;rw [←hD2.out,g2]
       cases o2 with
       | bad p er=>simp only [Out.sta,Sta.go] at gb;subst gb;rfl
       | ok u a3 d3=>simp only [Out.sta,Sta.go] at gb;simp only [oB];rw [gb]
      subst hDq
      exact ⟨cb.2.map some++[ob.val],A6,n6,c6,A3,n3,c3,by cases ob <;> exact F9,hv9,hr9,hR9.out,fun l hl=>by
       cases ob with
       | bad p er=>cases hl
       | ok l a3 d3=>cases hl;simp [Out.val]⟩)
   case rest =>
    clear F hv hr hR3
    obtain ⟨bs',A2,n2,c2,A3,n3,c3,F,hv,hr,hR3,hDl⟩:=hcut.ex
    clear hcut hb9 hfu hlim
    replace hR3:=A0.mk hR3
    replace hDl:=A0.mk hDl
    obtain ⟨o3,ho3⟩:∃o,A0 (D.sta.go (tkS c 52)=o):=⟨_,⟨rfl⟩⟩
    have CN:=tC hG (F.st hG) 52 (by omega) ⟨#[125]⟩ rfl ho3
    go_upto_region 15 with (first|(go_at_call 36;(with_reducible refine CN.mono ?_);rintro e Y2 ⟨hg,rfl,hR1⟩))
    replace F:=F.call hg hR1
    replace hv:=xC hv hg (by omega)
    replace hr:=xC hr hg (by omega)
    replace hR3:=A0.mk (hR3.out.far (Far.ofGrown hg (by omega)))
    clear CN hg hR1
    have hfin:A0 (S.sta=o3.sta∧∀y,S.val=some y→∃e l,o0.val=some e∧l.map some=bs'∧y=.mk 6 nN nN [e] l cs (ps c a)):=⟨by
     have g3:=ho3.out;have gD:=hD.out;have gR:=hRq.out
     rw [hS3.out]
     cases o0 with
     | bad p er =>
      have:=hRl.out p er rfl
      rw [gR] at this;subst this
      simp only [Out.bind] at gD;subst gD
      simp only [Out.sta,Sta.go] at g3;subst g3
      exact ⟨rfl,fun y hy=>by cases hy⟩
     | ok e a1 d1 =>
      simp only [oB]
      rw [gR]
      cases q with
      | bad p er =>
       simp only [Out.bind] at gD;subst gD
       simp only [Out.sta,Sta.go] at g3;subst g3
       exact ⟨rfl,fun y hy=>by cases hy⟩
      | ok cb a3 d3 =>
       simp only [oB] at gD ⊢
       rw [gD]
       cases D with
       | bad p er =>
        simp only [Out.sta,Sta.go] at g3;subst g3
        exact ⟨rfl,fun y hy=>by cases hy⟩
       | ok l a4 d4 =>
        simp only [Out.sta,Sta.go] at g3;simp only [oB];rw [g3]
        have h1:=(hci.out cb rfl).1
        have h2:=hDl.out l rfl
        cases o3 with
        | bad p er=>exact ⟨rfl,fun y hy=>by cases hy⟩
        | ok u a5 d5=>exact ⟨rfl,fun y hy=>⟨e,l,rfl,h2,by cases hy;rw [h1]⟩⟩⟩
    clear ho3 hD hRq hS3 hRl hDl hci
    have z0:Y2.cell? ⟨W.heap.size,0,none⟩=some (.int .i64 6):=bC hv 0
    have x0:Y2.cell? ⟨W.heap.size+1,0,none⟩=some (.int .i64 0):=bC hr 0;have y0:=bF hr 0
    have z1:Y2.cell? ⟨W.heap.size,1,none⟩=some (.string nN):=bC hv 1
    have x1:Y2.cell? ⟨W.heap.size+1,1,none⟩=some (.string ⟨#[]⟩):=bC hr 1;have y1:=bF hr 1
    have z2:Y2.cell? ⟨W.heap.size,2,none⟩=some (.string nN):=bC hv 2
    have x2:Y2.cell? ⟨W.heap.size+1,2,none⟩=some (.string ⟨#[]⟩):=bC hr 2;have y2:=bF hr 2
    have z3:Y2.cell? ⟨W.heap.size,3,none⟩=some (.slice (some ⟨gr0,0,none⟩) 1 1):=bC hv 3
    have x3:Y2.cell? ⟨W.heap.size+1,3,none⟩=some (.slice none 0 0):=bC hr 3;have y3:=bF hr 3
    have z4:Y2.cell? ⟨W.heap.size,4,none⟩=some (.slice A2 n2 c2):=bC hv 4
    have x4:Y2.cell? ⟨W.heap.size+1,4,none⟩=some (.slice none 0 0):=bC hr 4;have y4:=bF hr 4
    have z5:Y2.cell? ⟨W.heap.size,5,none⟩=some (.slice A3 n3 c3):=bC hv 5
    have x5:Y2.cell? ⟨W.heap.size+1,5,none⟩=some (.slice none 0 0):=bC hr 5;have y5:=bF hr 5
    have z6:Y2.cell? ⟨W.heap.size,6,none⟩=some (.int .i64 (ps c a)):=bC hv 6
    have x6:Y2.cell? ⟨W.heap.size+1,6,none⟩=some (.int .i64 0):=bC hr 6;have y6:=bF hr 6
    go_wp2
    exact fin107 hG rfl rfl rfl F (by omega) (by omega) hr rfl hfin.out.1 (fun y hy=>by
     obtain ⟨e,l,h1,h2,rfl⟩:=hfin.out.2 y hy
     have h9:=hR3.out
     rw [h1,←h2] at h9
     exact h9.rows.stmt 6 nN nN (ps c a))
set_option maxHeartbeats 8000000 in
theorem rst_via_name {c:Ctx} (hG:Good c) {S:Out Stm} (W:World) (a:Nat) (d:Int) (h:RSt c W (.here a d)) (h0:0≤d) (hkd:kd c a=1) (hN:∀Z,RSt c Z (.here a d)→Calls Tryz.prog 105 #[c.me,.agg (P7 (ps c a))] Z (RPost c Z (repSo Z.heap.size) S)) :
  Calls Tryz.prog 67 #[c.me] W (RPost c W (repSo W.heap.size) S):=by
 have hal:=kL hkd (by omega)
 replace hN:=A0.mk hN
 have F0:=(Fr.start h).alloc (.cells Z7 107)
 have PS:=pC (F0.st hG).1
 have F1:=A0.mk (fun q=>(F0.drewN q).alloc (.cells (P7 (ps c a)) 107))
 have r1:∀q,Bx (((W.alloc (.cells Z7 107)).drewN q).alloc (.cells (P7 (ps c a)) 107)) W.heap.size 107 Z7:=fun q=>xB (X:=(W.alloc (.cells Z7 107)).drewN q) (xN W 107 _) (bA _ _)
 have v1:∀q,Bx (((W.alloc (.cells Z7 107)).drewN q).alloc (.cells (P7 (ps c a)) 107)) (W.heap.size+1) 107 (P7 (ps c a)):=fun q=>by
  have:=xN ((W.alloc (.cells Z7 107)).drewN q) 107 (P7 (ps c a))
  rwa [show ((W.alloc (.cells Z7 107)).drewN q).heap.size=W.heap.size+1 by simp] at this
 replace r1:=A0.mk r1
 replace v1:=A0.mk v1
 have hal2:=hG.hl
 have hll:=h.2.1
 have hd64:=h.2.2.2
 have wa:IntKind.i64.wrap ((a:Int)+1)=(a:Int)+1:=IntWalk.i64_in _ (by omega)
 go_enter Tryz.func67,Tryz.ntmps67
 go_upto_region 2 with (first|(go_at_call 33;(with_reducible refine PS.mono ?_);rintro e w2 ⟨rfl,q,rfl⟩))
 have F:=F1.out q
 have hr:=r1.out q
 have hv:=v1.out q
 generalize ((W.alloc (.cells Z7 107)).drewN q).alloc (.cells (P7 (ps c a)) 107)=X at F hr hv ⊢
 clear F0 F1 r1 v1 PS
 have hgl:=F.gl
 have hb0:Below X.heap.size X X:=Below.refl _ _
 have T0:=fun Y (hb:Below X.heap.size X Y)=>rI hG ((F.below hb).st hG).1 1 (by omega) ⟨#[110,97,109,101]⟩ rfl
 simp only [show decide (kd c a=1)=true from decide_eq_true hkd] at T0
 clear hkd
 go_upto_region 3 with (first|(go_at_call 31;(with_reducible refine (T0 _ hb0).mono ?_);rintro e w3 ⟨rfl,hb1⟩;replace hb1:=hb0.trans (hb1.mono hb0.size)))
 replace F:=F.below hb1
 replace hv:=xB hv hb1
 replace hr:=xB hr hb1
 clear T0 hb1 hb0
 have CN:=hN.out _ (F.st hG)
 have hlo:W.heap.size+2≤w3.heap.size:=by have:=bL hv;omega
 have z0:w3.cell? ⟨W.heap.size+1,0,none⟩=some (.int .i64 0):=bC hv 0
 have z1:w3.cell? ⟨W.heap.size+1,1,none⟩=some (.string ⟨#[]⟩):=bC hv 1
 have z2:w3.cell? ⟨W.heap.size+1,2,none⟩=some (.string ⟨#[]⟩):=bC hv 2
 have z3:w3.cell? ⟨W.heap.size+1,3,none⟩=some (.slice none 0 0):=bC hv 3
 have z4:w3.cell? ⟨W.heap.size+1,4,none⟩=some (.slice none 0 0):=bC hv 4
 have z5:w3.cell? ⟨W.heap.size+1,5,none⟩=some (.slice none 0 0):=bC hv 5
 have z6:w3.cell? ⟨W.heap.size+1,6,none⟩=some (.int .i64 (ps c a)):=bC hv 6
 go_wp2_with (first|(go_at_call 105;(with_reducible refine CN.mono ?_);rintro e w9 ⟨hg,⟨v9,rfl,op,name,read,A1,n1,c1,A2,n2,c2,A3,n3,c3,pos,rfl,hE⟩,hR1⟩;have hr2:=xC hr hg (by omega);have x0:w9.cell? ⟨W.heap.size,0,none⟩=some (.int .i64 0):=bC hr2 0;have y0:=bF hr2 0;have x1:w9.cell? ⟨W.heap.size,1,none⟩=some (.string ⟨#[]⟩):=bC hr2 1;have y1:=bF hr2 1;have x2:w9.cell? ⟨W.heap.size,2,none⟩=some (.string ⟨#[]⟩):=bC hr2 2;have y2:=bF hr2 2;have x3:w9.cell? ⟨W.heap.size,3,none⟩=some (.slice none 0 0):=bC hr2 3;have y3:=bF hr2 3;have x4:w9.cell? ⟨W.heap.size,4,none⟩=some (.slice none 0 0):=bC hr2 4;have y4:=bF hr2 4;have x5:w9.cell? ⟨W.heap.size,5,none⟩=some (.slice none 0 0):=bC hr2 5;have y5:=bF hr2 5;have x6:w9.cell? ⟨W.heap.size,6,none⟩=some (.int .i64 0):=bC hr2 6;have y6:=bF hr2 6))
 exact fin107 hG rfl rfl rfl (F.call hg hR1) (by omega) (by omega) hr2 rfl rfl (fun y hy=>RepS.keep (P:=fun b=>w3.heap.size≤b) (fun b hb=>by omega) (fun _ _ _=>rfl) _ _ (hE.out y hy))
set_option maxHeartbeats 8000000 in
theorem rst_via_if {c:Ctx} (hG:Good c) {S:Out Stm} (W:World) (a:Nat) (d:Int) (h:RSt c W (.here a d)) (h0:0≤d) (hkd:kd c a=11) (hN:∀Z,RSt c Z (.here a d)→Calls Tryz.prog 106 #[c.me] Z (RPost c Z (repSo Z.heap.size) S)) :
  Calls Tryz.prog 67 #[c.me] W (RPost c W (repSo W.heap.size) S):=by
 have hal:=kL hkd (by omega)
 replace hN:=A0.mk hN
 have F0:=(Fr.start h).alloc (.cells Z7 107)
 have PS:=pC (F0.st hG).1
 have F1:=A0.mk (fun q=>(F0.drewN q).alloc (.cells (P7 (ps c a)) 107))
 have r1:∀q,Bx (((W.alloc (.cells Z7 107)).drewN q).alloc (.cells (P7 (ps c a)) 107)) W.heap.size 107 Z7:=fun q=>xB (X:=(W.alloc (.cells Z7 107)).drewN q) (xN W 107 _) (bA _ _)
 have v1:∀q,Bx (((W.alloc (.cells Z7 107)).drewN q).alloc (.cells (P7 (ps c a)) 107)) (W.heap.size+1) 107 (P7 (ps c a)):=fun q=>by
  have:=xN ((W.alloc (.cells Z7 107)).drewN q) 107 (P7 (ps c a))
  rwa [show ((W.alloc (.cells Z7 107)).drewN q).heap.size=W.heap.size+1 by simp] at this
 replace r1:=A0.mk r1
 replace v1:=A0.mk v1
 have hal2:=hG.hl
 have hll:=h.2.1
 have hd64:=h.2.2.2
 have wa:IntKind.i64.wrap ((a:Int)+1)=(a:Int)+1:=IntWalk.i64_in _ (by omega)
 go_enter Tryz.func67,Tryz.ntmps67
 go_upto_region 2 with (first|(go_at_call 33;(with_reducible refine PS.mono ?_);rintro e w2 ⟨rfl,q,rfl⟩))
 have F:=F1.out q
 have hr:=r1.out q
 have hv:=v1.out q
 generalize ((W.alloc (.cells Z7 107)).drewN q).alloc (.cells (P7 (ps c a)) 107)=X at F hr hv ⊢
 clear F0 F1 r1 v1 PS
 have hgl:=F.gl
 have hb0:Below X.heap.size X X:=Below.refl _ _
 have T0:=fun Y (hb:Below X.heap.size X Y)=>rI hG ((F.below hb).st hG).1 1 (by omega) ⟨#[110,97,109,101]⟩ rfl
 simp only [show decide (kd c a=1)=false from decide_eq_false (by omega)] at T0
 have T1:=fun Y (hb:Below X.heap.size X Y)=>rI hG ((F.below hb).st hG).1 11 (by omega) ⟨#[105,102]⟩ rfl
 simp only [show decide (kd c a=11)=true from decide_eq_true hkd] at T1
 clear hkd
 go_upto_region 5 with (first|(go_at_call 31;(with_reducible refine (T0 _ hb0).mono ?_);rintro e w3 ⟨rfl,hb1⟩;replace hb1:=hb0.trans (hb1.mono hb0.size))|(go_at_call 31;(with_reducible refine (T1 _ hb1).mono ?_);rintro e w4 ⟨rfl,hb2⟩;replace hb2:=hb1.trans (hb2.mono hb1.size)))
 replace F:=F.below hb2
 replace hv:=xB hv hb2
 replace hr:=xB hr hb2
 clear T0 T1 hb2 hb1 hb0
 have CN:=hN.out _ (F.st hG)
 have hlo:W.heap.size+2≤w4.heap.size:=by have:=bL hv;omega
 go_wp2_with (first|(go_at_call 106;(with_reducible refine CN.mono ?_);rintro e w9 ⟨hg,⟨v9,rfl,op,name,read,A1,n1,c1,A2,n2,c2,A3,n3,c3,pos,rfl,hE⟩,hR1⟩;have hr2:=xC hr hg (by omega);have x0:w9.cell? ⟨W.heap.size,0,none⟩=some (.int .i64 0):=bC hr2 0;have y0:=bF hr2 0;have x1:w9.cell? ⟨W.heap.size,1,none⟩=some (.string ⟨#[]⟩):=bC hr2 1;have y1:=bF hr2 1;have x2:w9.cell? ⟨W.heap.size,2,none⟩=some (.string ⟨#[]⟩):=bC hr2 2;have y2:=bF hr2 2;have x3:w9.cell? ⟨W.heap.size,3,none⟩=some (.slice none 0 0):=bC hr2 3;have y3:=bF hr2 3;have x4:w9.cell? ⟨W.heap.size,4,none⟩=some (.slice none 0 0):=bC hr2 4;have y4:=bF hr2 4;have x5:w9.cell? ⟨W.heap.size,5,none⟩=some (.slice none 0 0):=bC hr2 5;have y5:=bF hr2 5;have x6:w9.cell? ⟨W.heap.size,6,none⟩=some (.int .i64 0):=bC hr2 6;have y6:=bF hr2 6))
 exact fin107 hG rfl rfl rfl (F.call hg hR1) (by omega) (by omega) hr2 rfl rfl (fun y hy=>RepS.keep (P:=fun b=>w4.heap.size≤b) (fun b hb=>by omega) (fun _ _ _=>rfl) _ _ (hE.out y hy))
set_option maxHeartbeats 8000000 in
theorem rst_via_switch {c:Ctx} (hG:Good c) {S:Out Stm} (W:World) (a:Nat) (d:Int) (h:RSt c W (.here a d)) (h0:0≤d) (hkd:kd c a=24) (hN:∀Z,RSt c Z (.here a d)→Calls Tryz.prog 108 #[c.me,.agg (P7 (ps c a))] Z (RPost c Z (repSo Z.heap.size) S)) :
  Calls Tryz.prog 67 #[c.me] W (RPost c W (repSo W.heap.size) S):=by
 have hal:=kL hkd (by omega)
 replace hN:=A0.mk hN
 have F0:=(Fr.start h).alloc (.cells Z7 107)
 have PS:=pC (F0.st hG).1
 have F1:=A0.mk (fun q=>(F0.drewN q).alloc (.cells (P7 (ps c a)) 107))
 have r1:∀q,Bx (((W.alloc (.cells Z7 107)).drewN q).alloc (.cells (P7 (ps c a)) 107)) W.heap.size 107 Z7:=fun q=>xB (X:=(W.alloc (.cells Z7 107)).drewN q) (xN W 107 _) (bA _ _)
 have v1:∀q,Bx (((W.alloc (.cells Z7 107)).drewN q).alloc (.cells (P7 (ps c a)) 107)) (W.heap.size+1) 107 (P7 (ps c a)):=fun q=>by
  have:=xN ((W.alloc (.cells Z7 107)).drewN q) 107 (P7 (ps c a))
  rwa [show ((W.alloc (.cells Z7 107)).drewN q).heap.size=W.heap.size+1 by simp] at this
 replace r1:=A0.mk r1
 replace v1:=A0.mk v1
 have hal2:=hG.hl
 have hll:=h.2.1
 have hd64:=h.2.2.2
 have wa:IntKind.i64.wrap ((a:Int)+1)=(a:Int)+1:=IntWalk.i64_in _ (by omega)
 go_enter Tryz.func67,Tryz.ntmps67
 go_upto_region 2 with (first|(go_at_call 33;(with_reducible refine PS.mono ?_);rintro e w2 ⟨rfl,q,rfl⟩))
 have F:=F1.out q
 have hr:=r1.out q
 have hv:=v1.out q
 generalize ((W.alloc (.cells Z7 107)).drewN q).alloc (.cells (P7 (ps c a)) 107)=X at F hr hv ⊢
 clear F0 F1 r1 v1 PS
 have hgl:=F.gl
 have hb0:Below X.heap.size X X:=Below.refl _ _
 have T0:=fun Y (hb:Below X.heap.size X Y)=>rI hG ((F.below hb).st hG).1 1 (by omega) ⟨#[110,97,109,101]⟩ rfl
 simp only [show decide (kd c a=1)=false from decide_eq_false (by omega)] at T0
 have T1:=fun Y (hb:Below X.heap.size X Y)=>rI hG ((F.below hb).st hG).1 11 (by omega) ⟨#[105,102]⟩ rfl
 simp only [show decide (kd c a=11)=false from decide_eq_false (by omega)] at T1
 have T2:=fun Y (hb:Below X.heap.size X Y)=>rI hG ((F.below hb).st hG).1 27 (by omega) ⟨#[119,104,105,108,101]⟩ rfl
 simp only [show decide (kd c a=27)=false from decide_eq_false (by omega)] at T2
 have T3:=fun Y (hb:Below X.heap.size X Y)=>rI hG ((F.below hb).st hG).1 24 (by omega) ⟨#[115,119,105,116,99,104]⟩ rfl
 simp only [show decide (kd c a=24)=true from decide_eq_true hkd] at T3
 clear hkd
 go_upto_region 13 with (first|(go_at_call 31;(with_reducible refine (T0 _ hb0).mono ?_);rintro e w3 ⟨rfl,hb1⟩;replace hb1:=hb0.trans (hb1.mono hb0.size))|(go_at_call 31;(with_reducible refine (T1 _ hb1).mono ?_);rintro e w4 ⟨rfl,hb2⟩;replace hb2:=hb1.trans (hb2.mono hb1.size))|(go_at_call 31;(with_reducible refine (T2 _ hb2).mono ?_);rintro e w5 ⟨rfl,hb3⟩;replace hb3:=hb2.trans (hb3.mono hb2.size))|(go_at_call 31;(with_reducible refine (T3 _ hb3).mono ?_);rintro e w6 ⟨rfl,hb4⟩;replace hb4:=hb3.trans (hb4.mono hb3.size)))
 replace F:=F.below hb4
 replace hv:=xB hv hb4
 replace hr:=xB hr hb4
 clear T0 T1 T2 T3 hb4 hb3 hb2 hb1 hb0
 have CN:=hN.out _ (F.st hG)
 have hlo:W.heap.size+2≤w6.heap.size:=by have:=bL hv;omega
 have z0:w6.cell? ⟨W.heap.size+1,0,none⟩=some (.int .i64 0):=bC hv 0
 have z1:w6.cell? ⟨W.heap.size+1,1,none⟩=some (.string ⟨#[]⟩):=bC hv 1
 have z2:w6.cell? ⟨W.heap.size+1,2,none⟩=some (.string ⟨#[]⟩):=bC hv 2
 have z3:w6.cell? ⟨W.heap.size+1,3,none⟩=some (.slice none 0 0):=bC hv 3
 have z4:w6.cell? ⟨W.heap.size+1,4,none⟩=some (.slice none 0 0):=bC hv 4
 have z5:w6.cell? ⟨W.heap.size+1,5,none⟩=some (.slice none 0 0):=bC hv 5
 have z6:w6.cell? ⟨W.heap.size+1,6,none⟩=some (.int .i64 (ps c a)):=bC hv 6
 go_wp2_with (first|(go_at_call 108;(with_reducible refine CN.mono ?_);rintro e w9 ⟨hg,⟨v9,rfl,op,name,read,A1,n1,c1,A2,n2,c2,A3,n3,c3,pos,rfl,hE⟩,hR1⟩;have hr2:=xC hr hg (by omega);have x0:w9.cell? ⟨W.heap.size,0,none⟩=some (.int .i64 0):=bC hr2 0;have y0:=bF hr2 0;have x1:w9.cell? ⟨W.heap.size,1,none⟩=some (.string ⟨#[]⟩):=bC hr2 1;have y1:=bF hr2 1;have x2:w9.cell? ⟨W.heap.size,2,none⟩=some (.string ⟨#[]⟩):=bC hr2 2;have y2:=bF hr2 2;have x3:w9.cell? ⟨W.heap.size,3,none⟩=some (.slice none 0 0):=bC hr2 3;have y3:=bF hr2 3;have x4:w9.cell? ⟨W.heap.size,4,none⟩=some (.slice none 0 0):=bC hr2 4;have y4:=bF hr2 4;have x5:w9.cell? ⟨W.heap.size,5,none⟩=some (.slice none 0 0):=bC hr2 5;have y5:=bF hr2 5;have x6:w9.cell? ⟨W.heap.size,6,none⟩=some (.int .i64 0):=bC hr2 6;have y6:=bF hr2 6))
 exact fin107 hG rfl rfl rfl (F.call hg hR1) (by omega) (by omega) hr2 rfl rfl (fun y hy=>RepS.keep (P:=fun b=>w6.heap.size≤b) (fun b hb=>by omega) (fun _ _ _=>rfl) _ _ (hE.out y hy))
end Go.Proofs.YtgaoapnaplgaiaaGreatDoor.Sc
