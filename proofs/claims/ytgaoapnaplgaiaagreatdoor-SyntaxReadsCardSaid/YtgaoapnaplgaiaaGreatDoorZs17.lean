/- This claim's own texts, joined, with only what the claim uses: ParQ. -/
import Derived.Test.YtgaoapnaplgaiaaGreatDoorZs16
import Derived.Deep.RegionLaw
namespace Go.Proofs.YtgaoapnaplgaiaaGreatDoor.Sc
set_option maxRecDepth 100000
open Go.RowKit Tk Go.Proofs.YtgaoapnaplgaiaaGreatDoor.Wd
structure ArgAt (c:Ctx) (W:World) (ex:Rd Ex) (o pos:Int) (m i:Nat) (R:Out (List Ex)) (fp fe:Int) (a0:Nat) (d0:Int) (X:World):Prop where
 ex:∃l a v,Tw c W X (W.heap.size+1) 93 Z93 #[.int .i64 o,.int .i64 0,.string nN,v,.int .i64 pos] a d0 fp fe∧Acc RepE 93 5 (W.heap.size+2) X v l∧l.length=i∧argsS c ex m i l a d0=R∧a0≤a∧a≤c.L.length
structure SepAt (c:Ctx) (W:World) (ex:Rd Ex) (o pos:Int) (m i:Nat) (R:Out (List Ex)) (fp fe:Int) (a0:Nat) (d0:Int) (X:World):Prop where
 ex:∃l a v,Tw c W X (W.heap.size+1) 93 Z93 #[.int .i64 o,.int .i64 0,.string nN,v,.int .i64 pos] a d0 fp fe∧Acc RepE 93 5 (W.heap.size+2) X v l∧l.length=i∧((ex a d0).bind fun e a2 d2=>argsS c ex m (i+1) (l++[e]) a2 d2)=R∧a0≤a∧a≤c.L.length
theorem Acc.farE {ty size lo:Nat} {W W':World} {v:Value} {xs:List Ex} (h:Acc RepE ty size lo W v xs) (hf:Far lo W W'):Acc RepE ty size lo W' v xs:=Acc.far (R:=RepE) repE_keeps h hf
theorem Acc.form {α:Type} {R:Rel α} {ty size lo:Nat} {W:World} {v:Value} {xs:List α} (h:Acc R ty size lo W v xs):∃A n cap,v=.slice A n cap:=by
 obtain ⟨A,cap,e,_⟩:=h.shape
 exact ⟨A,_,cap,e⟩
theorem repE_lt {w:World} {P:Nat→Prop} {x:Ex} {v:List Value} (h:RepE P w x v):RepE (fun b=>P b∧b<w.heap.size) w x v:=RepE.lt _ _ h
theorem repE_into {lo lo':Nat} {w:World} {x:Ex} {v:List Value} {u:Value} (h:RepE (fun b=>lo'≤b) w x v) (hl:lo≤lo') (hu:∀k,u.ownBlock=some k→k<lo') (o:Obj):RepE (fun b=>lo≤b∧u.ownBlock≠some b) (w.alloc o) x v :=
 RepE.keep (fun b hb=>⟨Nat.le_trans hl hb,fun e=>by have:=hu b e;omega⟩) (fun b _ hk=>_root_.Go.heap_alloc_old w o hk) _ _ h
theorem one5 (op num:Int) (nm:ByteArray) (A:Option Addr) (n cap:Nat) (pos:Int):∀u ∈ eC op num nm A n cap pos,u.oneCell'=true:=by
 intro u hu
 simp [eC] at hu
 rcases hu with rfl | rfl | rfl | rfl | rfl <;> rfl
theorem own_alloc5 {w:World} (u0 u1 u2 u3 u4:Value) (t:Nat):∀(j:Nat) (u:Value),([u0,u1,u2,u3,u4]:List Value)[j]?=some u→(w.alloc (.cells #[u0,u1,u2,u3,u4] t)).cell? ((⟨w.heap.size,0,none⟩:Addr).add j)=some u:=by
 intro j u hu
 have hb:=bN w (.cells #[u0,u1,u2,u3,u4] t)
 have hadd:(⟨w.heap.size,0,none⟩:Addr).add j=⟨w.heap.size,j,none⟩:=by unfold Addr.add;split <;> simp_all
 rw [hadd]
 exact (bC hb j).trans (by simpa using hu)
set_option maxHeartbeats 16000000 in
theorem prim_call {c:Ctx} (hG:Good c) (hg1:1<c.g) {ex:Rd Ex} {a0:Nat} (hF:Fine c ex (a0+1)) (hR:Reads c 131 ex (a0+1)) (k o:Int) (n:Nat) (hk:(k=20∧o=10∧n=2)∨(k=19∧o=11∧n=2)∨(k=3∧o=12∧n=1)∨(k=7∧o=13∧n=3))
  (W:World) (a:Nat) (d fp fe:Int) (h:St c W a d fp fe) (hO:Ops W) (ha:a0≤a) (hl:a≤c.L.length) (h0:0≤d) (h1:d≤64) (hkd:kd c a=k) :
  Calls Tryz.prog 94 #[c.me] W (Post c W fp fe (repE W.heap.size) (callS c ex o n a d:Out Ex)):=by
 obtain ⟨S,hSp⟩:∃S,A0 ((callS c ex o n a d:Out Ex)=S):=⟨_,⟨rfl⟩⟩
 rw [hSp.out]
 have hO:=A0.mk hO
 have hs0:∀o,St c (W.alloc o) a d fp fe:=fun o=>h.below (bA _ o)
 have hs1:∀o q o2,St c (((W.alloc o).drewN q).alloc o2) a d fp fe:=fun o q o2=>((hs0 o).drewN q).below (bA _ o2)
 have PS:=fun o=>qC (hs0 o)
 have KD:=fun o q o2=>kC (hs1 o q o2)
 have hR:=A0.mk hR
 have hF:=A0.mk hF
 have hal:=kd_lt hkd (by omega)
 rw [hkd] at KD
 clear hkd
 have wa:IntKind.i64.wrap ((a:Int)+1)=(a:Int)+1:=IntWalk.i64_in _ (by have:=hG.hl;omega)
 go_enter Tryz.func94,Tryz.ntmps94
 go_upto_block 0 with (first|(go_at_call 56;with_reducible refine (PS _).mono ?_;rintro e w' ⟨rfl,q,rfl⟩)|(go_at_call 55;with_reducible refine (KD _ _ _).mono ?_;rintro e w' ⟨rfl,q2,rfl⟩))
 have hT0:=Tw.lit (t:=93) (r:=Z93) (v:=E93 0 0 nN none 0 0 (ps c a)) h q q2
 generalize ((((W.alloc _).drewN q).alloc _).drewN q2)=X0 at hT0 ⊢
 clear PS KD hs0 hs1
 have hS0:=hT0.st hG h
 have hgl:=bL h.blk
 have z0:X0.cell? ⟨W.heap.size+1,0,none⟩=some (.int .i64 0):=hT0.vc 0 rfl
 have y0:=hT0.vf 0
 go_cut [4] from 11 to 48 (fun v X=>v=.int .i64 (n:Int)∧Tw c W X (W.heap.size+1) 93 Z93 (E93 o 0 nN none 0 0 (ps c a)) a d fp fe)
 case first =>
  rcases hk with ⟨rfl,rfl,rfl⟩|⟨rfl,rfl,rfl⟩|⟨rfl,rfl,rfl⟩|⟨rfl,rfl,rfl⟩
  all_goals (
   go_wp2
   go_meet
   exact ⟨rfl,hT0.put h 0 _ rfl⟩)
 case rest =>
  obtain ⟨rfl,hT1⟩:=hcut
  have hn3:1≤n∧n≤3:=by omega
  clear z0 y0 hT0 hS0 hk
  have hS1:=hT1.st hG h
  have s2:=hS1.c2
  have f2:=hS1.fz 2
  go_upto_region 23 with fail
  have hT2:=hT1.at hG h
  generalize wc.setCell ⟨c.g,2,none⟩ (.int .i64 ((a:Int)+1))=X2 at hT2 ⊢
  clear s2 f2 hS1 hT1 wa
  have hS2:=hT2.st hG h
  have CN:=wC hG hS2 (by omega) 32 (by omega)
  go_upto_region 24 with (first|(go_at_call 59;(with_reducible refine CN.mono ?_);rintro e w hP;rcases hP.elim with ⟨t,a1,d1,ho,hg,⟨v,rfl,rfl⟩,hS⟩|⟨p,er,ho,hg,rfl,a',d',hS⟩;(have hT3:=hT2.call h hg hS)))
  case inr =>
   rw [show S=.bad p er by rw [←hSp.out];simp only [callS,Out.bind,ho]]
   exact ⟨rfl,Post.mk_bad (Q4 hT2.fr hg) hS⟩
  obtain ⟨-,rfl,hl1,-,hd,hne⟩:=want_ok (by omega) ho
  rw [if_pos (by omega)] at hd
  have hne:=hne (by omega)
  subst hd
  have q1:A0 (wS c 32 (a+1) d=.ok t (a+1+1) (d+1)):=⟨ho⟩
  clear ho hP CN hT2 hg hS hS2
  obtain ⟨R,hRs⟩:∃R,A0 (argsS c ex n 0 [] (a+1+1) (d+1)=R):=⟨_,⟨rfl⟩⟩
  have hbase:W.heap.size+2≤w.heap.size:=by have:=bL hT3.vb;omega
  have hA:A0 (ArgAt c W ex o (ps c a) n 0 R fp fe (a0+1) (d+1) w):=⟨⟨[],_,_,hT3,Acc.nil _,rfl,hRs.out,by omega,hl1⟩⟩
  clear hT3 hbase
  go_wp2
  go_loopg [59] n (fun m v X=>∃i:Nat,v=.int .i64 (i:Int)∧i+m=n∧ArgAt c W ex o (ps c a) m i R fp fe (a0+1) (d+1) X)
  case atStart=>exact ⟨0,rfl,by omega,hA.out⟩
  case round =>
   obtain ⟨i,rfl,hin,hAt⟩:=hrel
   obtain ⟨l,a3,v,hT4,hAc,hli,hsp,b1,b2⟩:=hAt.ex
   clear hA hAt
   have hAc:=A0.mk hAc
   have hsp:=A0.mk hsp
   have hin:=A0.mk hin
   rcases Nat.eq_zero_or_pos gk with rfl | hm
   ·
    have hge:¬ (i:Int)<(n:Int):=by have:=hin.out;omega
    have hS4:=hT4.st hG h
    have hRv:A0 (R=.ok l a3 (d+1)):=⟨by rw [←hsp.out];rfl⟩
    obtain ⟨A5,cap5,rfl,hcap⟩:=hAc.out.shape
    have CN:=wC hG hS4 (by omega) 33 (by omega)
    go_upto_region 32 with (first|(go_at_call 59;(with_reducible refine CN.mono ?_);rintro e w hP;rcases hP.elim with ⟨t2,a4,d4,ho,hg,⟨v,rfl,rfl⟩,hS⟩|⟨p,er,ho,hg,rfl,a',d',hS⟩;(have hT5:=hT4.call h hg hS)))
    case inr =>
     rw [show S=.bad p er by rw [←hSp.out];simp only [callS,Out.bind,q1.out,hRs.out,hRv.out,ho]]
     exact ⟨rfl,Post.mk_bad (Q4 hT4.fr hg) hS⟩
    have hA6:=A0.mk ((hAc.out.farE (Far.ofGrown hg (by omega))).expr o 0 nN (ps c a))
    have hSv:A0 (S=.ok (.mk o 0 nN l (ps c a)) a4 d4):=⟨by rw [←hSp.out];simp only [callS,Out.bind,q1.out,hRs.out,hRv.out,ho]⟩
    clear ho hP CN hT4 hS hg hS4 hAc hli
    have z0:w.cell? ⟨W.heap.size+1,0,none⟩=some (.int .i64 o):=hT5.vc 0 rfl;have y0:=hT5.vf 0
    have z1:w.cell? ⟨W.heap.size+1,1,none⟩=some (.int .i64 0):=hT5.vc 1 rfl;have y1:=hT5.vf 1
    have z2:w.cell? ⟨W.heap.size+1,2,none⟩=some (.string nN):=hT5.vc 2 rfl;have y2:=hT5.vf 2
    have z3:w.cell? ⟨W.heap.size+1,3,none⟩=some (.slice A5 l.length cap5):=hT5.vc 3 rfl;have y3:=hT5.vf 3
    have z4:w.cell? ⟨W.heap.size+1,4,none⟩=some (.int .i64 (ps c a)):=hT5.vc 4 rfl;have y4:=hT5.vf 4
    have r0:w.cell? ⟨W.heap.size,0,none⟩=some (.int .i64 0):=hT5.rc 0 rfl;have x0:=hT5.rf 0
    have r1:w.cell? ⟨W.heap.size,1,none⟩=some (.int .i64 0):=hT5.rc 1 rfl;have x1:=hT5.rf 1
    have r2:w.cell? ⟨W.heap.size,2,none⟩=some (.string ⟨#[]⟩):=hT5.rc 2 rfl;have x2:=hT5.rf 2
    have r3:w.cell? ⟨W.heap.size,3,none⟩=some (.slice none 0 0):=hT5.rc 3 rfl;have x3:=hT5.rf 3
    have r4:w.cell? ⟨W.heap.size,4,none⟩=some (.int .i64 0):=hT5.rc 4 rfl;have x4:=hT5.rf 4
    go_wp2
    have hTR:=Tw.all5 h (.int .i64 o) (.int .i64 0) (.string nN) (.slice A5 l.length cap5) (.int .i64 (ps c a)) hT5
    rw [hSv.out]
    exact bodyPost_ret (res_c rfl _ _ W.heap.size 93 _ (0,0) _ rfl hTR.rb Tryz.underlying93 rfl (by kernel_rfl)) rfl (Post.mk_ok (rep:=repE W.heap.size) hTR.fr ⟨_,_,_,_,_,_,_,rfl,hA6.out.far (far5 _ (by omega) _ _ _ _ _) (by omega)⟩ (hTR.st hG h))
   ·obtain ⟨m,rfl⟩:∃m,gk=m+1:=⟨gk - 1,by omega⟩
    have hlt:(i:Int)<(n:Int):=by have:=hin.out;omega
    go_upto_if 63 with fail
    go_cut [] from 63 to 65 (fun X=>SepAt c W ex o (ps c a) m i R fp fe (a0+1) (d+1) X)
    case first =>
     by_cases hi0:i=0
     ·have hd0:decide (0<i)=false:=decide_eq_false (by omega)
      have hi0:=A0.mk hi0
      go_wp2
      go_meet
      exact ⟨⟨l,a3,v,hT4,hAc.out,hli,by rw [←hsp.out,argsS,if_pos hi0.out];rfl,b1,b2⟩⟩
     ·have hd0:decide (0<i)=true:=decide_eq_true (by omega)
      have hi0:=A0.mk hi0
      have hS4:=hT4.st hG h
      have hli:=A0.mk hli
      have CN:=wC hG hS4 (by omega) 36 (by omega)
      go_wp2_with (first|(go_at_call 59;(with_reducible refine CN.mono ?_);rintro e w hP;rcases hP.elim with ⟨t2,a4,d4,ho,hg,⟨v,rfl,rfl⟩,hS⟩|⟨p,er,ho,hg,rfl,a',d',hS⟩;(have hT5:=hT4.call h hg hS)))
      case inr =>
       rw [show S=.bad p er by rw [←hSp.out];simp only [callS,Out.bind,q1.out,hRs.out];rw [←hsp.out,argsS,if_neg hi0.out];simp only [Out.bind,ho]]
       exact ⟨rfl,Post.mk_bad (Q4 hT4.fr hg) hS⟩
      obtain ⟨-,e1,e2,-,hd,-⟩:=want_ok (by omega) ho
      rw [if_neg (by omega),if_neg (by omega)] at hd
      subst hd
      subst e1
      have q2:=A0.mk ho
      clear ho
      go_meet
      exact ⟨⟨l,a3+1,v,hT5,hAc.out.farE (Far.ofGrown hg (by omega)),hli.out,by rw [←hsp.out,argsS,if_neg hi0.out];simp only [Out.bind,q2.out],by omega,e2⟩⟩
    case rest =>
     clear hAc hT4 hsp hli b1 b2
     obtain ⟨l,a3,v,hT4,hAc,hli,hsp,b1,b2⟩:=hcut.ex
     clear hcut
     have hAc:=A0.mk hAc
     have hsp:=A0.mk hsp
     have hSd:=(hT4.st hG h).drew
     have hTd:=hT4.drew
     have CN:=hR.out _ _ _ _ _ hSd (hO.out.grown hTd.fr hg1) b1 b2 (by omega) (by omega)
     have z3:wc.cell? ⟨W.heap.size+1,3,none⟩=some v:=hT4.vc 3 rfl
     have hlv:∀k,v.ownBlock=some k→W.heap.size+2≤k∧k<wc.drew.heap.size:=hAc.out.lt
     have hlv:=A0.mk hlv
     have hl3:W.heap.size+1<wc.drew.heap.size:=bL hTd.vb
     have hl3:=A0.mk hl3
     have hinfo:(Tryz.prog.info? 93).map (fun i=>(i.zero,i.size,i.bytes))=some (some (.agg #[.int .i64 0,.int .i64 0,.string ⟨#[]⟩,.slice none 0 0,.int .i64 0]),5,64):=by kernel_rfl
     obtain ⟨i0,hi,hz0,hz1,hz2⟩:=info_parts hinfo
     have hll:l.length≤3:=by have:=hin.out;omega
     have hll:=A0.mk hll
     have hli:=A0.mk hli
     have wi:IntKind.i64.wrap ((i:Int)+1)=(i:Int)+1:=IntWalk.i64_in _ (by omega)
     clear hinfo
     go_wp2
     go_region_law (first
      | (go_simp;go_at_call 131;(with_reducible refine CN.mono ?_);rintro e1 w1 hP;rcases hP.elim with ⟨x,a5,d5,ho,hg,⟨v2,rfl,op,num,nm,A,n2,cap,pos,rfl,hE⟩,hS⟩|⟨p,er,ho,hg,rfl,a',d',hS⟩;rotate_left 1;(exact ⟨rfl,by rw [show S=.bad p er by rw [←hSp.out];simp only [callS,Out.bind,q1.out,hRs.out];rw [←hsp.out];simp only [Out.bind,ho]];exact Post.mk_bad (Q4 hTd.fr hg) hS⟩);(have hTc:=hTd.call h hg hS;have t3:w1.cell? ⟨W.heap.size+1,3,none⟩=some v:=hTc.vc 3 rfl;have t4:∀o,(w1.alloc o).cell? ⟨W.heap.size+1,3,none⟩=some v:=fun o=>(hTc.alloc o).vc 3 rfl;have hA1:=A0.mk ((hAc.out.farE ((Far.refl _ _).drew)).farE (Far.ofGrown hg (by omega)));have hE:=A0.mk hE;have ho:=A0.mk ho;have hgs:=A0.mk hg.size;dsimp only))
      | (refine step_append_acc (R:=RepE) repE_keeps rfl (.tmp 67) (.tmp 70) 91 rfl (W.heap.size+2) 93 i0 (.agg #[.int .i64 0,.int .i64 0,.string ⟨#[]⟩,.slice none 0 0,.int .i64 0]) 5 64 Tryz.underlying91 hi hz0 hz1 hz2 rfl (by decide) v l rfl (hA1.out.farE ((Far.refl _ _).alloc _)) ⟨w1.heap.size,0,none⟩ 1 x (eC op num nm A n2 cap pos) rfl rfl (own_alloc5 _ _ _ _ _ _) (one5 _ _ _ _ _ _ _) (repE_into hE.out (by have:=hl3.out;omega) (fun k hk=>(hlv.out k hk).2) _) repE_lt (by have:=hll.out;unfold maxLen;omega) (by have:=hll.out;omega) (by have:=hl3.out;have:=hgs.out;simp;omega) ?_;intro v3 w3 hA3 hg3;(obtain ⟨A6,n6,c6,rfl⟩:=hA3.form;have hTe:=(hTc.alloc (.cells (E93 op num nm A n2 cap pos) 93)).row h hg3 (fun k hk=>(hlv.out k hk).1) (Nat.lt_succ_self _);have u3:w3.cell? ⟨W.heap.size+1,3,none⟩=some v:=hTe.vc 3 rfl;have uf3:=hTe.vf 3)))
     all_goals (
      obtain ⟨p1,p2,e4⟩:=hF.out _ _ b1 (by omega) (by omega) _ _ _ ho.out
      subst e4
      go_wp2
      go_roundg m
      case rel=>exact ⟨i+1,by go_num,by have:=hin.out;omega,⟨l++[x],a5,_,hTe.put h 3 _ rfl,hA3.farE ((Far.refl _ _).put (p:=⟨W.heap.size+1,3,none⟩) (Nat.lt_succ_self _) _),by simp [hli.out],by rw [←hsp.out];simp only [Out.bind,ho.out],by omega,p2⟩⟩
      case measure=>omega)
end Go.Proofs.YtgaoapnaplgaiaaGreatDoor.Sc
