/- This claim's own texts, joined, with only what the claim uses: ParV. -/
import Derived.Test.YtgaoapnaplgaiaaGreatDoorZs18
namespace Go.Proofs.YtgaoapnaplgaiaaGreatDoor.Sc
set_option maxRecDepth 100000
open Go.RowKit Tk Go.Proofs.YtgaoapnaplgaiaaGreatDoor.Wd
abbrev nilv:Value:=.slice none 0 0
def PostA (c:Ctx) (W:World) (fp fe pos:Int) (o:Out Asg) (e:Ending) (X:World):Prop :=
 match o with
 | .ok q a d=>e=.returned (.tuple #[])∧∃A n cap,Tw c W X (W.heap.size+1) 107 Z107 (E107 q.1 q.2.1 q.2.2.1 (.slice A n cap) nilv nilv pos) a d fp fe∧Acc RepE 93 5 (W.heap.size+2) X (.slice A n cap) q.2.2.2
 | .bad p er=>e=.panicked broke∧W.grownBy X (some c.g)∧∃a d,St c X a d p er
theorem PostA.elim {c:Ctx} {W:World} {fp fe pos:Int} {o:Out Asg} {e:Ending} {X:World} (h:PostA c W fp fe pos o e X) :
  (∃q a d,o=.ok q a d∧e=.returned (.tuple #[])∧∃A n cap,Tw c W X (W.heap.size+1) 107 Z107 (E107 q.1 q.2.1 q.2.2.1 (.slice A n cap) nilv nilv pos) a d fp fe∧Acc RepE 93 5 (W.heap.size+2) X (.slice A n cap) q.2.2.2) ∨
  (∃p er,o=.bad p er∧e=.panicked broke∧W.grownBy X (some c.g)∧∃a d,St c X a d p er):=by
 cases o with
 | ok q a d=>exact .inl ⟨q,a,d,rfl,h⟩
 | bad p er=>exact .inr ⟨p,er,rfl,h⟩
structure AsgAt (c:Ctx) (W:World) (ex:Rd Ex) (a:Nat) (d fp fe pos:Int) (s:ByteArray) (l:List Ex) (n:Nat) (X:World):Prop where
 ex:∃x a2 d2 g cap,ex a d=.ok x a2 d2∧Tw c W X (W.heap.size+1) 107 Z107 (E107 2 s nN (.slice (some ⟨g,0,none⟩) n cap) nilv nilv pos) a2 d2 fp fe∧Acc RepE 93 5 (W.heap.size+2) X (.slice (some ⟨g,0,none⟩) n cap) (l++[x])
abbrev zEx:Ex:=.mk 0 0 nN [] 0
abbrev zCells:List Value:=eC 0 0 nN none 0 0 0
theorem news_kept {c:Ctx} {X w:World} (hg:(X.alloc (.cells #[.int .i64 0,.int .i64 0,.string ⟨#[]⟩,.slice none 0 0,.int .i64 0] 93)).drew.grownBy w (some c.g)) (hl:c.g<X.heap.size):∀(j:Nat) (u:Value),zCells[j]?=some u→w.cell? ((⟨X.heap.size,0,none⟩:Addr).add j)=some u:=by
 intro j u hu
 have h:=oA (w:=X) #[.int .i64 0,.int .i64 0,.string ⟨#[]⟩,.slice none 0 0,.int .i64 0] 93 zCells rfl j u hu
 have hb:=hg.block X.heap.size (by simp) (fun e=>by have:=Option.some.inj e;omega)
 have hadd:((⟨X.heap.size,0,none⟩:Addr).add j).block=X.heap.size:=add_block _ _
 have hb2:w.heap[((⟨X.heap.size,0,none⟩:Addr).add j).block]?=(X.alloc (.cells #[.int .i64 0,.int .i64 0,.string ⟨#[]⟩,.slice none 0 0,.int .i64 0] 93)).heap[((⟨X.heap.size,0,none⟩:Addr).add j).block]?:=by rw [hadd];exact hb
 exact (World.cell?_of_block hb2).trans h
theorem accE_one {lo:Nat} {w:World} {x:Ex} {v:List Value} (h:RepE (fun b=>lo≤b) w x v) (hl:lo≤w.heap.size) (cs:Array Value) (hcs:cs.toList=v):Acc RepE 93 5 lo (w.alloc (.cells cs 93)) (.slice (some ⟨w.heap.size,0,none⟩) 1 1) [x] :=
 Acc.lit (R:=RepE) repE_keeps (xs:=[x]) (vs:=[v]) cs ⟨h,trivial⟩ (by simpa using hcs) (by have:=repE_len h;simpa using this) hl (by simp [maxLen]) repE_lt
theorem grown_five {X:World} (g k:Nat) (u0 u1 u2 u3 u4:Value):X.grownBy (((((X.setCell ⟨g,k,none⟩ u0).setCell ⟨g,k+1,none⟩ u1).setCell ⟨g,k+2,none⟩ u2).setCell ⟨g,k+3,none⟩ u3).setCell ⟨g,k+4,none⟩ u4) (some g) :=
 gP (gP (gP (gP (gP (World.grownBy.refl _ _) _) _) _) _) _
theorem repE_stay {lo b0:Nat} {w w3:World} {x:Ex} {v:List Value} {u u3:Value} {g3 H:Nat} (h:RepE (fun b=>b0≤b) w x v) (hl:lo≤b0) (hu:∀k,u.ownBlock=some k→k<b0) (hg:∀b,b<w.heap.size→some b≠u.ownBlock→w3.heap[b]?=w.heap[b]?)
  (hw:u3.ownBlock=u.ownBlock∨u3.ownBlock=some H) (hH:w.heap.size≤H) (h3:u3.ownBlock=some g3):RepE (fun b=>lo≤b∧b≠g3) w3 x v:=by
 refine RepE.keep (fun b hb=>⟨Nat.le_trans hl hb.1,?_⟩) (fun b hb hk=>hg b hk (fun e=>by have:=hu b e.symm;have:=hb.1;omega)) _ _ (RepE.lt _ _ h)
 rintro rfl
 rcases hw with e | e
 ·have:=hu b (e ▸ h3);have:=hb.1;omega
 ·rw [h3] at e
  have:=Option.some.inj e
  have:=hb.2
  omega
set_option maxHeartbeats 16000000 in
theorem assign_call {c:Ctx} (hG:Good c) (hg1:1<c.g) {ex:Rd Ex} {a0:Nat} (hF:Fine c ex (a0+1)) (hR:Reads c 131 ex (a0+1)) {W X:World} {pos:Int} {a a9:Nat} {d fp fe d9 fp9 fe9:Int} (h:St c W a9 d9 fp9 fe9) (hO:Ops W)
  (hT0:Tw c W X (W.heap.size+1) 107 Z107 (E107 0 nN nN nilv nilv nilv pos) a d fp fe) (ha:a0≤a) (h0:0≤d) (h1:d≤64) :
  Calls Tryz.prog 133 #[c.me,.pointer (some ⟨W.heap.size+1,0,none⟩)] X (PostA c W fp fe pos (assignS c ex a d)):=by
 obtain ⟨S,hSp⟩:∃S,A0 (assignS c ex a d=S):=⟨_,⟨rfl⟩⟩
 rw [hSp.out]
 have hR:=A0.mk hR
 have hF:=A0.mk hF
 have hO:=A0.mk hO
 have hgl:=bL h.blk
 have hS0:=hT0.st hG h
 have hinfo:(Tryz.prog.info? 93).map (fun i=>(i.zero,i.size,i.bytes))=some (some (.agg #[.int .i64 0,.int .i64 0,.string ⟨#[]⟩,.slice none 0 0,.int .i64 0]),5,64):=by kernel_rfl
 obtain ⟨i0,hi,hz0,hz1,hz2⟩:=info_parts hinfo
 clear hinfo
 go_enter Tryz.func133,Tryz.ntmps133
 have CN:=name_call hG hS0 (by omega)
 go_upto_region 1 with (first|(go_at_call 57;(with_reducible refine CN.mono ?_);rintro e w hP;rcases hP.elim with ⟨s,a1,d1,ho,hg,⟨v,rfl,rfl⟩,hS⟩|⟨p,er,ho,hg,rfl,a',d',hS⟩;(have hT1:=hT0.call h hg hS;have z1:w.cell? ⟨W.heap.size+1,1,none⟩=some (.string ⟨#[]⟩):=hT1.vc 1 rfl;have y1:=hT1.vf 1)))
 case inr =>
  rw [show S=.bad p er by rw [←hSp.out];simp only [assignS,Out.bind,ho]]
  exact ⟨rfl,rfl,Q4 hT0.fr hg,a',d',hS⟩
 obtain ⟨e1,l1,f1,-⟩:=name_ok ho
 have q1:A0 (nS c a d=.ok s a1 d1):=⟨ho⟩
 have f1:=f1.symm
 subst e1
 subst f1
 have hT2:=hT1.put h 1 (.string s) (v':=E107 0 s nN nilv nilv nilv pos) rfl
 generalize w.setCell _ _=X2 at hT2 ⊢
 clear z1 y1 ho hP CN hT0 hT1 hg hS hS0
 have hS2:=hT2.st hG h
 have CN:=take_call hG hS2 (by omega) 48 (by omega)
 go_upto_if 10 with (first|(go_at_call 98;(with_reducible refine CN.mono ?_);rintro e w hP;rcases hP.elim with ⟨b,a2,d2,ho,hg,⟨v,rfl,rfl⟩,hS⟩|⟨p,er,ho,hg,rfl,a',d',hS⟩;(have hT3:=hT2.call h hg hS)))
 case inr =>
  rw [show S=.bad p er by rw [←hSp.out];simp only [assignS,Out.bind,q1.out,ho]]
  exact ⟨rfl,rfl,Q4 hT2.fr hg,a',d',hS⟩
 obtain ⟨m1,m2,mt,mf⟩:=take_ok (by omega) l1 ho
 have q2:A0 (takeS c 48 (a+1) d=.ok b a2 d2):=⟨ho⟩
 have mt:=A0.mk mt
 have mf:=A0.mk mf
 clear ho hP CN hT2 hS hg hS2
 cases b with
 | true =>
  obtain ⟨e2,f2,g2⟩:=mt.out rfl
  rw [if_pos (by omega)] at f2
  have g2:=g2 (by omega)
  subst e2
  subst f2
  have z0:w.cell? ⟨W.heap.size+1,0,none⟩=some (.int .i64 0):=hT3.vc 0 rfl
  have y0:=hT3.vf 0
  go_upto_region 3 with fail
  have hT4:=hT3.put h 0 (.int .i64 2) (v':=E107 2 s nN nilv nilv nilv pos) rfl
  generalize w.setCell _ _=X4 at hT4 ⊢
  clear z0 y0 hT3
  have hTx:=A0.mk (show W.heap.size+2≤X4.heap.size from (by have:=bL hT4.vb;omega))
  have hlv:A0 (∀k,(.slice none 0 0:Value).ownBlock=some k→W.heap.size+2≤k∧k<X4.heap.size):=⟨fun k hk=>by cases hk⟩
  have hTd:=hT4.drew
  have hTz:=(hT4.alloc (.cells #[.int .i64 0,.int .i64 0,.string ⟨#[]⟩,.slice none 0 0,.int .i64 0] 93)).drew
  have hSd:=hTd.st hG h
  have hSz:=hTz.st hG h
  have CN:=hR.out _ _ _ _ _ hSd (hO.out.grown hTd.fr hg1) (by omega) (by omega) (by omega) (by omega)
  have CZ:=hR.out _ _ _ _ _ hSz (hO.out.grown hTz.fr hg1) (by omega) (by omega) (by omega) (by omega)
  have z3:X4.cell? ⟨W.heap.size+1,3,none⟩=some (.slice none 0 0):=hT4.vc 3 rfl
  have z4:∀o,(X4.alloc o).cell? ⟨W.heap.size+1,3,none⟩=some (.slice none 0 0):=fun o=>(hT4.alloc o).vc 3 rfl
  have z5:∀o,(X4.drew.alloc o).cell? ⟨W.heap.size+1,3,none⟩=some (.slice none 0 0):=fun o=>(hT4.drew.alloc o).vc 3 rfl
  clear hSd hSz
  go_cut [] from 14 to 25 (fun X=>AsgAt c W ex (a+1+1) (d+1) fp fe pos s [] 1 X)
  case first =>
   go_region_law (first
    | (go_simp;go_at_call 131;(first|(with_reducible refine CN.mono ?_)|(with_reducible refine CZ.mono ?_));rintro e1 w1 hP;rcases hP.elim with ⟨x,a5,d5,ho,hg,⟨v2,rfl,op,num,nm,A,n2,cp,ps2,rfl,hE⟩,hS⟩|⟨p,er,ho,hg,rfl,a',d',hS⟩;rotate_left 1;(first | exact ⟨rfl,by rw [show S=.bad p er by rw [←hSp.out];simp only [assignS,Out.bind,q1.out,q2.out,↓reduceIte,ho]];exact ⟨rfl,Q4 hTd.fr hg,a',d',hS⟩⟩ | exact ⟨rfl,by rw [show S=.bad p er by rw [←hSp.out];simp only [assignS,Out.bind,q1.out,q2.out,↓reduceIte,ho]];exact ⟨rfl,Q4 hTz.fr hg,a',d',hS⟩⟩);((first | have hTc:=hTd.call h hg hS | have hTc:=hTz.call h hg hS);have t3:w1.cell? ⟨W.heap.size+1,3,none⟩=some (.slice none 0 0):=hTc.vc 3 rfl;have t4:∀o,(w1.alloc o).cell? ⟨W.heap.size+1,3,none⟩=some (.slice none 0 0):=fun o=>(hTc.alloc o).vc 3 rfl;have hfw:Far (W.heap.size+2) X4 w1:=(by first | exact ((Far.refl _ _).drew).trans (Far.ofGrown hg (by omega)) | exact (((Far.refl _ _).alloc _).drew).trans (Far.ofGrown hg (by omega)));have hE2:RepE (fun b=>X4.heap.size≤b) w1 x (eC op num nm A n2 cp ps2):=(RepE.keep (fun b hb=>(by have:=hb;simp at this;omega)) (fun _ _ _=>rfl) _ _ hE);have hE2:=A0.mk hE2;have hA1:=A0.mk (show Acc RepE 93 5 (W.heap.size+2) w1 (.slice none 0 0) [] from Acc.nil w1);have hfw:=A0.mk hfw;have ho:=A0.mk ho;have hg:=A0.mk hg;clear hE;dsimp only))
    | (refine step_append_acc2 (R:=RepE) repE_keeps rfl (.tmp 17) (.tmp 21) 91 rfl (W.heap.size+2) 93 i0 (.agg #[.int .i64 0,.int .i64 0,.string ⟨#[]⟩,.slice none 0 0,.int .i64 0]) 5 64 Tryz.underlying91 hi hz0 hz1 hz2 rfl (by decide) (.slice none 0 0) [] rfl (hA1.out.farE ((Far.refl _ _).alloc _)) ⟨w1.heap.size,0,none⟩ 1 zEx zCells rfl rfl (oA _ _ _ rfl) (one5 _ _ _ _ _ _ _) (repE_leaf _ _ _ _) repE_lt (by simp [maxLen]) (by simp) (by have:=hfw.out.size;have:=hTx.out;simp;omega) ?_;intro v3 w3 hA3 hg3 hwh;(obtain ⟨g3,c3,rfl,hlo3⟩:=hA3.head;have hA3:Acc RepE 93 5 (W.heap.size+2) w3 (.slice (some ⟨g3,0,none⟩) 1 c3) ([]++[zEx]):=hA3;have hlo3:=A0.mk hlo3;have hTe:=(hTc.alloc (.cells #[.int .i64 0,.int .i64 0,.string ⟨#[]⟩,.slice none 0 0,.int .i64 0] 93)).row h hg3 (fun k hk=>(hlv.out k hk).1) (Nat.lt_succ_self _);obtain ⟨t0,u0⟩:=hA3.lastCell 0 (by omega);obtain ⟨t1,u1⟩:=hA3.lastCell 1 (by omega);obtain ⟨t2,u2⟩:=hA3.lastCell 2 (by omega);obtain ⟨t3',u3⟩:=hA3.lastCell 3 (by omega);obtain ⟨t4',u4⟩:=hA3.lastCell 4 (by omega);have e0:w3.cell? ⟨g3,0,none⟩=some t0:=u0;have e1:w3.cell? ⟨g3,1,none⟩=some t1:=u1;have e2:w3.cell? ⟨g3,2,none⟩=some t2:=u2;have e3:w3.cell? ⟨g3,3,none⟩=some t3':=u3;have e4:w3.cell? ⟨g3,4,none⟩=some t4':=u4;clear u0 u1 u2 u3 u4;have j0:=hA3.lastFree 0;have j1:=hA3.lastFree 1;have j2:=hA3.lastFree 2;have j3:=hA3.lastFree 3;have j4:=hA3.lastFree 4;have hE3:=A0.mk (repE_stay (lo:=W.heap.size+2) hE2.out (by have:=hTx.out;omega) (fun k hk=>(hlv.out k hk).2) (fun b hk hne=>(hg3.block b (by simp;omega) hne).trans (_root_.Go.heap_alloc_old w1 _ hk)) hwh (by simp) rfl);have hgf:=fun a0 a1 a2 a3 a4=>grown_five (X:=w3) g3 0 a0 a1 a2 a3 a4;have hTf:=fun a0 a1 a2 a3 a4=>hTe.row h (hgf a0 a1 a2 a3 a4) (fun k hk=>(by have:=Option.some.inj hk;have:=hlo3.out;omega)) (Nat.lt_succ_self _);have i3:∀a0 a1 a2 a3 a4,(((((w3.setCell ⟨g3,0,none⟩ a0).setCell ⟨g3,1,none⟩ a1).setCell ⟨g3,2,none⟩ a2).setCell ⟨g3,3,none⟩ a3).setCell ⟨g3,4,none⟩ a4).cell? ⟨W.heap.size+1,3,none⟩=some (.slice none 0 0):=fun a0 a1 a2 a3 a4=>(hTf a0 a1 a2 a3 a4).vc 3 rfl;have if3:∀a0 a1 a2 a3 a4,(((((w3.setCell ⟨g3,0,none⟩ a0).setCell ⟨g3,1,none⟩ a1).setCell ⟨g3,2,none⟩ a2).setCell ⟨g3,3,none⟩ a3).setCell ⟨g3,4,none⟩ a4).frozen? ⟨W.heap.size+1,3,none⟩=false:=fun a0 a1 a2 a3 a4=>(hTf a0 a1 a2 a3 a4).vf 3;have hTf:=A0.mk hTf;have b3:w3.cell? ⟨W.heap.size+1,3,none⟩=some (.slice none 0 0):=hTe.vc 3 rfl;have bf3:=hTe.vf 3;have hne:g3≠W.heap.size+1:=(by have:=hlo3.out;omega);have k0:∀a,(w3.setCell ⟨W.heap.size+1,3,none⟩ a).cell? ⟨g3,0,none⟩=_:=fun a=>(World.cell?_of_block (Below.heap_setCell _ _ _ _ hne)).trans e0;have l0:∀a,(w3.setCell ⟨W.heap.size+1,3,none⟩ a).frozen? ⟨g3,0,none⟩=false:=fun a=>(World.frozen?_of_block (Below.heap_setCell _ _ _ _ hne)).trans j0;have k1:∀a,(w3.setCell ⟨W.heap.size+1,3,none⟩ a).cell? ⟨g3,1,none⟩=_:=fun a=>(World.cell?_of_block (Below.heap_setCell _ _ _ _ hne)).trans e1;have l1:∀a,(w3.setCell ⟨W.heap.size+1,3,none⟩ a).frozen? ⟨g3,1,none⟩=false:=fun a=>(World.frozen?_of_block (Below.heap_setCell _ _ _ _ hne)).trans j1;have k2:∀a,(w3.setCell ⟨W.heap.size+1,3,none⟩ a).cell? ⟨g3,2,none⟩=_:=fun a=>(World.cell?_of_block (Below.heap_setCell _ _ _ _ hne)).trans e2;have l2:∀a,(w3.setCell ⟨W.heap.size+1,3,none⟩ a).frozen? ⟨g3,2,none⟩=false:=fun a=>(World.frozen?_of_block (Below.heap_setCell _ _ _ _ hne)).trans j2;have k3:∀a,(w3.setCell ⟨W.heap.size+1,3,none⟩ a).cell? ⟨g3,3,none⟩=_:=fun a=>(World.cell?_of_block (Below.heap_setCell _ _ _ _ hne)).trans e3;have l3:∀a,(w3.setCell ⟨W.heap.size+1,3,none⟩ a).frozen? ⟨g3,3,none⟩=false:=fun a=>(World.frozen?_of_block (Below.heap_setCell _ _ _ _ hne)).trans j3;have k4:∀a,(w3.setCell ⟨W.heap.size+1,3,none⟩ a).cell? ⟨g3,4,none⟩=_:=fun a=>(World.cell?_of_block (Below.heap_setCell _ _ _ _ hne)).trans e4;have l4:∀a,(w3.setCell ⟨W.heap.size+1,3,none⟩ a).frozen? ⟨g3,4,none⟩=false:=fun a=>(World.frozen?_of_block (Below.heap_setCell _ _ _ _ hne)).trans j4;have hne:=A0.mk hne;have hA3:=A0.mk hA3))
    | (refine step_append_acc2 (R:=RepE) repE_keeps rfl (.tmp 17) (.tmp 21) 91 rfl (W.heap.size+2) 93 i0 (.agg #[.int .i64 0,.int .i64 0,.string ⟨#[]⟩,.slice none 0 0,.int .i64 0]) 5 64 Tryz.underlying91 hi hz0 hz1 hz2 rfl (by decide) (.slice none 0 0) [] rfl hA1.out ⟨X4.heap.size,0,none⟩ 1 zEx zCells rfl rfl (news_kept (X:=X4) hg.out (by have:=hTx.out;simp;omega)) (one5 _ _ _ _ _ _ _) (repE_leaf _ _ _ _) repE_lt (by simp [maxLen]) (by simp) (by have:=hfw.out.size;have:=hTx.out;omega) ?_;intro v3 w3 hA3 hg3 hwh;(obtain ⟨g3,c3,rfl,hlo3⟩:=hA3.head;have hA3:Acc RepE 93 5 (W.heap.size+2) w3 (.slice (some ⟨g3,0,none⟩) 1 c3) ([]++[zEx]):=hA3;have hlo3:=A0.mk hlo3;have hTe:=hTc.row h hg3 (fun k hk=>(hlv.out k hk).1) (Nat.lt_succ_self _);obtain ⟨t0,u0⟩:=hA3.lastCell 0 (by omega);obtain ⟨t1,u1⟩:=hA3.lastCell 1 (by omega);obtain ⟨t2,u2⟩:=hA3.lastCell 2 (by omega);obtain ⟨t3',u3⟩:=hA3.lastCell 3 (by omega);obtain ⟨t4',u4⟩:=hA3.lastCell 4 (by omega);have e0:w3.cell? ⟨g3,0,none⟩=some t0:=u0;have e1:w3.cell? ⟨g3,1,none⟩=some t1:=u1;have e2:w3.cell? ⟨g3,2,none⟩=some t2:=u2;have e3:w3.cell? ⟨g3,3,none⟩=some t3':=u3;have e4:w3.cell? ⟨g3,4,none⟩=some t4':=u4;clear u0 u1 u2 u3 u4;have j0:=hA3.lastFree 0;have j1:=hA3.lastFree 1;have j2:=hA3.lastFree 2;have j3:=hA3.lastFree 3;have j4:=hA3.lastFree 4;have hE3:=A0.mk (repE_stay (lo:=W.heap.size+2) hE2.out (by have:=hTx.out;omega) (fun k hk=>(hlv.out k hk).2) (fun b hk hne=>hg3.block b hk hne) hwh (by simp) rfl);have hgf:=fun a0 a1 a2 a3 a4=>grown_five (X:=w3) g3 0 a0 a1 a2 a3 a4;have hTf:=fun a0 a1 a2 a3 a4=>hTe.row h (hgf a0 a1 a2 a3 a4) (fun k hk=>(by have:=Option.some.inj hk;have:=hlo3.out;omega)) (Nat.lt_succ_self _);have i3:∀a0 a1 a2 a3 a4,(((((w3.setCell ⟨g3,0,none⟩ a0).setCell ⟨g3,1,none⟩ a1).setCell ⟨g3,2,none⟩ a2).setCell ⟨g3,3,none⟩ a3).setCell ⟨g3,4,none⟩ a4).cell? ⟨W.heap.size+1,3,none⟩=some (.slice none 0 0):=fun a0 a1 a2 a3 a4=>(hTf a0 a1 a2 a3 a4).vc 3 rfl;have if3:∀a0 a1 a2 a3 a4,(((((w3.setCell ⟨g3,0,none⟩ a0).setCell ⟨g3,1,none⟩ a1).setCell ⟨g3,2,none⟩ a2).setCell ⟨g3,3,none⟩ a3).setCell ⟨g3,4,none⟩ a4).frozen? ⟨W.heap.size+1,3,none⟩=false:=fun a0 a1 a2 a3 a4=>(hTf a0 a1 a2 a3 a4).vf 3;have hTf:=A0.mk hTf;have b3:w3.cell? ⟨W.heap.size+1,3,none⟩=some (.slice none 0 0):=hTe.vc 3 rfl;have bf3:=hTe.vf 3;have hne:g3≠W.heap.size+1:=(by have:=hlo3.out;omega);have k0:∀a,(w3.setCell ⟨W.heap.size+1,3,none⟩ a).cell? ⟨g3,0,none⟩=_:=fun a=>(World.cell?_of_block (Below.heap_setCell _ _ _ _ hne)).trans e0;have l0:∀a,(w3.setCell ⟨W.heap.size+1,3,none⟩ a).frozen? ⟨g3,0,none⟩=false:=fun a=>(World.frozen?_of_block (Below.heap_setCell _ _ _ _ hne)).trans j0;have k1:∀a,(w3.setCell ⟨W.heap.size+1,3,none⟩ a).cell? ⟨g3,1,none⟩=_:=fun a=>(World.cell?_of_block (Below.heap_setCell _ _ _ _ hne)).trans e1;have l1:∀a,(w3.setCell ⟨W.heap.size+1,3,none⟩ a).frozen? ⟨g3,1,none⟩=false:=fun a=>(World.frozen?_of_block (Below.heap_setCell _ _ _ _ hne)).trans j1;have k2:∀a,(w3.setCell ⟨W.heap.size+1,3,none⟩ a).cell? ⟨g3,2,none⟩=_:=fun a=>(World.cell?_of_block (Below.heap_setCell _ _ _ _ hne)).trans e2;have l2:∀a,(w3.setCell ⟨W.heap.size+1,3,none⟩ a).frozen? ⟨g3,2,none⟩=false:=fun a=>(World.frozen?_of_block (Below.heap_setCell _ _ _ _ hne)).trans j2;have k3:∀a,(w3.setCell ⟨W.heap.size+1,3,none⟩ a).cell? ⟨g3,3,none⟩=_:=fun a=>(World.cell?_of_block (Below.heap_setCell _ _ _ _ hne)).trans e3;have l3:∀a,(w3.setCell ⟨W.heap.size+1,3,none⟩ a).frozen? ⟨g3,3,none⟩=false:=fun a=>(World.frozen?_of_block (Below.heap_setCell _ _ _ _ hne)).trans j3;have k4:∀a,(w3.setCell ⟨W.heap.size+1,3,none⟩ a).cell? ⟨g3,4,none⟩=_:=fun a=>(World.cell?_of_block (Below.heap_setCell _ _ _ _ hne)).trans e4;have l4:∀a,(w3.setCell ⟨W.heap.size+1,3,none⟩ a).frozen? ⟨g3,4,none⟩=false:=fun a=>(World.frozen?_of_block (Below.heap_setCell _ _ _ _ hne)).trans j4;have hne:=A0.mk hne;have hA3:=A0.mk hA3)))
   all_goals (
    go_wp2
    go_meet
    have T1:=(hTf.out (.int .i64 op) (.int .i64 num) (.string nm) (.slice A n2 cp) (.int .i64 ps2)).put h 3 (.slice (some ⟨g3,0,none⟩) 1 c3) (v':=E107 2 s nN (.slice (some ⟨g3,0,none⟩) 1 c3) nilv nilv pos) rfl
    have A1:=(hA3.out.set 0 rfl hE3.out).farE ((Far.refl _ _).put (p:=⟨W.heap.size+1,3,none⟩) (Nat.lt_succ_self _) (.slice (some ⟨g3,0,none⟩) 1 c3))
    have T2:=(hTe.put h 3 (.slice (some ⟨g3,0,none⟩) 1 c3) (v':=E107 2 s nN (.slice (some ⟨g3,0,none⟩) 1 c3) nilv nilv pos) rfl).row h (grown_five g3 0 (.int .i64 op) (.int .i64 num) (.string nm) (.slice A n2 cp) (.int .i64 ps2)) (fun k hk=>(by have:=Option.some.inj hk;have:=hlo3.out;omega)) (Nat.lt_succ_self _)
    have A2:=(hA3.out.farE ((Far.refl _ _).put (p:=⟨W.heap.size+1,3,none⟩) (Nat.lt_succ_self _) (.slice (some ⟨g3,0,none⟩) 1 c3))).set 0 rfl (RepE.keep (W':=w3.setCell ⟨W.heap.size+1,3,none⟩ (.slice (some ⟨g3,0,none⟩) 1 c3)) (fun _ hb=>hb) (fun b hb _=>Below.heap_setCell _ _ _ b (by have:=hb.1;dsimp only;omega)) _ _ hE3.out)
    refine ⟨x,a5,d5,g3,c3,ho.out,?_,?_⟩
    ·first | with_reducible exact T1 | with_reducible exact T2
    ·first | with_reducible exact A1 | with_reducible exact A2)
  case rest =>
   clear z3 z4 z5 CN CZ hTd hTz hTx hlv hT4
   obtain ⟨i,a3,d3,gA,cA,hi1,hTb,hAb⟩:=hcut.ex
   clear hcut
   obtain ⟨p1,p2,p3⟩:=hF.out _ _ (by omega) (by omega) (by omega) _ _ _ hi1
   subst p3
   have q3:=A0.mk hi1
   clear hi1
   have hAb:=A0.mk hAb
   have hSb:=hTb.st hG h
   have CN:=wC hG hSb (by omega) 49 (by omega)
   go_upto_region 5 with (first|(go_at_call 59;(with_reducible refine CN.mono ?_);rintro e w hP;rcases hP.elim with ⟨t4,a4,d4,ho,hg,⟨v,rfl,rfl⟩,hS⟩|⟨p,er,ho,hg,rfl,a',d',hS⟩;(have hTc:=hTb.call h hg hS)))
   case inr =>
    rw [show S=.bad p er by rw [←hSp.out];simp only [assignS,Out.bind,q1.out,q2.out,↓reduceIte,q3.out,ho]]
    exact ⟨rfl,rfl,Q4 hTb.fr hg,a',d',hS⟩
   obtain ⟨e4,l4,f4⟩:=want_shut (by omega) ho
   have q4:=A0.mk ho
   have hAc:=A0.mk (hAb.out.farE (Far.ofGrown hg (by omega)))
   clear ho hP CN hTb hAb hSb hS hg
   have hSc:=hTc.st hG h
   have CN:=wC hG hSc (by omega) 44 (by omega)
   go_upto_region 6 with (first|(go_at_call 59;(with_reducible refine CN.mono ?_);rintro e w hP;rcases hP.elim with ⟨t5,a6,d6,ho,hg,⟨v,rfl,rfl⟩,hS⟩|⟨p,er,ho,hg,rfl,a',d',hS⟩;(have hTe:=hTc.call h hg hS)))
   case inr =>
    rw [show S=.bad p er by rw [←hSp.out];simp only [assignS,Out.bind,q1.out,q2.out,↓reduceIte,q3.out,q4.out,ho]]
    exact ⟨rfl,rfl,Q4 hTc.fr hg,a',d',hS⟩
   obtain ⟨e5,l5,f5⟩:=wF (by omega) (by omega) ho
   have q5:=A0.mk ho
   have hAe:=A0.mk (hAc.out.farE (Far.ofGrown hg (by omega)))
   clear ho hP CN hTc hAc hSc hS hg
   obtain ⟨Y,hY⟩:∃Y:World,Y=w:=⟨_,rfl⟩
   rw [←hY] at hTe hAe ⊢
   clear hY
   have hAc:=hAe
   clear hAe
   have hTx:=A0.mk (show W.heap.size+2≤Y.heap.size from (by have:=bL hTe.vb;omega))
   have hlv:A0 (∀k,(.slice (some ⟨gA,0,none⟩) 1 cA:Value).ownBlock=some k→W.heap.size+2≤k∧k<Y.heap.size):=⟨hAc.out.lt⟩
   have hTd:=hTe.drew
   have hTz:=(hTe.alloc (.cells #[.int .i64 0,.int .i64 0,.string ⟨#[]⟩,.slice none 0 0,.int .i64 0] 93)).drew
   have hSd:=hTd.st hG h
   have hSz:=hTz.st hG h
   have CN:=hR.out _ _ _ _ _ hSd (hO.out.grown hTd.fr hg1) (by omega) (by omega) (by omega) (by omega)
   have CZ:=hR.out _ _ _ _ _ hSz (hO.out.grown hTz.fr hg1) (by omega) (by omega) (by omega) (by omega)
   have z3:Y.cell? ⟨W.heap.size+1,3,none⟩=some (.slice (some ⟨gA,0,none⟩) 1 cA):=hTe.vc 3 rfl
   have z4:∀o,(Y.alloc o).cell? ⟨W.heap.size+1,3,none⟩=some (.slice (some ⟨gA,0,none⟩) 1 cA):=fun o=>(hTe.alloc o).vc 3 rfl
   have z5:∀o,(Y.drew.alloc o).cell? ⟨W.heap.size+1,3,none⟩=some (.slice (some ⟨gA,0,none⟩) 1 cA):=fun o=>(hTe.drew.alloc o).vc 3 rfl
   clear hSd hSz
   go_cut [] from 30 to 41 (fun X=>AsgAt c W ex a6 d6 fp fe pos s [i] 2 X)
   case first =>
    go_region_law (first
     | (go_simp;go_at_call 131;(first|(with_reducible refine CN.mono ?_)|(with_reducible refine CZ.mono ?_));rintro e1 w1 hP;rcases hP.elim with ⟨x,a5,d5,ho,hg,⟨v2,rfl,op,num,nm,A,n2,cp,ps2,rfl,hE⟩,hS⟩|⟨p,er,ho,hg,rfl,a',d',hS⟩;rotate_left 1;(first | exact ⟨rfl,by rw [show S=.bad p er by rw [←hSp.out];simp only [assignS,Out.bind,q1.out,q2.out,↓reduceIte,q3.out,q4.out,q5.out,ho]];exact ⟨rfl,Q4 hTd.fr hg,a',d',hS⟩⟩ | exact ⟨rfl,by rw [show S=.bad p er by rw [←hSp.out];simp only [assignS,Out.bind,q1.out,q2.out,↓reduceIte,q3.out,q4.out,q5.out,ho]];exact ⟨rfl,Q4 hTz.fr hg,a',d',hS⟩⟩);((first | have hTc:=hTd.call h hg hS | have hTc:=hTz.call h hg hS);have t3:w1.cell? ⟨W.heap.size+1,3,none⟩=some (.slice (some ⟨gA,0,none⟩) 1 cA):=hTc.vc 3 rfl;have t4:∀o,(w1.alloc o).cell? ⟨W.heap.size+1,3,none⟩=some (.slice (some ⟨gA,0,none⟩) 1 cA):=fun o=>(hTc.alloc o).vc 3 rfl;have hfw:Far (W.heap.size+2) Y w1:=(by first | exact ((Far.refl _ _).drew).trans (Far.ofGrown hg (by omega)) | exact (((Far.refl _ _).alloc _).drew).trans (Far.ofGrown hg (by omega)));have hE2:RepE (fun b=>Y.heap.size≤b) w1 x (eC op num nm A n2 cp ps2):=(RepE.keep (fun b hb=>(by have:=hb;simp at this;omega)) (fun _ _ _=>rfl) _ _ hE);have hE2:=A0.mk hE2;have hA1:=A0.mk (show Acc RepE 93 5 (W.heap.size+2) w1 (.slice (some ⟨gA,0,none⟩) 1 cA) [i] from (hAc.out.farE hfw));have hfw:=A0.mk hfw;have ho:=A0.mk ho;have hg:=A0.mk hg;clear hE;dsimp only))
     | (refine step_append_acc2 (R:=RepE) repE_keeps rfl (.tmp 33) (.tmp 37) 91 rfl (W.heap.size+2) 93 i0 (.agg #[.int .i64 0,.int .i64 0,.string ⟨#[]⟩,.slice none 0 0,.int .i64 0]) 5 64 Tryz.underlying91 hi hz0 hz1 hz2 rfl (by decide) (.slice (some ⟨gA,0,none⟩) 1 cA) [i] rfl (hA1.out.farE ((Far.refl _ _).alloc _)) ⟨w1.heap.size,0,none⟩ 1 zEx zCells rfl rfl (oA _ _ _ rfl) (one5 _ _ _ _ _ _ _) (repE_leaf _ _ _ _) repE_lt (by simp [maxLen]) (by simp) (by have:=hfw.out.size;have:=hTx.out;simp;omega) ?_;intro v3 w3 hA3 hg3 hwh;(obtain ⟨g3,c3,rfl,hlo3⟩:=hA3.head;have hA3:Acc RepE 93 5 (W.heap.size+2) w3 (.slice (some ⟨g3,0,none⟩) 2 c3) ([i]++[zEx]):=hA3;have hlo3:=A0.mk hlo3;have hTe:=(hTc.alloc (.cells #[.int .i64 0,.int .i64 0,.string ⟨#[]⟩,.slice none 0 0,.int .i64 0] 93)).row h hg3 (fun k hk=>(hlv.out k hk).1) (Nat.lt_succ_self _);obtain ⟨t0,u0⟩:=hA3.lastCell 0 (by omega);obtain ⟨t1,u1⟩:=hA3.lastCell 1 (by omega);obtain ⟨t2,u2⟩:=hA3.lastCell 2 (by omega);obtain ⟨t3',u3⟩:=hA3.lastCell 3 (by omega);obtain ⟨t4',u4⟩:=hA3.lastCell 4 (by omega);have e0:w3.cell? ⟨g3,5,none⟩=some t0:=u0;have e1:w3.cell? ⟨g3,6,none⟩=some t1:=u1;have e2:w3.cell? ⟨g3,7,none⟩=some t2:=u2;have e3:w3.cell? ⟨g3,8,none⟩=some t3':=u3;have e4:w3.cell? ⟨g3,9,none⟩=some t4':=u4;clear u0 u1 u2 u3 u4;have j0:=hA3.lastFree 5;have j1:=hA3.lastFree 6;have j2:=hA3.lastFree 7;have j3:=hA3.lastFree 8;have j4:=hA3.lastFree 9;have hE3:=A0.mk (repE_stay (lo:=W.heap.size+2) hE2.out (by have:=hTx.out;omega) (fun k hk=>(hlv.out k hk).2) (fun b hk hne=>(hg3.block b (by simp;omega) hne).trans (_root_.Go.heap_alloc_old w1 _ hk)) hwh (by simp) rfl);have hgf:=fun a0 a1 a2 a3 a4=>grown_five (X:=w3) g3 5 a0 a1 a2 a3 a4;have hTf:=fun a0 a1 a2 a3 a4=>hTe.row h (hgf a0 a1 a2 a3 a4) (fun k hk=>(by have:=Option.some.inj hk;have:=hlo3.out;omega)) (Nat.lt_succ_self _);have i3:∀a0 a1 a2 a3 a4,(((((w3.setCell ⟨g3,5,none⟩ a0).setCell ⟨g3,6,none⟩ a1).setCell ⟨g3,7,none⟩ a2).setCell ⟨g3,8,none⟩ a3).setCell ⟨g3,9,none⟩ a4).cell? ⟨W.heap.size+1,3,none⟩=some (.slice (some ⟨gA,0,none⟩) 1 cA):=fun a0 a1 a2 a3 a4=>(hTf a0 a1 a2 a3 a4).vc 3 rfl;have if3:∀a0 a1 a2 a3 a4,(((((w3.setCell ⟨g3,5,none⟩ a0).setCell ⟨g3,6,none⟩ a1).setCell ⟨g3,7,none⟩ a2).setCell ⟨g3,8,none⟩ a3).setCell ⟨g3,9,none⟩ a4).frozen? ⟨W.heap.size+1,3,none⟩=false:=fun a0 a1 a2 a3 a4=>(hTf a0 a1 a2 a3 a4).vf 3;have hTf:=A0.mk hTf;have b3:w3.cell? ⟨W.heap.size+1,3,none⟩=some (.slice (some ⟨gA,0,none⟩) 1 cA):=hTe.vc 3 rfl;have bf3:=hTe.vf 3;have hne:g3≠W.heap.size+1:=(by have:=hlo3.out;omega);have k0:∀a,(w3.setCell ⟨W.heap.size+1,3,none⟩ a).cell? ⟨g3,5,none⟩=_:=fun a=>(World.cell?_of_block (Below.heap_setCell _ _ _ _ hne)).trans e0;have l0:∀a,(w3.setCell ⟨W.heap.size+1,3,none⟩ a).frozen? ⟨g3,5,none⟩=false:=fun a=>(World.frozen?_of_block (Below.heap_setCell _ _ _ _ hne)).trans j0;have k1:∀a,(w3.setCell ⟨W.heap.size+1,3,none⟩ a).cell? ⟨g3,6,none⟩=_:=fun a=>(World.cell?_of_block (Below.heap_setCell _ _ _ _ hne)).trans e1;have l1:∀a,(w3.setCell ⟨W.heap.size+1,3,none⟩ a).frozen? ⟨g3,6,none⟩=false:=fun a=>(World.frozen?_of_block (Below.heap_setCell _ _ _ _ hne)).trans j1;have k2:∀a,(w3.setCell ⟨W.heap.size+1,3,none⟩ a).cell? ⟨g3,7,none⟩=_:=fun a=>(World.cell?_of_block (Below.heap_setCell _ _ _ _ hne)).trans e2;have l2:∀a,(w3.setCell ⟨W.heap.size+1,3,none⟩ a).frozen? ⟨g3,7,none⟩=false:=fun a=>(World.frozen?_of_block (Below.heap_setCell _ _ _ _ hne)).trans j2;have k3:∀a,(w3.setCell ⟨W.heap.size+1,3,none⟩ a).cell? ⟨g3,8,none⟩=_:=fun a=>(World.cell?_of_block (Below.heap_setCell _ _ _ _ hne)).trans e3;have l3:∀a,(w3.setCell ⟨W.heap.size+1,3,none⟩ a).frozen? ⟨g3,8,none⟩=false:=fun a=>(World.frozen?_of_block (Below.heap_setCell _ _ _ _ hne)).trans j3;have k4:∀a,(w3.setCell ⟨W.heap.size+1,3,none⟩ a).cell? ⟨g3,9,none⟩=_:=fun a=>(World.cell?_of_block (Below.heap_setCell _ _ _ _ hne)).trans e4;have l4:∀a,(w3.setCell ⟨W.heap.size+1,3,none⟩ a).frozen? ⟨g3,9,none⟩=false:=fun a=>(World.frozen?_of_block (Below.heap_setCell _ _ _ _ hne)).trans j4;have hne:=A0.mk hne;have hA3:=A0.mk hA3))
     | (refine step_append_acc2 (R:=RepE) repE_keeps rfl (.tmp 33) (.tmp 37) 91 rfl (W.heap.size+2) 93 i0 (.agg #[.int .i64 0,.int .i64 0,.string ⟨#[]⟩,.slice none 0 0,.int .i64 0]) 5 64 Tryz.underlying91 hi hz0 hz1 hz2 rfl (by decide) (.slice (some ⟨gA,0,none⟩) 1 cA) [i] rfl hA1.out ⟨Y.heap.size,0,none⟩ 1 zEx zCells rfl rfl (news_kept (X:=Y) hg.out (by have:=hTx.out;simp;omega)) (one5 _ _ _ _ _ _ _) (repE_leaf _ _ _ _) repE_lt (by simp [maxLen]) (by simp) (by have:=hfw.out.size;have:=hTx.out;omega) ?_;intro v3 w3 hA3 hg3 hwh;(obtain ⟨g3,c3,rfl,hlo3⟩:=hA3.head;have hA3:Acc RepE 93 5 (W.heap.size+2) w3 (.slice (some ⟨g3,0,none⟩) 2 c3) ([i]++[zEx]):=hA3;have hlo3:=A0.mk hlo3;have hTe:=hTc.row h hg3 (fun k hk=>(hlv.out k hk).1) (Nat.lt_succ_self _);obtain ⟨t0,u0⟩:=hA3.lastCell 0 (by omega);obtain ⟨t1,u1⟩:=hA3.lastCell 1 (by omega);obtain ⟨t2,u2⟩:=hA3.lastCell 2 (by omega);obtain ⟨t3',u3⟩:=hA3.lastCell 3 (by omega);obtain ⟨t4',u4⟩:=hA3.lastCell 4 (by omega);have e0:w3.cell? ⟨g3,5,none⟩=some t0:=u0;have e1:w3.cell? ⟨g3,6,none⟩=some t1:=u1;have e2:w3.cell? ⟨g3,7,none⟩=some t2:=u2;have e3:w3.cell? ⟨g3,8,none⟩=some t3':=u3;have e4:w3.cell? ⟨g3,9,none⟩=some t4':=u4;clear u0 u1 u2 u3 u4;have j0:=hA3.lastFree 5;have j1:=hA3.lastFree 6;have j2:=hA3.lastFree 7;have j3:=hA3.lastFree 8;have j4:=hA3.lastFree 9;have hE3:=A0.mk (repE_stay (lo:=W.heap.size+2) hE2.out (by have:=hTx.out;omega) (fun k hk=>(hlv.out k hk).2) (fun b hk hne=>hg3.block b hk hne) hwh (by simp) rfl);have hgf:=fun a0 a1 a2 a3 a4=>grown_five (X:=w3) g3 5 a0 a1 a2 a3 a4;have hTf:=fun a0 a1 a2 a3 a4=>hTe.row h (hgf a0 a1 a2 a3 a4) (fun k hk=>(by have:=Option.some.inj hk;have:=hlo3.out;omega)) (Nat.lt_succ_self _);have i3:∀a0 a1 a2 a3 a4,(((((w3.setCell ⟨g3,5,none⟩ a0).setCell ⟨g3,6,none⟩ a1).setCell ⟨g3,7,none⟩ a2).setCell ⟨g3,8,none⟩ a3).setCell ⟨g3,9,none⟩ a4).cell? ⟨W.heap.size+1,3,none⟩=some (.slice (some ⟨gA,0,none⟩) 1 cA):=fun a0 a1 a2 a3 a4=>(hTf a0 a1 a2 a3 a4).vc 3 rfl;have if3:∀a0 a1 a2 a3 a4,(((((w3.setCell ⟨g3,5,none⟩ a0).setCell ⟨g3,6,none⟩ a1).setCell ⟨g3,7,none⟩ a2).setCell ⟨g3,8,none⟩ a3).setCell ⟨g3,9,none⟩ a4).frozen? ⟨W.heap.size+1,3,none⟩=false:=fun a0 a1 a2 a3 a4=>(hTf a0 a1 a2 a3 a4).vf 3;have hTf:=A0.mk hTf;have b3:w3.cell? ⟨W.heap.size+1,3,none⟩=some (.slice (some ⟨gA,0,none⟩) 1 cA):=hTe.vc 3 rfl;have bf3:=hTe.vf 3;have hne:g3≠W.heap.size+1:=(by have:=hlo3.out;omega);have k0:∀a,(w3.setCell ⟨W.heap.size+1,3,none⟩ a).cell? ⟨g3,5,none⟩=_:=fun a=>(World.cell?_of_block (Below.heap_setCell _ _ _ _ hne)).trans e0;have l0:∀a,(w3.setCell ⟨W.heap.size+1,3,none⟩ a).frozen? ⟨g3,5,none⟩=false:=fun a=>(World.frozen?_of_block (Below.heap_setCell _ _ _ _ hne)).trans j0;have k1:∀a,(w3.setCell ⟨W.heap.size+1,3,none⟩ a).cell? ⟨g3,6,none⟩=_:=fun a=>(World.cell?_of_block (Below.heap_setCell _ _ _ _ hne)).trans e1;have l1:∀a,(w3.setCell ⟨W.heap.size+1,3,none⟩ a).frozen? ⟨g3,6,none⟩=false:=fun a=>(World.frozen?_of_block (Below.heap_setCell _ _ _ _ hne)).trans j1;have k2:∀a,(w3.setCell ⟨W.heap.size+1,3,none⟩ a).cell? ⟨g3,7,none⟩=_:=fun a=>(World.cell?_of_block (Below.heap_setCell _ _ _ _ hne)).trans e2;have l2:∀a,(w3.setCell ⟨W.heap.size+1,3,none⟩ a).frozen? ⟨g3,7,none⟩=false:=fun a=>(World.frozen?_of_block (Below.heap_setCell _ _ _ _ hne)).trans j2;have k3:∀a,(w3.setCell ⟨W.heap.size+1,3,none⟩ a).cell? ⟨g3,8,none⟩=_:=fun a=>(World.cell?_of_block (Below.heap_setCell _ _ _ _ hne)).trans e3;have l3:∀a,(w3.setCell ⟨W.heap.size+1,3,none⟩ a).frozen? ⟨g3,8,none⟩=false:=fun a=>(World.frozen?_of_block (Below.heap_setCell _ _ _ _ hne)).trans j3;have k4:∀a,(w3.setCell ⟨W.heap.size+1,3,none⟩ a).cell? ⟨g3,9,none⟩=_:=fun a=>(World.cell?_of_block (Below.heap_setCell _ _ _ _ hne)).trans e4;have l4:∀a,(w3.setCell ⟨W.heap.size+1,3,none⟩ a).frozen? ⟨g3,9,none⟩=false:=fun a=>(World.frozen?_of_block (Below.heap_setCell _ _ _ _ hne)).trans j4;have hne:=A0.mk hne;have hA3:=A0.mk hA3)))
    all_goals (
     go_wp2
     go_meet
     have T1:=(hTf.out (.int .i64 op) (.int .i64 num) (.string nm) (.slice A n2 cp) (.int .i64 ps2)).put h 3 (.slice (some ⟨g3,0,none⟩) 2 c3) (v':=E107 2 s nN (.slice (some ⟨g3,0,none⟩) 2 c3) nilv nilv pos) rfl
     have A1:=(hA3.out.set 5 rfl hE3.out).farE ((Far.refl _ _).put (p:=⟨W.heap.size+1,3,none⟩) (Nat.lt_succ_self _) (.slice (some ⟨g3,0,none⟩) 2 c3))
     have T2:=(hTe.put h 3 (.slice (some ⟨g3,0,none⟩) 2 c3) (v':=E107 2 s nN (.slice (some ⟨g3,0,none⟩) 2 c3) nilv nilv pos) rfl).row h (grown_five g3 5 (.int .i64 op) (.int .i64 num) (.string nm) (.slice A n2 cp) (.int .i64 ps2)) (fun k hk=>(by have:=Option.some.inj hk;have:=hlo3.out;omega)) (Nat.lt_succ_self _)
     have A2:=(hA3.out.farE ((Far.refl _ _).put (p:=⟨W.heap.size+1,3,none⟩) (Nat.lt_succ_self _) (.slice (some ⟨g3,0,none⟩) 2 c3))).set 5 rfl (RepE.keep (W':=w3.setCell ⟨W.heap.size+1,3,none⟩ (.slice (some ⟨g3,0,none⟩) 2 c3)) (fun _ hb=>hb) (fun b hb _=>Below.heap_setCell _ _ _ b (by have:=hb.1;dsimp only;omega)) _ _ hE3.out)
     refine ⟨x,a5,d5,g3,c3,ho.out,?_,?_⟩
     ·first | with_reducible exact T1 | with_reducible exact T2
     ·first | with_reducible exact A1 | with_reducible exact A2)
   case rest =>
    clear z3 z4 z5 CN CZ hTd hTz hTx hlv hTe
    obtain ⟨x,a7,d7,gB,cB,hi2,hTB,hAB⟩:=hcut.ex
    clear hcut
    have hSv:A0 (S=.ok (2,s,nN,[i,x]) a7 d7):=⟨by rw [←hSp.out];simp only [assignS,Out.bind,q1.out,q2.out,↓reduceIte,q3.out,q4.out,q5.out,hi2]⟩
    have hAB:=A0.mk hAB
    clear hi2
    go_wp2
    rw [hSv.out]
    exact bodyPost_ret (v:=.tuple #[]) (by simp [results,Tryz.results133,go_sem]) rfl ⟨rfl,_,_,_,hTB,hAB.out⟩
 | false =>
  obtain ⟨e2,f2⟩:=mf.out rfl
  have f2:=f2.symm
  subst e2
  subst f2
  have hS3:=hT3.st hG h
  have CN:=wC hG hS3 (by omega) 44 (by omega)
  go_upto_region 8 with (first|(go_at_call 59;(with_reducible refine CN.mono ?_);rintro e w hP;rcases hP.elim with ⟨t3,a3,d3,ho,hg,⟨v,rfl,rfl⟩,hS⟩|⟨p,er,ho,hg,rfl,a',d',hS⟩;(have hT4:=hT3.call h hg hS)))
  case inr =>
   rw [show S=.bad p er by rw [←hSp.out];simp only [assignS,Out.bind,q1.out,q2.out,Bool.false_eq_true,↓reduceIte,ho]]
   exact ⟨rfl,rfl,Q4 hT3.fr hg,a',d',hS⟩
  obtain ⟨e3,l3,f3⟩:=wF (by omega) (by omega) ho
  have q3:=A0.mk ho
  clear ho hP CN hT3 hS3 hS hg
  have hS4:=hT4.st hG h
  have CN:=take_call hG hS4 (by omega) 22 (by omega)
  go_upto_if 45 with (first|(go_at_call 98;(with_reducible refine CN.mono ?_);rintro e w hP;rcases hP.elim with ⟨r,a4,d4,ho,hg,⟨v,rfl,rfl⟩,hS⟩|⟨p,er,ho,hg,rfl,a',d',hS⟩;(have hT5:=hT4.call h hg hS)))
  case inr =>
   rw [show S=.bad p er by rw [←hSp.out];simp only [assignS,Out.bind,q1.out,q2.out,Bool.false_eq_true,↓reduceIte,q3.out,ho]]
   exact ⟨rfl,rfl,Q4 hT4.fr hg,a',d',hS⟩
  obtain ⟨n1,n2,n3,nt,nf⟩:=take_fine (by omega) (by omega) l3 ho
  have q4:=A0.mk ho
  clear ho hP CN hT4 hS4 hS hg nt nf
  have hS5:=hT5.st hG h
  cases r with
  | true =>
   have CN:=name_call hG hS5 (by omega)
   go_wp2_with (first|(go_at_call 57;(with_reducible refine CN.mono ?_);rintro e w hP;rcases hP.elim with ⟨s2,a5,d5,ho,hg,⟨v,rfl,rfl⟩,hS⟩|⟨p,er,ho,hg,rfl,a',d',hS⟩;(have hT6:=hT5.call h hg hS;have z0:w.cell? ⟨W.heap.size+1,0,none⟩=some (.int .i64 0):=hT6.vc 0 rfl;have y0:=hT6.vf 0;have z2:w.cell? ⟨W.heap.size+1,2,none⟩=some (.string ⟨#[]⟩):=hT6.vc 2 rfl;have y2:=hT6.vf 2)))
   case inr =>
    rw [show S=.bad p er by rw [←hSp.out];simp only [assignS,Out.bind,q1.out,q2.out,Bool.false_eq_true,↓reduceIte,q3.out,q4.out,ho]]
    exact ⟨rfl,rfl,Q4 hT5.fr hg,a',d',hS⟩
   have hSv:A0 (S=.ok (3,s,s2,[]) a5 d5):=⟨by rw [←hSp.out];simp only [assignS,Out.bind,q1.out,q2.out,Bool.false_eq_true,↓reduceIte,q3.out,q4.out,ho]⟩
   have hT7:=(hT6.put h 0 (.int .i64 3) (v':=E107 3 s nN nilv nilv nilv pos) rfl).put h 2 (.string s2) (v':=E107 3 s s2 nilv nilv nilv pos) rfl
   rw [hSv.out]
   exact bodyPost_ret (v:=.tuple #[]) (by simp [results,Tryz.results133,go_sem]) rfl ⟨rfl,none,0,0,hT7,Acc.nil _⟩
  | false =>
   have CN:=hR.out _ _ _ _ _ hS5 (hO.out.grown hT5.fr hg1) (by omega) (by omega) (by omega) (by omega)
   go_wp2_with (first|(go_at_call 131;(with_reducible refine CN.mono ?_);rintro e w hP;rcases hP.elim with ⟨x,a5,d5,ho,hg,⟨v,rfl,op,num,nm,A,n,cap,pos_,rfl,hE⟩,hS⟩|⟨p,er,ho,hg,rfl,a',d',hS⟩;(have hT6:=hT5.call h hg hS;have p0:∀o,(w.alloc o).cell? ⟨W.heap.size+1,0,none⟩=some (.int .i64 0):=fun o=>(hT6.alloc o).vc 0 rfl;have o0:∀o,(w.alloc o).frozen? ⟨W.heap.size+1,0,none⟩=false:=fun o=>(hT6.alloc o).vf 0;have p3:∀o,(w.alloc o).cell? ⟨W.heap.size+1,3,none⟩=some (.slice none 0 0):=fun o=>(hT6.alloc o).vc 3 rfl;have o3:∀o,(w.alloc o).frozen? ⟨W.heap.size+1,3,none⟩=false:=fun o=>(hT6.alloc o).vf 3)))
   case inr =>
    rw [show S=.bad p er by rw [←hSp.out];simp only [assignS,Out.bind,q1.out,q2.out,Bool.false_eq_true,↓reduceIte,q3.out,q4.out,ho]]
    exact ⟨rfl,rfl,Q4 hT5.fr hg,a',d',hS⟩
   have hSv:A0 (S=.ok (1,s,nN,[x]) a5 d5):=⟨by rw [←hSp.out];simp only [assignS,Out.bind,q1.out,q2.out,Bool.false_eq_true,↓reduceIte,q3.out,q4.out,ho]⟩
   have hll:=bL hT6.vb
   have hl5:=bL hT5.vb
   have hT7:=((hT6.alloc (.cells (E93 op num nm A n cap pos_) 93)).put h 0 (.int .i64 1) (v':=E107 1 s nN nilv nilv nilv pos) rfl).put h 3 (.slice (some ⟨w.heap.size,0,none⟩) 1 1) (v':=E107 1 s nN (.slice (some ⟨w.heap.size,0,none⟩) 1 1) nilv nilv pos) rfl
   have hA7:=(accE_one (lo:=W.heap.size+2) (RepE.far hE (Far.refl _ _) (by omega)) (by omega) (E93 op num nm A n cap pos_) rfl).farE (((Far.refl _ _).put (p:=⟨W.heap.size+1,0,none⟩) (Nat.lt_succ_self _) (.int .i64 1)).put (p:=⟨W.heap.size+1,3,none⟩) (Nat.lt_succ_self _) (.slice (some ⟨w.heap.size,0,none⟩) 1 1))
   go_end0
   rw [hSv.out]
   exact ⟨rfl,_,_,_,hT7,hA7⟩
end Go.Proofs.YtgaoapnaplgaiaaGreatDoor.Sc
