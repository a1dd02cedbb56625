/- This claim's own texts, joined, with only what the claim uses: ParL. -/
import Derived.Test.YtgaoapnaplgaiaaGreatDoorZs12
import Derived.Deep.RegionWith
import Derived.Shelf.Abstract
import Derived.Deep.CutRange
namespace Go.Proofs.YtgaoapnaplgaiaaGreatDoor.Sc
set_option maxRecDepth 100000
open Go.RowKit Tk Go.Proofs.YtgaoapnaplgaiaaGreatDoor.Wd
structure Tw (c:Ctx) (W X:World) (g2 t:Nat) (r v:Array Value) (a:Nat) (d fp fe:Int):Prop where
 fr:W.grownBy X (some c.g)
 rb:X.heap[W.heap.size]?=some (.cells r t (0,0))
 vb:X.heap[g2]?=some (.cells v t (0,0))
 pb:X.heap[c.g]?=some (.cells (c.cells a d fp fe) 56 (0,0))
 lt:W.heap.size<g2
section
variable {c:Ctx} {W X Y:World} {g2 t:Nat} {r v r' v':Array Value} {a a' a0:Nat} {d d' d0 fp fp' fp0 fe fe' fe0:Int}
theorem Tw.st (h:Tw c W X g2 t r v a d fp fe) (hG:Good c) (h0:St c W a0 d0 fp0 fe0):St c X a d fp fe:=St.frame hG h0 h.fr h.pb
theorem Tw.ofOne (h:One c W X t r a d fp fe) (v:Array Value):Tw c W (X.alloc (.cells v t)) X.heap.size t r v a d fp fe where
 fr:=grown_alloc h.fr _
 rb:=(_root_.Go.heap_alloc_old X _ (bL h.rb)).trans h.rb
 vb:=bN X (.cells v t)
 pb:=(_root_.Go.heap_alloc_old X _ (bL h.pb)).trans h.pb
 lt:=bL h.rb
theorem Tw.drewN (h:Tw c W X g2 t r v a d fp fe) (q:Nat):Tw c W (X.drewN q) g2 t r v a d fp fe:=⟨Q6 h.fr q,h.rb,h.vb,h.pb,h.lt⟩
theorem Tw.drew (h:Tw c W X g2 t r v a d fp fe):Tw c W X.drew g2 t r v a d fp fe:=⟨grown_drew1 h.fr,h.rb,h.vb,h.pb,h.lt⟩
theorem Tw.alloc (h:Tw c W X g2 t r v a d fp fe) (o:Obj):Tw c W (X.alloc o) g2 t r v a d fp fe where
 fr:=grown_alloc h.fr _
 rb:=(_root_.Go.heap_alloc_old X _ (bL h.rb)).trans h.rb
 vb:=(_root_.Go.heap_alloc_old X _ (bL h.vb)).trans h.vb
 pb:=(_root_.Go.heap_alloc_old X _ (bL h.pb)).trans h.pb
 lt:=h.lt
theorem Tw.call (h:Tw c W X g2 t r v a d fp fe) (h0:St c W a0 d0 fp0 fe0) (hg:X.grownBy Y (some c.g)) (hS:St c Y a' d' fp' fe'):Tw c W Y g2 t r v a' d' fp' fe' where
 fr:=Q4 h.fr hg
 rb:=(hg.block _ (bL h.rb) (fun e=>by have:=Option.some.inj e;have:=bL h0.blk;omega)).trans h.rb
 vb:=(hg.block _ (bL h.vb) (fun e=>by have:=Option.some.inj e;have:=bL h0.blk;have:=h.lt;omega)).trans h.vb
 pb:=hS.blk
 lt:=h.lt
theorem Tw.row (h:Tw c W X g2 t r v a d fp fe) (h0:St c W a0 d0 fp0 fe0) {lo:Nat} {o:Option Nat} (hg:X.grownBy Y o) (ho:∀k,o=some k→lo≤k) (hlo:g2<lo):Tw c W Y g2 t r v a d fp fe where
 fr:=⟨hg.os.trans h.fr.os,hg.tape.trans h.fr.tape,hg.output.trans h.fr.output,Nat.le_trans h.fr.size hg.size,fun k hk hne=>(hg.block k (Nat.lt_of_lt_of_le hk h.fr.size) (fun e=>by have:=ho k e.symm;have:=h.lt;omega)).trans (h.fr.block k hk hne)⟩
 rb:=(hg.block _ (bL h.rb) (fun e=>by have:=ho _ e.symm;have:=h.lt;omega)).trans h.rb
 vb:=(hg.block _ (bL h.vb) (fun e=>by have:=ho _ e.symm;omega)).trans h.vb
 pb:=(hg.block _ (bL h.pb) (fun e=>by have:=ho _ e.symm;have:=h.lt;have:=bL h0.blk;omega)).trans h.pb
 lt:=h.lt
theorem Tw.at (hG:Good c) (h:Tw c W X g2 t r v a d fp fe) (h0:St c W a0 d0 fp0 fe0):Tw c W (X.setCell ⟨c.g,2,none⟩ (.int .i64 ((a:Int)+1))) g2 t r v (a+1) d fp fe :=
 have hgl:=bL h0.blk
 have hlt:=h.lt
 ⟨gP h.fr _,Q5 h.rb (p:=⟨c.g,2,none⟩) (by dsimp only;omega) _,Q5 h.vb (p:=⟨c.g,2,none⟩) (by dsimp only;omega) _,((h.st hG h0).put hG 2 _ rfl).blk,hlt⟩
theorem Tw.dp (hG:Good c) (h:Tw c W X g2 t r v a d fp fe) (h0:St c W a0 d0 fp0 fe0) (d1:Int):Tw c W (X.setCell ⟨c.g,3,none⟩ (.int .i64 d1)) g2 t r v a d1 fp fe :=
 have hgl:=bL h0.blk
 have hlt:=h.lt
 ⟨gP h.fr _,Q5 h.rb (p:=⟨c.g,3,none⟩) (by dsimp only;omega) _,Q5 h.vb (p:=⟨c.g,3,none⟩) (by dsimp only;omega) _,((h.st hG h0).put hG 3 _ rfl).blk,hlt⟩
theorem Tw.put (h:Tw c W X g2 t r v a d fp fe) (h0:St c W a0 d0 fp0 fe0) (i:Nat) (u:Value) (e:v.setIfInBounds i u=v'):Tw c W (X.setCell ⟨g2,i,none⟩ u) g2 t r v' a d fp fe :=
 have hgl:=bL h0.blk
 have hlt:=h.lt
 ⟨grown_far h.fr (p:=⟨g2,i,none⟩) (Nat.le_of_lt hlt) u,Q5 h.rb (p:=⟨g2,i,none⟩) (by dsimp only;omega) u,bP h.vb i u e,Q5 h.pb (p:=⟨g2,i,none⟩) (by dsimp only;omega) u,hlt⟩
theorem Tw.res (h:Tw c W X g2 t r v a d fp fe) (h0:St c W a0 d0 fp0 fe0) (i:Nat) (u:Value) (e:r.setIfInBounds i u=r'):Tw c W (X.setCell ⟨W.heap.size,i,none⟩ u) g2 t r' v a d fp fe :=
 have hgl:=bL h0.blk
 have hlt:=h.lt
 ⟨grown_far h.fr (p:=⟨W.heap.size,i,none⟩) (Nat.le_refl _) u,bP h.rb i u e,Q5 h.vb (p:=⟨W.heap.size,i,none⟩) (by dsimp only;omega) u,Q5 h.pb (p:=⟨W.heap.size,i,none⟩) (by dsimp only;omega) u,hlt⟩
theorem Tw.vc (h:Tw c W X g2 t r v a d fp fe) (i:Nat) {u:Value} (e:v[i]?=some u):X.cell? ⟨g2,i,none⟩=some u:=(bC h.vb i).trans e
theorem Tw.rc (h:Tw c W X g2 t r v a d fp fe) (i:Nat) {u:Value} (e:r[i]?=some u):X.cell? ⟨W.heap.size,i,none⟩=some u:=(bC h.rb i).trans e
theorem Tw.vf (h:Tw c W X g2 t r v a d fp fe) (i:Nat):X.frozen? ⟨g2,i,none⟩=false:=bF h.vb i
theorem Tw.rf (h:Tw c W X g2 t r v a d fp fe) (i:Nat):X.frozen? ⟨W.heap.size,i,none⟩=false:=bF h.rb i
theorem Tw.all5 (h0:St c W a0 d0 fp0 fe0) {r0 r1 r2 r3 r4:Value} (u0 u1 u2 u3 u4:Value) (h:Tw c W X g2 t #[r0,r1,r2,r3,r4] v a d fp fe) :
  Tw c W (((((X.setCell ⟨W.heap.size,0,none⟩ u0).setCell ⟨W.heap.size,1,none⟩ u1).setCell ⟨W.heap.size,2,none⟩ u2).setCell ⟨W.heap.size,3,none⟩ u3).setCell ⟨W.heap.size,4,none⟩ u4) g2 t #[u0,u1,u2,u3,u4] v a d fp fe:=by
 have g0:=h.res h0 0 u0 (r':=#[u0,r1,r2,r3,r4]) rfl
 have g1:=g0.res h0 1 u1 (r':=#[u0,u1,r2,r3,r4]) rfl
 have g2:=g1.res h0 2 u2 (r':=#[u0,u1,u2,r3,r4]) rfl
 have g3:=g2.res h0 3 u3 (r':=#[u0,u1,u2,u3,r4]) rfl
 exact g3.res h0 4 u4 (r':=#[u0,u1,u2,u3,u4]) rfl
theorem Tw.var5 (h0:St c W a0 d0 fp0 fe0) {r0 r1 r2 r3 r4:Value} (u0 u1 u2 u3 u4:Value) (h:Tw c W X g2 t r #[r0,r1,r2,r3,r4] a d fp fe) :
  Tw c W (((((X.setCell ⟨g2,0,none⟩ u0).setCell ⟨g2,1,none⟩ u1).setCell ⟨g2,2,none⟩ u2).setCell ⟨g2,3,none⟩ u3).setCell ⟨g2,4,none⟩ u4) g2 t r #[u0,u1,u2,u3,u4] a d fp fe:=by
 have g0:=h.put h0 0 u0 (v':=#[u0,r1,r2,r3,r4]) rfl
 have g1:=g0.put h0 1 u1 (v':=#[u0,u1,r2,r3,r4]) rfl
 have g2:=g1.put h0 2 u2 (v':=#[u0,u1,u2,r3,r4]) rfl
 have g3:=g2.put h0 3 u3 (v':=#[u0,u1,u2,u3,r4]) rfl
 exact g3.put h0 4 u4 (v':=#[u0,u1,u2,u3,u4]) rfl
end
theorem RepE.apart {lo g2 g:Nat} {X Y:World} {x:Ex} {v:List Value} (h:RepE (fun b=>lo≤b∧b≠g2) X x v) (hg:X.grownBy Y (some g)) (hl:g<lo):RepE (fun b=>lo≤b∧b≠g2) Y x v :=
 h.keep (fun _ hb=>hb) fun b hb hk=>hg.block b hk fun e=>by have:=Option.some.inj e;have:=hb.1;omega
theorem row_lit {P:Nat→Prop} {X:World} {cs:Array Value} {t:Nat} (hp:P X.heap.size):Row P (X.alloc (.cells cs t)) (some ⟨X.heap.size,0,none⟩) cs.toList:=by
 intro i u hu
 refine ⟨_,rfl,hp,?_⟩
 have hb:=bN X (.cells cs t)
 have hadd:(⟨X.heap.size,0,none⟩:Addr).add i=⟨X.heap.size,i,none⟩:=by unfold Addr.add;split <;> simp_all
 rw [hadd]
 exact (bC hb i).trans (by simpa using hu)
theorem repE_one {P:Nat→Prop} {X:World} {x:Ex} {v:List Value} (h:RepE P X x v) (hp:P X.heap.size) (cs:Array Value) (hcs:cs.toList=v) (op num:Int) (nm:ByteArray) (pos:Int) :
  RepE P (X.alloc (.cells cs 93)) (.mk op num nm [x] pos) (eC op num nm (some ⟨X.heap.size,0,none⟩) 1 1 pos):=by
 rw [RepE]
 refine ⟨_,_,[v],rfl,Nat.le_refl _,?_,?_⟩
 ·have:=row_lit (t:=93) (cs:=cs) hp
  rw [hcs] at this
  simpa using this
 ·refine repEs_iff.2 ⟨h.keep (fun _ hb=>hb) fun b _ hk=>_root_.Go.heap_alloc_old X _ hk,trivial⟩
theorem repE_two {P:Nat→Prop} {X:World} {x y:Ex} {v u:List Value} (h:RepE P X x v) (k:RepE P X y u) (hp:P X.heap.size) (cs:Array Value) (hcs:cs.toList=v++u) (op num:Int) (nm:ByteArray) (pos:Int) :
  RepE P (X.alloc (.cells cs 93)) (.mk op num nm [x,y] pos) (eC op num nm (some ⟨X.heap.size,0,none⟩) 2 2 pos):=by
 rw [RepE]
 refine ⟨_,_,[v,u],rfl,Nat.le_refl _,?_,?_⟩
 ·have:=row_lit (t:=93) (cs:=cs) hp
  rw [hcs] at this
  simpa using this
 ·exact repEs_iff.2 ⟨h.keep (fun _ hb=>hb) fun b _ hk=>_root_.Go.heap_alloc_old X _ hk,k.keep (fun _ hb=>hb) fun b _ hk=>_root_.Go.heap_alloc_old X _ hk,trivial⟩
theorem bin_get (k:Nat) (h:k<23) (w:World):(Instr.index 132 (.agg (binT.map (Value.int .i64)).toArray) (.int .i64 (k:Int))).run Tryz.prog w=.ok (.int .i64 (binT.getD k 0)) w:=by
 have h':k<binT.length:=h
 have h2:¬ 23≤k:=by omega
 simp [Instr.index,run_underlying Tryz.underlying132,asIntOf,go_sem,h',h2,List.getD_eq_getElem?_getD]
theorem rnk_cell {W:World} (h:Ops W) (k:Nat) (hk:k<23):W.cell? ⟨1,k,none⟩=some (.int .i64 (rnkT.getD k 0)):=by
 obtain ⟨t,fr,e⟩:=h.b1
 have h':k<rnkT.length:=hk
 simp [World.cell?,e,List.getD_eq_getElem?_getD,List.getElem?_eq_getElem h']
theorem Ops.drewN {W:World} (h:Ops W) (q:Nat):Ops (W.drewN q):=⟨h.b0,h.b1⟩
theorem Ops.drew {W:World} (h:Ops W):Ops W.drew:=⟨h.b0,h.b1⟩
theorem St.drew {c:Ctx} {W:World} {a:Nat} {d fp fe:Int} (h:St c W a d fp fe):St c W.drew a d fp fe:=⟨h.blk,fun i hi=>h.lies i hi,fun i hi=>h.toks i hi⟩
theorem RepE.fin {lo g2:Nat} {X:World} {x:Ex} {v:List Value} (h:RepE (fun b=>lo+1≤b∧b≠g2) X x v) (u0 u1 u2 u3 u4:Value) :
  RepE (fun b=>lo≤b) (((((X.setCell ⟨lo,0,none⟩ u0).setCell ⟨lo,1,none⟩ u1).setCell ⟨lo,2,none⟩ u2).setCell ⟨lo,3,none⟩ u3).setCell ⟨lo,4,none⟩ u4) x v :=
 RepE.keep (P:=fun b=>lo+1≤b∧b≠g2) (fun _ hb=>Nat.le_of_succ_le hb.1) (fun b hb hk=>(far5 (lo:=lo+1) X (Nat.lt_succ_self _) u0 u1 u2 u3 u4).block b hb.1 hk) x v h
theorem RepE.drewN {P:Nat→Prop} {X:World} {x:Ex} {v:List Value} (h:RepE P X x v) (q:Nat):RepE P (X.drewN q) x v:=RepE.keep (W:=X) (W':=X.drewN q) (fun _ hb=>hb) (fun b _ _=>(rfl:(X.drewN q).heap[b]?=X.heap[b]?)) _ _ h
theorem RepE.drew {P:Nat→Prop} {X:World} {x:Ex} {v:List Value} (h:RepE P X x v):RepE P X.drew x v:=RepE.keep (W:=X) (W':=X.drew) (fun _ hb=>hb) (fun b _ _=>(rfl:X.drew.heap[b]?=X.heap[b]?)) _ _ h
theorem opAt0 (rank:Int):∀n,opAt rank 0 n=0
 | 0=>rfl
 | n+1=>by rw [opAt,if_neg (fun h=>h.1 h.2.1)];exact opAt0 rank n
structure LeftAt (c:Ctx) (W:World) (next:Rd Ex) (rank:Int) (once:Bool) (g2 a0:Nat) (S:Out Ex) (fp fe:Int) (f:Nat) (X:World):Prop where
 ex:∃e a d op num nm A n cap pos,Tw c W X g2 93 Z93 (E93 op num nm A n cap pos) a d fp fe∧RepE (fun b=>W.heap.size+1≤b∧b≠g2) X e (eC op num nm A n cap pos)∧lL c next rank once f e a d=S ∧
  a0≤a∧a≤c.L.length∧0≤d∧d≤64∧c.L.length+1≤f+a
structure LeftMid (c:Ctx) (W:World) (next:Rd Ex) (g2 a:Nat) (d:Int) (e:Ex) (o pos:Int) (fp fe:Int) (X:World):Prop where
 ex:∃e2 a2 d2 A n cap,next (a+1) d=.ok e2 a2 d2∧Tw c W X g2 93 Z93 (E93 o 0 nN A n cap pos) a2 d2 fp fe∧RepE (fun b=>W.heap.size+1≤b∧b≠g2) X (.mk o 0 nN [e,e2] pos) (eC o 0 nN A n cap pos)
theorem left_pair {c:Ctx} {W X:World} {g2:Nat} {a:Nat} {d fp fe:Int} {v:Array Value} {e e2:Ex} {op num:Int} {nm:ByteArray} {A:Option Addr} {n cap:Nat} {pos:Int} {op2 num2:Int} {nm2:ByteArray} {A2:Option Addr} {n2 cap2:Nat} {pos2:Int}
  (hT:Tw c W X g2 93 Z93 v a d fp fe) (h1:RepE (fun b=>W.heap.size+1≤b∧b≠g2) X e (eC op num nm A n cap pos)) (h2:RepE (fun b=>W.heap.size+1≤b∧b≠g2) X e2 (eC op2 num2 nm2 A2 n2 cap2 pos2)) (o p:Int) :
  RepE (fun b=>W.heap.size+1≤b∧b≠g2) (X.alloc (.cells #[.int .i64 op,.int .i64 num,.string nm,.slice A n cap,.int .i64 pos,.int .i64 op2,.int .i64 num2,.string nm2,.slice A2 n2 cap2,.int .i64 pos2] 93)) (.mk o 0 nN [e,e2] p) (eC o 0 nN (some ⟨X.heap.size,0,none⟩) 2 2 p) :=
 repE_two h1 h2 ⟨by have:=bL hT.rb;omega,by have:=bL hT.vb;omega⟩ _ rfl o 0 nN p
theorem apart5 {lo g2:Nat} {X:World} {x:Ex} {v:List Value} (h:RepE (fun b=>lo≤b∧b≠g2) X x v) (u0 u1 u2 u3 u4:Value) :
  RepE (fun b=>lo≤b∧b≠g2) (((((X.setCell ⟨g2,0,none⟩ u0).setCell ⟨g2,1,none⟩ u1).setCell ⟨g2,2,none⟩ u2).setCell ⟨g2,3,none⟩ u3).setCell ⟨g2,4,none⟩ u4) x v :=
 h.keep (fun _ hb=>hb) fun b hb _=>(Below.heap_setCell _ _ _ b hb.2).trans ((Below.heap_setCell _ _ _ b hb.2).trans ((Below.heap_setCell _ _ _ b hb.2).trans ((Below.heap_setCell _ _ _ b hb.2).trans (Below.heap_setCell _ _ _ b hb.2))))
set_option maxHeartbeats 8000000 in
theorem left_reads {c:Ctx} (hG:Good c) (hg1:1<c.g) {K:Nat} (eK:∀args w,(callFunc K args).run Tryz.prog w=.ok (.enter K args) w) {next:Rd Ex} {a0:Nat} (hF:Fine c next a0) (hR:Reads c K next a0) (rank:Int) (once:Bool)
  (W:World) (a:Nat) (d fp fe:Int) (h:St c W a d fp fe) (hO:Ops W) (ha:a0≤a) (hl:a≤c.L.length) (h0:0≤d) (h1:d≤64) :
  Calls Tryz.prog 52 #[c.me,.int .i64 rank,.func (.func K) #[c.me] #[],.bool once] W (Post c W fp fe (repE W.heap.size) (leftS c next rank once a d)):=by
 have hT0:=One.lit h 93 Z93
 have hS0:=hT0.st hG h
 have hO0:Ops (W.alloc (.cells Z93 93)):=hO.grown hT0.fr hg1
 have CN:=hR _ a d fp fe hS0 hO0 ha hl h0 h1
 have hlo:(W.alloc (.cells Z93 93)).heap.size=W.heap.size+1:=by simp
 rw [hlo] at CN
 obtain ⟨S,hSp⟩:∃S,A0 (leftS c next rank once a d=S):=⟨_,⟨rfl⟩⟩
 rw [hSp.out]
 have hR:=A0.mk hR
 have hF:=A0.mk hF
 clear hlo hO0
 go_enter Tryz.func52,Tryz.ntmps52
 go_upto_block 0 with (first|(go_at_fn K;(with_reducible refine CN.mono ?_);rintro e w hP;rcases hP.elim with ⟨x,a1,d1,ho,hg,⟨v,rfl,op,num,nm,A,n,cap,pos,rfl,hE⟩,hS⟩|⟨p,er,ho,hg,rfl,a',d',hS⟩))
 case inr =>
  rw [show S=.bad p er by rw [←hSp.out];simp only [leftS,Out.bind,ho]]
  exact ⟨rfl,Post.mk_bad (Q4 hT0.fr hg) hS⟩
 obtain ⟨q1,q2,rfl⟩:=hF.out _ _ ha h0 h1 _ _ _ ho
 have hT:=Tw.ofOne (hT0.call h hg hS) (E93 op num nm A n cap pos)
 have hE1:RepE (fun b=>W.heap.size+1≤b∧b≠w.heap.size) (w.alloc (.cells (E93 op num nm A n cap pos) 93)) x (eC op num nm A n cap pos) :=
  (RepE.lt _ _ hE).keep (fun b hb=>⟨hb.1,fun e=>by have:=hb.2;omega⟩) fun b _ hk=>_root_.Go.heap_alloc_old w _ hk
 have hS2:lL c next rank once (c.L.length+1 - a1) x a1 d1=S:=by rw [←hSp.out];simp only [leftS,Out.bind,ho]
 obtain ⟨g2,hg2⟩:∃g2,g2=w.heap.size:=⟨_,rfl⟩
 rw [←hg2] at hT hE1 ⊢
 have hA:LeftAt c W next rank once g2 a0 S fp fe (c.L.length+1 - a1) (w.alloc (.cells (E93 op num nm A n cap pos) 93)) :=
  ⟨_,_,_,_,_,_,_,_,_,_,hT,hE1,hS2,by omega,q2,h0,h1,by omega⟩
 generalize c.L.length+1 - a1=F at hA
 generalize w.alloc (.cells #[.int .i64 op,.int .i64 num,.string nm,.slice A n cap,.int .i64 pos] 93)=X at hA ⊢
 clear hS2 hE1 hT q1 q2 hg2 hS hE hg ho hP CN hT0 hS0
 have hO:=A0.mk hO
 have hG:=A0.mk hG
 have h:=A0.mk h
 have hA:=A0.mk hA
 have hsz:(Tryz.prog.info? 132).map (·.size)=some (binT.map (Value.int .i64)).toArray.size:=by kernel_rfl
 go_wp2
 go_loopg [] F (fun f X=>LeftAt c W next rank once g2 a0 S fp fe f X)
 case atStart=>exact hA.out
 case round =>
  obtain ⟨e,a,d,op,num,nm,A,n,cap,pos,hT,hE,hLp,b1,b2,b3,b4,b5⟩:=hrel.ex
  clear hA
  have hO2:=hO.out.grown hT.fr hg1
  have hS:=hT.st hG.out h.out
  obtain ⟨f,rfl⟩:∃f,gk=f+1:=⟨gk - 1,by omega⟩
  have KD:=fun q=>kC (hS.drewN q)
  have RK:=fun q k hk=>rnk_cell (hO2.drewN q) k hk
  obtain ⟨t0,f0,e0⟩:=hO2.b0
  obtain ⟨kk,hkk⟩:∃kk,A0 (kk=kd c a):=⟨_,⟨rfl⟩⟩
  rw [←hkk.out] at KD
  go_wp2_with (refine wpList_load_row rfl 132 _ rfl 0 rfl t0 _ f0 _ e0 Tryz.underlying132 rfl hsz ?_)
  obtain ⟨wo,rfl⟩:∃wo:World,wo=wr:=⟨_,rfl⟩
  clear hrel
  go_loopw [10,17] (fun o x W2=>∃k q:Nat,k≤23∧x=.int .i64 k∧o=.int .i64 (opAt rank kk k)∧W2=wo.drewN q) (fun _ x _=>23 - (intOf x).toNat)
  case atStart=>exact ⟨0,0,by omega,rfl,rfl,rfl⟩
  case round =>
   obtain ⟨k,q,hk,rfl,rfl,rfl⟩:=hrel
   by_cases h23:k<23
   ·have hix:=bin_get k h23
    have hlt:(k:Int)<23:=by omega
    have rk:=fun q=>RK q k h23
    have KD1:=KD q
    have hst:opAt rank kk (k+1)=if binT.getD k 0≠0∧binT.getD k 0=kk∧rnkT.getD k 0=rank then (k:Int) else opAt rank kk k:=rfl
    have hst:=A0.mk hst
    clear RK KD
    generalize binT.getD k 0=bk at hix hst
    generalize rnkT.getD k 0=rr at rk hst
    by_cases c1:bk=0
    ·rw [if_neg (fun h=>h.1 c1)] at hst
     have c1b:(bk != 0)=false:=by simp [c1]
     clear c1
     go_wp2
     go_roundw
     case rel=>exact ⟨k+1,q,by omega,by go_num,by rw [hst.out],rfl⟩
     case measure=>simp [intOf];omega
    ·have c1b:(bk != 0)=true:=bne_iff_ne.mpr c1
     by_cases c2:bk=kk
     ·by_cases c3:rr=rank
      ·rw [if_pos ⟨c1,c2,c3⟩] at hst
       have c2b:(bk==kk)=true:=beq_iff_eq.mpr c2
       have c3b:(rr==rank)=true:=beq_iff_eq.mpr c3
       clear c1 c2 c3
       go_wp2_with (first|(go_at_call 55;(with_reducible refine KD1.mono ?_);rintro e w' ⟨rfl,q2,rfl⟩;have rk1:=rk (q+q2)))
       go_roundw
       case rel=>exact ⟨k+1,_,by omega,by go_num,by rw [hst.out],(by first | rfl | exact World.drewN_drewN _ _ _)⟩
       case measure=>simp [intOf];omega
      ·rw [if_neg (fun h=>c3 h.2.2)] at hst
       have c2b:(bk==kk)=true:=beq_iff_eq.mpr c2
       have c3b:(rr==rank)=false:=beq_eq_false_iff_ne.mpr c3
       clear c1 c2 c3
       go_wp2_with (first|(go_at_call 55;(with_reducible refine KD1.mono ?_);rintro e w' ⟨rfl,q2,rfl⟩;have rk1:=rk (q+q2)))
       go_roundw
       case rel=>exact ⟨k+1,_,by omega,by go_num,by rw [hst.out],(by first | rfl | exact World.drewN_drewN _ _ _)⟩
       case measure=>simp [intOf];omega
     ·rw [if_neg (fun h=>c2 h.2.1)] at hst
      have c2b:(bk==kk)=false:=beq_eq_false_iff_ne.mpr c2
      clear c1 c2
      go_wp2_with (first|(go_at_call 55;(with_reducible refine KD1.mono ?_);rintro e w' ⟨rfl,q2,rfl⟩))
      go_roundw
      case rel=>exact ⟨k+1,_,by omega,by go_num,by rw [hst.out],(by first | rfl | exact World.drewN_drewN _ _ _)⟩
      case measure=>simp [intOf];omega
   ·obtain rfl:k=23:=by omega
    clear KD RK hk h23
    have hLp:=A0.mk hLp
    obtain ⟨o,hoo⟩:∃o,o=opAt rank kk 23:=⟨_,rfl⟩
    have hoc:opOf rank (kd c a)=o:=by rw [hoo,hkk.out];rfl
    rw [←hoo]
    have hoc:=A0.mk hoc
    clear hoo hkk
    have hTq:=hT.drewN q
    by_cases ho0:o=0
    ·have hSv:A0 (S=.ok e a d):=⟨by rw [←hLp.out,lL,if_pos (hoc.out.trans ho0)]⟩
     subst ho0
     have z0:(wo.drewN q).cell? ⟨g2,0,none⟩=some (.int .i64 op):=hTq.vc 0 rfl;have y0:=hTq.vf 0
     have z1:(wo.drewN q).cell? ⟨g2,1,none⟩=some (.int .i64 num):=hTq.vc 1 rfl;have y1:=hTq.vf 1
     have z2:(wo.drewN q).cell? ⟨g2,2,none⟩=some (.string nm):=hTq.vc 2 rfl;have y2:=hTq.vf 2
     have z3:(wo.drewN q).cell? ⟨g2,3,none⟩=some (.slice A n cap):=hTq.vc 3 rfl;have y3:=hTq.vf 3
     have z4:(wo.drewN q).cell? ⟨g2,4,none⟩=some (.int .i64 pos):=hTq.vc 4 rfl;have y4:=hTq.vf 4
     have r0:(wo.drewN q).cell? ⟨W.heap.size,0,none⟩=some (.int .i64 0):=hTq.rc 0 rfl;have x0:=hTq.rf 0
     have r1:(wo.drewN q).cell? ⟨W.heap.size,1,none⟩=some (.int .i64 0):=hTq.rc 1 rfl;have x1:=hTq.rf 1
     have r2:(wo.drewN q).cell? ⟨W.heap.size,2,none⟩=some (.string ⟨#[]⟩):=hTq.rc 2 rfl;have x2:=hTq.rf 2
     have r3:(wo.drewN q).cell? ⟨W.heap.size,3,none⟩=some (.slice none 0 0):=hTq.rc 3 rfl;have x3:=hTq.rf 3
     have r4:(wo.drewN q).cell? ⟨W.heap.size,4,none⟩=some (.int .i64 0):=hTq.rc 4 rfl;have x4:=hTq.rf 4
     go_wp2
     have hTR:=Tw.all5 h.out (.int .i64 op) (.int .i64 num) (.string nm) (.slice A n cap) (.int .i64 pos) hTq
     rw [hSv.out]
     exact bodyPost_ret (res_c rfl _ _ W.heap.size 93 _ (0,0) _ rfl hTR.rb Tryz.underlying93 rfl (by kernel_rfl)) rfl (Post.mk_ok (rep:=repE W.heap.size) hTR.fr ⟨op,num,nm,A,n,cap,pos,rfl,(hE.drewN q).fin _ _ _ _ _⟩ (hTR.st hG.out h.out))
    ·have ob:(o==0)=false:=beq_eq_false_iff_ne.mpr ho0
     have hal:a<c.L.length:=by
      rcases Nat.lt_or_ge a c.L.length with h | h
      ·exact h
      ·exact absurd (hoc.out.symm.trans (by rw [kd_end h];exact opAt0 rank 23)) ho0
     have wa:IntKind.i64.wrap ((a:Int)+1)=(a:Int)+1:=IntWalk.i64_in _ (by have:=hG.out.hl;omega)
     have PS:=qC (hS.drewN q)
     have s2:=fun q2=>(hS.drewN (q+q2)).c2
     have f2:=fun q2=>(hS.drewN (q+q2)).fz 2
     go_upto_region 13 with (first|(go_at_call 56;(with_reducible refine PS.mono ?_);rintro e w' ⟨rfl,q2,rfl⟩;have s2:=s2 q2;have f2:=f2 q2))
     have hTa:=(hT.drewN (q+q2)).at hG.out h.out
     have hEa:RepE (fun b=>W.heap.size+1≤b∧b≠g2) ((wo.drewN (q+q2)).setCell ⟨c.g,2,none⟩ (.int .i64 ((a:Int)+1))) e (eC op num nm A n cap pos) :=
      RepE.keep (fun _ hb=>hb) (fun b hb _=>Below.heap_setCell _ _ _ b (by have:=bL h.out.blk;have:=hb.1;dsimp only;omega)) _ _ (hE.drewN (q+q2))
     generalize (wo.drewN (q+q2)).setCell ⟨c.g,2,none⟩ (.int .i64 ((a:Int)+1))=Y at hTa hEa ⊢
     clear s2 f2 PS wa hTq hT hE hO2 hS e0
     have hSv:A0 (((next (a+1) d).bind fun e2 a2 d2=>if once then .ok (.mk o 0 nN [e,e2] (ps c a)) a2 d2 else lL c next rank once f (.mk o 0 nN [e,e2] (ps c a)) a2 d2)=S):=⟨by rw [←hLp.out,lL,if_neg (by rw [hoc.out];exact ho0),hoc.out]⟩
     have hSa:=hTa.st hG.out h.out
     have hOa:=hO.out.grown hTa.fr hg1
     have CN:=hR.out _ (a+1) d fp fe hSa.drew hOa.drew (by omega) (by omega) b3 b4
     have hTd:=hTa.drew
     have hEd:=hEa.drew
     have hE1:=A0.mk hEd
     clear hEd hEa
     have z0:Y.cell? ⟨g2,0,none⟩=some (.int .i64 op):=hTa.vc 0 rfl;have y0:=hTa.vf 0;have z1:Y.cell? ⟨g2,1,none⟩=some (.int .i64 num):=hTa.vc 1 rfl;have y1:=hTa.vf 1;have z2:Y.cell? ⟨g2,2,none⟩=some (.string nm):=hTa.vc 2 rfl;have y2:=hTa.vf 2;have z3:Y.cell? ⟨g2,3,none⟩=some (.slice A n cap):=hTa.vc 3 rfl;have y3:=hTa.vf 3;have z4:Y.cell? ⟨g2,4,none⟩=some (.int .i64 pos):=hTa.vc 4 rfl;have y4:=hTa.vf 4
     have v0:Y.drew.cell? ⟨g2,0,none⟩=some (.int .i64 op):=hTd.vc 0 rfl;have u0:=hTd.vf 0;have v1:Y.drew.cell? ⟨g2,1,none⟩=some (.int .i64 num):=hTd.vc 1 rfl;have u1:=hTd.vf 1;have v2:Y.drew.cell? ⟨g2,2,none⟩=some (.string nm):=hTd.vc 2 rfl;have u2:=hTd.vf 2;have v3:Y.drew.cell? ⟨g2,3,none⟩=some (.slice A n cap):=hTd.vc 3 rfl;have u3:=hTd.vf 3;have v4:Y.drew.cell? ⟨g2,4,none⟩=some (.int .i64 pos):=hTd.vc 4 rfl;have u4:=hTd.vf 4
     go_cut [] from 50 to 56 (fun X=>LeftMid c W next g2 a d e o (ps c a) fp fe X)
     case first =>
      go_region_with (first|(go_at_fn K;(with_reducible refine CN.mono ?_);rintro e1 w1 hP;rcases hP.elim with ⟨e2,a2,d2,ho2,hg2,⟨v2,rfl,op2,num2,nm2,A2,n2,cap2,pos2,rfl,hE2⟩,hS2⟩|⟨p,er,ho2,hg2,rfl,a',d',hS2⟩;rotate_left 1;(exact ⟨rfl,by rw [show S=.bad p er by rw [←hSv.out];simp only [Out.bind,ho2]];exact Post.mk_bad (Q4 hTd.fr hg2) hS2⟩);(have hTc:=hTd.call h.out hg2 hS2;have t0:w1.cell? ⟨g2,0,none⟩=some (.int .i64 op):=hTc.vc 0 rfl;have t1:w1.cell? ⟨g2,1,none⟩=some (.int .i64 num):=hTc.vc 1 rfl;have t2:w1.cell? ⟨g2,2,none⟩=some (.string nm):=hTc.vc 2 rfl;have t3:w1.cell? ⟨g2,3,none⟩=some (.slice A n cap):=hTc.vc 3 rfl;have t4:w1.cell? ⟨g2,4,none⟩=some (.int .i64 pos):=hTc.vc 4 rfl;have p0:∀o,(w1.alloc o).cell? ⟨g2,0,none⟩=some (.int .i64 op):=fun o=>(hTc.alloc o).vc 0 rfl;have f0:∀o,(w1.alloc o).frozen? ⟨g2,0,none⟩=false:=fun o=>(hTc.alloc o).vf 0;have p1:∀o,(w1.alloc o).cell? ⟨g2,1,none⟩=some (.int .i64 num):=fun o=>(hTc.alloc o).vc 1 rfl;have f1:∀o,(w1.alloc o).frozen? ⟨g2,1,none⟩=false:=fun o=>(hTc.alloc o).vf 1;have p2:∀o,(w1.alloc o).cell? ⟨g2,2,none⟩=some (.string nm):=fun o=>(hTc.alloc o).vc 2 rfl;have f2:∀o,(w1.alloc o).frozen? ⟨g2,2,none⟩=false:=fun o=>(hTc.alloc o).vf 2;have p3:∀o,(w1.alloc o).cell? ⟨g2,3,none⟩=some (.slice A n cap):=fun o=>(hTc.alloc o).vc 3 rfl;have f3:∀o,(w1.alloc o).frozen? ⟨g2,3,none⟩=false:=fun o=>(hTc.alloc o).vf 3;have p4:∀o,(w1.alloc o).cell? ⟨g2,4,none⟩=some (.int .i64 pos):=fun o=>(hTc.alloc o).vc 4 rfl;have f4:∀o,(w1.alloc o).frozen? ⟨g2,4,none⟩=false:=fun o=>(hTc.alloc o).vf 4)))
      all_goals (
       go_wp2
       go_meet
       have hl2:=bL h.out.blk
       have hgl:=hTd.lt
       have hgs:=bL hTd.vb
       have hE3:=hE1.out.apart hg2 (by omega)
       have hE4:RepE (fun b=>W.heap.size+1≤b∧b≠g2) w1 e2 (eC op2 num2 nm2 A2 n2 cap2 pos2):=RepE.keep (fun b hb=>⟨by omega,by omega⟩) (fun _ _ _=>rfl) _ _ hE2
       exact ⟨_,_,_,_,_,_,ho2,Tw.var5 h.out (.int .i64 o) (.int .i64 0) (.string nN) (.slice (some ⟨w1.heap.size,0,none⟩) 2 2) (.int .i64 (ps c a)) (hTc.alloc _),apart5 (left_pair hTc hE3 hE4 o (ps c a)) _ _ _ _ _⟩)
     case rest =>
      obtain ⟨e2,a2,d2,A2,n2,cap2,hn,hTb,hEb⟩:=hcut.ex
      obtain ⟨p1,p2,rfl⟩:=hF.out _ _ (by omega) b3 b4 _ _ _ hn
      have hSw:A0 ((if once then .ok (.mk o 0 nN [e,e2] (ps c a)) a2 d2 else lL c next rank once f (.mk o 0 nN [e,e2] (ps c a)) a2 d2)=S):=⟨by rw [←hSv.out,hn];rfl⟩
      have hEb:=A0.mk hEb
      clear hn hcut CN hSv hLp hoc hTa hSa hOa
      cases once with
      | true =>
       have z0:wc.cell? ⟨g2,0,none⟩=some (.int .i64 o):=hTb.vc 0 rfl;have y0:=hTb.vf 0
       have z1:wc.cell? ⟨g2,1,none⟩=some (.int .i64 0):=hTb.vc 1 rfl;have y1:=hTb.vf 1
       have z2:wc.cell? ⟨g2,2,none⟩=some (.string nN):=hTb.vc 2 rfl;have y2:=hTb.vf 2
       have z3:wc.cell? ⟨g2,3,none⟩=some (.slice A2 n2 cap2):=hTb.vc 3 rfl;have y3:=hTb.vf 3
       have z4:wc.cell? ⟨g2,4,none⟩=some (.int .i64 (ps c a)):=hTb.vc 4 rfl;have y4:=hTb.vf 4
       have r0:wc.cell? ⟨W.heap.size,0,none⟩=some (.int .i64 0):=hTb.rc 0 rfl;have x0:=hTb.rf 0
       have r1:wc.cell? ⟨W.heap.size,1,none⟩=some (.int .i64 0):=hTb.rc 1 rfl;have x1:=hTb.rf 1
       have r2:wc.cell? ⟨W.heap.size,2,none⟩=some (.string ⟨#[]⟩):=hTb.rc 2 rfl;have x2:=hTb.rf 2
       have r3:wc.cell? ⟨W.heap.size,3,none⟩=some (.slice none 0 0):=hTb.rc 3 rfl;have x3:=hTb.rf 3
       have r4:wc.cell? ⟨W.heap.size,4,none⟩=some (.int .i64 0):=hTb.rc 4 rfl;have x4:=hTb.rf 4
       go_wp2
       have hTR:=Tw.all5 h.out (.int .i64 o) (.int .i64 0) (.string nN) (.slice A2 n2 cap2) (.int .i64 (ps c a)) hTb
       rw [←hSw.out]
       exact bodyPost_ret (res_c rfl _ _ W.heap.size 93 _ (0,0) _ rfl hTR.rb Tryz.underlying93 rfl (by kernel_rfl)) rfl (Post.mk_ok (rep:=repE W.heap.size) hTR.fr ⟨_,_,_,_,_,_,_,rfl,hEb.out.fin _ _ _ _ _⟩ (hTR.st hG.out h.out))
      | false =>
       go_wp2
       go_roundg f
       case rel=>exact ⟨_,_,_,_,_,_,_,_,_,_,hTb,hEb.out,hSw.out,by omega,p2,b3,b4,by omega⟩
       case measure=>omega
end Go.Proofs.YtgaoapnaplgaiaaGreatDoor.Sc
