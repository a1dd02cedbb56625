/- This claim's own texts, joined, with only what the claim uses: ParJ, ParK. -/
import Derived.Test.YtgaoapnaplgaiaaGreatDoorZs11
import Derived.Deep.LoopGhost
namespace Go.Proofs.YtgaoapnaplgaiaaGreatDoor.Sc
set_option maxRecDepth 100000
open Go.RowKit Tk Go.Proofs.YtgaoapnaplgaiaaGreatDoor.Wd
def binT:List Int:=[0,0,0,0,0,35,37,34,39,30,0,0,0,0,45,29,42,43,46,47,31,51,0]
def rnkT:List Int:=[0,7,7,7,6,4,4,5,5,5,7,7,7,7,3,3,3,3,3,3,2,1,6]
def opAt (rank k:Int):Nat→Int
 | 0=>0
 | n+1=>if binT.getD n 0≠0∧binT.getD n 0=k∧rnkT.getD n 0=rank then (n:Int) else opAt rank k n
def opOf (rank k:Int):Int:=opAt rank k 23
abbrev Rd (α:Type):=Nat→Int→Out α
abbrev nN:ByteArray:=⟨#[]⟩
def lL (c:Ctx) (next:Rd Ex) (rank:Int) (once:Bool):Nat→Ex→Nat→Int→Out Ex
 | 0,_,_,_=>.bad 0 0
 | f+1,e,a,d=>if opOf rank (kd c a)=0 then .ok e a d else
  (next (a+1) d).bind fun e2 a2 d2=>if once then .ok (.mk (opOf rank (kd c a)) 0 nN [e,e2] (ps c a)) a2 d2 else lL c next rank once f (.mk (opOf rank (kd c a)) 0 nN [e,e2] (ps c a)) a2 d2
def leftS (c:Ctx) (next:Rd Ex) (rank:Int) (once:Bool) (a:Nat) (d:Int):Out Ex:=(next a d).bind fun e a1 d1=>lL c next rank once (c.L.length+1 - a1) e a1 d1
def exprOf (c:Ctx) (un:Rd Ex):Rd Ex:=leftS c (leftS c (leftS c (leftS c (leftS c un 5 false) 4 false) 3 true) 2 false) 1 false
def paS (c:Ctx) (ex:Rd Ex) (a:Nat) (d:Int):Out Ex:=(wS c 32 a d).bind fun _ a1 d1=>(ex a1 d1).bind fun e a2 d2=>(wS c 33 a2 d2).bind fun _ a3 d3=>.ok e a3 d3
def argsS (c:Ctx) (ex:Rd Ex):Nat→Nat→List Ex→Nat→Int→Out (List Ex)
 | 0,_,l,a,d=>.ok l a d
 | n+1,i,l,a,d=>(if i=0 then .ok () a d else (wS c 36 a d).bind fun _ a1 d1=>.ok () a1 d1:Out Unit).bind fun _ a1 d1=>(ex a1 d1).bind fun e a2 d2=>argsS c ex n (i+1) (l++[e]) a2 d2
def callS (c:Ctx) (ex:Rd Ex) (op:Int) (n:Nat) (a:Nat) (d:Int):Out Ex:=(wS c 32 (a+1) d).bind fun _ a1 d1=>(argsS c ex n 0 [] a1 d1).bind fun l a2 d2=>(wS c 33 a2 d2).bind fun _ a3 d3=>.ok (.mk op 0 nN l (ps c a)) a3 d3
def nmS (c:Ctx) (ex:Rd Ex) (a:Nat) (d:Int):Out Ex:=(nS c a d).bind fun s a1 d1=>(takeS c 48 a1 d1).bind fun b a2 d2 =>
 if b then (ex a2 d2).bind fun e a3 d3=>(wS c 49 a3 d3).bind fun _ a4 d4=>.ok (.mk 3 0 s [e] (ps c a)) a4 d4 else .ok (.mk 2 0 s [] (ps c a)) a2 d2
def primaryS (c:Ctx) (ex:Rd Ex) (a:Nat) (d:Int):Out Ex :=
 if kd c a=2 then (wS c 2 a d).bind fun t a1 d1=>.ok (.mk 1 t.2.2.2 nN [] (ps c a)) a1 d1
 else if kd c a=1 then nmS c ex a d
 else if kd c a=20 then callS c ex 10 2 a d
 else if kd c a=19 then callS c ex 11 2 a d
 else if kd c a=3 then callS c ex 12 1 a d
 else if kd c a=7 then callS c ex 13 3 a d
 else paS c ex a d
def negS (c:Ctx) (un:Rd Ex) (op:Int) (a:Nat) (d:Int):Out Ex:=(deeperS c a d).bind fun _ a1 d1=>(un (a1+1) d1).bind fun e a2 d2=>.ok (.mk op 0 nN [e] (ps c a)) a2 (d2 - 1)
def unaryS (c:Ctx):Nat→Nat→Int→Out Ex
 | 0,_,_=>.bad 0 0
 | f+1,a,d=>if kd c a=37 then negS c (unaryS c f) 4 a d else if kd c a=28 then negS c (unaryS c f) 22 a d else primaryS c (exprOf c (unaryS c f)) a d
def Fine {α:Type} (c:Ctx) (S:Rd α) (a0:Nat):Prop:=∀a d,a0≤a→0≤d→d≤64→∀x a' d',S a d=.ok x a' d'→a<a'∧a'≤c.L.length∧d'=d
theorem bO {α β:Type} {o:Out α} {f:α→Nat→Int→Out β} {y:β} {a:Nat} {d:Int} (h:o.bind f=.ok y a d):∃x a1 d1,o=.ok x a1 d1∧f x a1 d1=.ok y a d:=by
 cases o with
 | ok x a1 d1=>exact ⟨x,a1,d1,rfl,h⟩
 | bad p er=>cases h
theorem want_ok {c:Ctx} {k:Int} (hk:1≤k) {a a':Nat} {d d':Int} {t:Tok} (h:wS c k a d=.ok t a' d'):kd c a=k∧a'=a+1∧a'≤c.L.length∧t=c.L.getD a zTok ∧
  d'=(if k=32∨k=48∨k=50 then d+1 else if k=33∨k=49∨k=52 then d - 1 else d)∧(k=32∨k=48∨k=50→d≠64):=by
 unfold wS at h
 split at h
 ·rename_i hk0
  have:=kd_lt hk0 hk
  split at h
  ·rename_i ho
   split at h
   ·cases h
   ·cases h
    exact ⟨hk0,rfl,this,rfl,by rw [if_pos ho],fun _=>by assumption⟩
  ·rename_i ho
   split at h
   ·rename_i hc
    cases h
    exact ⟨hk0,rfl,this,rfl,by rw [if_neg ho,if_pos hc],fun h=>absurd h ho⟩
   ·rename_i hc
    cases h
    exact ⟨hk0,rfl,this,rfl,by rw [if_neg ho,if_neg hc],fun h=>absurd h ho⟩
 ·cases h
theorem leftLoop_fine {c:Ctx} {next:Rd Ex} {rank:Int} {once:Bool} {a0:Nat} (hn:Fine c next a0):∀(f:Nat) (e:Ex) (a:Nat) (d:Int),a0≤a→a≤c.L.length→0≤d→d≤64→∀x a' d',lL c next rank once f e a d=.ok x a' d'→a≤a'∧a'≤c.L.length∧d'=d
 | 0,e,a,d,_,_,_,_,x,a',d',h=>by cases h
 | f+1,e,a,d,ha,hl,h0,h1,x,a',d',h=>by
  rw [lL] at h
  split at h
  ·cases h;exact ⟨Nat.le_refl _,hl,rfl⟩
  ·have hb:=bO h;clear h;obtain ⟨e2,a2,d2,h2,h⟩:=hb
   obtain ⟨q1,q2,rfl⟩:=hn _ _ (by omega) h0 h1 _ _ _ h2
   split at h
   ·cases h;exact ⟨by omega,q2,rfl⟩
   ·obtain ⟨p1,p2,p3⟩:=leftLoop_fine hn f _ a2 d2 (by omega) q2 h0 h1 _ _ _ h
    exact ⟨by omega,p2,p3⟩
theorem lF {c:Ctx} {next:Rd Ex} {rank:Int} {once:Bool} {a0:Nat} (hn:Fine c next a0):Fine c (leftS c next rank once) a0:=by
 intro a d ha h0 h1 x a' d' h
 have hb:=bO h;clear h;obtain ⟨e,a1,d1,h2,h⟩:=hb
 obtain ⟨q1,q2,rfl⟩:=hn _ _ ha h0 h1 _ _ _ h2
 obtain ⟨p1,p2,p3⟩:=leftLoop_fine hn _ _ _ _ (by omega) q2 h0 h1 _ _ _ h
 exact ⟨by omega,p2,p3⟩
theorem exprOf_fine {c:Ctx} {un:Rd Ex} {a0:Nat} (hn:Fine c un a0):Fine c (exprOf c un) a0:=lF (lF (lF (lF (lF hn))))
theorem parensS_fine {c:Ctx} {ex:Rd Ex} {a0:Nat} (hn:Fine c ex (a0+1)):Fine c (paS c ex) a0:=by
 intro a d ha h0 h1 x a' d' h
 have hb:=bO h;clear h;obtain ⟨_,a1,d1,h2,h⟩:=hb
 obtain ⟨_,rfl,_,_,hd,hne⟩:=want_ok (by omega) h2
 rw [if_pos (by omega)] at hd
 have hne:=hne (by omega)
 subst hd
 have hb:=bO h;clear h;obtain ⟨e,a2,d2,h3,h⟩:=hb
 obtain ⟨q1,q2,rfl⟩:=hn _ _ (by omega) (by omega) (by omega) _ _ _ h3
 have hb:=bO h;clear h;obtain ⟨_,a3,d3,h4,h⟩:=hb
 obtain ⟨_,rfl,hl,_,hd,_⟩:=want_ok (by omega) h4
 rw [if_neg (by omega),if_pos (by omega)] at hd
 cases h
 exact ⟨by omega,hl,by omega⟩
theorem argsS_fine {c:Ctx} {ex:Rd Ex} {a0:Nat} (hn:Fine c ex a0):∀(n i:Nat) (l:List Ex) (a:Nat) (d:Int),a0≤a→a≤c.L.length→0≤d→d≤64→∀x a' d',argsS c ex n i l a d=.ok x a' d'→a≤a'∧a'≤c.L.length∧d'=d
 | 0,i,l,a,d,_,_,_,_,x,a',d',h=>by cases h;exact ⟨Nat.le_refl _,by assumption,rfl⟩
 | n+1,i,l,a,d,ha,hl,h0,h1,x,a',d',h=>by
  rw [argsS] at h
  have hb:=bO h;clear h;obtain ⟨_,a1,d1,h2,h⟩:=hb
  have hq:a≤a1∧d1=d:=by
   split at h2
   ·cases h2;exact ⟨Nat.le_refl _,rfl⟩
   ·obtain ⟨_,a3,d3,h4,h5⟩:=bO h2
    obtain ⟨_,rfl,_,_,hd,_⟩:=want_ok (by omega) h4
    cases h5
    exact ⟨by omega,by rw [hd];simp⟩
  obtain ⟨q1,rfl⟩:=hq
  have hb:=bO h;clear h;obtain ⟨e,a2,d2,h3,h⟩:=hb
  obtain ⟨p1,p2,rfl⟩:=hn _ _ (by omega) h0 h1 _ _ _ h3
  obtain ⟨r1,r2,r3⟩:=argsS_fine hn n _ _ _ _ (by omega) p2 h0 h1 _ _ _ h
  exact ⟨by omega,r2,r3⟩
theorem callS_fine {c:Ctx} {ex:Rd Ex} {op:Int} {n:Nat} {a0:Nat} (hn:Fine c ex (a0+1)):Fine c (callS c ex op n) a0:=by
 intro a d ha h0 h1 x a' d' h
 have hb:=bO h;clear h;obtain ⟨_,a1,d1,h2,h⟩:=hb
 obtain ⟨_,rfl,hl1,_,hd,hne⟩:=want_ok (by omega) h2
 rw [if_pos (by omega)] at hd
 have hne:=hne (by omega)
 subst hd
 have hb:=bO h;clear h;obtain ⟨e,a2,d2,h3,h⟩:=hb
 obtain ⟨q1,q2,rfl⟩:=argsS_fine hn _ _ _ _ _ (by omega) (by omega) (by omega) (by omega) _ _ _ h3
 have hb:=bO h;clear h;obtain ⟨_,a3,d3,h4,h⟩:=hb
 obtain ⟨_,rfl,hl,_,hd,_⟩:=want_ok (by omega) h4
 rw [if_neg (by omega),if_pos (by omega)] at hd
 cases h
 exact ⟨by omega,hl,by omega⟩
theorem name_ok {c:Ctx} {a a':Nat} {d d':Int} {s:ByteArray} (h:nS c a d=.ok s a' d'):a'=a+1∧a'≤c.L.length∧d'=d∧kd c a=1∧s=textS c (c.L.getD a zTok):=by
 have hb:=bO h;clear h;obtain ⟨t,a1,d1,h1,h⟩:=hb
 obtain ⟨hk,rfl,hl,rfl,hd,_⟩:=want_ok (by omega) h1
 cases h
 exact ⟨rfl,hl,by rw [hd];simp,hk,rfl⟩
theorem take_ok {c:Ctx} {k:Int} (hk:1≤k) {a a':Nat} {d d':Int} {b:Bool} (hl:a≤c.L.length) (h:takeS c k a d=.ok b a' d'):a≤a'∧a'≤c.L.length∧(b=true→a'=a+1∧d'=(if k=32∨k=48∨k=50 then d+1 else if k=33∨k=49∨k=52 then d - 1 else d)∧(k=32∨k=48∨k=50→d≠64))∧(b=false→a'=a∧d'=d):=by
 unfold takeS at h
 split at h
 ·have hb:=bO h;clear h;obtain ⟨t,a1,d1,h1,h⟩:=hb
  obtain ⟨_,rfl,hl,_,hd,hne⟩:=want_ok hk h1
  cases h
  exact ⟨by omega,hl,fun _=>⟨rfl,hd,hne⟩,fun h=>by cases h⟩
 ·cases h
  exact ⟨Nat.le_refl _,hl,fun h=>(by cases h),fun _=>⟨rfl,rfl⟩⟩
theorem nmS_fine {c:Ctx} {ex:Rd Ex} {a0:Nat} (hn:Fine c ex (a0+1)):Fine c (nmS c ex) a0:=by
 intro a d ha h0 h1 x a' d' h
 have hb:=bO h;clear h;obtain ⟨s,a1,d1,h2,h⟩:=hb
 obtain ⟨rfl,hl1,rfl,_⟩:=name_ok h2
 have hb:=bO h;clear h;obtain ⟨b,a2,d2,h3,h⟩:=hb
 obtain ⟨q1,q2,qt,qf⟩:=take_ok (by omega) hl1 h3
 cases b with
 | true =>
  obtain ⟨rfl,hd,hne⟩:=qt rfl
  rw [if_pos (by omega)] at hd
  have hne:=hne (by omega)
  subst hd
  have hb:=bO (show Out.bind _ _=_ from h);clear h;obtain ⟨e,a3,d3,h4,h⟩:=hb
  obtain ⟨p1,p2,rfl⟩:=hn _ _ (by omega) (by omega) (by omega) _ _ _ h4
  have hb:=bO h;clear h;obtain ⟨_,a4,d4,h5,h⟩:=hb
  obtain ⟨_,rfl,hl,_,hd,_⟩:=want_ok (by omega) h5
  rw [if_neg (by omega),if_pos (by omega)] at hd
  cases h
  exact ⟨by omega,hl,by omega⟩
 | false =>
  obtain ⟨rfl,rfl⟩:=qf rfl
  cases h
  exact ⟨by omega,hl1,rfl⟩
theorem primaryS_fine {c:Ctx} {ex:Rd Ex} {a0:Nat} (hn:Fine c ex (a0+1)):Fine c (primaryS c ex) a0:=by
 intro a d ha h0 h1 x a' d' h
 unfold primaryS at h
 split at h
 ·have hb:=bO h;clear h;obtain ⟨t,a1,d1,h2,h⟩:=hb
  obtain ⟨_,rfl,hl1,_,hd,hne⟩:=want_ok (by omega) h2
  cases h
  exact ⟨by omega,hl1,by rw [hd];simp⟩
 ·split at h
  ·exact nmS_fine hn _ _ ha h0 h1 _ _ _ h
  ·split at h
   ·exact callS_fine hn _ _ ha h0 h1 _ _ _ h
   ·split at h
    ·exact callS_fine hn _ _ ha h0 h1 _ _ _ h
    ·split at h
     ·exact callS_fine hn _ _ ha h0 h1 _ _ _ h
     ·split at h
      ·exact callS_fine hn _ _ ha h0 h1 _ _ _ h
      ·exact parensS_fine hn _ _ ha h0 h1 _ _ _ h
theorem negS_fine {c:Ctx} {un:Rd Ex} {op:Int} {a0:Nat} (hn:Fine c un (a0+1)):Fine c (negS c un op) a0:=by
 intro a d ha h0 h1 x a' d' h
 have hb:=bO h;clear h;obtain ⟨_,a1,d1,h2,h⟩:=hb
 unfold deeperS at h2
 split at h2
 ·cases h2
 ·cases h2
  have hb:=bO h;clear h;obtain ⟨e,a2,d2,h3,h⟩:=hb
  obtain ⟨p1,p2,rfl⟩:=hn _ _ (by omega) (by omega) (by omega) _ _ _ h3
  cases h
  exact ⟨by omega,p2,by omega⟩
theorem unaryS_fine {c:Ctx}:∀(f a0:Nat),Fine c (unaryS c f) a0
 | 0,a0=>fun a d _ _ _ x a' d' h=>by cases h
 | f+1,a0=>by
  intro a d ha h0 h1 x a' d' h
  rw [unaryS] at h
  split at h
  ·exact negS_fine (unaryS_fine f (a0+1)) _ _ ha h0 h1 _ _ _ h
  ·split at h
   ·exact negS_fine (unaryS_fine f (a0+1)) _ _ ha h0 h1 _ _ _ h
   ·exact primaryS_fine (exprOf_fine (unaryS_fine f (a0+1))) _ _ ha h0 h1 _ _ _ h
def exprS (c:Ctx):Rd Ex:=exprOf c (unaryS c (c.L.length+1))
theorem exprS_fine {c:Ctx} (a0:Nat):Fine c (exprS c) a0:=exprOf_fine (unaryS_fine _ _)
theorem St.ci {c:Ctx} {W:World} {a:Nat} {d fp fe:Int} (h:St c W a d fp fe) (i:Nat) {u:Value} (e:(c.cells a d fp fe)[i]?=some u):W.cell? ⟨c.g,i,none⟩=some u:=(bC h.blk i).trans e
structure Ops (W:World):Prop where
 b0:∃t fr,W.heap[0]?=some (.cells (binT.map (Value.int .i64)).toArray t fr)
 b1:∃t fr,W.heap[1]?=some (.cells (rnkT.map (Value.int .i64)).toArray t fr)
theorem Ops.keep {W W':World} (h:Ops W) (h0:W'.heap[0]?=W.heap[0]?) (h1:W'.heap[1]?=W.heap[1]?):Ops W':=⟨by rw [h0];exact h.b0,by rw [h1];exact h.b1⟩
theorem Ops.grown {W W':World} {g:Nat} (h:Ops W) (hg:W.grownBy W' (some g)) (h1:1<g):Ops W':=by
 obtain ⟨t0,f0,e0⟩:=h.b0
 obtain ⟨t1,f1,e1⟩:=h.b1
 exact h.keep (hg.block 0 (Array.getElem?_eq_some_iff.1 e0).1 (fun e=>by have:=Option.some.inj e;omega)) (hg.block 1 (Array.getElem?_eq_some_iff.1 e1).1 (fun e=>by have:=Option.some.inj e;omega))
def Reads (c:Ctx) (K:Nat) (S:Rd Ex) (a0:Nat):Prop:=∀W a d fp fe,St c W a d fp fe→Ops W→a0≤a→a≤c.L.length→0≤d→d≤64→Calls Tryz.prog K #[c.me] W (Post c W fp fe (repE W.heap.size) (S a d))
theorem Reads.mono {c:Ctx} {K:Nat} {S:Rd Ex} {a0 a1:Nat} (h:Reads c K S a0) (hl:a0≤a1):Reads c K S a1:=fun W a d fp fe hS hO ha=>h W a d fp fe hS hO (Nat.le_trans hl ha)
structure One (c:Ctx) (W X:World) (t:Nat) (r:Array Value) (a:Nat) (d fp fe:Int):Prop where
 fr:W.grownBy X (some c.g)
 rb:X.heap[W.heap.size]?=some (.cells r t (0,0))
 pb:X.heap[c.g]?=some (.cells (c.cells a d fp fe) 56 (0,0))
section
variable {c:Ctx} {W X Y:World} {t:Nat} {r r':Array Value} {a a' a0:Nat} {d d' d0 fp fp' fp0 fe fe' fe0:Int}
theorem One.st (h:One c W X t r a d fp fe) (hG:Good c) (h0:St c W a0 d0 fp0 fe0):St c X a d fp fe:=St.frame hG h0 h.fr h.pb
theorem One.lit (h0:St c W a d fp fe) (t:Nat) (r:Array Value):One c W (W.alloc (.cells r t)) t r a d fp fe where
 fr:=grown_alloc (World.grownBy.refl _ _) _
 rb:=bN W (.cells r t)
 pb:=(h0.below (bA _ (.cells r t))).blk
theorem One.drewN (h:One c W X t r a d fp fe) (q:Nat):One c W (X.drewN q) t r a d fp fe:=⟨Q6 h.fr q,h.rb,h.pb⟩
theorem One.call (h:One c W X t r a d fp fe) (h0:St c W a0 d0 fp0 fe0) (hg:X.grownBy Y (some c.g)) (hS:St c Y a' d' fp' fe'):One c W Y t r a' d' fp' fe' where
 fr:=Q4 h.fr hg
 rb:=(hg.block _ (bL h.rb) (fun e=>by have:=Option.some.inj e;have:=bL h0.blk;omega)).trans h.rb
 pb:=hS.blk
theorem One.res (h:One c W X t r a d fp fe) (h0:St c W a0 d0 fp0 fe0) (i:Nat) (u:Value) (e:r.setIfInBounds i u=r'):One c W (X.setCell ⟨W.heap.size,i,none⟩ u) t r' a d fp fe :=
 have hgl:=bL h0.blk
 ⟨grown_far h.fr (p:=⟨W.heap.size,i,none⟩) (Nat.le_refl _) u,bP h.rb i u e,Q5 h.pb (p:=⟨W.heap.size,i,none⟩) (by dsimp only;omega) u⟩
theorem One.rc (h:One c W X t r a d fp fe) (i:Nat) {u:Value} (e:r[i]?=some u):X.cell? ⟨W.heap.size,i,none⟩=some u:=(bC h.rb i).trans e
theorem One.rf (h:One c W X t r a d fp fe) (i:Nat):X.frozen? ⟨W.heap.size,i,none⟩=false:=bF h.rb i
theorem One.all5 (h0:St c W a0 d0 fp0 fe0) {r0 r1 r2 r3 r4:Value} (u0 u1 u2 u3 u4:Value) (h:One c W X t #[r0,r1,r2,r3,r4] a d fp fe) :
  One c W (((((X.setCell ⟨W.heap.size,0,none⟩ u0).setCell ⟨W.heap.size,1,none⟩ u1).setCell ⟨W.heap.size,2,none⟩ u2).setCell ⟨W.heap.size,3,none⟩ u3).setCell ⟨W.heap.size,4,none⟩ u4) t #[u0,u1,u2,u3,u4] a d fp fe:=by
 have g0:=h.res h0 0 u0 (r':=#[u0,r1,r2,r3,r4]) rfl
 have g1:=g0.res h0 1 u1 (r':=#[u0,u1,r2,r3,r4]) rfl
 have g2:=g1.res h0 2 u2 (r':=#[u0,u1,u2,r3,r4]) rfl
 have g3:=g2.res h0 3 u3 (r':=#[u0,u1,u2,u3,r4]) rfl
 exact g3.res h0 4 u4 (r':=#[u0,u1,u2,u3,u4]) rfl
end
abbrev Z93:Array Value:=#[.int .i64 0,.int .i64 0,.string ⟨#[]⟩,.slice none 0 0,.int .i64 0]
abbrev E93 (op num:Int) (nm:ByteArray) (A:Option Addr) (n cap:Nat) (pos:Int):Array Value:=#[.int .i64 op,.int .i64 num,.string nm,.slice A n cap,.int .i64 pos]
theorem far5 {lo g:Nat} (X:World) (hg:g<lo) (u0 u1 u2 u3 u4:Value):Far lo X (((((X.setCell ⟨g,0,none⟩ u0).setCell ⟨g,1,none⟩ u1).setCell ⟨g,2,none⟩ u2).setCell ⟨g,3,none⟩ u3).setCell ⟨g,4,none⟩ u4) :=
 (((((Far.refl lo X).put (p:=⟨g,0,none⟩) hg u0).put (p:=⟨g,1,none⟩) hg u1).put (p:=⟨g,2,none⟩) hg u2).put (p:=⟨g,3,none⟩) hg u3).put (p:=⟨g,4,none⟩) hg u4
theorem expr_reads {c:Ctx} (hG:Good c) {S:Rd Ex} {a0:Nat} (hR:Reads c 23 S a0):Reads c 131 S a0:=by
 intro W a d fp fe h hO ha hl h0 h1
 obtain ⟨S,hSp⟩:∃T,S a d=T:=⟨_,rfl⟩
 have hT0:=One.lit h 93 Z93
 have hS0:=hT0.st hG h
 have c7:=hS0.ci 7 rfl
 have CN:=hR _ a d fp fe hS0 (by
  obtain ⟨t0,f0,e0⟩:=hO.b0
  obtain ⟨t1,f1,e1⟩:=hO.b1
  exact hO.keep (_root_.Go.heap_alloc_old W _ (Array.getElem?_eq_some_iff.1 e0).1) (_root_.Go.heap_alloc_old W _ (Array.getElem?_eq_some_iff.1 e1).1)) ha hl h0 h1
 rw [hSp] at CN ⊢
 have hlo:(W.alloc (.cells Z93 93)).heap.size=W.heap.size+1:=by simp
 rw [hlo] at CN
 clear hSp hlo hR hO
 go_enter Tryz.func131,Tryz.ntmps131
 go_wp2_with (first|(go_at_call 23;(with_reducible refine CN.mono ?_);rintro e w hP;rcases hP.elim with ⟨x,a1,d1,ho,hg,⟨v,rfl,op,num,nm,A,n,cap,pos,rfl,hE⟩,hS⟩|⟨p,er,ho,hg,rfl,a',d',hS⟩;(have hT1:=hT0.call h hg hS;have x0:=hT1.rf 0;have r0:w.cell? ⟨W.heap.size,0,none⟩=some (.int .i64 0):=hT1.rc 0 rfl;have x1:=hT1.rf 1;have r1:w.cell? ⟨W.heap.size,1,none⟩=some (.int .i64 0):=hT1.rc 1 rfl;have x2:=hT1.rf 2;have r2:w.cell? ⟨W.heap.size,2,none⟩=some (.string ⟨#[]⟩):=hT1.rc 2 rfl;have x3:=hT1.rf 3;have r3:w.cell? ⟨W.heap.size,3,none⟩=some (.slice none 0 0):=hT1.rc 3 rfl;have x4:=hT1.rf 4;have r4:w.cell? ⟨W.heap.size,4,none⟩=some (.int .i64 0):=hT1.rc 4 rfl)))
 case inr =>
  exact ⟨rfl,Post.mk_bad (Q4 hT0.fr hg) hS⟩
 have hTR:=One.all5 h (.int .i64 op) (.int .i64 num) (.string nm) (.slice A n cap) (.int .i64 pos) hT1
 (first | rw [ho] | skip)
 exact bodyPost_ret (res_c rfl _ _ W.heap.size 93 _ (0,0) _ rfl hTR.rb Tryz.underlying93 rfl (by kernel_rfl)) rfl (Post.mk_ok (rep:=repE W.heap.size) hTR.fr ⟨op,num,nm,A,n,cap,pos,rfl,hE.far (far5 w (Nat.lt_succ_self _) _ _ _ _ _) (Nat.le_succ _)⟩ (hTR.st hG h))
end Go.Proofs.YtgaoapnaplgaiaaGreatDoor.Sc
