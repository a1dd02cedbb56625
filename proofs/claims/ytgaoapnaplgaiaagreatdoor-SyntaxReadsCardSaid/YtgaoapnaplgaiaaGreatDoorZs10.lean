/- This claim's own texts, joined, with only what the claim uses: ParD. -/
import Derived.Test.YtgaoapnaplgaiaaGreatDoorZs9
namespace Go.Proofs.YtgaoapnaplgaiaaGreatDoor.Sc
set_option maxRecDepth 100000
open Go.RowKit Tk Go.Proofs.YtgaoapnaplgaiaaGreatDoor.Wd
theorem Post.elim {α:Type} {c:Ctx} {W:World} {fp fe:Int} {rep:World→Value→α→Prop} {o:Out α} {e:Ending} {w:World} (h:Post c W fp fe rep o e w) :
  (∃x a d,o=.ok x a d∧W.grownBy w (some c.g)∧(∃v,e=.returned v∧rep w v x)∧St c w a d fp fe) ∨
  (∃p er,o=.bad p er∧W.grownBy w (some c.g)∧e=.panicked broke∧∃a d,St c w a d p er):=by
 cases o with
 | ok x a d=>exact .inl ⟨x,a,d,rfl,h⟩
 | bad p er=>exact .inr ⟨p,er,rfl,h⟩
structure Dec where
 (op ty:Int)
 name:ByteArray
 (size lo hi:Con)
 pos:Int
abbrev z67:Con:=(⟨#[]⟩,0,0)
abbrev repD:World→Value→Dec × Bool→Prop:=fun _ v x =>
 v=.tuple #[.agg #[.int .i64 x.1.op,.int .i64 x.1.ty,.string x.1.name,.string x.1.size.1,.int .i64 x.1.size.2.1,.int .i64 x.1.size.2.2,.string x.1.lo.1,.int .i64 x.1.lo.2.1,.int .i64 x.1.lo.2.2,.string x.1.hi.1,.int .i64 x.1.hi.2.1,.int .i64 x.1.hi.2.2,.int .i64 x.1.pos],.bool x.2]
abbrev C69 (x:Dec):Array Value:=#[.int .i64 x.op,.int .i64 x.ty,.string x.name,.string x.size.1,.int .i64 x.size.2.1,.int .i64 x.size.2.2,.string x.lo.1,.int .i64 x.lo.2.1,.int .i64 x.lo.2.2,.string x.hi.1,.int .i64 x.hi.2.1,.int .i64 x.hi.2.2,.int .i64 x.pos]
def semiS (c:Ctx) (x:Dec) (a:Nat) (d:Int):Out (Dec × Bool):=(wS c 41 a d).bind fun _ a d=>.ok (x,true) a d
def declS (c:Ctx) (a:Nat) (d:Int):Out (Dec × Bool) :=
 if kd c a=8 then (nS c (a+1) d).bind fun nm a1 d=>(wS c 44 a1 d).bind fun _ a1 d=>(coS c a1 d).bind fun lo a1 d=>semiS c ⟨1,0,nm,z67,lo,z67,ps c a⟩ a1 d
 else if kd c a=25 then (coS c (a+1) d).bind fun lo a1 d=>semiS c ⟨2,0,⟨#[]⟩,z67,lo,z67,ps c a⟩ a1 d
 else if kd c a=14 then (typS c (a+1) d).bind fun ty a1 d=>(nS c a1 d).bind fun nm a1 d=>(wS c 12 a1 d).bind fun _ a1 d=>(coS c a1 d).bind fun lo a1 d =>
  (wS c 38 a1 d).bind fun _ a1 d=>(coS c a1 d).bind fun hi a1 d=>semiS c ⟨3,ty,nm,z67,lo,hi,ps c a⟩ a1 d
 else if kd c a=26 then (typS c (a+1) d).bind fun ty a1 d=>(nS c a1 d).bind fun nm a1 d=>(takeS c 48 a1 d).bind fun b a1 d =>
  (if b then (coS c a1 d).bind fun sz a1 d=>(wS c 49 a1 d).bind fun _ a1 d=>.ok (5,sz) a1 d else .ok ((4:Int),z67) a1 d:Out (Int × Con)).bind fun os a1 d =>
  (wS c 44 a1 d).bind fun _ a1 d=>(coS c a1 d).bind fun lo a1 d=>semiS c ⟨os.1,ty,nm,os.2,lo,z67,ps c a⟩ a1 d
 else .ok (⟨0,0,⟨#[]⟩,z67,z67,z67,ps c a⟩,false) a d
theorem Two.at {c:Ctx} (hG:Good c) {W X:World} {t:Nat} {r v:Array Value} {a a0:Nat} {d d0 fp fp0 fe fe0:Int} (h:Two c W X t r v a d fp fe) (h0:St c W a0 d0 fp0 fe0) :
  Two c W (X.setCell ⟨c.g,2,none⟩ (.int .i64 ((a:Int)+1))) t r v (a+1) d fp fe :=
 have hgl:=bL h0.blk
 ⟨gP h.fr _,Q5 h.rb (p:=⟨c.g,2,none⟩) (by dsimp only;omega) _,Q5 h.vb (p:=⟨c.g,2,none⟩) (by dsimp only;omega) _,((h.st hG h0).put hG 2 _ rfl).blk⟩
theorem res_ct {P:Program} {fn:Func} {p k:Tmp} {ty:TypeId} (h:fn.results=#[.cell p ty,.tmp k]) (tmps:Array Value) (w:World) (g:Nat) (t:TypeId) (cs:Array Value) (fr:Nat × Nat) (d:TypeDesc) (b:Value)
  (hp:tmps.getD p undef=.pointer (some ⟨g,0,none⟩)) (hk:tmps.getD k undef=b) (hg:w.heap[g]?=some (.cells cs t fr))
  (hu:P.underlying ty=some d) (hd:(match d with | .struct _ | .array _ _=>true | _=>false)=true) (hi:(P.info? ty).map (·.size)=some cs.size) :
  (results fn tmps).run P w=.ok (.tuple #[.agg cs,b]) w:=by
 have hp':tmps[p]?.getD undef=.pointer (some ⟨g,0,none⟩):=by simpa using hp
 have hk':tmps[k]?.getD undef=b:=by simpa using hk
 simp [results,h,hp',hk',asAddr,run_loadVar_row w g t ty cs fr d hg hu hd hi]
theorem want_d {c:Ctx} {k:Int} (hk:k≠32∧k≠48∧k≠50∧k≠33∧k≠49∧k≠52) {a a':Nat} {d d':Int} {t:Tok} (h:wS c k a d=.ok t a' d'):d'=d:=by
 unfold wS at h
 rw [if_neg (show ¬(k=32∨k=48∨k=50) by omega),if_neg (show ¬(k=33∨k=49∨k=52) by omega)] at h
 split at h <;> cases h
 rfl
theorem name_d {c:Ctx} {a a':Nat} {d d':Int} {s:ByteArray} (h:nS c a d=.ok s a' d'):d'=d:=by
 unfold nS at h
 cases ho:wS c 1 a d with
 | ok t a1 d1=>rw [ho] at h;have:=want_d (by omega) ho;cases h;assumption
 | bad p er=>rw [ho] at h;cases h
theorem take37_d {c:Ctx} (a:Nat) (d:Int):∃b a1,takeS c 37 a d=.ok b a1 d:=by
 unfold takeS
 split
 ·exact ⟨true,a+1,by unfold wS;rw [if_pos ‹_›];simp [Out.bind]⟩
 ·exact ⟨false,a,rfl⟩
theorem constant_d {c:Ctx} {a a':Nat} {d d':Int} {s:Con} (h:coS c a d=.ok s a' d'):d'=d:=by
 unfold coS at h
 split at h
 ·cases ho:nS c a d with
  | ok t a1 d1=>rw [ho] at h;have:=name_d ho;cases h;assumption
  | bad p er=>rw [ho] at h;cases h
 ·obtain ⟨b,a1,hb⟩:=take37_d (c:=c) a d
  rw [hb] at h
  change (wS c 2 a1 d).bind _=_ at h
  cases ho:wS c 2 a1 d with
  | ok t a2 d2=>rw [ho] at h;have:=want_d (by omega) ho;cases h;assumption
  | bad p er=>rw [ho] at h;cases h
theorem Two.all69 {c:Ctx} {W X:World} {a a0:Nat} {d d0 fp fp0 fe fe0:Int} {v:Array Value} (h0:St c W a0 d0 fp0 fe0) (r0 r1 r2 r3 r4 r5 r6 r7 r8 r9 r10 r11 r12 u0 u1 u2 u3 u4 u5 u6 u7 u8 u9 u10 u11 u12:Value)
  (h:Two c W X 69 #[r0,r1,r2,r3,r4,r5,r6,r7,r8,r9,r10,r11,r12] v a d fp fe) :
  Two c W (((((((((((((X.setCell ⟨W.heap.size,0,none⟩ u0).setCell ⟨W.heap.size,1,none⟩ u1).setCell ⟨W.heap.size,2,none⟩ u2).setCell ⟨W.heap.size,3,none⟩ u3).setCell ⟨W.heap.size,4,none⟩ u4).setCell ⟨W.heap.size,5,none⟩ u5).setCell ⟨W.heap.size,6,none⟩ u6).setCell ⟨W.heap.size,7,none⟩ u7).setCell ⟨W.heap.size,8,none⟩ u8).setCell ⟨W.heap.size,9,none⟩ u9).setCell ⟨W.heap.size,10,none⟩ u10).setCell ⟨W.heap.size,11,none⟩ u11).setCell ⟨W.heap.size,12,none⟩ u12) 69 #[u0,u1,u2,u3,u4,u5,u6,u7,u8,u9,u10,u11,u12] v a d fp fe:=by
 have g0:=h.res h0 0 u0 (r':=#[u0,r1,r2,r3,r4,r5,r6,r7,r8,r9,r10,r11,r12]) rfl
 have g1:=g0.res h0 1 u1 (r':=#[u0,u1,r2,r3,r4,r5,r6,r7,r8,r9,r10,r11,r12]) rfl
 have g2:=g1.res h0 2 u2 (r':=#[u0,u1,u2,r3,r4,r5,r6,r7,r8,r9,r10,r11,r12]) rfl
 have g3:=g2.res h0 3 u3 (r':=#[u0,u1,u2,u3,r4,r5,r6,r7,r8,r9,r10,r11,r12]) rfl
 have g4:=g3.res h0 4 u4 (r':=#[u0,u1,u2,u3,u4,r5,r6,r7,r8,r9,r10,r11,r12]) rfl
 have g5:=g4.res h0 5 u5 (r':=#[u0,u1,u2,u3,u4,u5,r6,r7,r8,r9,r10,r11,r12]) rfl
 have g6:=g5.res h0 6 u6 (r':=#[u0,u1,u2,u3,u4,u5,u6,r7,r8,r9,r10,r11,r12]) rfl
 have g7:=g6.res h0 7 u7 (r':=#[u0,u1,u2,u3,u4,u5,u6,u7,r8,r9,r10,r11,r12]) rfl
 have g8:=g7.res h0 8 u8 (r':=#[u0,u1,u2,u3,u4,u5,u6,u7,u8,r9,r10,r11,r12]) rfl
 have g9:=g8.res h0 9 u9 (r':=#[u0,u1,u2,u3,u4,u5,u6,u7,u8,u9,r10,r11,r12]) rfl
 have g10:=g9.res h0 10 u10 (r':=#[u0,u1,u2,u3,u4,u5,u6,u7,u8,u9,u10,r11,r12]) rfl
 have g11:=g10.res h0 11 u11 (r':=#[u0,u1,u2,u3,u4,u5,u6,u7,u8,u9,u10,u11,r12]) rfl
 have g12:=g11.res h0 12 u12 (r':=#[u0,u1,u2,u3,u4,u5,u6,u7,u8,u9,u10,u11,u12]) rfl
 exact g12
set_option maxHeartbeats 1500000 in
theorem decl8 {c:Ctx} (hG:Good c) {W:World} {a:Nat} {d fp fe:Int} (h:St c W a d fp fe) (hd:-900≤d∧d≤900) (k8:kd c a=8) (S:Out (Dec × Bool)) (hSp:A0 (S=(nS c (a+1) d).bind fun nm a1 d=>(wS c 44 a1 d).bind fun _ a1 d=>(coS c a1 d).bind fun lo a1 d=>semiS c ⟨1,0,nm,z67,lo,z67,ps c a⟩ a1 d)) :
  Calls Tryz.prog 54 #[c.me] W (Post c W fp fe repD S):=by
 have h0:∀o,St c (W.alloc o) a d fp fe:=fun o=>h.below (bA _ o)
 have h1:∀o q o2,St c (((W.alloc o).drewN q).alloc o2) a d fp fe:=fun o q o2=>((h0 o).drewN q).below (bA _ o2)
 have PS:=fun o=>qC (h0 o)
 have KD:=fun o q o2=>kC (h1 o q o2)
 rw [k8] at KD
 have hal:=kd_lt k8 (by omega)
 have wa:IntKind.i64.wrap ((a:Int)+1)=(a:Int)+1:=IntWalk.i64_in _ (by have:=hG.hl;omega)
 have s2:=fun o q o2 q2=>((h1 o q o2).drewN q2).c2
 have f2:=fun o q o2 q2=>((h1 o q o2).drewN q2).fz 2
 clear k8
 go_enter Tryz.func54,Tryz.ntmps54
 go_upto_region 6 with (first|(go_at_call 56;with_reducible refine (PS _).mono ?_;rintro e w' ⟨rfl,q,rfl⟩)|(go_at_call 55;with_reducible refine (KD _ _ _).mono ?_;rintro e w' ⟨rfl,q2,rfl⟩))
 have hT:=(Two.lit (r:=C69 ⟨0,0,⟨#[]⟩,z67,z67,z67,0⟩) (v:=C69 ⟨0,0,⟨#[]⟩,z67,z67,z67,ps c a⟩) (t:=69) h q q2).at hG h
 generalize ((((W.alloc _).drewN q).alloc _).drewN q2).setCell _ _=X1 at hT ⊢
 clear s2 f2 PS KD h0 h1
 have hS1:=hT.st hG h
 have NM:=name_call hG hS1 (by omega)
 go_upto_region 7 with (first|(go_at_call 57;(with_reducible refine NM.mono ?_);rintro e w1 hP;rcases hP.elim with ⟨nm,a1,d1,ho1,hg,⟨v,rfl,rfl⟩,hS⟩|⟨p,er,ho1,hg,rfl,a',d',hS⟩;(have hT1:=hT.call h hg hS;have z0:w1.cell? ⟨W.heap.size+1,0,none⟩=some (.int .i64 0):=hT1.vc 0 rfl;have z2:w1.cell? ⟨W.heap.size+1,2,none⟩=some (.string ⟨#[]⟩):=hT1.vc 2 rfl;have y0:=hT1.vf 0;have y2:=hT1.vf 2)))
 case inr =>
  rw [show S=.bad p er by simp only [hSp.out,Out.bind,ho1]]
  exact ⟨rfl,Post.mk_bad (Q4 hT.fr hg) hS⟩
 have e1:=name_d ho1
 have hT2:=(hT1.put h 0 (.int .i64 1) (v':=C69 ⟨1,0,⟨#[]⟩,z67,z67,z67,ps c a⟩) rfl).put h 2 (.string nm) (v':=C69 ⟨1,0,nm,z67,z67,z67,ps c a⟩) rfl
 generalize (w1.setCell _ _).setCell _ _=X2 at hT2 ⊢
 clear z0 z2 y0 y2 hT1 hS hg hT hS1 NM
 have q1:A0 (nS c (a+1) d=.ok nm a1 d1):=⟨ho1⟩
 clear ho1
 subst e1
 have hS2:=hT2.st hG h
 have WT:=wC hG hS2 (by omega) 44 (by omega)
 go_upto_region 8 with (first|(go_at_call 59;(with_reducible refine WT.mono ?_);rintro e w2 hP;rcases hP.elim with ⟨t,a2,d2,ho2,hg2,⟨v,rfl,rfl⟩,hS⟩|⟨p,er,ho2,hg2,rfl,a',d',hS⟩;(have hT3:=hT2.call h hg2 hS)))
 case inr =>
  rw [show S=.bad p er by simp only [hSp.out,Out.bind,q1.out,ho2]]
  exact ⟨rfl,Post.mk_bad (Q4 hT2.fr hg2) hS⟩
 have e2:=want_d (by omega) ho2
 have q2:A0 (wS c 44 a1 d1=.ok t a2 d2):=⟨ho2⟩
 clear ho2 hT2 WT hg2 hS hS2
 subst e2
 have hS3:=hT3.st hG h
 have CN:=constant_call hG hS3 (by omega)
 go_upto_region 29 with (first|(go_at_call 96;(with_reducible refine CN.mono ?_);rintro e w3 hP;rcases hP.elim with ⟨lo,a3,d3,ho3,hg3,⟨v,rfl,rfl⟩,hS⟩|⟨p,er,ho3,hg3,rfl,a',d',hS⟩;(have hT4:=hT3.call h hg3 hS;have z6:w3.cell? ⟨W.heap.size+1,6,none⟩=some (.string ⟨#[]⟩):=hT4.vc 6 rfl;have y6:=hT4.vf 6;have z7:w3.cell? ⟨W.heap.size+1,7,none⟩=some (.int .i64 0):=hT4.vc 7 rfl;have y7:=hT4.vf 7;have z8:w3.cell? ⟨W.heap.size+1,8,none⟩=some (.int .i64 0):=hT4.vc 8 rfl;have y8:=hT4.vf 8)))
 case inr =>
  rw [show S=.bad p er by simp only [hSp.out,Out.bind,q1.out,q2.out,ho3]]
  exact ⟨rfl,Post.mk_bad (Q4 hT3.fr hg3) hS⟩
 have e3:=constant_d ho3
 have q3:A0 (coS c a2 d2=.ok lo a3 d3):=⟨ho3⟩
 clear ho3
 subst e3
 have hT5:=((hT4.put h 6 (.string lo.1) (v':=C69 ⟨1,0,nm,z67,(lo.1,0,0),z67,ps c a⟩) rfl).put h 7 (.int .i64 lo.2.1) (v':=C69 ⟨1,0,nm,z67,(lo.1,lo.2.1,0),z67,ps c a⟩) rfl).put h 8 (.int .i64 lo.2.2) (v':=C69 ⟨1,0,nm,z67,lo,z67,ps c a⟩) rfl
 generalize ((w3.setCell _ _).setCell _ _).setCell _ _=X5 at hT5 ⊢
 clear z6 z7 z8 y6 y7 y8 hT4 hT3 CN hg3 hS hS3
 have hS5:=hT5.st hG h
 have WE:=wC hG hS5 (by omega) 41 (by omega)
 go_upto_region 30 with (first|(go_at_call 59;(with_reducible refine WE.mono ?_);rintro e w4 hP;rcases hP.elim with ⟨t2,a4,d4,ho4,hg4,⟨v,rfl,rfl⟩,hS⟩|⟨p,er,ho4,hg4,rfl,a',d',hS⟩;(have hT7:=hT5.call h hg4 hS)))
 case inr =>
  rw [show S=.bad p er by simp only [hSp.out,semiS,Out.bind,q1.out,q2.out,q3.out,ho4]]
  exact ⟨rfl,Post.mk_bad (Q4 hT5.fr hg4) hS⟩
 have q4:A0 (wS c 41 a3 d3=.ok t2 a4 d4):=⟨ho4⟩
 clear ho4 hT5 WE hg4 hS hS5
 have z0:w4.cell? ⟨W.heap.size+1,0,none⟩=some (.int .i64 1):=hT7.vc 0 rfl;have y0:=hT7.vf 0;have z1:w4.cell? ⟨W.heap.size+1,1,none⟩=some (.int .i64 0):=hT7.vc 1 rfl;have y1:=hT7.vf 1;have z2:w4.cell? ⟨W.heap.size+1,2,none⟩=some (.string nm):=hT7.vc 2 rfl;have y2:=hT7.vf 2;have z3:w4.cell? ⟨W.heap.size+1,3,none⟩=some (.string ⟨#[]⟩):=hT7.vc 3 rfl;have y3:=hT7.vf 3;have z4:w4.cell? ⟨W.heap.size+1,4,none⟩=some (.int .i64 0):=hT7.vc 4 rfl;have y4:=hT7.vf 4;have z5:w4.cell? ⟨W.heap.size+1,5,none⟩=some (.int .i64 0):=hT7.vc 5 rfl;have y5:=hT7.vf 5;have z6:w4.cell? ⟨W.heap.size+1,6,none⟩=some (.string lo.1):=hT7.vc 6 rfl;have y6:=hT7.vf 6;have z7:w4.cell? ⟨W.heap.size+1,7,none⟩=some (.int .i64 lo.2.1):=hT7.vc 7 rfl;have y7:=hT7.vf 7;have z8:w4.cell? ⟨W.heap.size+1,8,none⟩=some (.int .i64 lo.2.2):=hT7.vc 8 rfl;have y8:=hT7.vf 8;have z9:w4.cell? ⟨W.heap.size+1,9,none⟩=some (.string ⟨#[]⟩):=hT7.vc 9 rfl;have y9:=hT7.vf 9;have z10:w4.cell? ⟨W.heap.size+1,10,none⟩=some (.int .i64 0):=hT7.vc 10 rfl;have y10:=hT7.vf 10;have z11:w4.cell? ⟨W.heap.size+1,11,none⟩=some (.int .i64 0):=hT7.vc 11 rfl;have y11:=hT7.vf 11;have z12:w4.cell? ⟨W.heap.size+1,12,none⟩=some (.int .i64 (ps c a)):=hT7.vc 12 rfl;have y12:=hT7.vf 12
 have x0:=hT7.rf 0;have r0:w4.cell? ⟨W.heap.size,0,none⟩=some (.int .i64 0):=hT7.rc 0 rfl;have x1:=hT7.rf 1;have r1:w4.cell? ⟨W.heap.size,1,none⟩=some (.int .i64 0):=hT7.rc 1 rfl;have x2:=hT7.rf 2;have r2:w4.cell? ⟨W.heap.size,2,none⟩=some (.string ⟨#[]⟩):=hT7.rc 2 rfl;have x3:=hT7.rf 3;have r3:w4.cell? ⟨W.heap.size,3,none⟩=some (.string ⟨#[]⟩):=hT7.rc 3 rfl;have x4:=hT7.rf 4;have r4:w4.cell? ⟨W.heap.size,4,none⟩=some (.int .i64 0):=hT7.rc 4 rfl;have x5:=hT7.rf 5;have r5:w4.cell? ⟨W.heap.size,5,none⟩=some (.int .i64 0):=hT7.rc 5 rfl;have x6:=hT7.rf 6;have r6:w4.cell? ⟨W.heap.size,6,none⟩=some (.string ⟨#[]⟩):=hT7.rc 6 rfl;have x7:=hT7.rf 7;have r7:w4.cell? ⟨W.heap.size,7,none⟩=some (.int .i64 0):=hT7.rc 7 rfl;have x8:=hT7.rf 8;have r8:w4.cell? ⟨W.heap.size,8,none⟩=some (.int .i64 0):=hT7.rc 8 rfl;have x9:=hT7.rf 9;have r9:w4.cell? ⟨W.heap.size,9,none⟩=some (.string ⟨#[]⟩):=hT7.rc 9 rfl;have x10:=hT7.rf 10;have r10:w4.cell? ⟨W.heap.size,10,none⟩=some (.int .i64 0):=hT7.rc 10 rfl;have x11:=hT7.rf 11;have r11:w4.cell? ⟨W.heap.size,11,none⟩=some (.int .i64 0):=hT7.rc 11 rfl;have x12:=hT7.rf 12;have r12:w4.cell? ⟨W.heap.size,12,none⟩=some (.int .i64 0):=hT7.rc 12 rfl
 have hSv:A0 (S=.ok (⟨1,0,nm,z67,lo,z67,ps c a⟩,true) a4 d4):=⟨by simp only [hSp.out,semiS,Out.bind,q1.out,q2.out,q3.out,q4.out]⟩
 clear hal wa hSp q1 q2 q3 q4
 go_wp2
 have hTR:=Two.all69 h (.int .i64 0) (.int .i64 0) (.string ⟨#[]⟩) (.string ⟨#[]⟩) (.int .i64 0) (.int .i64 0) (.string ⟨#[]⟩) (.int .i64 0) (.int .i64 0) (.string ⟨#[]⟩) (.int .i64 0) (.int .i64 0) (.int .i64 0) (.int .i64 1) (.int .i64 0) (.string nm) (.string ⟨#[]⟩) (.int .i64 0) (.int .i64 0) (.string lo.1) (.int .i64 lo.2.1) (.int .i64 lo.2.2) (.string ⟨#[]⟩) (.int .i64 0) (.int .i64 0) (.int .i64 (ps c a)) hT7
 rw [hSv.out]
 exact bodyPost_ret (res_ct rfl _ _ W.heap.size 69 _ (0,0) _ (.bool true) rfl rfl hTR.rb Tryz.underlying69 rfl (by kernel_rfl)) rfl (Post.mk_ok hTR.fr rfl (hTR.st hG h))
end Go.Proofs.YtgaoapnaplgaiaaGreatDoor.Sc
