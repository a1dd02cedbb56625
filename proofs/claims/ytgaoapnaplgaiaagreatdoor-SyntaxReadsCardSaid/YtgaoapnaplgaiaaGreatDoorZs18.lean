/- This claim's own texts, joined, with only what the claim uses: ParR, ParS, ParT, ParU. -/
import Derived.Test.YtgaoapnaplgaiaaGreatDoorZs17
namespace Go.Proofs.YtgaoapnaplgaiaaGreatDoor.Sc
set_option maxRecDepth 100000
open Go.RowKit Tk Go.Proofs.YtgaoapnaplgaiaaGreatDoor.Wd
theorem primary_reads {c:Ctx} (hG:Good c) (hg1:1<c.g) {ex:Rd Ex} {a0:Nat} (hF:Fine c ex (a0+1)) (hR:Reads c 131 ex (a0+1)):Reads c 94 (primaryS c ex) a0:=by
 intro W a d fp fe h hO ha hl h0 h1
 unfold primaryS
 by_cases n2:kd c a=2
 ·rw [if_pos n2]
  exact prim_int (a0:=a0) hG hg1 W a d fp fe h hO ha hl h0 h1 n2
 rw [if_neg n2]
 by_cases n1:kd c a=1
 ·rw [if_pos n1]
  exact prim_name hG hg1 hF hR W a d fp fe h hO ha hl h0 h1 n1
 rw [if_neg n1]
 by_cases n20:kd c a=20
 ·rw [if_pos n20]
  exact prim_call hG hg1 hF hR 20 10 2 (by omega) W a d fp fe h hO ha hl h0 h1 n20
 rw [if_neg n20]
 by_cases n19:kd c a=19
 ·rw [if_pos n19]
  exact prim_call hG hg1 hF hR 19 11 2 (by omega) W a d fp fe h hO ha hl h0 h1 n19
 rw [if_neg n19]
 by_cases n3:kd c a=3
 ·rw [if_pos n3]
  exact prim_call hG hg1 hF hR 3 12 1 (by omega) W a d fp fe h hO ha hl h0 h1 n3
 rw [if_neg n3]
 by_cases n7:kd c a=7
 ·rw [if_pos n7]
  exact prim_call hG hg1 hF hR 7 13 3 (by omega) W a d fp fe h hO ha hl h0 h1 n7
 rw [if_neg n7]
 exact prim_parens (a0:=a0) hG hg1 (parens_reads hG hg1 hF hR) W a d fp fe h hO ha hl h0 h1 n2 n1 n20 n19 n3 n7
set_option maxHeartbeats 2000000 in
theorem unary_other {c:Ctx} (hG:Good c) (hg1:1<c.g) {ex:Rd Ex} {a0:Nat} (hR:Reads c 94 ex a0)
  (W:World) (a:Nat) (d fp fe:Int) (h:St c W a d fp fe) (hO:Ops W) (ha:a0≤a) (hl:a≤c.L.length) (h0:0≤d) (h1:d≤64) (n1:kd c a≠37) (n2:kd c a≠28) :
  Calls Tryz.prog 53 #[c.me] W (Post c W fp fe (repE W.heap.size) (ex a d)):=by
 obtain ⟨S,hSp⟩:∃S,A0 (ex a d=S):=⟨_,⟨rfl⟩⟩
 have hR:=A0.mk hR
 have hs0:∀o,St c (W.alloc o) a d fp fe:=fun o=>h.below (bA _ o)
 have hs1:∀o q o2,St c (((W.alloc o).drewN q).alloc o2) a d fp fe:=fun o q o2=>((hs0 o).drewN q).below (bA _ o2)
 have PS:=fun o=>qC (hs0 o)
 have KD:=fun o q o2=>kC (hs1 o q o2)
 have b1:(kd c a==37)=false:=beq_eq_false_iff_ne.mpr n1
 have b2:(kd c a==28)=false:=beq_eq_false_iff_ne.mpr n2
 have hO:=A0.mk hO
 clear n1 n2
 rw [hSp.out]
 go_enter Tryz.func53,Tryz.ntmps53
 go_upto_block 0 with (first|(go_at_call 56;with_reducible refine (PS _).mono ?_;rintro e w' ⟨rfl,q,rfl⟩)|(go_at_call 55;with_reducible refine (KD _ _ _).mono ?_;rintro e w' ⟨rfl,q2,rfl⟩))
 have hT0:=Tw.lit (t:=93) (r:=Z93) (v:=E93 0 0 nN none 0 0 (ps c a)) h q q2
 generalize ((((W.alloc _).drewN q).alloc _).drewN q2)=X0 at hT0 ⊢
 clear PS KD hs0 hs1
 have hS0:=hT0.st hG h
 have hl3:=bL hT0.vb
 have CN:=hR.out _ _ _ _ _ hS0 (hO.out.grown hT0.fr hg1) ha hl h0 h1
 rw [hSp.out] at CN
 go_wp2_with (first|(go_at_call 94;(with_reducible refine CN.mono ?_);rintro e w hP;rcases hP.elim with ⟨x,a1,d1,ho,hg,⟨v,rfl,op,num,nm,A,n,cap,pos,rfl,hE⟩,hS⟩|⟨p,er,ho,hg,rfl,a',d',hS⟩;(have hT1:=hT0.call h hg hS;have r0:w.cell? ⟨W.heap.size,0,none⟩=some (.int .i64 0):=hT1.rc 0 rfl;have x0:=hT1.rf 0;have r1:w.cell? ⟨W.heap.size,1,none⟩=some (.int .i64 0):=hT1.rc 1 rfl;have x1:=hT1.rf 1;have r2:w.cell? ⟨W.heap.size,2,none⟩=some (.string ⟨#[]⟩):=hT1.rc 2 rfl;have x2:=hT1.rf 2;have r3:w.cell? ⟨W.heap.size,3,none⟩=some (.slice none 0 0):=hT1.rc 3 rfl;have x3:=hT1.rf 3;have r4:w.cell? ⟨W.heap.size,4,none⟩=some (.int .i64 0):=hT1.rc 4 rfl;have x4:=hT1.rf 4)))
 case inr =>
  exact ⟨rfl,by (first | rw [ho] | skip);exact Post.mk_bad (Q4 hT0.fr hg) hS⟩
 have hTR:=Tw.all5 h (.int .i64 op) (.int .i64 num) (.string nm) (.slice A n cap) (.int .i64 pos) hT1
 (first | rw [ho] | skip)
 exact bodyPost_ret (res_c rfl _ _ W.heap.size 93 _ (0,0) _ rfl hTR.rb Tryz.underlying93 rfl (by kernel_rfl)) rfl (Post.mk_ok (rep:=repE W.heap.size) hTR.fr ⟨op,num,nm,A,n,cap,pos,rfl,hE.far (far5 w (by omega) _ _ _ _ _) (by omega)⟩ (hTR.st hG h))
theorem unary_reads {c:Ctx} (hG:Good c) (hg1:1<c.g):∀(f a0:Nat),c.L.length+1≤f+a0→Reads c 53 (unaryS c f) a0
 | 0,a0,hf=>fun W a d fp fe h hO ha hl=>by omega
 | f+1,a0,hf=>by
  have ih:=unary_reads hG hg1 f (a0+1) (by omega)
  have hF:=unaryS_fine (c:=c) f (a0+1)
  intro W a d fp fe h hO ha hl h0 h1
  rw [unaryS]
  by_cases n1:kd c a=37
  ·rw [if_pos n1]
   exact neg_reads hG hg1 hF ih 37 4 (by omega) W a d fp fe h hO ha hl h0 h1 n1
  rw [if_neg n1]
  by_cases n2:kd c a=28
  ·rw [if_pos n2]
   exact neg_reads hG hg1 hF ih 28 22 (by omega) W a d fp fe h hO ha hl h0 h1 n2
  rw [if_neg n2]
  exact unary_other hG hg1 (primary_reads hG hg1 (exprOf_fine hF) (exprOf_reads hG hg1 hF ih)) W a d fp fe h hO ha hl h0 h1 n1 n2
theorem exprS_reads {c:Ctx} (hG:Good c) (hg1:1<c.g):Reads c 131 (exprS c) 0:=exprOf_reads hG hg1 (unaryS_fine _ _) (unary_reads hG hg1 _ _ (by omega))
abbrev Asg:=Int × ByteArray × ByteArray × List Ex
def assignS (c:Ctx) (ex:Rd Ex) (a:Nat) (d:Int):Out Asg:=(nS c a d).bind fun s a1 d1=>(takeS c 48 a1 d1).bind fun b a2 d2 =>
 if b then (ex a2 d2).bind fun i a3 d3=>(wS c 49 a3 d3).bind fun _ a4 d4=>(wS c 44 a4 d4).bind fun _ a5 d5=>(ex a5 d5).bind fun x a6 d6=>.ok (2,s,nN,[i,x]) a6 d6
 else (wS c 44 a2 d2).bind fun _ a3 d3=>(takeS c 22 a3 d3).bind fun r a4 d4=>if r then (nS c a4 d4).bind fun t a5 d5=>.ok (3,s,t,[]) a5 d5 else (ex a4 d4).bind fun x a5 d5=>.ok (1,s,nN,[x]) a5 d5
def bl (c:Ctx) (st:Rd Stm):Nat→List Stm→Nat→Int→Out (List Stm)
 | 0,_,_,_=>.bad 0 0
 | f+1,l,a,d=>if kd c a=52 then .ok l a d else (st a d).bind fun s a1 d1=>bl c st f (l++[s]) a1 d1
def blockS (c:Ctx) (st:Rd Stm) (a:Nat) (d:Int):Out (List Stm):=(wS c 50 a d).bind fun _ a1 d1=>(bl c st (c.L.length+1 - a1) [] a1 d1).bind fun l a2 d2=>(wS c 52 a2 d2).bind fun _ a3 d3=>.ok l a3 d3
def brS (c:Ctx) (ex:Rd Ex) (blk:Rd (List Stm)):Nat→Nat→Int→Out Stm
 | 0,_,_=>.bad 0 0
 | f+1,a,d=>(wS c 11 a d).bind fun _ a1 d1=>(paS c ex a1 d1).bind fun e a2 d2=>(blk a2 d2).bind fun b a3 d3=>(takeS c 10 a3 d3).bind fun el a4 d4 =>
  if el then (if kd c a4=11 then (brS c ex blk f a4 d4).bind fun s a5 d5=>.ok (.mk 4 nN nN [e] [b,[s]] [] (ps c a)) a5 d5
   else (blk a4 d4).bind fun b2 a5 d5=>.ok (.mk 4 nN nN [e] [b,b2] [] (ps c a)) a5 d5)
  else .ok (.mk 4 nN nN [e] [b] [] (ps c a)) a4 d4
abbrev Cas:=List Con × List (List Stm)
def cP (c:Ctx) (blk:Rd (List Stm)):Nat→List Con→List (List Stm)→Nat→Int→Out Cas
 | 0,_,_,_,_=>.bad 0 0
 | f+1,cs,bs,a,d=>(takeS c 6 a d).bind fun b a1 d1=>if b then (coS c a1 d1).bind fun k a2 d2=>(wS c 40 a2 d2).bind fun _ a3 d3=>(blk a3 d3).bind fun l a4 d4=>cP c blk f (cs++[k]) (bs++[l]) a4 d4 else .ok (cs,bs) a1 d1
def dfltS (c:Ctx) (blk:Rd (List Stm)) (bs:List (List Stm)) (a:Nat) (d:Int):Out (List (List Stm)):=(takeS c 9 a d).bind fun b a1 d1=>if b then (wS c 40 a1 d1).bind fun _ a2 d2=>(blk a2 d2).bind fun l a3 d3=>.ok (bs++[l]) a3 d3 else .ok bs a1 d1
def choiceS (c:Ctx) (ex:Rd Ex) (blk:Rd (List Stm)) (a:Nat) (d:Int):Out Stm:=(paS c ex (a+1) d).bind fun e a1 d1=>(wS c 50 a1 d1).bind fun _ a2 d2=>(cP c blk (c.L.length+1 - a2) [] [] a2 d2).bind fun cb a3 d3 =>
 (dfltS c blk cb.2 a3 d3).bind fun bs a4 d4=>(wS c 52 a4 d4).bind fun _ a5 d5=>.ok (.mk 6 nN nN [e] bs cb.1 (ps c a)) a5 d5
def whileS (c:Ctx) (ex:Rd Ex) (blk:Rd (List Stm)) (a:Nat) (d:Int):Out Stm:=(paS c ex (a+1) d).bind fun e a1 d1=>(blk a1 d1).bind fun b a2 d2=>.ok (.mk 5 nN nN [e] [b] [] (ps c a)) a2 d2
def asgS (c:Ctx) (ex:Rd Ex) (a:Nat) (d:Int):Out Stm:=(assignS c ex a d).bind fun q a1 d1=>(wS c 41 a1 d1).bind fun _ a2 d2=>.ok (.mk q.1 q.2.1 q.2.2.1 q.2.2.2 [] [] (ps c a)) a2 d2
def callStS (c:Ctx) (a:Nat) (d:Int):Out Stm:=(nS c (a+1) d).bind fun s a1 d1=>(wS c 41 a1 d1).bind fun _ a2 d2=>.ok (.mk 7 s nN [] [] [] (ps c a)) a2 d2
def assertS (c:Ctx) (ex:Rd Ex) (a:Nat) (d:Int):Out Stm:=(paS c ex (a+1) d).bind fun e a1 d1=>(wS c 41 a1 d1).bind fun _ a2 d2=>.ok (.mk 8 nN nN [e] [] [] (ps c a)) a2 d2
def skipS (c:Ctx) (a:Nat) (d:Int):Out Stm:=(wS c 23 a d).bind fun _ a1 d1=>(wS c 41 a1 d1).bind fun _ a2 d2=>.ok (.mk 9 nN nN [] [] [] (ps c a)) a2 d2
def stmtOf (c:Ctx) (ex:Rd Ex) (blk:Rd (List Stm)) (a:Nat) (d:Int):Out Stm :=
 if kd c a=1 then asgS c ex a d
 else if kd c a=11 then brS c ex blk (c.L.length+1 - a) a d
 else if kd c a=27 then whileS c ex blk a d
 else if kd c a=24 then choiceS c ex blk a d
 else if kd c a=5 then callStS c a d
 else if kd c a=4 then assertS c ex a d
 else skipS c a d
def stmtS (c:Ctx):Nat→Nat→Int→Out Stm
 | 0,_,_=>.bad 0 0
 | f+1,a,d=>stmtOf c (exprS c) (blockS c (stmtS c f)) a d
theorem wF {c:Ctx} {k:Int} (hk:1≤k) (hn:k≠32∧k≠48∧k≠50∧k≠33∧k≠49∧k≠52) {a a':Nat} {d d':Int} {t:Tok} (h:wS c k a d=.ok t a' d'):a'=a+1∧a'≤c.L.length∧d'=d:=by
 obtain ⟨-,e,hl,-,hd,-⟩:=want_ok hk h
 rw [if_neg (by omega),if_neg (by omega)] at hd
 exact ⟨e,hl,hd⟩
theorem want_open {c:Ctx} {k:Int} (hn:k=32∨k=48∨k=50) {a a':Nat} {d d':Int} {t:Tok} (h:wS c k a d=.ok t a' d'):a'=a+1∧a'≤c.L.length∧d'=d+1∧d≠64:=by
 obtain ⟨-,e,hl,-,hd,hne⟩:=want_ok (by omega) h
 rw [if_pos hn] at hd
 exact ⟨e,hl,hd,hne hn⟩
theorem want_shut {c:Ctx} {k:Int} (hn:k=33∨k=49∨k=52) {a a':Nat} {d d':Int} {t:Tok} (h:wS c k a d=.ok t a' d'):a'=a+1∧a'≤c.L.length∧d'=d - 1:=by
 obtain ⟨-,e,hl,-,hd,-⟩:=want_ok (by omega) h
 rw [if_neg (by omega),if_pos hn] at hd
 exact ⟨e,hl,hd⟩
theorem take_fine {c:Ctx} {k:Int} (hk:1≤k) (hn:k≠32∧k≠48∧k≠50∧k≠33∧k≠49∧k≠52) {a a':Nat} {d d':Int} {b:Bool} (hl:a≤c.L.length) (h:takeS c k a d=.ok b a' d'):a≤a'∧a'≤c.L.length∧d'=d∧(b=true→a'=a+1)∧(b=false→a'=a):=by
 obtain ⟨q1,q2,qt,qf⟩:=take_ok hk hl h
 cases b with
 | true =>
  obtain ⟨e,hd,_⟩:=qt rfl
  rw [if_neg (by omega),if_neg (by omega)] at hd
  exact ⟨q1,q2,hd,fun _=>e,fun h=>by cases h⟩
 | false =>
  obtain ⟨e,hd⟩:=qf rfl
  exact ⟨q1,q2,hd,(fun h=>by cases h),fun _=>e⟩
theorem constant_fine {c:Ctx} {a a':Nat} {d d':Int} {s:Con} (hl:a≤c.L.length) (h:coS c a d=.ok s a' d'):a<a'∧a'≤c.L.length∧d'=d:=by
 unfold coS at h
 split at h
 ·obtain ⟨s,a1,d1,h1,h2⟩:=bO h
  obtain ⟨e,hl1,hd,-⟩:=name_ok h1
  cases h2
  exact ⟨by omega,hl1,hd⟩
 ·obtain ⟨b,a1,d1,h1,h2⟩:=bO h
  obtain ⟨q1,q2,q3,-⟩:=take_fine (by omega) (by omega) hl h1
  obtain ⟨t,a2,d2,h3,h4⟩:=bO h2
  obtain ⟨e,hl1,hd⟩:=wF (by omega) (by omega) h3
  cases h4
  exact ⟨by omega,hl1,by omega⟩
theorem assignS_fine {c:Ctx} {ex:Rd Ex} {a0:Nat} (hn:Fine c ex (a0+1)):Fine c (assignS c ex) a0:=by
 intro a d ha h0 h1 x a' d' h
 obtain ⟨s,a1,d1,k1,h2⟩:=bO h
 obtain ⟨e1,l1,f1,-⟩:=name_ok k1
 obtain ⟨b,a2,d2,k2,h3⟩:=bO h2
 obtain ⟨-,m2,mt,mf⟩:=take_ok (by omega) l1 k2
 cases b with
 | true =>
  obtain ⟨e2,f2,g2⟩:=mt rfl
  rw [if_pos (by omega)] at f2
  have g2:=g2 (by omega)
  obtain ⟨i,a3,d3,k3,h4⟩:=bO (show Out.bind _ _=_ from h3)
  obtain ⟨p1,p2,p3⟩:=hn _ _ (by omega) (by omega) (by omega) _ _ _ k3
  obtain ⟨_,a4,d4,k4,h5⟩:=bO h4
  obtain ⟨e4,l4,f4⟩:=want_shut (by omega) k4
  obtain ⟨_,a5,d5,k5,h6⟩:=bO h5
  obtain ⟨e5,l5,f5⟩:=wF (by omega) (by omega) k5
  obtain ⟨x,a6,d6,k6,h7⟩:=bO h6
  obtain ⟨r1,r2,r3⟩:=hn _ _ (by omega) (by omega) (by omega) _ _ _ k6
  cases h7
  exact ⟨by omega,r2,by omega⟩
 | false =>
  obtain ⟨e2,f2⟩:=mf rfl
  obtain ⟨_,a3,d3,k3,h4⟩:=bO (show Out.bind _ _=_ from h3)
  obtain ⟨e3,l3,f3⟩:=wF (by omega) (by omega) k3
  obtain ⟨r,a4,d4,k4,h5⟩:=bO h4
  obtain ⟨n1,n2,n3,nt,nf⟩:=take_fine (by omega) (by omega) l3 k4
  cases r with
  | true =>
   obtain ⟨t,a5,d5,k5,h6⟩:=bO (show Out.bind _ _=_ from h5)
   obtain ⟨e5,l5,f5,-⟩:=name_ok k5
   cases h6
   exact ⟨by omega,l5,by omega⟩
  | false =>
   obtain ⟨x,a5,d5,k5,h6⟩:=bO (show Out.bind _ _=_ from h5)
   obtain ⟨r1,r2,r3⟩:=hn _ _ (by omega) (by omega) (by omega) _ _ _ k5
   cases h6
   exact ⟨by omega,r2,by omega⟩
theorem blockLoop_fine {c:Ctx} {st:Rd Stm} {a0:Nat} (hn:Fine c st a0):∀(f:Nat) (l:List Stm) (a:Nat) (d:Int),a0≤a→a≤c.L.length→0≤d→d≤64→∀x a' d',bl c st f l a d=.ok x a' d'→a≤a'∧a'≤c.L.length∧d'=d
 | 0,l,a,d,_,_,_,_,x,a',d',h=>by cases h
 | f+1,l,a,d,ha,hl,h0,h1,x,a',d',h=>by
  rw [bl] at h
  split at h
  ·cases h;exact ⟨Nat.le_refl _,hl,rfl⟩
  ·obtain ⟨s,a1,d1,k1,h2⟩:=bO h
   obtain ⟨p1,p2,p3⟩:=hn _ _ ha h0 h1 _ _ _ k1
   obtain ⟨r1,r2,r3⟩:=blockLoop_fine hn f _ _ _ (by omega) p2 (by omega) (by omega) _ _ _ h2
   exact ⟨by omega,r2,by omega⟩
theorem blockS_fine {c:Ctx} {st:Rd Stm} {a0:Nat} (hn:Fine c st (a0+1)):Fine c (blockS c st) a0:=by
 intro a d ha h0 h1 x a' d' h
 obtain ⟨_,a1,d1,k1,h2⟩:=bO h
 obtain ⟨e1,l1,f1,g1⟩:=want_open (by omega) k1
 obtain ⟨l,a2,d2,k2,h3⟩:=bO h2
 obtain ⟨p1,p2,p3⟩:=blockLoop_fine hn _ _ _ _ (by omega) l1 (by omega) (by omega) _ _ _ k2
 obtain ⟨_,a3,d3,k3,h4⟩:=bO h3
 obtain ⟨e3,l3,f3⟩:=want_shut (by omega) k3
 cases h4
 exact ⟨by omega,l3,by omega⟩
theorem branchS_fine {c:Ctx} {ex:Rd Ex} {blk:Rd (List Stm)} {a0:Nat} (hE:Fine c ex (a0+1)) (hB:Fine c blk (a0+1)):∀f,Fine c (brS c ex blk f) a0
 | 0=>fun a d _ _ _ x a' d' h=>by cases h
 | f+1=>by
  intro a d ha h0 h1 x a' d' h
  rw [brS] at h
  obtain ⟨_,a1,d1,k1,h2⟩:=bO h
  obtain ⟨e1,l1,f1⟩:=wF (by omega) (by omega) k1
  obtain ⟨e,a2,d2,k2,h3⟩:=bO h2
  obtain ⟨p1,p2,p3⟩:=parensS_fine (a0:=a0) hE _ _ (by omega) (by omega) (by omega) _ _ _ k2
  obtain ⟨b,a3,d3,k3,h4⟩:=bO h3
  obtain ⟨r1,r2,r3⟩:=hB _ _ (by omega) (by omega) (by omega) _ _ _ k3
  obtain ⟨el,a4,d4,k4,h5⟩:=bO h4
  obtain ⟨n1,n2,n3,-⟩:=take_fine (by omega) (by omega) r2 k4
  cases el with
  | false=>cases h5;exact ⟨by omega,n2,by omega⟩
  | true =>
   have h6:(if kd c a4=11 then _ else _:Out Stm)=.ok x a' d':=h5
   split at h6
   ·obtain ⟨s,a5,d5,k5,h7⟩:=bO h6
    obtain ⟨m1,m2,m3⟩:=branchS_fine hE hB f _ _ (by omega) (by omega) (by omega) _ _ _ k5
    cases h7
    exact ⟨by omega,m2,by omega⟩
   ·obtain ⟨s,a5,d5,k5,h7⟩:=bO h6
    obtain ⟨m1,m2,m3⟩:=hB _ _ (by omega) (by omega) (by omega) _ _ _ k5
    cases h7
    exact ⟨by omega,m2,by omega⟩
theorem caseLoop_fine {c:Ctx} {blk:Rd (List Stm)} {a0:Nat} (hB:Fine c blk a0):∀(f:Nat) (cs:List Con) (bs:List (List Stm)) (a:Nat) (d:Int),a0≤a→a≤c.L.length→0≤d→d≤64→∀x a' d',cP c blk f cs bs a d=.ok x a' d'→a≤a'∧a'≤c.L.length∧d'=d
 | 0,cs,bs,a,d,_,_,_,_,x,a',d',h=>by cases h
 | f+1,cs,bs,a,d,ha,hl,h0,h1,x,a',d',h=>by
  rw [cP] at h
  obtain ⟨b,a1,d1,k1,h2⟩:=bO h
  obtain ⟨n1,n2,n3,-⟩:=take_fine (by omega) (by omega) hl k1
  cases b with
  | false=>cases h2;exact ⟨n1,n2,n3⟩
  | true =>
   obtain ⟨k,a2,d2,k2,h3⟩:=bO (show Out.bind _ _=_ from h2)
   obtain ⟨p1,p2,p3⟩:=constant_fine n2 k2
   obtain ⟨_,a3,d3,k3,h4⟩:=bO h3
   obtain ⟨e3,l3,f3⟩:=wF (by omega) (by omega) k3
   obtain ⟨l,a4,d4,k4,h5⟩:=bO h4
   obtain ⟨r1,r2,r3⟩:=hB _ _ (by omega) (by omega) (by omega) _ _ _ k4
   obtain ⟨m1,m2,m3⟩:=caseLoop_fine hB f _ _ _ _ (by omega) r2 (by omega) (by omega) _ _ _ h5
   exact ⟨by omega,m2,by omega⟩
theorem dfltS_fine {c:Ctx} {blk:Rd (List Stm)} {a0:Nat} (hB:Fine c blk a0) (bs:List (List Stm)) (a:Nat) (d:Int) (ha:a0≤a) (hl:a≤c.L.length) (h0:0≤d) (h1:d≤64):∀x a' d',dfltS c blk bs a d=.ok x a' d'→a≤a'∧a'≤c.L.length∧d'=d:=by
 intro x a' d' h
 obtain ⟨b,a1,d1,k1,h2⟩:=bO h
 obtain ⟨n1,n2,n3,-⟩:=take_fine (by omega) (by omega) hl k1
 cases b with
 | false=>cases h2;exact ⟨n1,n2,n3⟩
 | true =>
  obtain ⟨_,a2,d2,k2,h3⟩:=bO (show Out.bind _ _=_ from h2)
  obtain ⟨e3,l3,f3⟩:=wF (by omega) (by omega) k2
  obtain ⟨l,a4,d4,k4,h5⟩:=bO h3
  obtain ⟨r1,r2,r3⟩:=hB _ _ (by omega) (by omega) (by omega) _ _ _ k4
  cases h5
  exact ⟨by omega,r2,by omega⟩
theorem choiceS_fine {c:Ctx} {ex:Rd Ex} {blk:Rd (List Stm)} {a0:Nat} (hE:Fine c ex (a0+1)) (hB:Fine c blk (a0+1)):Fine c (choiceS c ex blk) a0:=by
 intro a d ha h0 h1 x a' d' h
 obtain ⟨e,a1,d1,k1,h2⟩:=bO h
 obtain ⟨p1,p2,p3⟩:=parensS_fine (a0:=a0) hE _ _ (by omega) (by omega) (by omega) _ _ _ k1
 obtain ⟨_,a2,d2,k2,h3⟩:=bO h2
 obtain ⟨e2,l2,f2,g2⟩:=want_open (by omega) k2
 obtain ⟨cb,a3,d3,k3,h4⟩:=bO h3
 obtain ⟨r1,r2,r3⟩:=caseLoop_fine hB _ _ _ _ _ (by omega) l2 (by omega) (by omega) _ _ _ k3
 obtain ⟨bs,a4,d4,k4,h5⟩:=bO h4
 obtain ⟨m1,m2,m3⟩:=dfltS_fine hB _ _ _ (by omega) r2 (by omega) (by omega) _ _ _ k4
 obtain ⟨_,a5,d5,k5,h6⟩:=bO h5
 obtain ⟨e5,l5,f5⟩:=want_shut (by omega) k5
 cases h6
 exact ⟨by omega,l5,by omega⟩
theorem stmtOf_fine {c:Ctx} {ex:Rd Ex} {blk:Rd (List Stm)} {a0:Nat} (hE:Fine c ex (a0+1)) (hB:Fine c blk (a0+1)):Fine c (stmtOf c ex blk) a0:=by
 intro a d ha h0 h1 x a' d' h
 unfold stmtOf at h
 split at h
 ·obtain ⟨q,a1,d1,k1,h2⟩:=bO h
  obtain ⟨p1,p2,p3⟩:=assignS_fine hE _ _ ha h0 h1 _ _ _ k1
  obtain ⟨_,a2,d2,k2,h3⟩:=bO h2
  obtain ⟨e2,l2,f2⟩:=wF (by omega) (by omega) k2
  cases h3
  exact ⟨by omega,l2,by omega⟩
 split at h
 ·exact branchS_fine hE hB _ _ _ ha h0 h1 _ _ _ h
 split at h
 ·obtain ⟨e,a1,d1,k1,h2⟩:=bO h
  obtain ⟨p1,p2,p3⟩:=parensS_fine (a0:=a0) hE _ _ (by omega) (by omega) (by omega) _ _ _ k1
  obtain ⟨b,a2,d2,k2,h3⟩:=bO h2
  obtain ⟨r1,r2,r3⟩:=hB _ _ (by omega) (by omega) (by omega) _ _ _ k2
  cases h3
  exact ⟨by omega,r2,by omega⟩
 split at h
 ·exact choiceS_fine hE hB _ _ ha h0 h1 _ _ _ h
 split at h
 ·obtain ⟨s,a1,d1,k1,h2⟩:=bO h
  obtain ⟨e1,l1,f1,-⟩:=name_ok k1
  obtain ⟨_,a2,d2,k2,h3⟩:=bO h2
  obtain ⟨e2,l2,f2⟩:=wF (by omega) (by omega) k2
  cases h3
  exact ⟨by omega,l2,by omega⟩
 split at h
 ·obtain ⟨e,a1,d1,k1,h2⟩:=bO h
  obtain ⟨p1,p2,p3⟩:=parensS_fine (a0:=a0) hE _ _ (by omega) (by omega) (by omega) _ _ _ k1
  obtain ⟨_,a2,d2,k2,h3⟩:=bO h2
  obtain ⟨e2,l2,f2⟩:=wF (by omega) (by omega) k2
  cases h3
  exact ⟨by omega,l2,by omega⟩
 ·obtain ⟨_,a1,d1,k1,h2⟩:=bO h
  obtain ⟨e1,l1,f1⟩:=wF (by omega) (by omega) k1
  obtain ⟨_,a2,d2,k2,h3⟩:=bO h2
  obtain ⟨e2,l2,f2⟩:=wF (by omega) (by omega) k2
  cases h3
  exact ⟨by omega,l2,by omega⟩
theorem stmtS_fine {c:Ctx}:∀(f a0:Nat),Fine c (stmtS c f) a0
 | 0,a0=>fun a d _ _ _ x a' d' h=>by cases h
 | f+1,a0=>fun a d ha h0 h1 x a' d' h=>stmtOf_fine (exprS_fine _) (blockS_fine (stmtS_fine f _)) a d ha h0 h1 x a' d' h
def ReadsA {α:Type} (c:Ctx) (K:Nat) (rep:Nat→World→Value→α→Prop) (S:Rd α) (a0:Nat):Prop:=∀W a d fp fe,St c W a d fp fe→Ops W→a0≤a→a≤c.L.length→0≤d→d≤64→Calls Tryz.prog K #[c.me] W (Post c W fp fe (rep W.heap.size) (S a d))
abbrev repBlk (lo:Nat):World→Value→List Stm→Prop:=fun W v x=>∃A n cap,v=.slice A n cap∧RepB (fun b=>lo≤b) W x [.slice A n cap]
abbrev repSt (lo:Nat):World→Value→Stm→Prop:=fun W v x=>∃op name read A1 n1 c1 A2 n2 c2 A3 n3 c3 pos,v=.agg #[.int .i64 op,.string name,.string read,.slice A1 n1 c1,.slice A2 n2 c2,.slice A3 n3 c3,.int .i64 pos]∧RepS (fun b=>lo≤b) W x (stCells op name read A1 n1 c1 A2 n2 c2 A3 n3 c3 pos)
abbrev Z107:Array Value:=Z7
abbrev E107 (op:Int) (name read:ByteArray) (v1 v2 v3:Value) (pos:Int):Array Value:=#[.int .i64 op,.string name,.string read,v1,v2,v3,.int .i64 pos]
theorem Acc.farS {ty size lo:Nat} {W W':World} {v:Value} {xs:List Stm} (h:Acc RepS ty size lo W v xs) (hf:Far lo W W'):Acc RepS ty size lo W' v xs:=Acc.far (R:=RepS) repS_keeps h hf
theorem Acc.farB {ty size lo:Nat} {W W':World} {v:Value} {xs:List (List Stm)} (h:Acc RepB ty size lo W v xs) (hf:Far lo W W'):Acc RepB ty size lo W' v xs:=Acc.far (R:=RepB) rK h hf
theorem all2_con {P:Nat→Prop} {W:World}:∀{xs:List Con} {vs:List (List Value)},All2 (RepC P W) xs vs→vs=xs.map conCells
 | [],[],_=>rfl
 | _ :: _,_ :: _,h=>by rw [h.1,all2_con h.2];rfl
theorem Acc.stmt {lo:Nat} {W:World} {A1 A2 A3:Option Addr} {n1 c1 n2 c2 n3 c3:Nat} {args:List Ex} {blocks:List (List Stm)} {cases:List Con} (h1:Acc RepE 93 5 lo W (.slice A1 n1 c1) args) (h2:Acc RepB 25 1 lo W (.slice A2 n2 c2) blocks) (h3:Acc RepC 67 3 lo W (.slice A3 n3 c3) cases)
  (op:Int) (name read:ByteArray) (pos:Int):RepS (fun b=>lo≤b) W (.mk op name read args blocks cases pos) (stCells op name read A1 n1 c1 A2 n2 c2 A3 n3 c3 pos):=by
 obtain ⟨v1,o1,a1⟩:=h1.ex
 obtain ⟨v2,o2,a2⟩:=h2.ex
 obtain ⟨v3,o3,a3⟩:=h3.ex
 obtain ⟨B1,k1,e1,l1⟩:=h1.shape
 obtain ⟨B2,k2,e2,l2⟩:=h2.shape
 obtain ⟨B3,k3,e3,l3⟩:=h3.shape
 cases e1
 cases e2
 cases e3
 rw [RepS]
 refine ⟨A1,c1,v1,A2,c2,v2,A3,c3,rfl,l1,l2,l3,Row.own o1,repEs_iff.2 (a1.imp fun x y hr=>repE_keeps hr (fun _ hb=>hb.1) fun _ _ _=>rfl),Row.own o2,repBs_iff.2 (a2.imp fun x y hr=>rK hr (fun _ hb=>hb.1) fun _ _ _=>rfl),?_⟩
 rw [all2_con a3] at o3
 exact Row.own o3
theorem Acc.block {lo:Nat} {W:World} {A:Option Addr} {n cap:Nat} {l:List Stm} (h:Acc RepS 107 7 lo W (.slice A n cap) l):RepB (fun b=>lo≤b) W l [.slice A n cap]:=by
 obtain ⟨vs,hown,hall⟩:=h.ex
 obtain ⟨B,k,e,hl⟩:=h.shape
 cases e
 exact ⟨A,cap,vs,rfl,hl,Row.own hown,repSs_iff.2 (hall.imp fun x y hr=>repS_keeps hr (fun _ hb=>hb.1) fun _ _ _=>rfl)⟩
theorem repS_lt {w:World} {P:Nat→Prop} {x:Stm} {v:List Value} (h:RepS P w x v):RepS (fun b=>P b∧b<w.heap.size) w x v:=RepS.lt _ _ h
theorem repB_lt {w:World} {P:Nat→Prop} {x:List Stm} {v:List Value} (h:RepB P w x v):RepB (fun b=>P b∧b<w.heap.size) w x v:=RepB.lt _ _ h
structure Zr (c:Ctx) (W X:World) (a:Nat) (d fp fe:Int):Prop where
 fr:W.grownBy X (some c.g)
 pb:X.heap[c.g]?=some (.cells (c.cells a d fp fe) 56 (0,0))
section
variable {c:Ctx} {W X Y:World} {a a' a0:Nat} {d d' d0 fp fp' fp0 fe fe' fe0:Int}
theorem Zr.start (h:St c W a d fp fe):Zr c W W a d fp fe:=⟨World.grownBy.refl _ _,h.blk⟩
theorem Zr.st (h:Zr c W X a d fp fe) (hG:Good c) (h0:St c W a0 d0 fp0 fe0):St c X a d fp fe:=St.frame hG h0 h.fr h.pb
theorem Zr.drewN (h:Zr c W X a d fp fe) (q:Nat):Zr c W (X.drewN q) a d fp fe:=⟨Q6 h.fr q,h.pb⟩
theorem Zr.alloc (h:Zr c W X a d fp fe) (o:Obj):Zr c W (X.alloc o) a d fp fe:=⟨grown_alloc h.fr _,(_root_.Go.heap_alloc_old X _ (bL h.pb)).trans h.pb⟩
theorem Zr.call (h:Zr c W X a d fp fe) (_h0:St c W a0 d0 fp0 fe0) (hg:X.grownBy Y (some c.g)) (hS:St c Y a' d' fp' fe'):Zr c W Y a' d' fp' fe':=⟨Q4 h.fr hg,hS.blk⟩
theorem Zr.row (h:Zr c W X a d fp fe) (h0:St c W a0 d0 fp0 fe0) {o:Option Nat} (hg:X.grownBy Y o) (ho:∀k,o=some k→W.heap.size≤k):Zr c W Y a d fp fe where
 fr:=⟨hg.os.trans h.fr.os,hg.tape.trans h.fr.tape,hg.output.trans h.fr.output,Nat.le_trans h.fr.size hg.size,fun k hk hne=>(hg.block k (Nat.lt_of_lt_of_le hk h.fr.size) (fun e=>by have:=ho k e.symm;omega)).trans (h.fr.block k hk hne)⟩
 pb:=(hg.block _ (bL h.pb) (fun e=>by have:=ho _ e.symm;have:=bL h0.blk;omega)).trans h.pb
end
structure BlockAt (c:Ctx) (W:World) (st:Rd Stm) (R:Out (List Stm)) (fp fe:Int) (a0:Nat) (d0:Int) (f:Nat) (v:Value) (X:World):Prop where
 ex:∃l a,Zr c W X a d0 fp fe∧Acc RepS 107 7 W.heap.size X v l∧bl c st f l a d0=R∧a0≤a∧a≤c.L.length∧c.L.length+1≤f+a∧l.length≤a
theorem one7 (op:Int) (name read:ByteArray) (A1:Option Addr) (n1 c1:Nat) (A2:Option Addr) (n2 c2:Nat) (A3:Option Addr) (n3 c3:Nat) (pos:Int):∀u ∈ stCells op name read A1 n1 c1 A2 n2 c2 A3 n3 c3 pos,u.oneCell'=true:=by
 intro u hu
 simp [stCells] at hu
 rcases hu with rfl | rfl | rfl | rfl | rfl | rfl | rfl <;> rfl
theorem oA {w:World} (cs:Array Value) (t:Nat) (vs:List Value) (e:cs.toList=vs):∀(j:Nat) (u:Value),vs[j]?=some u→(w.alloc (.cells cs t)).cell? ((⟨w.heap.size,0,none⟩:Addr).add j)=some u:=by
 intro j u hu
 subst e
 have hb:=bN w (.cells cs t)
 have hadd:(⟨w.heap.size,0,none⟩:Addr).add j=⟨w.heap.size,j,none⟩:=by unfold Addr.add;split <;> simp_all
 rw [hadd]
 exact (bC hb j).trans (by simpa using hu)
theorem repS_into {lo lo':Nat} {w:World} {x:Stm} {v:List Value} {u:Value} (h:RepS (fun b=>lo'≤b) w x v) (hl:lo≤lo') (hu:∀k,u.ownBlock=some k→k<lo') (o:Obj):RepS (fun b=>lo≤b∧u.ownBlock≠some b) (w.alloc o) x v :=
 RepS.keep (fun b hb=>⟨Nat.le_trans hl hb,fun e=>by have:=hu b e;omega⟩) (fun b _ hk=>_root_.Go.heap_alloc_old w o hk) _ _ h
set_option maxHeartbeats 8000000 in
theorem block_reads {c:Ctx} (hG:Good c) (hg1:1<c.g) {st:Rd Stm} {a0:Nat} (hF:Fine c st (a0+1)) (hR:ReadsA c 100 repSt st (a0+1)):ReadsA c 58 repBlk (blockS c st) a0:=by
 intro W a d fp fe h hO ha hl h0 h1
 have hT0:=Zr.start h
 obtain ⟨S,hSp⟩:∃S,A0 (blockS c st a d=S):=⟨_,⟨rfl⟩⟩
 rw [hSp.out]
 have hR:=A0.mk hR
 have hF:=A0.mk hF
 have hO:=A0.mk hO
 have hgl:=bL h.blk
 go_enter Tryz.func58,Tryz.ntmps58
 have CN:=wC hG h (by omega) 50 (by omega)
 go_upto_block 0 with (first|(go_at_call 59;(with_reducible refine CN.mono ?_);rintro e w hP;rcases hP.elim with ⟨t,a1,d1,ho,hg,⟨v,rfl,rfl⟩,hS⟩|⟨p,er,ho,hg,rfl,a',d',hS⟩;(have hT1:=hT0.call h hg hS)))
 case inr =>
  rw [show S=.bad p er by rw [←hSp.out];simp only [blockS,Out.bind,ho]]
  exact ⟨rfl,Post.mk_bad (Q4 hT0.fr hg) hS⟩
 obtain ⟨e1,l1,f1,g1⟩:=want_open (by omega) ho
 have q1:A0 (wS c 50 a d=.ok t a1 d1):=⟨ho⟩
 subst f1
 clear ho hP CN hT0 hg hS
 obtain ⟨R,hRs⟩:∃R,A0 (bl c st (c.L.length+1 - a1) [] a1 (d+1)=R):=⟨_,⟨rfl⟩⟩
 obtain ⟨F,hFF⟩:∃F,A0 (c.L.length+1 - a1=F):=⟨_,⟨rfl⟩⟩
 have hA:A0 (BlockAt c W st R fp fe (a0+1) (d+1) F (.slice none 0 0) w):=⟨⟨[],a1,hT1,Acc.nil _,by rw [←hFF.out,hRs.out],by omega,l1,by have:=hFF.out;omega,by simp⟩⟩
 have hinfo:(Tryz.prog.info? 107).map (fun i=>(i.zero,i.size,i.bytes))=some (some (.agg Z7),7,120):=by kernel_rfl
 obtain ⟨i0,hi,hz0,hz1,hz2⟩:=info_parts hinfo
 clear hT1 hinfo e1
 go_wp2
 go_loopg [3] F (fun f v X=>BlockAt c W st R fp fe (a0+1) (d+1) f v X)
 case atStart=>exact hA.out
 case round =>
  obtain ⟨l,a2,hT2,hAc,hsp,b1,b2,b3,b4⟩:=hrel.ex
  clear hA hrel
  obtain ⟨f,rfl⟩:∃f,gk=f+1:=⟨gk - 1,by omega⟩
  have hsp:=A0.mk hsp
  obtain ⟨Av,nv,cv,rfl⟩:=hAc.form
  have hAc:=A0.mk hAc
  have hS2:=hT2.st hG h
  have KD:=kC hS2
  by_cases hk:kd c a2=52
  ·have hb:(kd c a2 != 52)=false:=by rw [hk];rfl
   have hRv:A0 (R=.ok l a2 (d+1)):=⟨by rw [←hsp.out,bl,if_pos hk]⟩
   clear hk
   have CW:=fun q=>wC hG (hS2.drewN q) (by omega) 52 (by omega)
   go_upto_region 6 with (first|(go_at_call 55;with_reducible refine KD.mono ?_;rintro e w' ⟨rfl,q,rfl⟩)|(go_at_call 59;(with_reducible refine (CW _).mono ?_);rintro e w hP;rcases hP.elim with ⟨t2,a3,d3,ho,hg,⟨v,rfl,rfl⟩,hS⟩|⟨p,er,ho,hg,rfl,a',d',hS⟩))
   case inr =>
    rw [show S=.bad p er by rw [←hSp.out];simp only [blockS,Out.bind,q1.out,hRs.out,hRv.out,ho]]
    exact ⟨rfl,Post.mk_bad (Q4 (hT2.drewN q).fr hg) hS⟩
   have hSv:A0 (S=.ok l a3 d3):=⟨by rw [←hSp.out];simp only [blockS,Out.bind,q1.out,hRs.out,hRv.out,ho]⟩
   have hA3:=A0.mk ((hAc.out.farS ((Far.refl _ _).drewN q)).farS (Far.ofGrown hg hgl)).block
   have hg:=A0.mk hg
   clear ho hP
   go_wp2
   go_ret
   rw [hSv.out]
   exact Post.mk_ok (rep:=repBlk W.heap.size) (Q4 (hT2.drewN q).fr hg.out) ⟨_,_,_,rfl,hA3.out⟩ hS
  ·have hb:(kd c a2 != 52)=true:=bne_iff_ne.mpr hk
   have hsp2:A0 (((st a2 (d+1)).bind fun s a1 d1=>bl c st f (l++[s]) a1 d1)=R):=⟨by rw [←hsp.out,bl,if_neg hk]⟩
   clear hk
   have CN:=fun q=>hR.out _ _ _ _ _ (hS2.drewN q) (hO.out.grown (hT2.drewN q).fr hg1) b1 b2 (by omega) (by omega)
   have hTd:=fun q=>hT2.drewN q
   have hlv:∀k,(Value.slice Av nv cv).ownBlock=some k→W.heap.size≤k∧k<wr.heap.size:=hAc.out.lt
   have hlv:=A0.mk hlv
   have hsz:=A0.mk hT2.fr.size
   go_upto_region 4 with (first|(go_at_call 55;with_reducible refine KD.mono ?_;rintro e w' ⟨rfl,q,rfl⟩))
   go_wp2_with (first
    | (go_at_call 100;(with_reducible refine (CN _).mono ?_);rintro e1 w1 hP;rcases hP.elim with ⟨x,a5,d5,ho,hg,⟨v2,rfl,op,name,read,A1,n1,c1,A2,n2,c2,A3,n3,c3,pos,rfl,hE⟩,hS⟩|⟨p,er,ho,hg,rfl,a',d',hS⟩;(have hTc:=(hTd q).call h hg hS;have hA1:=A0.mk ((hAc.out.farS ((Far.refl _ _).drewN q)).farS (Far.ofGrown hg hgl));have hE:=A0.mk hE;have ho:=A0.mk ho;have hgs:=A0.mk hg.size))
    | (at_builtin;refine wpList_append_acc (R:=RepS) repS_keeps rfl (.tmp 9) (.tmp 12) 25 rfl W.heap.size 107 i0 (.agg Z7) 7 120 Tryz.underlying25 hi hz0 hz1 hz2 rfl (by decide) (.slice Av nv cv) l rfl (hA1.out.farS ((Far.refl _ _).alloc _)) ⟨w1.heap.size,0,none⟩ 1 x (stCells op name read A1 n1 c1 A2 n2 c2 A3 n3 c3 pos) rfl rfl (oA _ _ _ rfl) (one7 _ _ _ _ _ _ _ _ _ _ _ _ _) (repS_into hE.out hsz.out (fun k hk=>(hlv.out k hk).2) _) repS_lt (by have:=hG.hl;unfold maxLen;omega) (by have:=hG.hl;omega) (by have:=hsz.out;have:=hgs.out;simp at this ⊢;omega) ?_;intro v3 w3 hA3 hg3;(have hTe:=(hTc.alloc (.cells (E107 op name read (.slice A1 n1 c1) (.slice A2 n2 c2) (.slice A3 n3 c3) pos) 107)).row h hg3 (fun k hk=>(hlv.out k hk).1))))
   case inr =>
    rw [show S=.bad p er by rw [←hSp.out];simp only [blockS,Out.bind,q1.out,hRs.out];rw [←hsp2.out];simp only [Out.bind,ho]]
    exact ⟨rfl,Post.mk_bad (Q4 (hTd q).fr hg) hS⟩
   obtain ⟨p1,p2,e4⟩:=hF.out _ _ b1 (by omega) (by omega) _ _ _ ho.out
   subst e4
   go_roundg f
   case rel=>exact ⟨l++[x],a5,hTe,hA3,by rw [←hsp2.out];simp only [Out.bind,ho.out],by omega,p2,by omega,by simp;omega⟩
   case measure=>omega
theorem Acc.head {α:Type} {R:Rel α} {ty size lo:Nat} {W:World} {v:Value} {l:List α} {x:α} (h:Acc R ty size lo W v (l++[x])):∃g cap,v=.slice (some ⟨g,0,none⟩) (l.length+1) cap∧lo≤g:=by
 obtain ⟨vs,hown,_⟩:=h.ex
 rcases hown.2 with ⟨_,h0⟩|⟨g,cap,cur,rfl,hb,_⟩
 ·simp at h0
 ·exact ⟨g,cap,by simp,hb⟩
theorem All2.unsnoc {α β:Type} {R:α→β→Prop} {x:α}:∀{xs:List α} {ys:List β},All2 R (xs++[x]) ys→∃ys' y,ys=ys'++[y]∧All2 R xs ys'∧R x y
 | [],[y],h=>⟨[],y,rfl,trivial,h.1⟩
 | _ :: _,y :: ys,h=>by
  obtain ⟨ys',z,e,h1,h2⟩:=All2.unsnoc h.2
  exact ⟨y :: ys',z,by rw [e];rfl,⟨h.1,h1⟩,h2⟩
theorem repE_len {P:Nat→Prop} {W:World}:∀{x:Ex} {v:List Value},RepE P W x v→v.length=5
 | .mk ..,v,h=>by
  rw [RepE] at h
  obtain ⟨A,cap,vs,e,_⟩:=h
  rw [e]
  rfl
theorem Acc.last {lo:Nat} {W:World} {g n cap:Nat} {l:List Ex} {x:Ex} (h:Acc RepE 93 5 lo W (.slice (some ⟨g,0,none⟩) n cap) (l++[x])) :
  ∃cur us v,W.heap[g]?=some (.cells cur 93 (0,0))∧cur.toList.take ((l.length+1) * 5)=us++v∧us.length=l.length * 5∧v.length=5∧RepE (fun b=>lo≤b∧b≠g) W x v:=by
 obtain ⟨vs,hown,hall⟩:=h.ex
 obtain ⟨ys,y,rfl,h1,h2⟩:=hall.unsnoc
 rcases hown.2 with ⟨e,_⟩|⟨g',cap',cur,e,hb,hg,_,_,_,ht⟩
 ·cases e
 ·cases e
  rw [List.length_append,List.flatten_append] at ht
  have hl:=hown.1
  rw [List.flatten_append,List.length_append,List.length_append] at hl
  have hy:=repE_len h2
  simp at hl ht
  refine ⟨cur,ys.flatten,y,hg,ht,by rw [List.length_flatten];omega,hy,RepE.keep (fun b hb=>⟨hb.1,fun e=>hb.2 (by rw [e];rfl)⟩) (fun _ _ _=>rfl) _ _ h2⟩
theorem Acc.lastCell {lo:Nat} {W:World} {g n cap:Nat} {l:List Ex} {op num:Int} {nm:ByteArray} {pos:Int} (h:Acc RepE 93 5 lo W (.slice (some ⟨g,0,none⟩) n cap) (l++[.mk op num nm [] pos])) (j:Nat) (hj:j<5):∃u,W.cell? ⟨g,l.length * 5+j,none⟩=some u:=by
 obtain ⟨cur,us,v,hg,ht,h1,h2,_⟩:=h.last
 have hk:(us++v)[l.length * 5+j]?=some (v[j]'(by omega)):=by
  rw [List.getElem?_append_right (by omega),show l.length * 5+j - us.length=j by omega,List.getElem?_eq_getElem]
 rw [←ht,List.getElem?_take] at hk
 split at hk
 ·exact ⟨_,(bC hg _).trans (by simpa using hk)⟩
 ·cases hk
theorem Acc.lastFree {lo:Nat} {W:World} {g n cap:Nat} {l:List Ex} {x:Ex} (h:Acc RepE 93 5 lo W (.slice (some ⟨g,0,none⟩) n cap) (l++[x])) (i:Nat):W.frozen? ⟨g,i,none⟩=false:=by
 obtain ⟨cur,us,v,hg,_⟩:=h.last
 exact bF hg i
theorem set5_take {cur:List Value} {k m:Nat} {us v:List Value} (ht:cur.take m=us++v) (hm:m=k+5) (hu:us.length=k) (hv:v.length=5) (u0 u1 u2 u3 u4:Value) :
  (((((cur.set k u0).set (k+1) u1).set (k+2) u2).set (k+3) u3).set (k+4) u4).take m=us++[u0,u1,u2,u3,u4]:=by
 subst hu
 subst hm
 have hlen:us.length+5≤cur.length:=by
  have:=congrArg List.length ht
  rw [List.length_take,List.length_append] at this
  omega
 apply List.ext_getElem?
 intro i
 by_cases hi:i<us.length
 ·have h1:(us++v)[i]?=us[i]?:=List.getElem?_append_left hi
  rw [←ht,List.getElem?_take_of_lt (by omega)] at h1
  rw [List.getElem?_take_of_lt (by omega),List.getElem?_append_left hi,←h1]
  simp only [List.getElem?_set]
  rw [if_neg (by omega),if_neg (by omega),if_neg (by omega),if_neg (by omega),if_neg (by omega)]
 ·by_cases h5:i<us.length+5
  ·rw [List.getElem?_take_of_lt h5,List.getElem?_append_right (by omega)]
   obtain ⟨j,hj,rfl⟩:∃j,j<5∧us.length+j=i:=⟨i - us.length,by omega,by omega⟩
   have hsub:us.length+j - us.length=j:=by omega
   rw [hsub]
   match j,hj with
   | 0,_=>simp [List.getElem?_set];omega
   | 1,_=>simp [List.getElem?_set];omega
   | 2,_=>simp [List.getElem?_set];omega
   | 3,_=>simp [List.getElem?_set];omega
   | 4,_=>simp [List.getElem?_set];omega
  ·rw [List.getElem?_eq_none (by rw [List.length_take];omega),List.getElem?_eq_none (by simp;omega)]
theorem repE_five {P:Nat→Prop} {W:World} {x:Ex} {g k:Nat} {v:List Value} (h:RepE (fun b=>P b∧b≠g) W x v) (u0 u1 u2 u3 u4:Value) :
  RepE (fun b=>P b∧b≠g) (((((W.setCell ⟨g,k,none⟩ u0).setCell ⟨g,k+1,none⟩ u1).setCell ⟨g,k+2,none⟩ u2).setCell ⟨g,k+3,none⟩ u3).setCell ⟨g,k+4,none⟩ u4) x v :=
 RepE.keep (fun _ hb=>hb) (fun b hb _=>(Below.heap_setCell _ _ _ b hb.2).trans ((Below.heap_setCell _ _ _ b hb.2).trans ((Below.heap_setCell _ _ _ b hb.2).trans ((Below.heap_setCell _ _ _ b hb.2).trans (Below.heap_setCell _ _ _ b hb.2))))) _ _ h
theorem Acc.set {lo:Nat} {W:World} {g n cap:Nat} {l:List Ex} {z x:Ex} (h:Acc RepE 93 5 lo W (.slice (some ⟨g,0,none⟩) n cap) (l++[z])) (k:Nat) (hk:k=l.length * 5) {op num:Int} {nm:ByteArray} {A:Option Addr} {m c:Nat} {pos:Int}
  (hx:RepE (fun b=>lo≤b∧b≠g) W x (eC op num nm A m c pos)) :
  Acc RepE 93 5 lo (((((W.setCell ⟨g,k,none⟩ (.int .i64 op)).setCell ⟨g,k+1,none⟩ (.int .i64 num)).setCell ⟨g,k+2,none⟩ (.string nm)).setCell ⟨g,k+3,none⟩ (.slice A m c)).setCell ⟨g,k+4,none⟩ (.int .i64 pos)) (.slice (some ⟨g,0,none⟩) n cap) (l++[x]):=by
 obtain ⟨vs,hown,hall⟩:=h.ex
 obtain ⟨ys,y,rfl,h1,h2⟩:=hall.unsnoc
 have hy:=repE_len h2
 rcases hown.2 with ⟨e,_⟩|⟨g',cap',cur,e,hb,hg,hle,hmx,hsz,ht⟩
 ·cases e
 ·cases e
  have hl:=hown.1
  rw [List.flatten_append,List.length_append,List.length_append] at hl
  rw [List.flatten_append] at ht
  simp at hl ht
  refine ⟨ys++[eC op num nm A m c pos],⟨by simp [List.length_flatten,eC];omega,.inr ⟨g,cap,_,by simp,hb,bP (bP (bP (bP (bP hg k _ rfl) (k+1) _ rfl) (k+2) _ rfl) (k+3) _ rfl) (k+4) _ rfl,by simpa using hle,hmx,by simpa using hsz,?_⟩⟩,?_⟩
  ·have:=set5_take (k:=k) (us:=ys.flatten) (v:=y) ht (by omega) (by rw [List.length_flatten];omega) hy (.int .i64 op) (.int .i64 num) (.string nm) (.slice A m c) (.int .i64 pos)
   simpa using this
  ·refine All2.snoc ?_ (h1.imp fun a b hr=>?_)
   ·exact RepE.keep (fun b hb=>⟨hb.1,fun e=>hb.2 (Option.some.inj e).symm⟩) (fun _ _ _=>rfl) _ _ (repE_five hx _ _ _ _ _)
   ·exact RepE.keep (P:=fun b=>lo≤b∧b≠g) (fun b hb=>⟨hb.1,fun e=>hb.2 (Option.some.inj e).symm⟩) (fun _ _ _=>rfl) _ _ (repE_five (RepE.keep (fun b hb=>⟨hb.1,fun e=>hb.2 (by rw [e];rfl)⟩) (fun _ _ _=>rfl) _ _ hr) _ _ _ _ _)
end Go.Proofs.YtgaoapnaplgaiaaGreatDoor.Sc
