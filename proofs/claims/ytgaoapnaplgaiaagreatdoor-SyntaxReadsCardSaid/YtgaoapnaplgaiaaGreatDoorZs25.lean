/- This claim's own texts, joined, with only what the claim uses: ParZg. -/
import Derived.Test.YtgaoapnaplgaiaaGreatDoorZs24
namespace Go.Proofs.YtgaoapnaplgaiaaGreatDoor.Sc
set_option maxRecDepth 100000
open Go.RowKit Tk Go.Proofs.YtgaoapnaplgaiaaGreatDoor.Wd
abbrev Z27:Array Value:=#[nilv,nilv,nilv,nilv]
structure DeclAt (c:Ctx) (W:World) (R:Out (List Dec)) (fp fe d0:Int) (f:Nat) (X:World):Prop where
 ex:∃ds a A n cap,Tw c W X (W.heap.size+1) 27 Z27 #[.slice A n cap,nilv,nilv,nilv] a d0 fp fe∧X.ownsRow (W.heap.size+2) 69 13 (.slice A n cap) ds.length (ds.map decCells).flatten∧dL c f ds a d0=R∧a≤c.L.length∧c.L.length+1≤f+a∧ds.length≤a
structure DeclEnd (c:Ctx) (W:World) (R:Out (List Dec)) (fp fe d0:Int) (X:World):Prop where
 ex:∃ds a A n cap,Tw c W X (W.heap.size+1) 27 Z27 #[.slice A n cap,nilv,nilv,nilv] a d0 fp fe∧X.ownsRow (W.heap.size+2) 69 13 (.slice A n cap) ds.length (ds.map decCells).flatten∧R=.ok ds a d0∧a≤c.L.length
structure ProcAt (c:Ctx) (W:World) (R:Out (List Prc)) (v1:Value) (ds:List Dec) (fp fe d0:Int) (f:Nat) (X:World):Prop where
 ex:∃pr a A n cap,Tw c W X (W.heap.size+1) 27 Z27 #[v1,.slice A n cap,nilv,nilv] a d0 fp fe∧Rows2 (W.heap.size+2) X v1 (.slice A n cap) ds pr∧pL c f pr a d0=R∧a≤c.L.length∧c.L.length+1≤f+a∧pr.length≤a
structure ProcEnd (c:Ctx) (W:World) (R:Out (List Prc)) (v1:Value) (ds:List Dec) (fp fe d0:Int) (X:World):Prop where
 ex:∃pr a A n cap,Tw c W X (W.heap.size+1) 27 Z27 #[v1,.slice A n cap,nilv,nilv] a d0 fp fe∧Rows2 (W.heap.size+2) X v1 (.slice A n cap) ds pr∧R=.ok pr a d0∧a≤c.L.length
theorem one13 (x:Dec):∀u ∈ decCells x,u.oneCell'=true:=by
 intro u hu
 simp [decCells] at hu
 rcases hu with rfl | rfl | rfl | rfl | rfl | rfl | rfl | rfl | rfl | rfl | rfl | rfl | rfl <;> rfl
theorem wpList_append_acc2 {α:Type} {R:Rel α} (hK:Keeps R) {P:Program} {w:World} {ops:Array Oper} {rest:List Oper} {o:Oper} {a:Act} {Q:Exit→Act→World→Prop} (hgd:o.guard=none) (s x:Operand) (t:TypeId)
  (ho:o.op=.call { callee:=.builtin .append,args:=#[s,x],argTypes:=#[t,t] })
  (lo:Nat) (e:TypeId) (i:TypeInfo) (z:Value) (size bytes:Nat) (ht:P.underlying t=some (.slice e)) (hi:P.info? e=some i) (hz:i.zero=some z)
  (hsize:i.size=size) (hby:i.bytes=bytes) (hzs:z.cells.size=size) (hsz:0<size)
  (v:Value) (xs:List α) (hs:a.eval s=v) (hacc:Acc R e size lo w v xs)
  (ad:Addr) (c:Nat) (y:α) (news:List Value) (hx:a.eval x=.slice (some ad) 1 c) (hl:news.length=size) (hnews:∀j u,news[j]?=some u→w.cell? (ad.add j)=some u) (h1:∀u ∈ news,u.oneCell'=true)
  (hy:R (fun b=>lo≤b∧v.ownBlock≠some b) w y news)
  (hlt:∀{P:Nat→Prop} {x:α} {v:List Value},R P w x v→R (fun b=>P b∧b<w.heap.size) w x v)
  (h63:xs.length+1≤maxLen) (hbytes:(xs.length+1) * bytes≤140737488355328) (hbase:lo≤w.heap.size)
  (h:∀v' w',Acc R e size lo w' v' (xs++[y])→w.grownBy w' v.ownBlock→(v'.ownBlock=v.ownBlock∨v'.ownBlock=some w.heap.size)→wpList P ops Q rest (a.put o.dst v') w'):wpList P ops Q (o :: rest) a w :=
 wpList_plain hgd fun _ hK'=>wp_append_acc2 (R:=R) hK s x t ho lo e i z size bytes ht hi hz hsize hby hzs hsz v xs hs hacc ad c y news hx hl hnews h1 hy hlt h63 hbytes hbase fun v' w' h2 h3 h4=>hK' _ _ (h v' w' h2 h3 h4)
theorem Rows2.push {lo:Nat} {X Y:World} {v1 v2 v2':Value} {ds:List Dec} {pr:List Prc} {x:Prc} (h:Rows2 lo X v1 v2 ds pr) (hg:X.grownBy Y v2.ownBlock) (hacc:Acc RepP 73 3 lo Y v2' (pr++[x])) (hw:v2'.ownBlock=v2.ownBlock∨v2'.ownBlock=some X.heap.size):Rows2 lo Y v1 v2' ds (pr++[x]):=by
 have hl:=h.decs.lt
 refine ⟨⟨h.decs.1,?_⟩,hacc,fun k hk e=>?_⟩
 ·rcases h.decs.2 with hn | ⟨g,cap,cur,rfl,hb,hgg,rest⟩
  ·exact .inl hn
  ·exact .inr ⟨g,cap,cur,rfl,hb,(hg.block g (Array.getElem?_eq_some_iff.1 hgg).1 (fun e=>h.sep g rfl e.symm)).trans hgg,rest⟩
 ·rcases hw with hw | hw
  ·exact h.sep k hk (hw ▸ e)
  ·rw [hw] at e
   have:=Option.some.inj e
   have:=(hl k hk).2
   omega
theorem Far.putNew {lo:Nat} {A B:World} (h:Far lo A B) {p:Addr} (hp:A.heap.size≤p.block) (v:Value):Far lo A (B.setCell p v) :=
 ⟨by simpa [World.setCell] using h.size,fun b hb hl=>(Below.heap_setCell B p v b (by omega)).trans (h.block b hb hl)⟩
theorem repP_into {lo lo':Nat} {w:World} {x:Prc} {v:List Value} {u:Value} (h:RepP (fun b=>lo'≤b) w x v) (hl:lo≤lo') (hu:∀k,u.ownBlock=some k→k<lo') (o:Obj):RepP (fun b=>lo≤b∧u.ownBlock≠some b) (w.alloc o) x v :=
 repP_keeps h (fun b hb=>⟨Nat.le_trans hl hb,fun e=>by have:=hu b e;omega⟩) (fun b _ hk=>_root_.Go.heap_alloc_old w o hk)
section
variable {c:Ctx} {W X:World} {g2 t:Nat} {v:Array Value} {a a0:Nat} {d d0 fp fp0 fe fe0:Int}
theorem Tw.all4 (h0:St c W a0 d0 fp0 fe0) {r0 r1 r2 r3:Value} (u0 u1 u2 u3:Value) (h:Tw c W X g2 t #[r0,r1,r2,r3] v a d fp fe) :
  Tw c W ((((X.setCell ⟨W.heap.size,0,none⟩ u0).setCell ⟨W.heap.size,1,none⟩ u1).setCell ⟨W.heap.size,2,none⟩ u2).setCell ⟨W.heap.size,3,none⟩ u3) g2 t #[u0,u1,u2,u3] v a d fp fe:=by
 have g0:=h.res h0 0 u0 (r':=#[u0,r1,r2,r3]) rfl
 have g1:=g0.res h0 1 u1 (r':=#[u0,u1,r2,r3]) rfl
 have g2:=g1.res h0 2 u2 (r':=#[u0,u1,u2,r3]) rfl
 exact g2.res h0 3 u3 (r':=#[u0,u1,u2,u3]) rfl
end
theorem far4 {lo g:Nat} (X:World) (hg:g<lo) (u0 u1 u2 u3:Value):Far lo X ((((X.setCell ⟨g,0,none⟩ u0).setCell ⟨g,1,none⟩ u1).setCell ⟨g,2,none⟩ u2).setCell ⟨g,3,none⟩ u3) :=
 ((((Far.refl lo X).put (p:=⟨g,0,none⟩) hg u0).put (p:=⟨g,1,none⟩) hg u1).put (p:=⟨g,2,none⟩) hg u2).put (p:=⟨g,3,none⟩) hg u3
theorem Rows2.tree {lo lo':Nat} {X Y:World} {A1 A2 A3 A4:Option Addr} {n1 c1 n2 c2 n3 c3 n4 c4:Nat} {ds:List Dec} {pr:List Prc} {i l:List Stm} (h:Rows2 lo X (.slice A1 n1 c1) (.slice A2 n2 c2) ds pr) (hi:RepB (fun b=>lo≤b) X i [.slice A3 n3 c3]) (hl:RepB (fun b=>lo≤b) X l [.slice A4 n4 c4]) (hf:Far lo X Y) (hll:lo'≤lo) :
  RepT (fun b=>lo'≤b) Y ⟨ds,pr,i,l⟩ A1 n1 c1 A2 n2 c2 A3 n3 c3 A4 n4 c4:=by
 have h2:=h.far hf
 obtain ⟨d1,⟨vs,hown,hall⟩,_⟩:=h2
 have e1:=own_len d1
 have e2:=own_len hown
 obtain ⟨rfl,l1⟩:=e1
 obtain ⟨rfl,l2⟩:=e2
 have hq:∀b,lo≤b→lo'≤b:=fun b hb=>Nat.le_trans hll hb
 exact ⟨⟨rfl,l1⟩,⟨rfl,l2⟩,(Row.own d1).keep hq (fun _ _ _=>rfl),⟨vs,(Row.own hown).keep hq (fun _ _ _=>rfl),hall.imp fun x y hr=>repP_keeps hr (fun b hb=>hq b hb.1) fun _ _ _=>rfl⟩,hi.far hf hll,hl.far hf hll⟩
set_option maxHeartbeats 16000000 in
theorem program_call {c:Ctx} (hG:Good c) (hg1:1<c.g) (W:World) (a:Nat) (d fp fe:Int) (h:St c W a d fp fe) (hO:Ops W) (hl:a≤c.L.length) (h0:0≤d) (h1:d≤64) :
  Calls Tryz.prog 29 #[c.me] W (Post c W fp fe (repTree W.heap.size) (pS c a d)):=by
 obtain ⟨S,hSp⟩:∃S,A0 (pS c a d=S):=⟨_,⟨rfl⟩⟩
 rw [hSp.out]
 have hO:=A0.mk hO
 have hg1:=A0.mk hg1
 have hgl:=bL h.blk
 go_enter Tryz.func29,Tryz.ntmps29
 go_upto_block 0 with fail
 have hT0:=Tw.ofOne (One.lit h 27 Z27) Z27
 have esz:(W.alloc (.cells Z27 27)).heap.size=W.heap.size+1:=by simp
 rw [esz] at hT0
 generalize (W.alloc (.cells #[.slice none 0 0,.slice none 0 0,.slice none 0 0,.slice none 0 0] 27)).alloc (.cells #[.slice none 0 0,.slice none 0 0,.slice none 0 0,.slice none 0 0] 27)=X0 at hT0 ⊢
 obtain ⟨R,hRs⟩:∃R,A0 (dL c (c.L.length+1 - a) [] a d=R):=⟨_,⟨rfl⟩⟩
 obtain ⟨F,hFF⟩:∃F,A0 (c.L.length+1 - a=F):=⟨_,⟨rfl⟩⟩
 have hA:A0 (DeclAt c W R fp fe d F X0):=⟨⟨[],a,none,0,0,hT0,World.ownsRow_nil _ _ _ _,by rw [←hFF.out,hRs.out],hl,by have:=hFF.out;omega,by simp⟩⟩
 clear hT0 esz
 go_cut [] from 4 to 19 (fun X=>DeclEnd c W R fp fe d X)
 case first =>
  have hinfo:(Tryz.prog.info? 69).map (fun i=>(i.zero,i.size,i.bytes))=some (some (.agg Z13),13,136):=by kernel_rfl
  obtain ⟨i0,hi,hz0,hz1,hz2⟩:=info_parts hinfo
  clear hinfo
  go_wp2
  go_loopg [] F (fun f X=>DeclAt c W R fp fe d f X)
  case atStart=>exact hA.out
  case round =>
   obtain ⟨ds,a1,A,n,cap,hT1,hown,hsp,b1,b2,b3⟩:=hrel.ex
   clear hA hrel
   obtain ⟨f,rfl⟩:∃f,gk=f+1:=⟨gk - 1,by omega⟩
   have hsp:=A0.mk hsp
   have hown:=A0.mk hown
   have hS1:=hT1.st hG h
   have CN:=decl_call hG hS1 (by omega)
   go_upto_if 13 with (first|(go_at_call 54;(with_reducible refine CN.mono ?_);rintro e w hP;rcases hP.elim with ⟨⟨x,b⟩,a2,d2,ho,hg,⟨v,rfl,rfl⟩,hS⟩|⟨p,er,ho,hg,rfl,a',d',hS⟩))
   case inr =>
    rw [show S=.bad p er by rw [←hSp.out];simp only [pS,hRs.out];rw [←hsp.out,dL];simp only [Out.bind,ho]]
    exact ⟨rfl,Post.mk_bad (Q4 hT1.fr hg) hS⟩
   obtain ⟨m1,m2,m3,m4⟩:=declS_fine b1 ho
   have q1:=A0.mk ho
   have m3:=m3.symm
   have m4:=A0.mk m4
   subst m3
   have hT2:=hT1.call h hg hS
   have hT3:=hT2.alloc (.cells #[.int .i64 x.op,.int .i64 x.ty,.string x.name,.string x.size.1,.int .i64 x.size.2.1,.int .i64 x.size.2.2,.string x.lo.1,.int .i64 x.lo.2.1,.int .i64 x.lo.2.2,.string x.hi.1,.int .i64 x.hi.2.1,.int .i64 x.hi.2.2,.int .i64 x.pos] 69)
   have hown2:=A0.mk (oF hown.out (Far.ofGrown hg (by omega)))
   clear ho hP CN hT1 hS1 hown hg
   cases b with
   | false =>
    have hRv:A0 (R=.ok ds a2 d):=⟨by rw [←hsp.out,dL];simp only [Out.bind,q1.out,Bool.false_eq_true,↓reduceIte]⟩
    go_wp2
    go_meet
    exact ⟨ds,a2,A,n,cap,hT3,oF hown2.out ((Far.refl _ _).alloc _),hRv.out,m2⟩
   | true =>
    have m5:=m4.out rfl
    have z0:∀o,(w.alloc o).cell? ⟨W.heap.size+1,0,none⟩=some (.slice A n cap):=fun o=>(hT2.alloc o).vc 0 rfl
    have hTx:=A0.mk (show W.heap.size+2≤w.heap.size from (by have:=bL hT2.vb;omega))
    have hlv:A0 (∀k,(Value.slice A n cap).ownBlock=some k→W.heap.size+2≤k∧k<w.heap.size):=⟨hown2.out.lt⟩
    have hll:A0 (ds.length≤20000):=⟨by have:=hG.hl;omega⟩
    have cc:∀(j:Nat) (u:Value),(decCells x)[j]?=some u→((w.alloc (.cells #[.int .i64 x.op,.int .i64 x.ty,.string x.name,.string x.size.1,.int .i64 x.size.2.1,.int .i64 x.size.2.2,.string x.lo.1,.int .i64 x.lo.2.1,.int .i64 x.lo.2.2,.string x.hi.1,.int .i64 x.hi.2.1,.int .i64 x.hi.2.2,.int .i64 x.pos] 69)).alloc (.cells #[.int .i64 x.op,.int .i64 x.ty,.string x.name,.string x.size.1,.int .i64 x.size.2.1,.int .i64 x.size.2.2,.string x.lo.1,.int .i64 x.lo.2.1,.int .i64 x.lo.2.2,.string x.hi.1,.int .i64 x.hi.2.1,.int .i64 x.hi.2.2,.int .i64 x.pos] 69)).cell? ((⟨w.heap.size+1,0,none⟩:Addr).add j)=some u:=by
     intro j u hu
     have esz:(w.alloc (.cells #[.int .i64 x.op,.int .i64 x.ty,.string x.name,.string x.size.1,.int .i64 x.size.2.1,.int .i64 x.size.2.2,.string x.lo.1,.int .i64 x.lo.2.1,.int .i64 x.lo.2.2,.string x.hi.1,.int .i64 x.hi.2.1,.int .i64 x.hi.2.2,.int .i64 x.pos] 69)).heap.size=w.heap.size+1:=by simp
     have hq:=oA (w:=w.alloc (.cells #[.int .i64 x.op,.int .i64 x.ty,.string x.name,.string x.size.1,.int .i64 x.size.2.1,.int .i64 x.size.2.2,.string x.lo.1,.int .i64 x.lo.2.1,.int .i64 x.lo.2.2,.string x.hi.1,.int .i64 x.hi.2.1,.int .i64 x.hi.2.2,.int .i64 x.pos] 69)) #[.int .i64 x.op,.int .i64 x.ty,.string x.name,.string x.size.1,.int .i64 x.size.2.1,.int .i64 x.size.2.2,.string x.lo.1,.int .i64 x.lo.2.1,.int .i64 x.lo.2.2,.string x.hi.1,.int .i64 x.hi.2.1,.int .i64 x.hi.2.2,.int .i64 x.pos] 69 (decCells x) rfl j u hu
     rw [esz] at hq
     exact hq
    have cc:=A0.mk cc
    go_wp2_with (first
     | (at_builtin;refine wpList_append_prim (R:=RepD) repD_keeps rfl (.tmp 15) (.tmp 17) 23 rfl (W.heap.size+2) 69 i0 (.agg Z13) 13 136 Tryz.underlying23 hi hz0 hz1 hz2 rfl (by decide) (.slice A n cap) ds (ds.map decCells) rfl (fun k=>(Value.slice A n cap).ownBlock≠some k) (oF hown2.out (((Far.refl _ _).alloc _).alloc _)) (all2_dec _) (fun _ hb=>hb) ⟨w.heap.size+1,0,none⟩ 1 x (decCells x) rfl rfl cc.out (one13 _) rfl (by have:=hll.out;unfold maxLen;omega) (by have:=hll.out;omega) (by have:=hTx.out;simp;omega) ?_;intro v3 w3 hown3 _ hg3 hwh;(obtain ⟨A6,n6,c6,rfl⟩:=own_form hown3;have hTe:=(hT3.alloc (.cells #[.int .i64 x.op,.int .i64 x.ty,.string x.name,.string x.size.1,.int .i64 x.size.2.1,.int .i64 x.size.2.2,.string x.lo.1,.int .i64 x.lo.2.1,.int .i64 x.lo.2.2,.string x.hi.1,.int .i64 x.hi.2.1,.int .i64 x.hi.2.2,.int .i64 x.pos] 69)).row h hg3 (fun k hk=>(hlv.out k hk).1) (Nat.lt_succ_self _);have u0:w3.cell? ⟨W.heap.size+1,0,none⟩=some (.slice A n cap):=hTe.vc 0 rfl;have uf0:=hTe.vf 0;have hown3:=A0.mk hown3)))
    go_roundg f
    case rel=>exact ⟨ds++[x],a2,A6,n6,c6,hTe.put h 0 (.slice A6 n6 c6) (v':=#[.slice A6 n6 c6,nilv,nilv,nilv]) rfl,oF (by simpa using hown3.out) ((Far.refl _ _).put (p:=⟨W.heap.size+1,0,none⟩) (Nat.lt_succ_self _) (.slice A6 n6 c6)),by rw [←hsp.out,dL];simp only [Out.bind,q1.out,↓reduceIte],m2,by omega,by simp;omega⟩
    case measure=>omega
 case rest =>
  clear hA
  obtain ⟨ds,a1,A1,n1,c1,hT1,hown,hRv,b1⟩:=hcut.ex
  clear hcut
  have hRv:=A0.mk hRv
  obtain ⟨R2,hR2⟩:∃R2,A0 (pL c (c.L.length+1 - a1) [] a1 d=R2):=⟨_,⟨rfl⟩⟩
  obtain ⟨F2,hF2⟩:∃F2,A0 (c.L.length+1 - a1=F2):=⟨_,⟨rfl⟩⟩
  have hA:A0 (ProcAt c W R2 (.slice A1 n1 c1) ds fp fe d F2 wc):=⟨⟨[],a1,none,0,0,hT1,⟨hown,Acc.nil _,fun k _=>by simp [Value.ownBlock]⟩,by rw [←hF2.out,hR2.out],b1,by have:=hF2.out;omega,by simp⟩⟩
  clear hT1 hown
  go_upto_block 2 with fail
  go_cut [] from 6 to 44 (fun X=>ProcEnd c W R2 (.slice A1 n1 c1) ds fp fe d X)
  case first =>
   have hinfo:(Tryz.prog.info? 73).map (fun i=>(i.zero,i.size,i.bytes))=some (some (.agg #[.string ⟨#[]⟩,.slice none 0 0,.int .i64 0]),3,48):=by kernel_rfl
   obtain ⟨i0,hi,hz0,hz1,hz2⟩:=info_parts hinfo
   clear hinfo
   go_wp2
   go_loopg [] F2 (fun f X=>ProcAt c W R2 (.slice A1 n1 c1) ds fp fe d f X)
   case atStart=>exact hA.out
   case round =>
    obtain ⟨pr,a2,A2,n2,c2,hT2,hR,hsp,b2,b3,b4⟩:=hrel.ex
    clear hA hrel
    obtain ⟨f,rfl⟩:∃f,gk=f+1:=⟨gk - 1,by omega⟩
    have hsp:=A0.mk hsp
    have hR:=A0.mk hR
    have hS2:=hT2.st hG h
    have KD:=kC hS2
    by_cases hk:kd c a2=21
    ·have hkb:(kd c a2==21)=true:=beq_iff_eq.mpr hk
     have hal:=kd_lt hk (by omega)
     have hsp2:A0 (((nS c (a2+1) d).bind fun s a1 d1=>(blkS c a1 d1).bind fun b a3 d2=>pL c f (pr++[⟨s,b,ps c a2⟩]) a3 d2)=R2):=⟨by rw [←hsp.out,pL,if_pos hk]⟩
     clear hk
     have PS:=fun q=>qC (hS2.drewN q)
     go_upto_region 7 with (first|(go_at_call 55;with_reducible refine KD.mono ?_;rintro e w' ⟨rfl,q,rfl⟩)|(go_at_call 56;(with_reducible refine (PS _).mono ?_);rintro e w' ⟨rfl,q2,hw0⟩;(have hw:=A0.mk hw0;clear hw0)))
     have hT3:Tw c W w' (W.heap.size+1) 27 Z27 #[.slice A1 n1 c1,.slice A2 n2 c2,nilv,nilv] a2 d fp fe:=by rw [hw.out];exact (hT2.drewN q).drewN q2
     have hR3:Rows2 (W.heap.size+2) w' (.slice A1 n1 c1) (.slice A2 n2 c2) ds pr:=by rw [hw.out];exact (hR.out.far ((Far.refl _ _).drewN q)).far ((Far.refl _ _).drewN q2)
     have hT4:=hT3.alloc (.cells #[.string nN,nilv,.int .i64 (ps c a2)] 73)
     have hx4:=bN w' (.cells #[.string nN,nilv,.int .i64 (ps c a2)] 73)
     have hF4:=(Far.refl (W.heap.size+2) w').alloc (.cells #[.string nN,nilv,.int .i64 (ps c a2)] 73)
     have hgp:=bL hT3.vb
     obtain ⟨gp,hgp0⟩:∃gp,gp=w'.heap.size:=⟨_,rfl⟩
     rw [←hgp0] at hx4 hgp ⊢
     generalize w'.alloc _=X4 at hT4 hx4 hF4 ⊢
     have hR3:=A0.mk hR3
     have hgpe:=A0.mk (Nat.le_of_eq hgp0.symm)
     clear hgp0
     have hF4:=A0.mk hF4
     clear hT2 hT3 hR hw KD PS hS2
     have hS4:=hT4.st hG h
     have s2:=hS4.c2
     have f2:=hS4.fz 2
     have wa:IntKind.i64.wrap ((a2:Int)+1)=(a2:Int)+1:=IntWalk.i64_in _ (by have:=hG.hl;omega)
     go_upto_region 8 with fail
     have hT5:=hT4.at hG h
     have hx5:=(Below.heap_setCell X4 ⟨c.g,2,none⟩ (.int .i64 ((a2:Int)+1)) gp (by dsimp only;omega)).trans hx4
     have hF5:=hF4.out.put (p:=⟨c.g,2,none⟩) (by dsimp only;omega) (.int .i64 ((a2:Int)+1))
     generalize X4.setCell _ _=X5 at hT5 hx5 hF5 ⊢
     clear s2 f2 wa hT4 hx4 hF4 hS4
     have hF5:=A0.mk hF5
     have hS5:=hT5.st hG h
     have CN:=name_call hG hS5 (by omega)
     go_upto_region 9 with (first|(go_at_call 57;(with_reducible refine CN.mono ?_);rintro e w hP;rcases hP.elim with ⟨s,a3,d3,ho,hg,⟨v,rfl,rfl⟩,hS⟩|⟨p,er,ho,hg,rfl,a',d',hS⟩;(have hT6:=hT5.call h hg hS;have hx6:=(hg.block gp (Array.getElem?_eq_some_iff.1 hx5).1 (fun e=>by have:=Option.some.inj e;omega)).trans hx5;have p0:w.cell? ⟨gp,0,none⟩=some (.string nN):=(bC hx6 0).trans rfl;have o0:=bF hx6 0)))
     case inr =>
      rw [show S=.bad p er by rw [←hSp.out];simp only [pS,Out.bind,hRs.out,hRv.out,hR2.out];rw [←hsp2.out];simp only [Out.bind,ho]]
      exact ⟨rfl,Post.mk_bad (Q4 hT5.fr hg) hS⟩
     obtain ⟨e3,l3,f3,-⟩:=name_ok ho
     have q3:=A0.mk ho
     have f3:=f3.symm
     subst e3
     subst f3
     have hT7:=hT6.row h (gP (World.grownBy.refl w (some gp)) (k:=0) (.string s)) (fun k hk=>by have:=Option.some.inj hk;omega) (Nat.lt_succ_self _) (lo:=W.heap.size+2)
     have hx7:=bP hx6 0 (.string s) (cs':=#[.string s,nilv,.int .i64 (ps c a2)]) rfl
     have hF7:=(hF5.out.trans (Far.ofGrown hg (by omega))).putNew (p:=⟨gp,0,none⟩) hgpe.out (.string s)
     generalize w.setCell _ _=X7 at hT7 hx7 hF7 ⊢
     clear p0 o0 ho hP CN hT5 hx5 hS5 hS hg hF5 hT6 hx6
     have hF7:=A0.mk hF7
     have hgx:=(Array.getElem?_eq_some_iff.1 hx7).1
     have hS7:=hT7.st hG h
     have CN:=blkS_reads hG hg1.out 0 _ _ _ _ _ hS7 (hO.out.grown hT7.fr hg1.out) (Nat.zero_le _) l3 h0 h1
     go_upto_region 10 with (first|(go_at_call 58;(with_reducible refine CN.mono ?_);rintro e w hP;rcases hP.elim with ⟨b,a4,d4,ho,hg,⟨v,rfl,A6,n6,c6,rfl,hB⟩,hS⟩|⟨p,er,ho,hg,rfl,a',d',hS⟩;(have hT8:=hT7.call h hg hS;have hx8:=(hg.block gp (Array.getElem?_eq_some_iff.1 hx7).1 (fun e=>by have:=Option.some.inj e;omega)).trans hx7;have p1:w.cell? ⟨gp,1,none⟩=some nilv:=(bC hx8 1).trans rfl;have o1:=bF hx8 1)))
     case inr =>
      rw [show S=.bad p er by rw [←hSp.out];simp only [pS,Out.bind,hRs.out,hRv.out,hR2.out];rw [←hsp2.out];simp only [Out.bind,q3.out,ho]]
      exact ⟨rfl,Post.mk_bad (Q4 hT7.fr hg) hS⟩
     obtain ⟨m1,m2,m3⟩:=blkS_fine 0 _ _ (Nat.zero_le _) h0 h1 _ _ _ ho
     have q4:=A0.mk ho
     have m3:=m3.symm
     subst m3
     have hT9:=hT8.row h (gP (World.grownBy.refl w (some gp)) (k:=1) (.slice A6 n6 c6)) (fun k hk=>by have:=Option.some.inj hk;omega) (Nat.lt_succ_self _) (lo:=W.heap.size+2)
     have hx9:=bP hx8 1 (.slice A6 n6 c6) (cs':=#[.string s,.slice A6 n6 c6,.int .i64 (ps c a2)]) rfl
     have hF9:=(hF7.out.trans (Far.ofGrown hg (by omega))).putNew (p:=⟨gp,1,none⟩) hgpe.out (.slice A6 n6 c6)
     have hR9:=hR3.out.far hF9
     have hB9:RepB (fun k=>X7.heap.size≤k) (w.setCell ⟨gp,1,none⟩ (.slice A6 n6 c6)) b [.slice A6 n6 c6]:=rK hB (fun _ hk=>hk) fun k hk _=>Below.heap_setCell w ⟨gp,1,none⟩ _ k (by dsimp only;omega)
     have hsz9:X7.heap.size≤(w.setCell ⟨gp,1,none⟩ (.slice A6 n6 c6)).heap.size:=by have:=hg.size;simpa [World.setCell] using this
     generalize w.setCell _ _=X9 at hT9 hx9 hR9 hB9 hsz9 ⊢
     have hlv:A0 (∀k,(Value.slice A2 n2 c2).ownBlock=some k→W.heap.size+2≤k∧k<X7.heap.size):=⟨fun k hk=>⟨(hR3.out.pros.lt k hk).1,Nat.lt_of_lt_of_le (hR3.out.pros.lt k hk).2 hF7.out.size⟩⟩
     clear p1 o1 ho hP CN hT7 hx7 hS7 hS hg hF7 hT8 hx8 hB hF9 hR3
     have z1:X9.cell? ⟨W.heap.size+1,1,none⟩=some (.slice A2 n2 c2):=hT9.vc 1 rfl
     have t0:X9.cell? ⟨gp,0,none⟩=some (.string s):=(bC hx9 0).trans rfl
     have t1:X9.cell? ⟨gp,1,none⟩=some (.slice A6 n6 c6):=(bC hx9 1).trans rfl
     have t2:X9.cell? ⟨gp,2,none⟩=some (.int .i64 (ps c a2)):=(bC hx9 2).trans rfl
     have hll:A0 (pr.length≤20000):=⟨by have:=hG.hl;omega⟩
     have hTx:=A0.mk (show W.heap.size+2≤X7.heap.size from (by omega))
     have hsz9:=A0.mk hsz9
     have hR9:=A0.mk hR9
     have hP9:A0 (RepP (fun k=>X7.heap.size≤k) X9 ⟨s,b,ps c a2⟩ [.string s,.slice A6 n6 c6,.int .i64 (ps c a2)]):=⟨⟨A6,n6,c6,rfl,hB9⟩⟩
     clear hB9
     go_wp2_with (first
      | (at_builtin;refine wpList_append_acc2 (R:=RepP) repP_keeps rfl (.tmp 40) (.tmp 42) 24 rfl (W.heap.size+2) 73 i0 (.agg #[.string ⟨#[]⟩,.slice none 0 0,.int .i64 0]) 3 48 Tryz.underlying24 hi hz0 hz1 hz2 rfl (by decide) (.slice A2 n2 c2) pr rfl (hR9.out.pros.farP ((Far.refl _ _).alloc _)) ⟨X9.heap.size,0,none⟩ 1 ⟨s,b,ps c a2⟩ [.string s,.slice A6 n6 c6,.int .i64 (ps c a2)] rfl rfl (oA _ _ _ rfl) (by intro u hu;simp at hu;rcases hu with rfl | rfl | rfl <;> rfl) (repP_into hP9.out hTx.out (fun k hk=>(hlv.out k hk).2) _) repP_lt (by have:=hll.out;unfold maxLen;omega) (by have:=hll.out;omega) (by have:=hTx.out;have:=hsz9.out;simp;omega) ?_;intro v3 w3 hA3 hg3 hwh;(obtain ⟨A7,n7,c7,rfl⟩:=hA3.form;have hTe:=(hT9.alloc (.cells #[.string s,.slice A6 n6 c6,.int .i64 (ps c a2)] 73)).row h hg3 (fun k hk=>(hlv.out k hk).1) (Nat.lt_succ_self _);have u1:w3.cell? ⟨W.heap.size+1,1,none⟩=some (.slice A2 n2 c2):=hTe.vc 1 rfl;have uf1:=hTe.vf 1;have hA3:=A0.mk hA3;have hwh:=A0.mk hwh)))
     go_roundg f
     case rel=>exact ⟨pr++[⟨s,b,ps c a2⟩],a4,A7,n7,c7,hTe.put h 1 (.slice A7 n7 c7) (v':=#[.slice A1 n1 c1,.slice A7 n7 c7,nilv,nilv]) rfl,(Rows2.push (hR9.out.far ((Far.refl _ _).alloc (.cells #[.string s,.slice A6 n6 c6,.int .i64 (ps c a2)] 73))) hg3 hA3.out hwh.out).far ((Far.refl _ _).put (p:=⟨W.heap.size+1,1,none⟩) (Nat.lt_succ_self _) (.slice A7 n7 c7)),by rw [←hsp2.out];simp only [Out.bind,q3.out,q4.out],m2,by omega,by simp;omega⟩
     case measure=>omega
    ·have hkb:(kd c a2==21)=false:=beq_eq_false_iff_ne.mpr hk
     have hRv2:A0 (R2=.ok pr a2 d):=⟨by rw [←hsp.out,pL,if_neg hk]⟩
     clear hk
     go_wp2_with (first|(go_at_call 55;with_reducible refine KD.mono ?_;rintro e w' ⟨rfl,q,rfl⟩))
     go_meet
     exact ⟨pr,a2,A2,n2,c2,hT2.drewN q,hR.out.far ((Far.refl _ _).drewN q),hRv2.out,b2⟩
  case rest =>
   clear hA
   obtain ⟨pr,a2,A2,n2,c2,hT2,hR,hRv2,b2⟩:=hcut.ex
   clear hcut
   have hRv2:=A0.mk hRv2
   have hR:=A0.mk hR
   have hS2:=hT2.st hG h
   have CN:=wC hG hS2 (by omega) 13 (by omega)
   go_upto_region 12 with (first|(go_at_call 59;(with_reducible refine CN.mono ?_);rintro e w hP;rcases hP.elim with ⟨t,a3,d3,ho,hg,⟨v,rfl,rfl⟩,hS⟩|⟨p,er,ho,hg,rfl,a',d',hS⟩;(have hT3:=hT2.call h hg hS)))
   case inr =>
    rw [show S=.bad p er by rw [←hSp.out];simp only [pS,Out.bind,hRs.out,hRv.out,hR2.out,hRv2.out,ho]]
    exact ⟨rfl,Post.mk_bad (Q4 hT2.fr hg) hS⟩
   obtain ⟨e3,l3,f3⟩:=wF (by omega) (by omega) ho
   have q3:=A0.mk ho
   have hR3:=A0.mk (hR.out.far (Far.ofGrown hg (by omega)))
   have f3:=f3.symm
   subst f3
   have hws:=bL hT3.vb
   clear ho hP CN hT2 hS2 hS hg hR
   have hS3:=hT3.st hG h
   have CN:=blkS_reads hG hg1.out 0 _ _ _ _ _ hS3 (hO.out.grown hT3.fr hg1.out) (Nat.zero_le _) l3 h0 h1
   go_upto_region 13 with (first|(go_at_call 58;(with_reducible refine CN.mono ?_);rintro e w hP;rcases hP.elim with ⟨i,a4,d4,ho,hg,⟨v,rfl,A3,n3,c3,rfl,hB⟩,hS⟩|⟨p,er,ho,hg,rfl,a',d',hS⟩;(have hT4:=hT3.call h hg hS;have z2:w.cell? ⟨W.heap.size+1,2,none⟩=some (nilv):=hT4.vc 2 rfl;have y2:=hT4.vf 2)))
   case inr =>
    rw [show S=.bad p er by rw [←hSp.out];simp only [pS,Out.bind,hRs.out,hRv.out,hR2.out,hRv2.out,q3.out,ho]]
    exact ⟨rfl,Post.mk_bad (Q4 hT3.fr hg) hS⟩
   obtain ⟨m1,m2,m3⟩:=blkS_fine 0 _ _ (Nat.zero_le _) h0 h1 _ _ _ ho
   have q4:=A0.mk ho
   have m3:=m3.symm
   subst m3
   have hT5:=hT4.put h 2 (.slice A3 n3 c3) (v':=#[.slice A1 n1 c1,.slice A2 n2 c2,.slice A3 n3 c3,nilv]) rfl
   have hff:=(Far.refl (W.heap.size+2) w).put (p:=⟨W.heap.size+1,2,none⟩) (Nat.lt_succ_self _) (.slice A3 n3 c3)
   have hB5:=A0.mk (RepB.far (lo':=W.heap.size+2) (RepB.far (lo':=W.heap.size+2) hB (Far.refl _ _) (by omega)) hff (Nat.le_refl _))
   have hR5:=A0.mk ((hR3.out.far (Far.ofGrown hg (by omega))).far hff)
   generalize w.setCell _ _=X5 at hT5 hB5 hR5 ⊢
   clear hff z2 y2 ho hP CN hT3 hT4 hS3 hS hg hB hR3 hws
   have hS5:=hT5.st hG h
   have CN:=wC hG hS5 (by omega) 18 (by omega)
   go_upto_region 14 with (first|(go_at_call 59;(with_reducible refine CN.mono ?_);rintro e w hP;rcases hP.elim with ⟨t6,a6,d6,ho,hg,⟨v,rfl,rfl⟩,hS⟩|⟨p,er,ho,hg,rfl,a',d',hS⟩;(have hT6:=hT5.call h hg hS)))
   case inr =>
    rw [show S=.bad p er by rw [←hSp.out];simp only [pS,Out.bind,hRs.out,hRv.out,hR2.out,hRv2.out,q3.out,q4.out,ho]]
    exact ⟨rfl,Post.mk_bad (Q4 hT5.fr hg) hS⟩
   obtain ⟨e6,l6,f6⟩:=wF (by omega) (by omega) ho
   have q5:=A0.mk ho
   have hR6:=A0.mk (hR5.out.far (Far.ofGrown hg (by omega)))
   have hB6:=A0.mk (RepB.far (lo':=W.heap.size+2) hB5.out (Far.ofGrown hg (by omega)) (Nat.le_refl _))
   have f6:=f6.symm
   subst f6
   have hws:=bL hT6.vb
   clear ho hP CN hT5 hS5 hS hg hR5 hB5
   have hS6:=hT6.st hG h
   have CN:=blkS_reads hG hg1.out 0 _ _ _ _ _ hS6 (hO.out.grown hT6.fr hg1.out) (Nat.zero_le _) l6 h0 h1
   go_upto_region 15 with (first|(go_at_call 58;(with_reducible refine CN.mono ?_);rintro e w hP;rcases hP.elim with ⟨l,a7,d7,ho,hg,⟨v,rfl,A4,n4,c4,rfl,hB⟩,hS⟩|⟨p,er,ho,hg,rfl,a',d',hS⟩;(have hT7:=hT6.call h hg hS;have z3:w.cell? ⟨W.heap.size+1,3,none⟩=some (nilv):=hT7.vc 3 rfl;have y3:=hT7.vf 3)))
   case inr =>
    rw [show S=.bad p er by rw [←hSp.out];simp only [pS,Out.bind,hRs.out,hRv.out,hR2.out,hRv2.out,q3.out,q4.out,q5.out,ho]]
    exact ⟨rfl,Post.mk_bad (Q4 hT6.fr hg) hS⟩
   obtain ⟨r1,r2,r3⟩:=blkS_fine 0 _ _ (Nat.zero_le _) h0 h1 _ _ _ ho
   have q6:=A0.mk ho
   have r3:=r3.symm
   subst r3
   have hT8:=hT7.put h 3 (.slice A4 n4 c4) (v':=#[.slice A1 n1 c1,.slice A2 n2 c2,.slice A3 n3 c3,.slice A4 n4 c4]) rfl
   have hff:=(Far.refl (W.heap.size+2) w).put (p:=⟨W.heap.size+1,3,none⟩) (Nat.lt_succ_self _) (.slice A4 n4 c4)
   have hL8:=RepB.far (lo':=W.heap.size+2) (RepB.far (lo':=W.heap.size+2) hB (Far.refl _ _) (by omega)) hff (Nat.le_refl _)
   have hB8:=RepB.far (lo':=W.heap.size+2) (RepB.far (lo':=W.heap.size+2) hB6.out (Far.ofGrown hg (by omega)) (Nat.le_refl _)) hff (Nat.le_refl _)
   have hR8:=(hR6.out.far (Far.ofGrown hg (by omega))).far hff
   generalize w.setCell _ _=X8 at hT8 hB8 hR8 hL8 ⊢
   clear hff z3 y3 ho hP CN hT6 hT7 hS6 hS hg hB hR6 hB6 hws
   have hL8:=A0.mk hL8
   have hB8:=A0.mk hB8
   have hR8:=A0.mk hR8
   have hS8:=hT8.st hG h
   have KD:=kC hS8
   by_cases hk:kd c a7=0
   ·have hkb:(kd c a7 != 0)=false:=by rw [hk];rfl
    have hSv:A0 (S=.ok ⟨ds,pr,i,l⟩ a7 d):=⟨by rw [←hSp.out];simp only [pS,Out.bind,hRs.out,hRv.out,hR2.out,hRv2.out,q3.out,q4.out,q5.out,q6.out,if_pos hk]⟩
    clear hk
    have hT9:=fun q=>hT8.drewN q
    have fz:∀q i,(X8.drewN q).frozen? ⟨W.heap.size,i,none⟩=false:=fun q i=>(hT9 q).rf i
    have r0:∀q,(X8.drewN q).cell? ⟨W.heap.size,0,none⟩=some nilv:=fun q=>(hT9 q).rc 0 rfl
    have r1:∀q,(X8.drewN q).cell? ⟨W.heap.size,1,none⟩=some nilv:=fun q=>(hT9 q).rc 1 rfl
    have r2:∀q,(X8.drewN q).cell? ⟨W.heap.size,2,none⟩=some nilv:=fun q=>(hT9 q).rc 2 rfl
    have r3:∀q,(X8.drewN q).cell? ⟨W.heap.size,3,none⟩=some nilv:=fun q=>(hT9 q).rc 3 rfl
    have z0:∀q,(X8.drewN q).cell? ⟨W.heap.size+1,0,none⟩=some (.slice A1 n1 c1):=fun q=>(hT9 q).vc 0 rfl
    have z1:∀q,(X8.drewN q).cell? ⟨W.heap.size+1,1,none⟩=some (.slice A2 n2 c2):=fun q=>(hT9 q).vc 1 rfl
    have z2:∀q,(X8.drewN q).cell? ⟨W.heap.size+1,2,none⟩=some (.slice A3 n3 c3):=fun q=>(hT9 q).vc 2 rfl
    have z3:∀q,(X8.drewN q).cell? ⟨W.heap.size+1,3,none⟩=some (.slice A4 n4 c4):=fun q=>(hT9 q).vc 3 rfl
    go_wp2_with (first|(go_at_call 55;with_reducible refine KD.mono ?_;rintro e w' ⟨rfl,q,rfl⟩))
    have hTR:=Tw.all4 h (.slice A1 n1 c1) (.slice A2 n2 c2) (.slice A3 n3 c3) (.slice A4 n4 c4) (hT9 q)
    rw [hSv.out]
    exact bodyPost_ret (res_c rfl _ _ W.heap.size 27 _ (0,0) _ rfl hTR.rb Tryz.underlying27 rfl (by kernel_rfl)) rfl (Post.mk_ok (rep:=repTree W.heap.size) hTR.fr ⟨_,_,_,_,_,_,_,_,_,_,_,_,rfl,Rows2.tree (hR8.out.far ((Far.refl _ _).drewN q)) (RepB.far hB8.out ((Far.refl _ _).drewN q) (Nat.le_refl _)) (RepB.far hL8.out ((Far.refl _ _).drewN q) (Nat.le_refl _)) (far4 _ (by omega) _ _ _ _) (by omega)⟩ (hTR.st hG h))
   ·have hkb:(kd c a7 != 0)=true:=bne_iff_ne.mpr hk
    have hSv:A0 (S=.bad (ps c a7) 40):=⟨by rw [←hSp.out];simp only [pS,Out.bind,hRs.out,hRv.out,hR2.out,hRv2.out,q3.out,q4.out,q5.out,q6.out,if_neg hk]⟩
    clear hk
    have GV:=fun q=>give_call hG (hS8.drewN q) 40
    go_wp2_with (first|(go_at_call 55;with_reducible refine KD.mono ?_;rintro e w' ⟨rfl,q,rfl⟩)|(go_at_call 60;(with_reducible refine (GV _).mono ?_);rintro e w' ⟨rfl,hS,hg⟩))
    rw [hSv.out]
    exact ⟨rfl,Post.mk_bad (Q4 (hT8.drewN q).fr hg) hS⟩
end Go.Proofs.YtgaoapnaplgaiaaGreatDoor.Sc
