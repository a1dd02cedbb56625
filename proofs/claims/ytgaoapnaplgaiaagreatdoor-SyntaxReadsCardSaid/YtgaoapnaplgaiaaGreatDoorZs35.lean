/- This claim's own texts, joined, with only what the claim uses: SamD. -/
import Derived.Test.YtgaoapnaplgaiaaGreatDoorZs34
import Derived.Test.YtgaoapnaplgaiaaGreatDoorZs22
namespace Go.Proofs.YtgaoapnaplgaiaaGreatDoor.Sc
set_option maxRecDepth 100000
open Go.RowKit Tk Go.Proofs.YtgaoapnaplgaiaaGreatDoor.Wd
theorem map_nth {α β:Type} {f:α→β} {xs ys:List α} (h:xs.map f=ys.map f):xs.length=ys.length∧∀(i:Nat) (x y:α),xs[i]?=some x→ys[i]?=some y→f x=f y:=by
 refine ⟨by simpa using congrArg List.length h,fun i x y hx hy=>?_⟩
 have:=congrArg (fun l=>l[i]?) h
 simpa [List.getElem?_map,hx,hy] using this
theorem repB_at {P:Nat→Prop} {W:World} {l:List Stm} {A:Option Addr} {n c:Nat} (h:RepB P W l [.slice A n c]):n=l.length∧StsAt W A c l:=by
 obtain ⟨A',c',us,e,h1,h2,h3⟩:=h
 cases e
 exact ⟨rfl,⟨h1,P,us,h2,h3⟩⟩
structure DecsAt (W:World) (A:Option Addr) (xs:List Dec):Prop where
 ex:∃P,Row P W A (xs.map decCells).flatten
theorem DecsAt.keep {W W':World} {A:Option Addr} {xs:List Dec} (h:DecsAt W A xs) (hb:Below W.heap.size W W'):DecsAt W' A xs:=by
 obtain ⟨P,hR⟩:=h.ex
 exact ⟨P,hR.keep (fun _ h=>h) fun b _ hl=>hb.block b hl⟩
theorem DecsAt.at {W:World} {A:Option Addr} {xs:List Dec} (h:DecsAt W A xs) {i:Nat} {x:Dec} (hi:xs[i]?=some x) :
  ∃a,A=some a∧(∀u,(decCells x)[0]?=some u→W.cell? (a.add (i * 13))=some u)∧∀j u,(decCells x)[j+1]?=some u→W.cell? ⟨(a.add (i * 13)).block,(a.add (i * 13)).off+(j+1),none⟩=some u:=by
 obtain ⟨P,hR⟩:=h.ex
 exact row_elem hR (s:=13) (i:=i) (v:=decCells x) (fun u hu=>by obtain ⟨y,_,rfl⟩:=List.mem_map.1 hu;rfl) (by rw [List.getElem?_map,hi];rfl) (by omega)
structure PrcsAt (W:World) (A:Option Addr) (xs:List Prc):Prop where
 ex:∃P vs,Row P W A vs.flatten∧All2 (RepP P W) xs vs
theorem PrcsAt.keep {W W':World} {A:Option Addr} {xs:List Prc} (h:PrcsAt W A xs) (hb:Below W.heap.size W W'):PrcsAt W' A xs:=by
 obtain ⟨P,vs,hR,hr⟩:=h.ex
 exact ⟨fun b=>P b,vs,hR.keep (fun _ h=>h) (fun b _ hl=>hb.block b hl),hr.imp fun x v hx=>repP_keeps hx (fun _ h=>h) (fun b _ hl=>hb.block b hl)⟩
theorem PrcsAt.at {W:World} {A:Option Addr} {xs:List Prc} (h:PrcsAt W A xs) {i:Nat} {x:Prc} (hi:xs[i]?=some x) :
  ∃a A1 c1,A=some a∧W.cell? (a.add (i * 3))=some (.string x.name)∧W.cell? ⟨(a.add (i * 3)).block,(a.add (i * 3)).off+1,none⟩=some (.slice A1 x.body.length c1)∧StsAt W A1 c1 x.body:=by
 obtain ⟨P,vs,hR,hr⟩:=h.ex
 obtain ⟨v,hv,A1,n1,c1,rfl,hB⟩:=hr.at i _ hi
 obtain ⟨rfl,hS⟩:=repB_at hB
 obtain ⟨a,rfl,q0,q1⟩:=row_elem hR (s:=3) (hr.mem fun _ _ h=>by obtain ⟨A1,n1,c1,rfl,_⟩:=h;rfl) hv (by omega)
 exact ⟨a,A1,c1,rfl,q0 _ rfl,q1 0 _ rfl,hS⟩
structure TreAt (W:World) (t:Tre) (A1:Option Addr) (c1:Nat) (A2:Option Addr) (c2:Nat) (A3:Option Addr) (c3:Nat) (A4:Option Addr) (c4:Nat):Prop where
 r1:DecsAt W A1 t.decls
 r2:PrcsAt W A2 t.procs
 r3:StsAt W A3 c3 t.init
 r4:StsAt W A4 c4 t.loop
theorem TreAt.keep {W W':World} {t:Tre} {A1:Option Addr} {c1:Nat} {A2:Option Addr} {c2:Nat} {A3:Option Addr} {c3:Nat} {A4:Option Addr} {c4:Nat} (h:TreAt W t A1 c1 A2 c2 A3 c3 A4 c4) (hb:Below W.heap.size W W'):TreAt W' t A1 c1 A2 c2 A3 c3 A4 c4 :=
 ⟨h.r1.keep hb,h.r2.keep hb,h.r3.keep hb,h.r4.keep hb⟩
structure Few (t:Tre):Prop where
 h1:t.decls.length≤4611686018427387904
 h2:t.procs.length≤4611686018427387904
 h3:∀x ∈ t.procs,stSzs x.body≤4611686018427387904
 h4:stSzs t.init≤4611686018427387904
 h5:stSzs t.loop≤4611686018427387904
abbrev C27 (A1:Option Addr) (n1 c1:Nat) (A2:Option Addr) (n2 c2:Nat) (A3:Option Addr) (n3 c3:Nat) (A4:Option Addr) (n4 c4:Nat):Array Value:=#[.slice A1 n1 c1,.slice A2 n2 c2,.slice A3 n3 c3,.slice A4 n4 c4]
set_option maxHeartbeats 16000000 in
theorem same_call (t u:Tre) (hN:treN t=treN u) (hF:Few t) (W:World) (A1:Option Addr) (c1:Nat) (A2:Option Addr) (c2:Nat) (A3:Option Addr) (c3:Nat) (A4:Option Addr) (c4:Nat) (B1:Option Addr) (d1:Nat) (B2:Option Addr) (d2:Nat) (B3:Option Addr) (d3:Nat) (B4:Option Addr) (d4:Nat)
  (hT:TreAt W t A1 c1 A2 c2 A3 c3 A4 c4) (hU:TreAt W u B1 d1 B2 d2 B3 d3 B4 d4) :
  Calls Tryz.prog 16 #[.agg #[.slice A1 t.decls.length c1,.slice A2 t.procs.length c2,.slice A3 t.init.length c3,.slice A4 t.loop.length c4],.agg #[.slice B1 u.decls.length d1,.slice B2 u.procs.length d2,.slice B3 u.init.length d3,.slice B4 u.loop.length d4]] W fun e w=>e=.returned (.bool true)∧Below W.heap.size W w:=by
 obtain ⟨td,tp,ti,tl⟩:=t
 obtain ⟨ud,up,ui,ul⟩:=u
 unfold treN at hN
 injection hN with e1 e2 e3 e4
 dsimp only at e1 e2 e3 e4
 have hD:=A0.mk (map_nth e1)
 have hP:=A0.mk (map_nth e2)
 obtain ⟨n1,hn1⟩:∃n,A0 (td.length=n):=⟨_,⟨rfl⟩⟩
 obtain ⟨n2,hn2⟩:∃n,A0 (tp.length=n):=⟨_,⟨rfl⟩⟩
 obtain ⟨n3,hn3⟩:∃n,A0 (ti.length=n):=⟨_,⟨rfl⟩⟩
 obtain ⟨n4,hn4⟩:∃n,A0 (tl.length=n):=⟨_,⟨rfl⟩⟩
 have hl3:=(stNs_nth e3).1
 have hl4:=(stNs_nth e4).1
 dsimp only
 rw [←hD.out.1,←hP.out.1,←hl3,←hl4,hn1.out,hn2.out,hn3.out,hn4.out]
 replace hl3:=A0.mk hl3
 replace hl4:=A0.mk hl4
 replace e3:=A0.mk e3
 replace e4:=A0.mk e4
 replace hF:=A0.mk hF
 replace hT:=A0.mk hT
 replace hU:=A0.mk hU
 clear e1 e2
 go_enter Tryz.func16,Tryz.ntmps16
 go_upto_region 1 with fail
 have kx0:=bN W (.cells (C27 A1 n1 c1 A2 n2 c2 A3 n3 c3 A4 n4 c4) 27)
 have kx:=(_root_.Go.heap_alloc_old _ (.cells (C27 B1 n1 d1 B2 n2 d2 B3 n3 d3 B4 n4 d4) 27) (Array.getElem?_eq_some_iff.1 kx0).1).trans kx0
 have ky:=bN (W.alloc (.cells (C27 A1 n1 c1 A2 n2 c2 A3 n3 c3 A4 n4 c4) 27)) (.cells (C27 B1 n1 d1 B2 n2 d2 B3 n3 d3 B4 n4 d4) 27)
 rw [show (W.alloc (.cells (C27 A1 n1 c1 A2 n2 c2 A3 n3 c3 A4 n4 c4) 27)).heap.size=W.heap.size+1 by simp] at ky
 have hbY:=(bA W (.cells (C27 A1 n1 c1 A2 n2 c2 A3 n3 c3 A4 n4 c4) 27)).alloc (by simp) (.cells (C27 B1 n1 d1 B2 n2 d2 B3 n3 d3 B4 n4 d4) 27)
 replace hT:=A0.mk (hT.out.keep hbY)
 replace hU:=A0.mk (hU.out.keep hbY)
 clear kx0
 generalize hY0:(W.alloc (.cells (C27 A1 n1 c1 A2 n2 c2 A3 n3 c3 A4 n4 c4) 27)).alloc (.cells (C27 B1 n1 d1 B2 n2 d2 B3 n3 d3 B4 n4 d4) 27)=Y at *
 clear hY0
 have x0:Y.cell? ⟨W.heap.size,0,none⟩=some (.slice A1 n1 c1):=bC kx 0
 have x1:Y.cell? ⟨W.heap.size,1,none⟩=some (.slice A2 n2 c2):=bC kx 1
 have y0:Y.cell? ⟨W.heap.size+1,0,none⟩=some (.slice B1 n1 d1):=bC ky 0
 have y1:Y.cell? ⟨W.heap.size+1,1,none⟩=some (.slice B2 n2 d2):=bC ky 1
 replace kx:=A0.mk kx
 replace ky:=A0.mk ky
 replace hbY:=A0.mk hbY
 have gx1:=A0.mk (Array.getElem?_eq_some_iff.1 kx.out).1
 have gx2:=A0.mk (Array.getElem?_eq_some_iff.1 ky.out).1
 generalize hgx:W.heap.size=gx at *
 replace hgx:=A0.mk hgx
 go_wp2
 clear x0 x1 y0 y1
 go_loopw [5] (fun i Z=>∃j:Nat,i=.int .i64 (j:Int)∧j≤n1∧Below Y.heap.size Y Z) (fun i _=>n1 - (intOf i).toNat)
 case atStart=>exact ⟨0,rfl,Nat.zero_le _,Below.refl _ _⟩
 case round =>
  obtain ⟨j,rfl,hj,hbZ⟩:=hrel
  have ux:=(hbZ.block gx gx1.out).trans kx.out
  have uy:=(hbZ.block (gx+1) gx2.out).trans ky.out
  have x0:wr.cell? ⟨gx,0,none⟩=some (.slice A1 n1 c1):=bC ux 0
  have y0:wr.cell? ⟨gx+1,0,none⟩=some (.slice B1 n1 d1):=bC uy 0
  by_cases hjn:j<n1
  ·obtain ⟨x,hx⟩:∃x,td[j]?=some x:=⟨td[j]'(by rw [hn1.out];exact hjn),List.getElem?_eq_getElem _⟩
   obtain ⟨y,hy⟩:∃y,ud[j]?=some y:=⟨ud[j]'(by rw [←hD.out.1,hn1.out];exact hjn),List.getElem?_eq_getElem _⟩
   have he:=hD.out.2 j x y hx hy
   obtain ⟨a,hA,p0,p1⟩:=(hT.out.r1.keep hbZ).at hx
   obtain ⟨b,hB,q0,q1⟩:=(hU.out.r1.keep hbZ).at hy
   subst hA
   subst hB
   obtain ⟨op,ty,nm,⟨s1,s2,s3⟩,⟨l1,l2,l3⟩,⟨h1,h2,h3⟩,ps⟩:=x
   obtain ⟨op',ty',nm',⟨s1',s2',s3'⟩,⟨l1',l2',l3'⟩,⟨h1',h2',h3'⟩,ps'⟩:=y
   have f1:op=op':=congrArg Dec.op he
   have f2:ty=ty':=congrArg Dec.ty he
   have f3:nm=nm':=congrArg Dec.name he
   have f4:s1=s1':=congrArg (fun z=>z.size.1) he
   have f5:s2=s2':=congrArg (fun z=>z.size.2.1) he
   have f6:l1=l1':=congrArg (fun z=>z.lo.1) he
   have f7:l2=l2':=congrArg (fun z=>z.lo.2.1) he
   have f8:h1=h1':=congrArg (fun z=>z.hi.1) he
   have f9:h2=h2':=congrArg (fun z=>z.hi.2.1) he
   subst f1
   subst f2
   subst f3
   subst f4
   subst f5
   subst f6
   subst f7
   subst f8
   subst f9
   have u0:wr.cell? (a.add (j * 13))=some (.int .i64 op):=p0 _ rfl
   have u1:wr.cell? ⟨(a.add (j * 13)).block,(a.add (j * 13)).off+1,none⟩=some (.int .i64 ty):=p1 0 _ rfl
   have u2:wr.cell? ⟨(a.add (j * 13)).block,(a.add (j * 13)).off+2,none⟩=some (.string nm):=p1 1 _ rfl
   have u3:wr.cell? ⟨(a.add (j * 13)).block,(a.add (j * 13)).off+3,none⟩=some (.string s1):=p1 2 _ rfl
   have u4:wr.cell? ⟨(a.add (j * 13)).block,(a.add (j * 13)).off+4,none⟩=some (.int .i64 s2):=p1 3 _ rfl
   have u5:wr.cell? ⟨(a.add (j * 13)).block,(a.add (j * 13)).off+5,none⟩=some (.int .i64 s3):=p1 4 _ rfl
   have u6:wr.cell? ⟨(a.add (j * 13)).block,(a.add (j * 13)).off+6,none⟩=some (.string l1):=p1 5 _ rfl
   have u7:wr.cell? ⟨(a.add (j * 13)).block,(a.add (j * 13)).off+7,none⟩=some (.int .i64 l2):=p1 6 _ rfl
   have u8:wr.cell? ⟨(a.add (j * 13)).block,(a.add (j * 13)).off+8,none⟩=some (.int .i64 l3):=p1 7 _ rfl
   have u9:wr.cell? ⟨(a.add (j * 13)).block,(a.add (j * 13)).off+9,none⟩=some (.string h1):=p1 8 _ rfl
   have u10:wr.cell? ⟨(a.add (j * 13)).block,(a.add (j * 13)).off+10,none⟩=some (.int .i64 h2):=p1 9 _ rfl
   have u11:wr.cell? ⟨(a.add (j * 13)).block,(a.add (j * 13)).off+11,none⟩=some (.int .i64 h3):=p1 10 _ rfl
   have u12:wr.cell? ⟨(a.add (j * 13)).block,(a.add (j * 13)).off+12,none⟩=some (.int .i64 ps):=p1 11 _ rfl
   have v0:wr.cell? (b.add (j * 13))=some (.int .i64 op):=q0 _ rfl
   have v1:wr.cell? ⟨(b.add (j * 13)).block,(b.add (j * 13)).off+1,none⟩=some (.int .i64 ty):=q1 0 _ rfl
   have v2:wr.cell? ⟨(b.add (j * 13)).block,(b.add (j * 13)).off+2,none⟩=some (.string nm):=q1 1 _ rfl
   have v3:wr.cell? ⟨(b.add (j * 13)).block,(b.add (j * 13)).off+3,none⟩=some (.string s1):=q1 2 _ rfl
   have v4:wr.cell? ⟨(b.add (j * 13)).block,(b.add (j * 13)).off+4,none⟩=some (.int .i64 s2):=q1 3 _ rfl
   have v5:wr.cell? ⟨(b.add (j * 13)).block,(b.add (j * 13)).off+5,none⟩=some (.int .i64 s3'):=q1 4 _ rfl
   have v6:wr.cell? ⟨(b.add (j * 13)).block,(b.add (j * 13)).off+6,none⟩=some (.string l1):=q1 5 _ rfl
   have v7:wr.cell? ⟨(b.add (j * 13)).block,(b.add (j * 13)).off+7,none⟩=some (.int .i64 l2):=q1 6 _ rfl
   have v8:wr.cell? ⟨(b.add (j * 13)).block,(b.add (j * 13)).off+8,none⟩=some (.int .i64 l3'):=q1 7 _ rfl
   have v9:wr.cell? ⟨(b.add (j * 13)).block,(b.add (j * 13)).off+9,none⟩=some (.string h1):=q1 8 _ rfl
   have v10:wr.cell? ⟨(b.add (j * 13)).block,(b.add (j * 13)).off+10,none⟩=some (.int .i64 h2):=q1 9 _ rfl
   have v11:wr.cell? ⟨(b.add (j * 13)).block,(b.add (j * 13)).off+11,none⟩=some (.int .i64 h3'):=q1 10 _ rfl
   have v12:wr.cell? ⟨(b.add (j * 13)).block,(b.add (j * 13)).off+12,none⟩=some (.int .i64 ps'):=q1 11 _ rfl
   have AL:=fun o=>bA wr o
   have w0:=fun o=>(cT (AL o) v0)
   have w1:=fun o=>(cT (AL o) v1)
   have w2:=fun o=>(cT (AL o) v2)
   have w3:=fun o=>(cT (AL o) v3)
   have w4:=fun o=>(cT (AL o) v4)
   have w5:=fun o=>(cT (AL o) v5)
   have w6:=fun o=>(cT (AL o) v6)
   have w7:=fun o=>(cT (AL o) v7)
   have w8:=fun o=>(cT (AL o) v8)
   have w9:=fun o=>(cT (AL o) v9)
   have w10:=fun o=>(cT (AL o) v10)
   have w11:=fun o=>(cT (AL o) v11)
   have w12:=fun o=>(cT (AL o) v12)
   have z0:=fun o=>(cT (AL o) y0)
   have d0:decide ((j:Int)<(n1:Int))=true:=decide_eq_true (by omega)
   have k0:(0:Int)≤(j:Int):=by omega
   have k1:(j:Int)<(n1:Int):=by omega
   have wk:A0 (wrap64 ((j:Int)+1)=((j+1:Nat):Int)):=⟨by rw [IntWalk.wrap64_in _ (by have:=hF.out.h1;dsimp only at this;rw [hn1.out] at this;omega)];rfl⟩
   replace hbZ:=A0.mk hbZ
   clear hx hy he p0 p1 q0 q1 AL ux uy v0 v1 v2 v3 v4 v5 v6 v7 v8 v9 v10 v11 v12
   go_upto_region 8 with fail
   have X0:=bN wr (.cells #[.int .i64 op,.int .i64 ty,.string nm,.string s1,.int .i64 s2,.int .i64 s3,.string l1,.int .i64 l2,.int .i64 l3,.string h1,.int .i64 h2,.int .i64 h3,.int .i64 ps] 69)
   have X1:=(_root_.Go.heap_alloc_old _ (.cells #[.int .i64 op,.int .i64 ty,.string nm,.string s1,.int .i64 s2,.int .i64 s3',.string l1,.int .i64 l2,.int .i64 l3',.string h1,.int .i64 h2,.int .i64 h3',.int .i64 ps'] 69) (Array.getElem?_eq_some_iff.1 X0).1).trans X0
   have Y1:=bN (wr.alloc (.cells #[.int .i64 op,.int .i64 ty,.string nm,.string s1,.int .i64 s2,.int .i64 s3,.string l1,.int .i64 l2,.int .i64 l3,.string h1,.int .i64 h2,.int .i64 h3,.int .i64 ps] 69)) (.cells #[.int .i64 op,.int .i64 ty,.string nm,.string s1,.int .i64 s2,.int .i64 s3',.string l1,.int .i64 l2,.int .i64 l3',.string h1,.int .i64 h2,.int .i64 h3',.int .i64 ps'] 69)
   rw [show (wr.alloc (.cells #[.int .i64 op,.int .i64 ty,.string nm,.string s1,.int .i64 s2,.int .i64 s3,.string l1,.int .i64 l2,.int .i64 l3,.string h1,.int .i64 h2,.int .i64 h3,.int .i64 ps] 69)).heap.size=wr.heap.size+1 by simp] at Y1
   have hbV0:=(bA wr (.cells #[.int .i64 op,.int .i64 ty,.string nm,.string s1,.int .i64 s2,.int .i64 s3,.string l1,.int .i64 l2,.int .i64 l3,.string h1,.int .i64 h2,.int .i64 h3,.int .i64 ps] 69)).alloc (by simp) (.cells #[.int .i64 op,.int .i64 ty,.string nm,.string s1,.int .i64 s2,.int .i64 s3',.string l1,.int .i64 l2,.int .i64 l3',.string h1,.int .i64 h2,.int .i64 h3',.int .i64 ps'] 69)
   have hbV:=hbZ.out.trans (hbV0.mono hbZ.out.size)
   clear hbV0 X0 x0 y0 z0 u0 w0 u1 w1 u2 w2 u3 w3 u4 w4 u5 w5 u6 w6 u7 w7 u8 w8 u9 w9 u10 w10 u11 w11 u12 w12
   generalize hY1:(wr.alloc (.cells #[.int .i64 op,.int .i64 ty,.string nm,.string s1,.int .i64 s2,.int .i64 s3,.string l1,.int .i64 l2,.int .i64 l3,.string h1,.int .i64 h2,.int .i64 h3,.int .i64 ps] 69)).alloc (.cells #[.int .i64 op,.int .i64 ty,.string nm,.string s1,.int .i64 s2,.int .i64 s3',.string l1,.int .i64 l2,.int .i64 l3',.string h1,.int .i64 h2,.int .i64 h3',.int .i64 ps'] 69)=V at *
   clear hY1 hbZ
   generalize wr.heap.size=gd at *
   replace hbV:=A0.mk hbV
   have u0:V.cell? ⟨gd,0,none⟩=some (.int .i64 op):=bC X1 0
   have v0:V.cell? ⟨gd+1,0,none⟩=some (.int .i64 op):=bC Y1 0
   have u1:V.cell? ⟨gd,1,none⟩=some (.int .i64 ty):=bC X1 1
   have v1:V.cell? ⟨gd+1,1,none⟩=some (.int .i64 ty):=bC Y1 1
   have u2:V.cell? ⟨gd,2,none⟩=some (.string nm):=bC X1 2
   have v2:V.cell? ⟨gd+1,2,none⟩=some (.string nm):=bC Y1 2
   have u3:V.cell? ⟨gd,3,none⟩=some (.string s1):=bC X1 3
   have v3:V.cell? ⟨gd+1,3,none⟩=some (.string s1):=bC Y1 3
   have u4:V.cell? ⟨gd,4,none⟩=some (.int .i64 s2):=bC X1 4
   have v4:V.cell? ⟨gd+1,4,none⟩=some (.int .i64 s2):=bC Y1 4
   have u5:V.cell? ⟨gd,5,none⟩=some (.int .i64 s3):=bC X1 5
   have v5:V.cell? ⟨gd+1,5,none⟩=some (.int .i64 s3'):=bC Y1 5
   have g1:=(Array.getElem?_eq_some_iff.1 X1).1
   have g2:=(Array.getElem?_eq_some_iff.1 Y1).1
   have F2:A0 (∀w,Below V.heap.size V w→w.cell? ⟨gd,6,none⟩=some (.string l1)∧w.cell? ⟨gd+1,6,none⟩=some (.string l1)∧w.cell? ⟨gd,7,none⟩=some (.int .i64 l2)∧w.cell? ⟨gd+1,7,none⟩=some (.int .i64 l2)∧w.cell? ⟨gd,8,none⟩=some (.int .i64 l3)∧w.cell? ⟨gd+1,8,none⟩=some (.int .i64 l3')):=⟨fun w hb=>⟨bC ((hb.block gd g1).trans X1) 6,bC ((hb.block (gd+1) g2).trans Y1) 6,bC ((hb.block gd g1).trans X1) 7,bC ((hb.block (gd+1) g2).trans Y1) 7,bC ((hb.block gd g1).trans X1) 8,bC ((hb.block (gd+1) g2).trans Y1) 8⟩⟩
   have F3:A0 (∀w,Below V.heap.size V w→w.cell? ⟨gd,9,none⟩=some (.string h1)∧w.cell? ⟨gd+1,9,none⟩=some (.string h1)∧w.cell? ⟨gd,10,none⟩=some (.int .i64 h2)∧w.cell? ⟨gd+1,10,none⟩=some (.int .i64 h2)∧w.cell? ⟨gd,11,none⟩=some (.int .i64 h3)∧w.cell? ⟨gd+1,11,none⟩=some (.int .i64 h3')):=⟨fun w hb=>⟨bC ((hb.block gd g1).trans X1) 9,bC ((hb.block (gd+1) g2).trans Y1) 9,bC ((hb.block gd g1).trans X1) 10,bC ((hb.block (gd+1) g2).trans Y1) 10,bC ((hb.block gd g1).trans X1) 11,bC ((hb.block (gd+1) g2).trans Y1) 11⟩⟩
   have K1:=A0.mk (fun W=>sameConst_call s1 s2 s3 s3' W)
   have K2:=A0.mk (fun W=>sameConst_call l1 l2 l3 l3' W)
   have K3:=A0.mk (fun W=>sameConst_call h1 h2 h3 h3' W)
   clear X1 Y1 g1 g2
   go_wp2_with (first
    | (go_at_call 41;(with_reducible refine (K1.out _).mono ?_);rintro e w2 ⟨rfl,hb2⟩;replace hb2:=A0.mk hb2;obtain ⟨i1,i2,i3,i4,i5,i6⟩:=F2.out _ hb2.out)
    | (go_at_call 41;(with_reducible refine (K2.out _).mono ?_);rintro e w3 ⟨rfl,hb3⟩;replace hb3:=A0.mk (hb2.out.trans (hb3.mono hb2.out.size));obtain ⟨j1,j2,j3,j4,j5,j6⟩:=F3.out _ hb3.out)
    | (go_at_call 41;(with_reducible refine (K3.out _).mono ?_);rintro e w4 ⟨rfl,hb4⟩;replace hb4:=A0.mk (hb3.out.trans (hb4.mono hb3.out.size))))
   go_round
   case rel=>exact ⟨j+1,by (try rw [wk.out]) <;> rfl,hjn,hbV.out.trans (hb4.out.mono hbV.out.size)⟩
   case measure=>(try rw [wk.out]) <;> simp [intOf] <;> omega
  ·obtain rfl:j=n1:=by omega
   have d0:decide ((j:Int)<(j:Int))=false:=decide_eq_false (by omega)
   have x1:wr.cell? ⟨gx,1,none⟩=some (.slice A2 n2 c2):=bC ux 1
   have y1:wr.cell? ⟨gx+1,1,none⟩=some (.slice B2 n2 d2):=bC uy 1
   replace hbZ:=A0.mk hbZ
   clear ux uy hjn
   go_wp2
   clear x0 y0 x1 y1 d0
   go_loopw [8] (fun i Z=>∃l:Nat,i=.int .i64 (l:Int)∧l≤n2∧Below Y.heap.size Y Z) (fun i _=>n2 - (intOf i).toNat)
   case atStart=>exact ⟨0,rfl,Nat.zero_le _,hbZ.out⟩
   case round =>
    clear hbZ
    obtain ⟨l,rfl,hlm,hbV⟩:=hrel
    have ux:=(hbV.block gx gx1.out).trans kx.out
    have uy:=(hbV.block (gx+1) gx2.out).trans ky.out
    have x1:wr.cell? ⟨gx,1,none⟩=some (.slice A2 n2 c2):=bC ux 1
    have y1:wr.cell? ⟨gx+1,1,none⟩=some (.slice B2 n2 d2):=bC uy 1
    by_cases hln:l<n2
    ·obtain ⟨x,hx⟩:∃x,tp[l]?=some x:=⟨tp[l]'(by rw [hn2.out];exact hln),List.getElem?_eq_getElem _⟩
     obtain ⟨y,hy⟩:∃y,up[l]?=some y:=⟨up[l]'(by rw [←hP.out.1,hn2.out];exact hln),List.getElem?_eq_getElem _⟩
     have he:=hP.out.2 l x y hx hy
     obtain ⟨a',U1,s1,hA2,p0,p1,hU1⟩:=(hT.out.r2.keep hbV).at hx
     obtain ⟨b',U2,s2,hB2',r0,r1,hU2⟩:=(hU.out.r2.keep hbV).at hy
     subst hA2
     subst hB2'
     have f1:x.name=y.name:=by have h:=congrArg Prc.name he;exact h
     have f2:stNs x.body=stNs y.body:=by have h:=congrArg Prc.body he;exact h
     have hbD:=(Below.refl wr.heap.size wr).drew
     have CB:=sameBlock_call (stSzs x.body) x.body y.body (Nat.le_refl _) (hF.out.h3 x (List.mem_of_getElem? hx)) f2 wr.drew U1 U2 s1 s2 (hU1.keep hbD) (hU2.keep hbD)
     rw [←(stNs_nth f2).1] at CB r1
     rw [←f1] at r0
     obtain ⟨nb,hnb⟩:∃nb,A0 (x.body.length=nb):=⟨_,⟨rfl⟩⟩
     obtain ⟨nm,hnm⟩:∃nm,A0 (x.name=nm):=⟨_,⟨rfl⟩⟩
     rw [hnb.out] at CB p1 r1
     rw [hnm.out] at p0 r0
     have SK:A0 (∀w,Below wr.heap.size wr w→(fun w:World=>w.cell? ⟨gx,1,none⟩=some (.slice (some a') n2 c2)∧w.cell? ⟨gx+1,1,none⟩=some (.slice (some b') n2 d2)∧w.cell? (a'.add (l * 3))=some (.string nm)∧w.cell? ⟨(a'.add (l * 3)).block,(a'.add (l * 3)).off+1,none⟩=some (.slice U1 nb s1)∧w.cell? (b'.add (l * 3))=some (.string nm)∧w.cell? ⟨(b'.add (l * 3)).block,(b'.add (l * 3)).off+1,none⟩=some (.slice U2 nb s2)) w):=⟨fun w hb =>
      ⟨(cT hb x1),(cT hb y1),(cT hb p0),(cT hb p1),(cT hb r0),(cT hb r1)⟩⟩
     have d1':decide ((l:Int)<(n2:Int))=true:=decide_eq_true (by omega)
     have m0:(0:Int)≤(l:Int):=by omega
     have m1:(l:Int)<(n2:Int):=by omega
     have wk2:A0 (wrap64 ((l:Int)+1)=((l+1:Nat):Int)):=⟨by rw [IntWalk.wrap64_in _ (by have:=hF.out.h2;dsimp only at this;rw [hn2.out] at this;omega)];rfl⟩
     replace CB:=A0.mk CB
     have hS0:=A0.mk (SK.out wr.drew hbD)
     replace hbV:=A0.mk hbV
     clear hx hy he ux uy hU1 hU2 hbD f1 f2
     go_wp2
     refine wp_region_held_drew (S:=(fun w:World=>w.cell? ⟨gx,1,none⟩=some (.slice (some a') n2 c2)∧w.cell? ⟨gx+1,1,none⟩=some (.slice (some b') n2 d2)∧w.cell? (a'.add (l * 3))=some (.string nm)∧w.cell? ⟨(a'.add (l * 3)).block,(a'.add (l * 3)).off+1,none⟩=some (.slice U1 nb s1)∧w.cell? (b'.add (l * 3))=some (.string nm)∧w.cell? ⟨(b'.add (l * 3)).block,(b'.add (l * 3)).off+1,none⟩=some (.slice U2 nb s2))) (by kernel_rfl) hS0.out (fun hHeld=>?_)
     refine take1 0 92 (.pointer (some ⟨gx,1,none⟩)) rfl rfl (by kernel_rfl) (by kernel_rfl) (by kernel_rfl) (fun _ _ _ h=>h) (Or.inl ⟨by kernel_rfl,fun w hSw=>by (try dsimp only at hSw);go_simp⟩) (by assumption) ?_
     (try simp only [List.setIfInBounds_toArray,List.set_cons_zero,List.set_cons_succ])
     refine take1 1 93 (.slice (some a') n2 c2) rfl rfl (by kernel_rfl) (by kernel_rfl) (by kernel_rfl) (fun _ _ _ h=>h) (Or.inl ⟨by kernel_rfl,fun w hSw=>by (try dsimp only at hSw);go_simp⟩) (by assumption) ?_
     (try simp only [List.setIfInBounds_toArray,List.set_cons_zero,List.set_cons_succ])
     refine take1 2 94 (.int .i64 (l:Int)) rfl rfl (by kernel_rfl) (by kernel_rfl) (by kernel_rfl) (fun _ _ _ h=>h) (Or.inl ⟨by kernel_rfl,fun w hSw=>by (try dsimp only at hSw);go_simp⟩) (by assumption) ?_
     (try simp only [List.setIfInBounds_toArray,List.set_cons_zero,List.set_cons_succ])
     refine take1 3 95 (.pointer (some (a'.add (l * 3)))) rfl rfl (by kernel_rfl) (by kernel_rfl) (by kernel_rfl) (fun _ _ _ h=>h) (Or.inl ⟨by kernel_rfl,fun w hSw=>by (try dsimp only at hSw);go_simp⟩) (by assumption) ?_
     (try simp only [List.setIfInBounds_toArray,List.set_cons_zero,List.set_cons_succ])
     refine take1 4 96 (.pointer (some (a'.add (l * 3)))) rfl rfl (by kernel_rfl) (by kernel_rfl) (by kernel_rfl) (fun _ _ _ h=>h) (Or.inl ⟨by kernel_rfl,fun w hSw=>by (try dsimp only at hSw);go_simp⟩) (by assumption) ?_
     (try simp only [List.setIfInBounds_toArray,List.set_cons_zero,List.set_cons_succ])
     refine take1 5 97 (.string nm) rfl rfl (by kernel_rfl) (by kernel_rfl) (by kernel_rfl) (fun _ _ _ h=>h) (Or.inl ⟨by kernel_rfl,fun w hSw=>by (try dsimp only at hSw);go_simp⟩) (by assumption) ?_
     (try simp only [List.setIfInBounds_toArray,List.set_cons_zero,List.set_cons_succ])
     refine take1 6 98 (.pointer (some ⟨gx+1,1,none⟩)) rfl rfl (by kernel_rfl) (by kernel_rfl) (by kernel_rfl) (fun _ _ _ h=>h) (Or.inl ⟨by kernel_rfl,fun w hSw=>by (try dsimp only at hSw);go_simp⟩) (by assumption) ?_
     (try simp only [List.setIfInBounds_toArray,List.set_cons_zero,List.set_cons_succ])
     refine take1 7 99 (.slice (some b') n2 d2) rfl rfl (by kernel_rfl) (by kernel_rfl) (by kernel_rfl) (fun _ _ _ h=>h) (Or.inl ⟨by kernel_rfl,fun w hSw=>by (try dsimp only at hSw);go_simp⟩) (by assumption) ?_
     (try simp only [List.setIfInBounds_toArray,List.set_cons_zero,List.set_cons_succ])
     refine take1 8 100 (.int .i64 (l:Int)) rfl rfl (by kernel_rfl) (by kernel_rfl) (by kernel_rfl) (fun _ _ _ h=>h) (Or.inl ⟨by kernel_rfl,fun w hSw=>by (try dsimp only at hSw);go_simp⟩) (by assumption) ?_
     (try simp only [List.setIfInBounds_toArray,List.set_cons_zero,List.set_cons_succ])
     refine take1 9 101 (.pointer (some (b'.add (l * 3)))) rfl rfl (by kernel_rfl) (by kernel_rfl) (by kernel_rfl) (fun _ _ _ h=>h) (Or.inl ⟨by kernel_rfl,fun w hSw=>by (try dsimp only at hSw);go_simp⟩) (by assumption) ?_
     (try simp only [List.setIfInBounds_toArray,List.set_cons_zero,List.set_cons_succ])
     refine take1 10 102 (.pointer (some (b'.add (l * 3)))) rfl rfl (by kernel_rfl) (by kernel_rfl) (by kernel_rfl) (fun _ _ _ h=>h) (Or.inl ⟨by kernel_rfl,fun w hSw=>by (try dsimp only at hSw);go_simp⟩) (by assumption) ?_
     (try simp only [List.setIfInBounds_toArray,List.set_cons_zero,List.set_cons_succ])
     refine take1 11 103 (.string nm) rfl rfl (by kernel_rfl) (by kernel_rfl) (by kernel_rfl) (fun _ _ _ h=>h) (Or.inl ⟨by kernel_rfl,fun w hSw=>by (try dsimp only at hSw);go_simp⟩) (by assumption) ?_
     (try simp only [List.setIfInBounds_toArray,List.set_cons_zero,List.set_cons_succ])
     refine take1 12 104 (.bool false) rfl rfl (by kernel_rfl) (by kernel_rfl) (by kernel_rfl) (fun _ _ _ h=>h) (Or.inl ⟨by kernel_rfl,fun w hSw=>by (try dsimp only at hSw);go_simp⟩) (by assumption) ?_
     (try simp only [List.setIfInBounds_toArray,List.set_cons_zero,List.set_cons_succ])
     refine take1 13 105 (.bool false) rfl rfl (by kernel_rfl) (by kernel_rfl) (by kernel_rfl) (fun _ _ _ h=>h) (Or.inl ⟨by kernel_rfl,fun w hSw=>by (try dsimp only at hSw);go_simp⟩) (by assumption) ?_
     (try simp only [List.setIfInBounds_toArray,List.set_cons_zero,List.set_cons_succ])
     refine take1 14 106 (.pointer (some ⟨gx,1,none⟩)) rfl rfl (by kernel_rfl) (by kernel_rfl) (by kernel_rfl) (fun _ _ _ h=>h) (Or.inl ⟨by kernel_rfl,fun w hSw=>by (try dsimp only at hSw);go_simp⟩) (by assumption) ?_
     (try simp only [List.setIfInBounds_toArray,List.set_cons_zero,List.set_cons_succ])
     refine take1 15 107 (.slice (some a') n2 c2) rfl rfl (by kernel_rfl) (by kernel_rfl) (by kernel_rfl) (fun _ _ _ h=>h) (Or.inl ⟨by kernel_rfl,fun w hSw=>by (try dsimp only at hSw);go_simp⟩) (by assumption) ?_
     (try simp only [List.setIfInBounds_toArray,List.set_cons_zero,List.set_cons_succ])
     refine take1 16 108 (.int .i64 (l:Int)) rfl rfl (by kernel_rfl) (by kernel_rfl) (by kernel_rfl) (fun _ _ _ h=>h) (Or.inl ⟨by kernel_rfl,fun w hSw=>by (try dsimp only at hSw);go_simp⟩) (by assumption) ?_
     (try simp only [List.setIfInBounds_toArray,List.set_cons_zero,List.set_cons_succ])
     refine take1 17 109 (.pointer (some (a'.add (l * 3)))) rfl rfl (by kernel_rfl) (by kernel_rfl) (by kernel_rfl) (fun _ _ _ h=>h) (Or.inl ⟨by kernel_rfl,fun w hSw=>by (try dsimp only at hSw);go_simp⟩) (by assumption) ?_
     (try simp only [List.setIfInBounds_toArray,List.set_cons_zero,List.set_cons_succ])
     refine take1 18 110 (.pointer (some ⟨(a'.add (l * 3)).block,(a'.add (l * 3)).off+1,none⟩)) rfl rfl (by kernel_rfl) (by kernel_rfl) (by kernel_rfl) (fun _ _ _ h=>h) (Or.inl ⟨by kernel_rfl,fun w hSw=>by (try dsimp only at hSw);go_simp⟩) (by assumption) ?_
     (try simp only [List.setIfInBounds_toArray,List.set_cons_zero,List.set_cons_succ])
     refine take1 19 111 (.slice U1 nb s1) rfl rfl (by kernel_rfl) (by kernel_rfl) (by kernel_rfl) (fun _ _ _ h=>h) (Or.inl ⟨by kernel_rfl,fun w hSw=>by (try dsimp only at hSw);go_simp⟩) (by assumption) ?_
     (try simp only [List.setIfInBounds_toArray,List.set_cons_zero,List.set_cons_succ])
     refine take1 20 112 (.pointer (some ⟨gx+1,1,none⟩)) rfl rfl (by kernel_rfl) (by kernel_rfl) (by kernel_rfl) (fun _ _ _ h=>h) (Or.inl ⟨by kernel_rfl,fun w hSw=>by (try dsimp only at hSw);go_simp⟩) (by assumption) ?_
     (try simp only [List.setIfInBounds_toArray,List.set_cons_zero,List.set_cons_succ])
     refine take1 21 113 (.slice (some b') n2 d2) rfl rfl (by kernel_rfl) (by kernel_rfl) (by kernel_rfl) (fun _ _ _ h=>h) (Or.inl ⟨by kernel_rfl,fun w hSw=>by (try dsimp only at hSw);go_simp⟩) (by assumption) ?_
     (try simp only [List.setIfInBounds_toArray,List.set_cons_zero,List.set_cons_succ])
     refine take1 22 114 (.int .i64 (l:Int)) rfl rfl (by kernel_rfl) (by kernel_rfl) (by kernel_rfl) (fun _ _ _ h=>h) (Or.inl ⟨by kernel_rfl,fun w hSw=>by (try dsimp only at hSw);go_simp⟩) (by assumption) ?_
     (try simp only [List.setIfInBounds_toArray,List.set_cons_zero,List.set_cons_succ])
     refine take1 23 115 (.pointer (some (b'.add (l * 3)))) rfl rfl (by kernel_rfl) (by kernel_rfl) (by kernel_rfl) (fun _ _ _ h=>h) (Or.inl ⟨by kernel_rfl,fun w hSw=>by (try dsimp only at hSw);go_simp⟩) (by assumption) ?_
     (try simp only [List.setIfInBounds_toArray,List.set_cons_zero,List.set_cons_succ])
     refine take1 24 116 (.pointer (some ⟨(b'.add (l * 3)).block,(b'.add (l * 3)).off+1,none⟩)) rfl rfl (by kernel_rfl) (by kernel_rfl) (by kernel_rfl) (fun _ _ _ h=>h) (Or.inl ⟨by kernel_rfl,fun w hSw=>by (try dsimp only at hSw);go_simp⟩) (by assumption) ?_
     (try simp only [List.setIfInBounds_toArray,List.set_cons_zero,List.set_cons_succ])
     refine take1 25 117 (.slice U2 nb s2) rfl rfl (by kernel_rfl) (by kernel_rfl) (by kernel_rfl) (fun _ _ _ h=>h) (Or.inl ⟨by kernel_rfl,fun w hSw=>by (try dsimp only at hSw);go_simp⟩) (by assumption) ?_
     (try simp only [List.setIfInBounds_toArray,List.set_cons_zero,List.set_cons_succ])
     refine wpAnyH_ready (rs:=[26]) (by kernel_rfl) (by simp) ?_
     refine AllReadyH.cons rfl (fun K hK=>?_) AllReadyH.nil
     go_simp
     go_at_call 42
     (with_reducible refine CB.out.mono ?_)
     rintro e w3 ⟨rfl,hb⟩
     go_wp2_with fail
     have hb3:=A0.mk ((Below.refl wr.heap.size wr).drew.trans hb)
     refine hK.out _ _ (SK.out _ hb3.out) (fun hHeld=>?_)
     clear hK K hb
     (try simp only [Act.put,List.setIfInBounds_toArray,List.set_cons_zero,List.set_cons_succ])
     refine take1 27 119 (.bool false) rfl rfl (by kernel_rfl) (by kernel_rfl) (by kernel_rfl) (fun _ _ _ h=>h) (Or.inl ⟨by kernel_rfl,fun w hSw=>by (try dsimp only at hSw);go_simp⟩) (by assumption) ?_
     (try simp only [List.setIfInBounds_toArray,List.set_cons_zero,List.set_cons_succ])
     refine take1 28 120 (.bool false) rfl rfl (by kernel_rfl) (by kernel_rfl) (by kernel_rfl) (fun _ _ _ h=>h) (Or.inl ⟨by kernel_rfl,fun w hSw=>by (try dsimp only at hSw);go_simp⟩) (by assumption) ?_
     (try simp only [List.setIfInBounds_toArray,List.set_cons_zero,List.set_cons_succ])
     refine wpAnyH_done (by kernel_rfl) ?_ _
     clear hHeld
     go_wp2
     go_round
     case rel=>exact ⟨l+1,by (try rw [wk2.out]) <;> rfl,hln,hbV.out.trans (hb3.out.mono hbV.out.size)⟩
     case measure=>(try rw [wk2.out]) <;> simp [intOf] <;> omega
    ·obtain rfl:l=n2:=by omega
     have d1':decide ((l:Int)<(l:Int))=false:=decide_eq_false (by omega)
     have x2:wr.cell? ⟨gx,2,none⟩=some (.slice A3 n3 c3):=bC ux 2
     have y2:wr.cell? ⟨gx+1,2,none⟩=some (.slice B3 n3 d3):=bC uy 2
     have CI:=sameBlock_call (stSzs ti) ti ui (Nat.le_refl _) hF.out.h4 e3.out wr A3 B3 c3 d3 (hT.out.r3.keep hbV) (hU.out.r3.keep hbV)
     have CL:=fun w (hb:Below wr.heap.size wr w)=>sameBlock_call (stSzs tl) tl ul (Nat.le_refl _) hF.out.h5 e4.out w A4 B4 c4 d4 ((hT.out.r4.keep hbV).keep hb) ((hU.out.r4.keep hbV).keep hb)
     rw [←hl3.out,hn3.out] at CI
     rw [←hl4.out,hn4.out] at CL
     replace CI:=A0.mk CI
     replace CL:=A0.mk CL
     have F3:A0 (∀w,Below wr.heap.size wr w→w.cell? ⟨gx,3,none⟩=some (.slice A4 n4 c4)∧w.cell? ⟨gx+1,3,none⟩=some (.slice B4 n4 d4)):=⟨fun w hb=>⟨bC ((hb.block gx (Array.getElem?_eq_some_iff.1 ux).1).trans ux) 3,bC ((hb.block (gx+1) (Array.getElem?_eq_some_iff.1 uy).1).trans uy) 3⟩⟩
     replace hbV:=A0.mk hbV
     clear ux uy hln y1
     go_wp2_with (first
      | (go_at_call 42;(with_reducible refine CI.out.mono ?_);rintro e w2 ⟨rfl,hb2⟩;replace hb2:=A0.mk hb2;obtain ⟨i1,i2⟩:=F3.out _ hb2.out)
      | (go_at_call 42;(with_reducible refine (CL.out _ hb2.out).mono ?_);rintro e w4 ⟨rfl,hb4⟩;replace hb4:=A0.mk (hb2.out.trans (hb4.mono hb2.out.size))))
     go_ret
     refine ⟨rfl,?_⟩
     rw [hgx.out]
     exact hbY.out.trans ((hbV.out.trans (hb4.out.mono hbV.out.size)).mono (by have:=gx1.out;omega))
end Go.Proofs.YtgaoapnaplgaiaaGreatDoor.Sc
