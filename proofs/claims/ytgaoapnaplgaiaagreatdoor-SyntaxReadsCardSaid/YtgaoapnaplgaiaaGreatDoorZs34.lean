/- This claim's own texts, joined, with only what the claim uses: SamC. -/
import Derived.Test.YtgaoapnaplgaiaaGreatDoorZs33
namespace Go.Proofs.YtgaoapnaplgaiaaGreatDoor.Sc
set_option maxRecDepth 100000
open Go.RowKit Tk Go.Proofs.YtgaoapnaplgaiaaGreatDoor.Wd
abbrev E107c (op:Int) (name read:ByteArray) (A1:Option Addr) (n1 c1:Nat) (A2:Option Addr) (n2 c2:Nat) (A3:Option Addr) (n3 c3:Nat) (pos:Int):Array Value:=#[.int .i64 op,.string name,.string read,.slice A1 n1 c1,.slice A2 n2 c2,.slice A3 n3 c3,.int .i64 pos]
set_option maxHeartbeats 16000000 in
theorem sameBlock_call:∀(k:Nat) (xs ys:List Stm),stSzs xs≤k→k≤4611686018427387904→stNs xs=stNs ys→∀(W:World) (A B:Option Addr) (c d:Nat),StsAt W A c xs→StsAt W B d ys →
  Calls Tryz.prog 42 #[.slice A xs.length c,.slice B ys.length d] W fun e w=>e=.returned (.bool true)∧Below W.heap.size W w:=by
 intro k
 induction k using Nat.strongRecOn with
 | ind k ih =>
  intro xs ys hk hkm hN W A B c d hX hY
  obtain ⟨hl,hn⟩:=stNs_nth hN
  have hxl:=stSzs_len xs
  rw [←hl]
  replace ih:=A0.mk ih
  replace hX:=A0.mk hX
  replace hY:=A0.mk hY
  replace hn:=A0.mk hn
  replace hl:=A0.mk hl
  obtain ⟨N,hNl⟩:∃N,A0 (xs.length=N):=⟨_,⟨rfl⟩⟩
  rw [hNl.out] at hxl ⊢
  clear hN
  go_enter Tryz.func42,Tryz.ntmps42
  go_wp2
  go_loopw [5] (fun i X=>∃j:Nat,i=.int .i64 (j:Int)∧j≤N∧Below W.heap.size W X) (fun i _=>N - (intOf i).toNat)
  case atStart=>exact ⟨0,rfl,Nat.zero_le _,Below.refl _ _⟩
  case round =>
   obtain ⟨j,rfl,hj,hbX⟩:=hrel
   rename_i X
   by_cases hjN:j<N
   ·obtain ⟨x,hx⟩:∃x,xs[j]?=some x:=⟨xs[j]'(by rw [hNl.out];exact hjN),List.getElem?_eq_getElem _⟩
    obtain ⟨y,hy⟩:∃y,ys[j]?=some y:=⟨ys[j]'(by rw [←hl.out,hNl.out];exact hjN),List.getElem?_eq_getElem _⟩
    have he:=hn.out j x y hx hy
    have hsz:=stSzs_nth hx
    obtain ⟨op,name,read,args,blocks,cases,pos⟩:=x
    obtain ⟨op2,name2,read2,args2,blocks2,cases2,pos2⟩:=y
    rw [stN_mk,stN_mk] at he
    injection he with e1 e2 e3 e4 e5 e6 _
    subst e1
    subst e2
    subst e3
    rw [stSz] at hsz
    obtain ⟨a,A1,c1,A2,c2,A3,c3,rfl,a0,a1,a2,a3,a4,a5,a6,hE,hB,hC⟩:=(hX.out.keep hbX).at hx
    obtain ⟨b,B1,d1,B2,d2,B3,d3,rfl,b0,b1,b2,b3,b4,b5,b6,hE2,hB2,hC2⟩:=(hY.out.keep hbX).at hy
    have hl1:=A0.mk (exNs_nth e4).1
    have hl2:=A0.mk (bkNs_nth e5)
    have hl3:=A0.mk (conNs_nth e6)
    obtain ⟨n1,hn1⟩:∃n1,A0 (args.length=n1):=⟨_,⟨rfl⟩⟩
    obtain ⟨n2,hn2⟩:∃n2,A0 (blocks.length=n2):=⟨_,⟨rfl⟩⟩
    obtain ⟨n3,hn3⟩:∃n3,A0 (cases.length=n3):=⟨_,⟨rfl⟩⟩
    rw [hn1.out] at a3
    rw [hn2.out] at a4
    rw [hn3.out] at a5
    rw [←hl1.out,hn1.out] at b3
    rw [←hl2.out.1,hn2.out] at b4
    rw [←hl3.out.1,hn3.out] at b5
    have AL:=fun o=>bA wr o
    have o0:=fun o=>(cT (AL o) b0)
    have o1:=fun o=>(cT (AL o) b1)
    have o2:=fun o=>(cT (AL o) b2)
    have o3:=fun o=>(cT (AL o) b3)
    have o4:=fun o=>(cT (AL o) b4)
    have o5:=fun o=>(cT (AL o) b5)
    have o6:=fun o=>(cT (AL o) b6)
    have d0:decide ((j:Int)<(N:Int))=true:=decide_eq_true (by omega)
    have k0:(0:Int)≤(j:Int):=by omega
    have k1:(j:Int)<(N:Int):=by omega
    have wk:wrap64 ((j:Int)+1)=((j+1:Nat):Int):=by rw [IntWalk.wrap64_in _ (by omega)];rfl
    replace wk:=A0.mk wk
    replace hbX:=A0.mk hbX
    replace hE:=A0.mk hE
    replace hE2:=A0.mk hE2
    replace hB:=A0.mk hB
    replace hB2:=A0.mk hB2
    replace hC:=A0.mk hC
    replace hC2:=A0.mk hC2
    replace e4:=A0.mk e4
    replace hsz:=A0.mk hsz
    replace hk:=A0.mk hk
    replace hkm:=A0.mk hkm
    replace hxl:=A0.mk hxl
    clear hx hy e5 e6 AL b0 b1 b2 b3 b4 b5 b6
    go_upto_region 8 with fail
    have kx0:=bN wr (.cells (E107c op name read A1 n1 c1 A2 n2 c2 A3 n3 c3 pos) 107)
    have kx:=(_root_.Go.heap_alloc_old _ (.cells (E107c op name read B1 n1 d1 B2 n2 d2 B3 n3 d3 pos2) 107) (Array.getElem?_eq_some_iff.1 kx0).1).trans kx0
    have ky:=bN (wr.alloc (.cells (E107c op name read A1 n1 c1 A2 n2 c2 A3 n3 c3 pos) 107)) (.cells (E107c op name read B1 n1 d1 B2 n2 d2 B3 n3 d3 pos2) 107)
    rw [show (wr.alloc (.cells (E107c op name read A1 n1 c1 A2 n2 c2 A3 n3 c3 pos) 107)).heap.size=wr.heap.size+1 by simp] at ky
    have hbY0:=(bA wr (.cells (E107c op name read A1 n1 c1 A2 n2 c2 A3 n3 c3 pos) 107)).alloc (by simp) (.cells (E107c op name read B1 n1 d1 B2 n2 d2 B3 n3 d3 pos2) 107)
    have hbY:=hbX.out.trans (hbY0.mono hbX.out.size)
    replace hE:=A0.mk (hE.out.keep hbY0)
    replace hE2:=A0.mk (hE2.out.keep hbY0)
    replace hB:=A0.mk (hB.out.keep hbY0)
    replace hB2:=A0.mk (hB2.out.keep hbY0)
    replace hC:=A0.mk (hC.out.keep hbY0)
    replace hC2:=A0.mk (hC2.out.keep hbY0)
    clear hbY0 kx0 o0 o1 o2 o3 o4 o5 o6 a0 a1 a2 a3 a4 a5 a6
    generalize hY0:(wr.alloc (.cells (E107c op name read A1 n1 c1 A2 n2 c2 A3 n3 c3 pos) 107)).alloc (.cells (E107c op name read B1 n1 d1 B2 n2 d2 B3 n3 d3 pos2) 107)=Y at *
    clear hY0
    replace hbX:=A0.mk hbX.out.size
    generalize wr.heap.size=gx at *
    replace hbY:=A0.mk hbY
    have CE:=sameExprs_call (exSzs args) args args2 (Nat.le_refl _) (by have:=hsz.out;have:=hk.out;have:=hkm.out;omega) e4.out Y A1 B1 c1 d1 hE.out hE2.out
    rw [←hl1.out,hn1.out] at CE
    replace CE:=A0.mk CE
    have x0:Y.cell? ⟨gx,0,none⟩=some (.int .i64 op):=bC kx 0
    have x1:Y.cell? ⟨gx,1,none⟩=some (.string name):=bC kx 1
    have x2:Y.cell? ⟨gx,2,none⟩=some (.string read):=bC kx 2
    have x3:Y.cell? ⟨gx,3,none⟩=some (.slice A1 n1 c1):=bC kx 3
    have x4:Y.cell? ⟨gx,4,none⟩=some (.slice A2 n2 c2):=bC kx 4
    have x5:Y.cell? ⟨gx,5,none⟩=some (.slice A3 n3 c3):=bC kx 5
    have y0:Y.cell? ⟨gx+1,0,none⟩=some (.int .i64 op):=bC ky 0
    have y1:Y.cell? ⟨gx+1,1,none⟩=some (.string name):=bC ky 1
    have y2:Y.cell? ⟨gx+1,2,none⟩=some (.string read):=bC ky 2
    have y3:Y.cell? ⟨gx+1,3,none⟩=some (.slice B1 n1 d1):=bC ky 3
    have y4:Y.cell? ⟨gx+1,4,none⟩=some (.slice B2 n2 d2):=bC ky 4
    have y5:Y.cell? ⟨gx+1,5,none⟩=some (.slice B3 n3 d3):=bC ky 5
    replace kx:=A0.mk kx
    replace ky:=A0.mk ky
    go_wp2_with (first|(go_at_call 78;with_reducible refine CE.out.mono ?_;rintro e w2 ⟨rfl,q,rfl⟩))
    have hn3b:n3≤4611686018427387904:=by have:=hsz.out;have:=hk.out;have:=hkm.out;rw [hn3.out] at *;omega
    have hn2b:n2≤4611686018427387904:=by have:=hsz.out;have:=hk.out;have:=hkm.out;have:=bkSz_len blocks;rw [hn2.out] at *;omega
    replace hn3b:=A0.mk hn3b
    replace hn2b:=A0.mk hn2b
    have gx1:=(Array.getElem?_eq_some_iff.1 kx.out).1
    have gx2:=(Array.getElem?_eq_some_iff.1 ky.out).1
    replace gx1:=A0.mk gx1
    replace gx2:=A0.mk gx2
    clear x0 x1 x2 x3 x4 x5 y0 y1 y2 y3 y4 y5 CE
    go_loopw [8] (fun i Z=>∃m:Nat,i=.int .i64 (m:Int)∧m≤n3∧Below Y.heap.size Y Z) (fun i _=>n3 - (intOf i).toNat)
    case atStart=>exact ⟨0,rfl,Nat.zero_le _,bel_drewN (Below.refl _ _) q⟩
    case round =>
     obtain ⟨m,rfl,hm,hbZ⟩:=hrel
     have ux:=(hbZ.block gx gx1.out).trans kx.out
     have uy:=(hbZ.block (gx+1) gx2.out).trans ky.out
     have x5:wr.cell? ⟨gx,5,none⟩=some (.slice A3 n3 c3):=bC ux 5
     have y5:wr.cell? ⟨gx+1,5,none⟩=some (.slice B3 n3 d3):=bC uy 5
     by_cases hmn:m<n3
     ·obtain ⟨x,hx⟩:∃x,cases[m]?=some x:=⟨cases[m]'(by rw [hn3.out];exact hmn),List.getElem?_eq_getElem _⟩
      obtain ⟨y,hy⟩:∃y,cases2[m]?=some y:=⟨cases2[m]'(by rw [←hl3.out.1,hn3.out];exact hmn),List.getElem?_eq_getElem _⟩
      have he:=hl3.out.2 m x y hx hy
      obtain ⟨a',hA3,p0,p1,p2⟩:=(hC.out.keep hbZ).at hx
      obtain ⟨b',hB3,r0,r1,r2⟩:=(hC2.out.keep hbZ).at hy
      subst hA3
      subst hB3
      obtain ⟨cn,cv,cp⟩:=x
      obtain ⟨cn2,cv2,cp2⟩:=y
      have he1:cn=cn2:=congrArg (fun z=>z.1) he
      have he2:cv=cv2:=congrArg (fun z=>z.2.1) he
      subst he1
      subst he2
      dsimp only at p0 p1 p2 r0 r1 r2
      have SK:∀w,Below wr.heap.size wr w→(fun w:World=>w.cell? ⟨gx,5,none⟩=some (.slice (some a') n3 c3)∧w.cell? ⟨gx+1,5,none⟩=some (.slice (some b') n3 d3)∧w.cell? (a'.add (m * 3))=some (.string cn)∧w.cell? ⟨(a'.add (m * 3)).block,(a'.add (m * 3)).off+1,none⟩=some (.int .i64 cv)∧w.cell? ⟨(a'.add (m * 3)).block,(a'.add (m * 3)).off+2,none⟩=some (.int .i64 cp)∧w.cell? (b'.add (m * 3))=some (.string cn)∧w.cell? ⟨(b'.add (m * 3)).block,(b'.add (m * 3)).off+1,none⟩=some (.int .i64 cv)∧w.cell? ⟨(b'.add (m * 3)).block,(b'.add (m * 3)).off+2,none⟩=some (.int .i64 cp2)) w:=fun w hb =>
       ⟨(cT hb x5),(cT hb y5),(cT hb p0),(cT hb p1),(cT hb p2),(cT hb r0),(cT hb r1),(cT hb r2)⟩
      replace SK:=A0.mk SK
      have d1':decide ((m:Int)<(n3:Int))=true:=decide_eq_true (by omega)
      have m0:(0:Int)≤(m:Int):=by omega
      have m1:(m:Int)<(n3:Int):=by omega
      have wk2:wrap64 ((m:Int)+1)=((m+1:Nat):Int):=by rw [IntWalk.wrap64_in _ (by have:=hn3b.out;omega)];rfl
      replace wk2:=A0.mk wk2
      replace hbZ:=A0.mk hbZ
      have CC:=A0.mk (fun W=>sameConst_call cn cv cp cp2 W)
      have hS0:=A0.mk (SK.out wr.drew ((Below.refl wr.heap.size wr).drew))
      clear hx hy he ux uy
      go_wp2
      go_region_held3 (fun w:World=>w.cell? ⟨gx,5,none⟩=some (.slice (some a') n3 c3)∧w.cell? ⟨gx+1,5,none⟩=some (.slice (some b') n3 d3)∧w.cell? (a'.add (m * 3))=some (.string cn)∧w.cell? ⟨(a'.add (m * 3)).block,(a'.add (m * 3)).off+1,none⟩=some (.int .i64 cv)∧w.cell? ⟨(a'.add (m * 3)).block,(a'.add (m * 3)).off+2,none⟩=some (.int .i64 cp)∧w.cell? (b'.add (m * 3))=some (.string cn)∧w.cell? ⟨(b'.add (m * 3)).block,(b'.add (m * 3)).off+1,none⟩=some (.int .i64 cv)∧w.cell? ⟨(b'.add (m * 3)).block,(b'.add (m * 3)).off+2,none⟩=some (.int .i64 cp2))
       (first | with_reducible exact hS0.out | exact SK.out _ hb3.out)
       (first|(go_at_call 41;(with_reducible refine (CC.out _).mono ?_);rintro e w3 ⟨rfl,hb⟩;have hb3:=A0.mk ((Below.refl wr.heap.size wr).drew.trans hb)))
      all_goals (
       go_wp2
       go_round
       case rel=>exact ⟨m+1,by (try rw [wk2.out]) <;> rfl,hmn,hbZ.out.trans (hb3.out.mono hbZ.out.size)⟩
       case measure=>(try rw [wk2.out]) <;> simp [intOf] <;> omega)
     ·obtain rfl:m=n3:=by omega
      have d1':decide ((m:Int)<(m:Int))=false:=decide_eq_false (by omega)
      replace hbZ:=A0.mk hbZ
      clear ux uy hmn
      go_wp2
      clear x5 y5 d1'
      go_loopw [9] (fun i Z=>∃l:Nat,i=.int .i64 (l:Int)∧l≤n2∧Below Y.heap.size Y Z) (fun i _=>n2 - (intOf i).toNat)
      case atStart=>exact ⟨0,rfl,Nat.zero_le _,hbZ.out⟩
      case round =>
       clear hbZ
       obtain ⟨l,rfl,hlm,hbV⟩:=hrel
       have ux:=(hbV.block gx gx1.out).trans kx.out
       have uy:=(hbV.block (gx+1) gx2.out).trans ky.out
       have x4:wr.cell? ⟨gx,4,none⟩=some (.slice A2 n2 c2):=bC ux 4
       have y4:wr.cell? ⟨gx+1,4,none⟩=some (.slice B2 n2 d2):=bC uy 4
       by_cases hln:l<n2
       ·obtain ⟨x,hx⟩:∃x,blocks[l]?=some x:=⟨blocks[l]'(by rw [hn2.out];exact hln),List.getElem?_eq_getElem _⟩
        obtain ⟨y,hy⟩:∃y,blocks2[l]?=some y:=⟨blocks2[l]'(by rw [←hl2.out.1,hn2.out];exact hln),List.getElem?_eq_getElem _⟩
        have he:=hl2.out.2 l x y hx hy
        obtain ⟨a',U1,s1,hA2,p0,hU⟩:=(hB.out.keep hbV).at hx
        obtain ⟨b',U2,s2,hB2',r0,hU2⟩:=(hB2.out.keep hbV).at hy
        subst hA2
        subst hB2'
        have hxz:=bkSz_nth hx
        have hbD:=(Below.refl wr.heap.size wr).drew
        have CB:=ih.out (stSzs x) (by have:=hsz.out;have:=hk.out;omega) x y (Nat.le_refl _) (by have:=hsz.out;have:=hk.out;have:=hkm.out;omega) he wr.drew U1 U2 s1 s2 (hU.keep hbD) (hU2.keep hbD)
        have hxy:=(stNs_nth he).1
        rw [←hxy] at CB r0
        obtain ⟨nb,hnb⟩:∃nb,A0 (x.length=nb):=⟨_,⟨rfl⟩⟩
        rw [hnb.out] at CB r0 p0
        have SK:∀w,Below wr.heap.size wr w→(fun w:World=>w.cell? ⟨gx,4,none⟩=some (.slice (some a') n2 c2)∧w.cell? ⟨gx+1,4,none⟩=some (.slice (some b') n2 d2)∧w.cell? (a'.add l)=some (.slice U1 nb s1)∧w.cell? (b'.add l)=some (.slice U2 nb s2)) w:=fun w hb =>
         ⟨(cT hb x4),(cT hb y4),(cT hb p0),(cT hb r0)⟩
        replace SK:=A0.mk SK
        have d1':decide ((l:Int)<(n2:Int))=true:=decide_eq_true (by omega)
        have m0:(0:Int)≤(l:Int):=by omega
        have m1:(l:Int)<(n2:Int):=by omega
        have wk2:wrap64 ((l:Int)+1)=((l+1:Nat):Int):=by rw [IntWalk.wrap64_in _ (by have:=hn2b.out;omega)];rfl
        replace wk2:=A0.mk wk2
        replace hbV:=A0.mk hbV
        replace CB:=A0.mk CB
        have hS0:=A0.mk (SK.out wr.drew hbD)
        clear hx hy he ux uy hU hU2 hxz hbD hxy
        go_wp2
        go_region_held3 (fun w:World=>w.cell? ⟨gx,4,none⟩=some (.slice (some a') n2 c2)∧w.cell? ⟨gx+1,4,none⟩=some (.slice (some b') n2 d2)∧w.cell? (a'.add l)=some (.slice U1 nb s1)∧w.cell? (b'.add l)=some (.slice U2 nb s2))
         (first | with_reducible exact hS0.out | exact SK.out _ hb3.out)
         (first|(go_at_call 42;(with_reducible refine CB.out.mono ?_);rintro e w3 ⟨rfl,hb⟩;have hb3:=A0.mk ((Below.refl wr.heap.size wr).drew.trans hb)))
        all_goals (
         go_wp2
         go_round
         case rel=>exact ⟨l+1,by (try rw [wk2.out]) <;> rfl,hln,hbV.out.trans (hb3.out.mono hbV.out.size)⟩
         case measure=>(try rw [wk2.out]) <;> simp [intOf] <;> omega)
       ·obtain rfl:l=n2:=by omega
        have d1':decide ((l:Int)<(l:Int))=false:=decide_eq_false (by omega)
        replace hbV:=A0.mk hbV
        clear ux uy hln
        go_wp2
        go_round
        case rel=>exact ⟨j+1,by (try rw [wk.out]) <;> rfl,hjN,hbY.out.trans (hbV.out.mono hbY.out.size)⟩
        case measure=>(try rw [wk.out]) <;> simp [intOf] <;> omega
   ·obtain rfl:j=N:=by omega
    have d0:decide ((j:Int)<(j:Int))=false:=decide_eq_false (by omega)
    replace hbX:=A0.mk hbX
    go_wp2
    go_ret
    exact ⟨rfl,hbX.out⟩
end Go.Proofs.YtgaoapnaplgaiaaGreatDoor.Sc
