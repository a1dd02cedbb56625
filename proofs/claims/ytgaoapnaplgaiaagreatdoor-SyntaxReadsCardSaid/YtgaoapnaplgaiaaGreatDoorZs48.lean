/- This claim's own texts, joined, with only what the claim uses: RdZ. -/
import Derived.Test.YtgaoapnaplgaiaaGreatDoorZs47
import Derived.Test.YtgaoapnaplgaiaaGreatDoorZs43
namespace Go.Proofs.YtgaoapnaplgaiaaGreatDoor.Sc
set_option maxRecDepth 100000
open Go.RowKit Tk Go.Proofs.YtgaoapnaplgaiaaGreatDoor.Wd
theorem all27 {X:World} {g:Nat} {x0 x1 x2 x3:Value} (h:X.heap[g]?=some (.cells #[x0,x1,x2,x3] 27 (0,0))) (u0 u1 u2 u3:Value):((((X.setCell ⟨g,0,none⟩ u0).setCell ⟨g,1,none⟩ u1).setCell ⟨g,2,none⟩ u2).setCell ⟨g,3,none⟩ u3).heap[g]?=some (.cells #[u0,u1,u2,u3] 27 (0,0)) :=
 bP (bP (bP (bP h 0 u0 rfl) 1 u1 rfl) 2 u2 rfl) 3 u3 rfl
theorem Far.putN {lo:Nat} {A B:World} (h:Far lo A B) {p:Addr} (hp:A.heap.size≤p.block) (v:Value):Far lo A (B.setCell p v) :=
 ⟨by simpa [World.setCell] using h.size,fun b hb hl=>(Below.heap_setCell B p v b (by omega)).trans (h.block b hb hl)⟩
theorem optP_into {lo lo':Nat} {w:World} {o:Option (List Stm)} {nm:ByteArray} {ps:Int} {A:Option Addr} {n c:Nat} {u:Value} (h:∀y,o=some y→RepB (fun b=>lo'≤b) w y [.slice A n c]) (hl:lo≤lo') (hu:∀k,u.ownBlock=some k→k<lo') (ob:Obj):Opt RepP (fun b=>lo≤b∧u.ownBlock≠some b) (w.alloc ob) (o.map fun b=>(⟨nm,b,ps⟩:Prc)) [.string nm,.slice A n c,.int .i64 ps]:=fun y hy=>by
 cases o with
 | none=>cases hy
 | some b=>cases hy;exact repP_into (lo':=lo') ⟨A,n,c,rfl,h b rfl⟩ hl hu ob
theorem repBs_far {lo:Nat} {X Y:World} {o:Option (List Stm)} {v:List Value} (h:A0 (∀y,o=some y→RepB (fun b=>lo≤b) X y v)) (hf:Far lo X Y):A0 (∀y,o=some y→RepB (fun b=>lo≤b) Y y v) :=
 ⟨fun y hy=>rK (h.out y hy) (fun _ hb=>hb) fun b hb hl=>hf.block b hb hl⟩
theorem tk_zero {c:Ctx} {K:Int} (hK:1≤K∧K≠32∧K≠48∧K≠50∧K≠33∧K≠49∧K≠52) {s0:Sta} (hl:∀a d,s0=.here a d→d=0) {o:Out Unit} (ho:A0 (s0.go (tkS c K)=o)):∀a d,o.sta=.here a d→d=0:=by
 intro a d e
 have g:=ho.out
 cases s0 with
 | lost p er=>simp only [Sta.go] at g;subst g;cases e
 | here a1 d1 =>
  simp only [Sta.go] at g
  cases o with
  | bad p er=>cases e
  | ok u a2 d2 =>
   cases e
   unfold tkS at g
   obtain ⟨t,a9,d9,g1,g2⟩:=bO g
   cases g2
   obtain ⟨-,-,h⟩:=wF hK.1 hK.2 g1
   rw [h];exact hl _ _ rfl
theorem blk_zero {c:Ctx} {s0:Sta} (hl:∀a d,s0=.here a d→d=0) {o:Out (List Stm)} (ho:A0 (s0.go (blkS c)=o)):∀a d,o.sta=.here a d→d=0:=by
 intro a d e
 have g:=ho.out
 cases s0 with
 | lost p er=>simp only [Sta.go] at g;subst g;cases e
 | here a1 d1 =>
  simp only [Sta.go] at g
  cases o with
  | bad p er=>cases e
  | ok u a2 d2 =>
   cases e
   have h1:=hl _ _ rfl
   obtain ⟨-,-,h⟩:=blkS_fine 0 _ _ (Nat.zero_le _) (by omega) (by omega) _ _ _ g
   omega
set_option maxHeartbeats 16000000 in
theorem rparse_call (A:Option Addr) (n cap:Nat) (xs:List Int) (w:World) (hcap:n≤cap) (hx:xs.length=n) (hL:Lies w A n xs) (hA:∀a,A=some a→a.block<w.heap.size) (SC:Calls Tryz.prog 30 #[.slice A n cap] (w.alloc (.cells #[.slice none 0 0,.slice none 0 0,.slice none 0 0,.slice none 0 0] 27)) (RScan n xs (w.alloc (.cells #[.slice none 0 0,.slice none 0 0,.slice none 0 0,.slice none 0 0] 27)))) :
  Calls Tryz.prog 11 #[.slice A n cap] w (RParsed n xs w):=by
 obtain ⟨Q,hQ⟩:∃Q,A0 (RParsed n xs w=Q):=⟨_,⟨rfl⟩⟩
 rw [hQ.out]
 replace hL:=A0.mk hL
 replace hA:=A0.mk hA
 replace hx:=A0.mk hx
 have t1:(w.alloc (.cells #[.slice none 0 0,.slice none 0 0,.slice none 0 0,.slice none 0 0] 27)).heap[w.heap.size]?=some (.cells #[.slice none 0 0,.slice none 0 0,.slice none 0 0,.slice none 0 0] 27 (0,0)):=bN w _
 have s1:(w.alloc (.cells #[.slice none 0 0,.slice none 0 0,.slice none 0 0,.slice none 0 0] 27)).heap.size=w.heap.size+1:=by simp
 have b1:Below w.heap.size w (w.alloc (.cells #[.slice none 0 0,.slice none 0 0,.slice none 0 0,.slice none 0 0] 27)):=bA _ _
 go_enter Tryz.func11,Tryz.ntmps11
 go_upto_region 1 with fail
 generalize w.alloc (.cells #[.slice none 0 0,.slice none 0 0,.slice none 0 0,.slice none 0 0] 27)=w1 at SC t1 s1 b1 ⊢
 replace s1:=A0.mk s1
 go_upto_region 2 with (first|(go_at_call 30;(with_reducible refine SC.mono ?_);rintro e w2 hP;rcases hP with ⟨pp,er,hb2,hpar,her⟩|⟨l,v,hb2,hn,hsc,hown⟩))
 ·have t2:=bB t1 hb2
  have hd:decide (er=0)=false:=decide_eq_false her
  have hbw:=A0.mk (b1.trans (hb2.mono (by have:=s1.out;omega)))
  have x0:w2.cell? ⟨w.heap.size,0,none⟩=some (.slice none 0 0):=bC t2 0;have y0:=bF t2 0
  have x1:w2.cell? ⟨w.heap.size,1,none⟩=some (.slice none 0 0):=bC t2 1;have y1:=bF t2 1
  have x2:w2.cell? ⟨w.heap.size,2,none⟩=some (.slice none 0 0):=bC t2 2;have y2:=bF t2 2
  have x3:w2.cell? ⟨w.heap.size,3,none⟩=some (.slice none 0 0):=bC t2 3;have y3:=bF t2 3
  replace hpar:=A0.mk hpar
  clear SC hb2 t1 b1
  go_wp2
  rw [←hQ.out]
  exact rparse_end rfl rfl rfl rfl (all27 t2 (.slice none 0 0) (.slice none 0 0) (.slice none 0 0) (.slice none 0 0)) rfl ⟨(((hbw.out.setCell (Nat.le_refl _) _).setCell (Nat.le_refl _) _).setCell (Nat.le_refl _) _).setCell (Nat.le_refl _) _,none,pp,er,zeroT,hpar.out,rfl,fun _=>rfl,fun x e=>by cases e⟩
 have t2:=bB t1 hb2
 have hbw:=b1.trans (hb2.mono (by have:=s1.out;omega))
 have hz2:=hb2.size
 have hsz1:=s1.out
 obtain ⟨B,tc,rfl,hle,hBB,htk⟩:=own_toks hown
 have hfin:=A0.mk (scan_fine hsc)
 clear SC hown hb2 t1 b1
 replace htk:=A0.mk htk
 replace hBB:=A0.mk hBB
 replace hle:=A0.mk hle
 replace hsc:=A0.mk hsc
 replace hn:=A0.mk hn
 obtain ⟨c,hc⟩:∃c:Ctx,A0 (c=⟨w2.heap.size,A,n,cap,xs,B,tc,l⟩):=⟨_,⟨rfl⟩⟩
 have hG:Good c:=by
  rw [hc.out]
  exact { hn:=hn.out,hcap:=hcap,hx:=hx.out,hl:=hfin.out.1,htc:=hle.out,hA:=fun x e=>by { have:=hA.out x e;dsimp only;omega },hB:=fun x e=>by { have:=(hBB.out x e).2;dsimp only;omega },kinds:=fun t ht=>(hfin.out.2 t ht).kind,nums:=fun t ht=>(hfin.out.2 t ht).num,places:=fun t ht=>by { have:=(hfin.out.2 t ht).place;rw [hx.out] at this;exact this } }
 have hbW:Below w2.heap.size w2 (w2.alloc (.cells #[.slice A n cap,.slice B l.length tc,.int .i64 0,.int .i64 0,.int .i64 0,.int .i64 0] 65)):=bA _ _
 have hSt:RSt c (w2.alloc (.cells #[.slice A n cap,.slice B l.length tc,.int .i64 0,.int .i64 0,.int .i64 0,.int .i64 0] 65)) (.here 0 0):=by
  rw [hc.out]
  refine ⟨⟨bN w2 _,fun i hi=>?_,fun i hi=>?_⟩,Nat.zero_le _,by omega,by omega⟩
  ·obtain ⟨x,e,q⟩:=hL.out i hi
   exact ⟨x,e,((hbw.trans (hbW.mono (by omega))).cell (World.block_lt_of_cell? w _ q)).trans q⟩
  ·obtain ⟨b,e,q0,q1,q2,q3⟩:=htk.out i hi
   exact ⟨b,e,(hbW.cell (World.block_lt_of_cell? w2 _ q0)).trans q0,(hbW.cell (World.block_lt_of_cell? w2 _ q1)).trans q1,(hbW.cell (World.block_lt_of_cell? w2 _ q2)).trans q2,(hbW.cell (World.block_lt_of_cell? w2 _ q3)).trans q3⟩
 have hme:c.me=.pointer (some ⟨w2.heap.size,0,none⟩):=by rw [hc.out]
 have hcg:c.g=w2.heap.size:=by rw [hc.out]
 have hcL:=A0.mk (show c.n=n∧c.xs=xs∧c.L=l from by rw [hc.out];exact ⟨rfl,rfl,rfl⟩)
 have tW:=bB t2 hbW
 have hbwW:=hbw.trans (hbW.mono (by omega))
 go_upto_region 5 with fail
 rw [←hme]
 generalize w2.alloc (.cells #[.slice A n cap,.slice B l.length tc,.int .i64 0,.int .i64 0,.int .i64 0,.int .i64 0] 65)=W at hSt tW hbwW ⊢
 have hgw:w.heap.size<c.g:=by omega
 replace tW:=A0.mk tW
 replace hbwW:=A0.mk hbwW
 clear hbW hbw t2 hme hcg hz2 hsz1 htk hBB hle hfin hc hA hL
 clear w2
 have F:=(Fr.start hSt).alloc (.cells #[.slice none 0 0,.slice none 0 0,.slice none 0 0,.slice none 0 0] 27)
 have hv:Bx (W.alloc (.cells #[.slice none 0 0,.slice none 0 0,.slice none 0 0,.slice none 0 0] 27)) W.heap.size 27 #[.slice none 0 0,.slice none 0 0,.slice none 0 0,.slice none 0 0]:=xN W 27 _
 have hgl:=F.gl
 have hal2:=hG.hl
 obtain ⟨R,hRs⟩:∃R,A0 (dL c (c.L.length+1 - 0) [] 0 0=R):=⟨_,⟨rfl⟩⟩
 obtain ⟨G0,hG0⟩:∃G0,A0 (c.L.length+1 - 0=G0):=⟨_,⟨rfl⟩⟩
 have hinfo69:A0 ((Tryz.prog.info? 69).map (fun i=>(i.zero,i.size,i.bytes))=some (some (.agg Z13),13,136)):=⟨by kernel_rfl⟩
 have hinfo73:A0 ((Tryz.prog.info? 73).map (fun i=>(i.zero,i.size,i.bytes))=some (some (.agg #[.string ⟨#[]⟩,.slice none 0 0,.int .i64 0]),3,48)):=⟨by kernel_rfl⟩
 go_upto_block 0 with fail
 generalize W.alloc (.cells #[.slice none 0 0,.slice none 0 0,.slice none 0 0,.slice none 0 0] 27)=X at F hv ⊢
 have hA:A0 (DlAt c W R G0 X):=⟨⟨.ok [] 0 0,[],none,0,0,F,hv,World.ownsRow_nil _ _ _ _,fun l hl=>by cases hl;rfl,by rw [←hRs.out,hG0.out];rfl,fun l a d e=>by cases e;have:=hG0.out;exact ⟨by omega,by simp,rfl⟩⟩⟩
 clear F hv hSt hG0
 go_wp2
 go_loopg [] G0 (fun f X=>DlAt c W R f X)
 case atStart=>exact hA.out
 case round =>
  obtain ⟨q,ds,A1,n1,c1,F,hv,hown,hql,hsp,hfu⟩:=hrel.ex
  clear hA hrel
  replace hown:=A0.mk hown
  replace hql:=A0.mk hql
  replace hsp:=A0.mk hsp
  replace hfu:=A0.mk hfu
  obtain ⟨k0,hk0⟩:∃b,A0 (q.sta.sees c 8=b):=⟨_,⟨rfl⟩⟩
  have I0:=fun Y (hb:Below wr.heap.size wr Y)=>ris_call hG ((F.below hb).st hG) 8 (by omega) ⟨#[99,111,110,115,116]⟩ rfl
  simp only [hk0.out] at I0
  obtain ⟨k1,hk1⟩:∃b,A0 (q.sta.sees c 25=b):=⟨_,⟨rfl⟩⟩
  have I1:=fun Y (hb:Below wr.heap.size wr Y)=>ris_call hG ((F.below hb).st hG) 25 (by omega) ⟨#[116,105,99,107,115]⟩ rfl
  simp only [hk1.out] at I1
  obtain ⟨k2,hk2⟩:∃b,A0 (q.sta.sees c 14=b):=⟨_,⟨rfl⟩⟩
  have I2:=fun Y (hb:Below wr.heap.size wr Y)=>ris_call hG ((F.below hb).st hG) 14 (by omega) ⟨#[105,110,112,117,116]⟩ rfl
  simp only [hk2.out] at I2
  obtain ⟨k3,hk3⟩:∃b,A0 (q.sta.sees c 26=b):=⟨_,⟨rfl⟩⟩
  have I3:=fun Y (hb:Below wr.heap.size wr Y)=>ris_call hG ((F.below hb).st hG) 26 (by omega) ⟨#[118,97,114]⟩ rfl
  simp only [hk3.out] at I3
  have hb0:Below wr.heap.size wr wr:=Below.refl _ _
  go_upto_region 6 with fail
  go_cut [39] from 26 to 39 (fun v X=>v=.bool (k0 || k1 || k2 || k3)∧Below wr.heap.size wr X)
  case first =>
   cases k0 with
   | true=>(go_wp2_with (first|(go_at_call 31;(with_reducible refine (I0 _ hb0).mono ?_);rintro e w3 ⟨rfl,hb1⟩;replace hb1:=hb0.trans (hb1.mono hb0.size)));go_meet;exact ⟨rfl,hb1⟩)
   | false =>
    cases k1 with
    | true=>(go_wp2_with (first|(go_at_call 31;(with_reducible refine (I0 _ hb0).mono ?_);rintro e w3 ⟨rfl,hb1⟩;replace hb1:=hb0.trans (hb1.mono hb0.size))|(go_at_call 31;(with_reducible refine (I1 _ hb1).mono ?_);rintro e w4 ⟨rfl,hb2⟩;replace hb2:=hb1.trans (hb2.mono hb1.size)));go_meet;exact ⟨rfl,hb2⟩)
    | false =>
     cases k2 with
     | true=>(go_wp2_with (first|(go_at_call 31;(with_reducible refine (I0 _ hb0).mono ?_);rintro e w3 ⟨rfl,hb1⟩;replace hb1:=hb0.trans (hb1.mono hb0.size))|(go_at_call 31;(with_reducible refine (I1 _ hb1).mono ?_);rintro e w4 ⟨rfl,hb2⟩;replace hb2:=hb1.trans (hb2.mono hb1.size))|(go_at_call 31;(with_reducible refine (I2 _ hb2).mono ?_);rintro e w5 ⟨rfl,hb3⟩;replace hb3:=hb2.trans (hb3.mono hb2.size)));go_meet;exact ⟨rfl,hb3⟩)
     | false =>
      cases k3 with
      | true=>(go_wp2_with (first|(go_at_call 31;(with_reducible refine (I0 _ hb0).mono ?_);rintro e w3 ⟨rfl,hb1⟩;replace hb1:=hb0.trans (hb1.mono hb0.size))|(go_at_call 31;(with_reducible refine (I1 _ hb1).mono ?_);rintro e w4 ⟨rfl,hb2⟩;replace hb2:=hb1.trans (hb2.mono hb1.size))|(go_at_call 31;(with_reducible refine (I2 _ hb2).mono ?_);rintro e w5 ⟨rfl,hb3⟩;replace hb3:=hb2.trans (hb3.mono hb2.size))|(go_at_call 31;(with_reducible refine (I3 _ hb3).mono ?_);rintro e w6 ⟨rfl,hb4⟩;replace hb4:=hb3.trans (hb4.mono hb3.size)));go_meet;exact ⟨rfl,hb4⟩)
      | false=>(go_wp2_with (first|(go_at_call 31;(with_reducible refine (I0 _ hb0).mono ?_);rintro e w3 ⟨rfl,hb1⟩;replace hb1:=hb0.trans (hb1.mono hb0.size))|(go_at_call 31;(with_reducible refine (I1 _ hb1).mono ?_);rintro e w4 ⟨rfl,hb2⟩;replace hb2:=hb1.trans (hb2.mono hb1.size))|(go_at_call 31;(with_reducible refine (I2 _ hb2).mono ?_);rintro e w5 ⟨rfl,hb3⟩;replace hb3:=hb2.trans (hb3.mono hb2.size))|(go_at_call 31;(with_reducible refine (I3 _ hb3).mono ?_);rintro e w6 ⟨rfl,hb4⟩;replace hb4:=hb3.trans (hb4.mono hb3.size)));go_meet;exact ⟨rfl,hb4⟩)
  case rest =>
   obtain ⟨rfl,hbc⟩:=hcut
   replace F:=F.below hbc
   replace hv:=xB hv hbc
   replace hown:=A0.mk (oF (Y:=wc) hown.out ⟨hbc.size,fun b _ hl=>hbc.block b hl⟩)
   clear I0 I1 I2 I3 hb0 hbc
   obtain ⟨kb,hkb⟩:∃b,A0 ((k0 || k1 || k2 || k3)=b):=⟨_,⟨rfl⟩⟩
   simp only [hkb.out]
   cases kb with
   | true =>
    obtain ⟨l',a1,d1,rfl,hdk⟩:∃l' a1 d1,q=.ok l' a1 d1∧DecK c a1:=by
     have e0:=hk0.out;have e1:=hk1.out;have e2:=hk2.out;have e3:=hk3.out;have e4:=hkb.out
     cases q with
     | bad p er=>subst e0;subst e1;subst e2;subst e3;cases e4
     | ok l' a1 d1 =>
      refine ⟨l',a1,d1,rfl,?_⟩
      simp only [Out.sta,Sta.sees] at e0 e1 e2 e3
      rw [←e0,←e1,←e2,←e3] at e4
      simp only [Bool.or_eq_true,decide_eq_true_eq] at e4
      unfold DecK
      rcases e4 with ((h | h) | h) | h
      ·exact .inl h
      ·exact .inr (.inl h)
      ·exact .inr (.inr (.inl h))
      ·exact .inr (.inr (.inr h))
    obtain ⟨f1,f2,f3⟩:=hfu.out _ _ _ rfl
    obtain rfl:=hql.out l' rfl
    replace F:Fr c W wc (.here a1 d1):=F
    have hal1:=F.pb.2.1
    obtain ⟨m,rfl⟩:∃m,gk=m+1:=⟨gk - 1,by omega⟩
    obtain ⟨od,hod⟩:∃o,A0 (decS c a1 d1=o):=⟨_,⟨rfl⟩⟩
    have hsp2:A0 ((od.bind fun x a2 d2=>dL c m (l'++[x]) a2 d2)=R):=⟨by
     rw [←hsp.out];simp only [oB];rw [dL,declS_dec hdk,hod.out,bind_bind];simp only [oB,↓reduceIte]⟩
    have hod2:A0 (∀x a2 d2,od=.ok x a2 d2→a1<a2∧a2≤c.L.length∧d2=d1):=⟨fun x a2 d2 e=>decS_fine hdk hal1 (by rw [hod.out,e])⟩
    have Fd:=F.drew
    have hvd:=bD hv
    have CN:=rdec_c hG (Fd.st hG) hdk hod
    have z5:wc.cell? ⟨W.heap.size,0,none⟩=some (.slice A1 n1 c1):=bC hv 0
    have hlv:A0 (∀k,(.slice A1 n1 c1:Value).ownBlock=some k→W.heap.size+1≤k∧k<wc.heap.size):=⟨hown.out.lt⟩
    have hTx:A0 (W.heap.size+1≤wc.heap.size):=⟨by have:=bL hv;omega⟩
    have hlc:A0 (l'.length≤20000):=⟨by omega⟩
    obtain ⟨i0,hi,hz0,hz1,hz2⟩:=info_parts hinfo69.out
    clear hk0 hk1 hk2 hk3 hkb hfu hql hsp
    go_upto_region 7 with fail
    go_region_law (first
     | (go_simp;go_at_call 32;(with_reducible refine CN.mono ?_);rintro e1 w1 ⟨hg,⟨x,rfl,hxe⟩,hR1⟩;(have Fc:=Fd.call hg hR1;have hvc:=xC hvd hg (by omega);have t5:w1.cell? ⟨W.heap.size,0,none⟩=some (.slice A1 n1 c1):=bC hvc 0;have t6:∀o,(w1.alloc o).cell? ⟨W.heap.size,0,none⟩=some (.slice A1 n1 c1):=fun o=>bC (xB hvc (bA _ o)) 0;have hRc:=A0.mk (oF hown.out (((Far.refl _ _).drew).trans (Far.ofGrown hg (by omega))));have hgs:=A0.mk hg.size;try dsimp only))
     | (have hR2:=fun o=>oF hRc.out ((Far.refl _ w1).alloc o);refine step_append_prim (R:=RepD) repD_keeps rfl (.tmp 41) (.tmp 44) 23 rfl (W.heap.size+1) 69 i0 (.agg Z13) 13 136 Tryz.underlying23 hi hz0 hz1 hz2 rfl (by decide) (.slice A1 n1 c1) l' (l'.map decCells) rfl (fun b=>(Value.slice A1 n1 c1).ownBlock≠some b) (hR2 _) (all2_dec _) (fun _ hb=>hb) ⟨w1.heap.size,0,none⟩ 1 x (decCells x) rfl rfl (oA _ _ _ rfl) (one13 _) rfl (by have:=hlc.out;unfold maxLen;omega) (by have:=hlc.out;omega) (by have:=hTx.out;have:=hgs.out;simp at this ⊢;omega) ?_;intro v3 w3 hown3 hall3 hg3 hwh;(obtain ⟨A6,n6,c6,rfl⟩:=own_form hown3;have Fe:=(Fc.alloc (.cells (C69 x) 69)).row hg3 (fun k hk=>by have:=(hlv.out k hk).1;omega);have hve:=bx_row (xB hvc (bA _ (.cells (C69 x) 69))) hg3 (fun k hk=>by have:=(hlv.out k hk).1;omega);have u5:w3.cell? ⟨W.heap.size,0,none⟩=some (.slice A1 n1 c1):=bC hve 0;have uf5:=bF hve 0)))
    all_goals (
     have F9:=Fe.set (p:=⟨W.heap.size,0,none⟩) (Nat.le_refl _) (.slice A6 n6 c6)
     have hv9:Bx _ W.heap.size 27 #[.slice A6 n6 c6,.slice none 0 0,.slice none 0 0,.slice none 0 0]:=bP hve 0 (.slice A6 n6 c6) rfl
     have hR9:=A0.mk (oF (lo:=W.heap.size+1) (show w3.ownsRow _ 69 13 (.slice A6 n6 c6) (l'++[x]).length ((l'++[x]).map decCells).flatten by simpa using hown3) ((Far.refl _ _).put (p:=⟨W.heap.size,0,none⟩) (by dsimp only;omega) (.slice A6 n6 c6)))
     clear Fe hve hRc Fc hvc t5 t6 hgs hg hR1 hg3 hwh hown3 hall3
     go_wp2
     go_roundg m
     case rel=>exact ⟨od.bind fun y a2 d2=>.ok (l'++[y]) a2 d2,l'++[x],A6,n6,c6,by cases od <;> exact F9,hv9,hR9.out,fun y hy=>by
       cases od with
       | bad p er=>cases hy
       | ok y' a2 d2=>cases hy;rw [hxe.out y' rfl],by
       rw [←hsp2.out,bind_bind];rfl,fun y a2 d2 e=>by
       cases od with
       | bad p er=>cases e
       | ok y' a3 d3=>cases e;obtain ⟨m1,m2,m3⟩:=hod2.out _ _ _ rfl;exact ⟨by omega,by simp;omega,by omega⟩⟩
     case measure=>omega)
   | false =>
    have hRq:A0 (R=q):=⟨by
     rw [←hsp.out]
     have e0:=hk0.out;have e1:=hk1.out;have e2:=hk2.out;have e3:=hk3.out;have e4:=hkb.out
     cases q with
     | bad p er=>rfl
     | ok l' a1 d1 =>
      obtain ⟨f1,f2,f3⟩:=hfu.out _ _ _ rfl
      have:=F.pb.2.1
      obtain ⟨m,rfl⟩:∃m,gk=m+1:=⟨gk - 1,by omega⟩
      simp only [oB]
      have hnk:¬ DecK c a1:=by
       simp only [Out.sta,Sta.sees] at e0 e1 e2 e3
       rw [←e0,←e1,←e2,←e3] at e4
       simp only [Bool.or_eq_false_iff,decide_eq_false_iff_not] at e4
       unfold DecK;omega
      obtain ⟨x,hx⟩:=declS_none (d:=d1) hnk
      rw [dL,hx];rfl⟩
    obtain ⟨R2',hR2s⟩:∃R,A0 ((q.bind fun _ a1 d1=>pL c (c.L.length+1 - a1) [] a1 d1)=R):=⟨_,⟨rfl⟩⟩
    obtain ⟨G1,hG1⟩:∃G,A0 (G=match q with | .ok _ a1 _=>c.L.length+1 - a1 | .bad _ _=>0):=⟨_,⟨rfl⟩⟩
    have hA:A0 (PlAt c W R2' ds A1 n1 c1 G1 wc):=⟨⟨q.bind fun _ a1 d1=>.ok [] a1 d1,[],none,0,0,by cases q <;> exact F,hv,⟨hown.out,Acc.nil _,fun k hk e=>by simp [Value.ownBlock] at e⟩,fun y hy=>by
     cases q with
     | bad p er=>cases hy
     | ok l' a1 d1=>cases hy;rfl,by
     rw [←hR2s.out,hG1.out]
     cases q <;> rfl,fun y a d e=>by
     cases q with
     | bad p er=>cases e
     | ok l' a1 d1 =>
      cases e
      obtain ⟨f1,f2,f3⟩:=hfu.out _ _ _ rfl
      have:=F.pb.2.1
      have:=hG1.out
      simp only at this
      exact ⟨by omega,by simp,f3⟩⟩⟩
    clear F hv hown hfu hsp hk0 hk1 hk2 hk3 hkb hG1
    go_wp2
    go_loopg [10] G1 (fun f v X=>PlAt c W R2' ds A1 n1 c1 f X)
    case atStart=>exact hA.out
    case round =>
     obtain ⟨q2,pr,A2,n2,c2,F,hv,hR2,hql2,hsp,hfu⟩:=hrel.ex
     clear hA hrel
     replace hR2:=A0.mk hR2
     replace hql2:=A0.mk hql2
     replace hsp:=A0.mk hsp
     replace hfu:=A0.mk hfu
     have IS:=ris_call hG (F.st hG) 21 (by omega) ⟨#[112,114,111,99]⟩ rfl
     cases hse:q2.sta.sees c 21 with
     | true =>
      rw [hse] at IS
      obtain ⟨l',a1,d1,rfl,hk⟩:∃l' a1 d1,q2=.ok l' a1 d1∧kd c a1=21:=by
       cases q2 with
       | bad p er=>cases hse
       | ok l' a1 d1=>exact ⟨l',a1,d1,rfl,of_decide_eq_true hse⟩
      obtain ⟨f1,f2,f3⟩:=hfu.out _ _ _ rfl
      obtain rfl:=hql2.out l' rfl
      rw [List.length_map] at f2
      have hal1:=kL hk (by omega)
      replace F:Fr c W wr (.here a1 d1):=F
      obtain ⟨m,rfl⟩:∃m,gk=m+1:=⟨gk - 1,by omega⟩
      have wa1:IntKind.i64.wrap ((a1:Int)+1)=(a1:Int)+1:=IntWalk.i64_in _ (by omega)
      have hsp2:A0 (((nS c (a1+1) d1).bind fun s a2 d2=>(blkS c a2 d2).bind fun b a3 d3=>pL c m (l'++[⟨s,b,ps c a1⟩]) a3 d3)=R2'):=⟨by
       rw [←hsp.out];simp only [oB];rw [pL,if_pos hk]⟩
      have hlc:A0 (l'.length≤20000):=⟨by omega⟩
      clear hse hsp hfu hql2
      have PS:=fun Y (hb:Below wr.heap.size wr Y)=>pC ((F.below hb).st hG).1
      go_upto_region 10 with (first|(go_at_call 31;(with_reducible refine IS.mono ?_);rintro e w3 ⟨rfl,hb⟩)|(go_at_call 33;(with_reducible refine (PS _ hb).mono ?_);rintro e w4 ⟨rfl,qn,rfl⟩;have zz0:((w3.drewN qn).alloc (.cells #[.string ⟨#[]⟩,.slice none 0 0,.int .i64 0] 73)).cell? ⟨w3.heap.size,0,none⟩=some (.string ⟨#[]⟩):=bC (xN (w3.drewN qn) 73 #[.string ⟨#[]⟩,.slice none 0 0,.int .i64 0]) 0;have yy0:((w3.drewN qn).alloc (.cells #[.string ⟨#[]⟩,.slice none 0 0,.int .i64 0] 73)).frozen? ⟨w3.heap.size,0,none⟩=false:=bF (xN (w3.drewN qn) 73 #[.string ⟨#[]⟩,.slice none 0 0,.int .i64 0]) 0;have zz1:((w3.drewN qn).alloc (.cells #[.string ⟨#[]⟩,.slice none 0 0,.int .i64 0] 73)).cell? ⟨w3.heap.size,1,none⟩=some (.slice none 0 0):=bC (xN (w3.drewN qn) 73 #[.string ⟨#[]⟩,.slice none 0 0,.int .i64 0]) 1;have yy1:((w3.drewN qn).alloc (.cells #[.string ⟨#[]⟩,.slice none 0 0,.int .i64 0] 73)).frozen? ⟨w3.heap.size,1,none⟩=false:=bF (xN (w3.drewN qn) 73 #[.string ⟨#[]⟩,.slice none 0 0,.int .i64 0]) 1;have zz2:((w3.drewN qn).alloc (.cells #[.string ⟨#[]⟩,.slice none 0 0,.int .i64 0] 73)).cell? ⟨w3.heap.size,2,none⟩=some (.int .i64 0):=bC (xN (w3.drewN qn) 73 #[.string ⟨#[]⟩,.slice none 0 0,.int .i64 0]) 2;have yy2:((w3.drewN qn).alloc (.cells #[.string ⟨#[]⟩,.slice none 0 0,.int .i64 0] 73)).frozen? ⟨w3.heap.size,2,none⟩=false:=bF (xN (w3.drewN qn) 73 #[.string ⟨#[]⟩,.slice none 0 0,.int .i64 0]) 2))
      clear zz0 zz1 zz2 yy0 yy1 yy2
      have hbq:Below wr.heap.size wr (w3.drewN qn):=bel_dN hb qn
      have hbp:=hbq.alloc hbq.size (.cells #[.string ⟨#[]⟩,.slice none 0 0,.int .i64 0] 73)
      have hp:Bx ((w3.drewN qn).alloc (.cells #[.string ⟨#[]⟩,.slice none 0 0,.int .i64 0] 73)) w3.heap.size 73 #[.string ⟨#[]⟩,.slice none 0 0,.int .i64 0]:=xN (w3.drewN qn) 73 #[.string ⟨#[]⟩,.slice none 0 0,.int .i64 0]
      have hgw2:wr.heap.size≤w3.heap.size:=hb.size
      have hgp:W.heap.size+1≤w3.heap.size:=by have:=bL hv;omega
      replace F:=F.below hbp
      replace hv:=xB hv hbp
      have FX:Far (W.heap.size+1) wr ((w3.drewN qn).alloc (.cells #[.string ⟨#[]⟩,.slice none 0 0,.int .i64 0] 73)):=⟨hbp.size,fun b _ hl=>hbp.block b hl⟩
      replace F:=F.set (p:=⟨w3.heap.size,0,none⟩) (by dsimp only;omega) (.string ⟨#[]⟩)
      replace hv:=Q5 hv (p:=⟨w3.heap.size,0,none⟩) (by dsimp only;omega) (.string ⟨#[]⟩)
      replace hp:=bP hp 0 (.string ⟨#[]⟩) rfl
      replace FX:=FX.putN (p:=⟨w3.heap.size,0,none⟩) hgw2 (.string ⟨#[]⟩)
      replace F:=F.set (p:=⟨w3.heap.size,1,none⟩) (by dsimp only;omega) (.slice none 0 0)
      replace hv:=Q5 hv (p:=⟨w3.heap.size,1,none⟩) (by dsimp only;omega) (.slice none 0 0)
      replace hp:=bP hp 1 (.slice none 0 0) rfl
      replace FX:=FX.putN (p:=⟨w3.heap.size,1,none⟩) hgw2 (.slice none 0 0)
      replace F:=F.set (p:=⟨w3.heap.size,2,none⟩) (by dsimp only;omega) (.int .i64 (ps c a1))
      replace hv:=Q5 hv (p:=⟨w3.heap.size,2,none⟩) (by dsimp only;omega) (.int .i64 (ps c a1))
      replace hp:=bP hp 2 (.int .i64 (ps c a1)) rfl
      replace FX:=FX.putN (p:=⟨w3.heap.size,2,none⟩) hgw2 (.int .i64 (ps c a1))
      replace hp:Bx _ w3.heap.size 73 #[.string ⟨#[]⟩,.slice none 0 0,.int .i64 (ps c a1)]:=hp
      clear IS PS hb hbq hbp
      generalize ((((w3.drewN qn).alloc (.cells #[.string ⟨#[]⟩,.slice none 0 0,.int .i64 0] 73)).setCell ⟨w3.heap.size,0,none⟩ (.string ⟨#[]⟩)).setCell ⟨w3.heap.size,1,none⟩ (.slice none 0 0)).setCell ⟨w3.heap.size,2,none⟩ (.int .i64 (ps c a1))=Y0 at F hv FX hp ⊢
      generalize w3.heap.size=gp at hp hgp hgw2 ⊢
      have k2:=(F.st hG).1.c2
      have j2:=(F.st hG).1.fz 2
      go_upto_region 11 with fail
      clear k2 j2
      replace F:=F.step hal1
      replace hv:=Q5 hv (p:=⟨c.g,2,none⟩) (by dsimp only;omega) (.int .i64 ((a1:Int)+1))
      replace hp:=Q5 hp (p:=⟨c.g,2,none⟩) (by dsimp only;omega) (.int .i64 ((a1:Int)+1))
      replace FX:=FX.put (p:=⟨c.g,2,none⟩) (by dsimp only;omega) (.int .i64 ((a1:Int)+1))
      generalize Y0.setCell ⟨c.g,2,none⟩ (.int .i64 ((a1:Int)+1))=Y1 at F hv hp FX ⊢
      clear wa1
      obtain ⟨on,hon⟩:∃o,A0 ((Sta.here (a1+1) d1).go (nS c)=o):=⟨_,⟨rfl⟩⟩
      have CN:=rname_c hG (F.st hG) hon
      go_upto_region 12 with (first|(go_at_call 34;(with_reducible refine CN.mono ?_);rintro e Y2 ⟨hg,⟨nm,rfl,hnm⟩,hR1⟩;have hp2:=xC hp hg (by omega);have z0:Y2.cell? ⟨gp,0,none⟩=some (.string ⟨#[]⟩):=bC hp2 0;have y0:=bF hp2 0))
      replace F:=(F.call hg hR1).set (p:=⟨gp,0,none⟩) (by dsimp only;omega) (.string nm)
      replace hv:=Q5 (xC hv hg (by omega)) (p:=⟨gp,0,none⟩) (by dsimp only;omega) (.string nm)
      replace hp:Bx _ gp 73 #[.string nm,.slice none 0 0,.int .i64 (ps c a1)]:=bP hp2 0 (.string nm) rfl
      replace FX:=(FX.trans (Far.ofGrown hg (by omega))).putN (p:=⟨gp,0,none⟩) hgw2 (.string nm)
      generalize Y2.setCell ⟨gp,0,none⟩ (.string nm)=Y3 at F hv hp FX ⊢
      clear CN hg hR1 hp2 z0 y0
      obtain ⟨ob,hob⟩:∃o,A0 (on.sta.go (blkS c)=o):=⟨_,⟨rfl⟩⟩
      have hn2:A0 (∀s a' d',on=.ok s a' d'→a1+1<a'∧a'≤c.L.length∧d'=d1):=⟨fun s a' d' e=>by
       have g:=hon.out;simp only [Sta.go] at g;rw [e] at g
       obtain ⟨e1,l1,f1,-⟩:=name_ok g
       exact ⟨by omega,l1,by omega⟩⟩
      have CN:=(rblkS_reads hG 0).c (F.st hG) (fun a' d' e=>by
       cases on with
       | bad p er=>cases e
       | ok s a2 d2=>cases e;obtain ⟨m1,m2,m3⟩:=hn2.out _ _ _ rfl;exact ⟨Nat.zero_le _,by omega⟩) hob
      have hY3:gp<Y3.heap.size:=bL hp
      go_upto_region 13 with (first|(go_at_call 35;(with_reducible refine CN.mono ?_);rintro e Y4 ⟨hg,⟨A5,n5,c5,rfl,hE⟩,hR1⟩;have hp2:=xC hp hg (by omega);have z0:Y4.cell? ⟨gp,1,none⟩=some (.slice none 0 0):=bC hp2 1;have y0:=bF hp2 1))
      have hgs:=hg.size
      replace F:=(F.call hg hR1).set (p:=⟨gp,1,none⟩) (by dsimp only;omega) (.slice A5 n5 c5)
      replace hv:=Q5 (xC hv hg (by omega)) (p:=⟨gp,1,none⟩) (by dsimp only;omega) (.slice A5 n5 c5)
      replace hp:Bx _ gp 73 #[.string nm,.slice A5 n5 c5,.int .i64 (ps c a1)]:=bP hp2 1 (.slice A5 n5 c5) rfl
      replace FX:=(FX.trans (Far.ofGrown hg (by omega))).putN (p:=⟨gp,1,none⟩) hgw2 (.slice A5 n5 c5)
      have hE2:A0 (∀y,ob.val=some y→RepB (fun b=>Y3.heap.size≤b) (Y4.setCell ⟨gp,1,none⟩ (.slice A5 n5 c5)) y [.slice A5 n5 c5]):=⟨fun y hy=>rK (hE.out y hy) (fun _ hb=>hb) (fun b hb _=>Below.heap_setCell _ _ _ b (by dsimp only;omega))⟩
      have hsz5:Y3.heap.size≤(Y4.setCell ⟨gp,1,none⟩ (.slice A5 n5 c5)).heap.size:=by simpa [World.setCell] using hgs
      generalize Y4.setCell ⟨gp,1,none⟩ (.slice A5 n5 c5)=Y5 at F hv hp FX hE2 hsz5 ⊢
      clear CN hg hR1 hp2 z0 y0 hE hgs
      have hR5:=A0.mk (hR2.out.far FX)
      have hlv:A0 (∀k,(.slice A2 n2 c2:Value).ownBlock=some k→W.heap.size+1≤k∧k<wr.heap.size):=⟨hR2.out.pros.lt⟩
      have hTx:A0 (W.heap.size+1≤Y3.heap.size∧wr.heap.size≤Y3.heap.size):=⟨by omega,by omega⟩
      replace hsz5:=A0.mk hsz5
      have z0:Y5.cell? ⟨gp,0,none⟩=some (.string nm):=bC hp 0
      have z1:Y5.cell? ⟨gp,1,none⟩=some (.slice A5 n5 c5):=bC hp 1
      have z2:Y5.cell? ⟨gp,2,none⟩=some (.int .i64 (ps c a1)):=bC hp 2
      have u1:Y5.cell? ⟨W.heap.size,1,none⟩=some (.slice A2 n2 c2):=bC hv 1
      obtain ⟨i0,hi,hz0,hz1,hz2⟩:=info_parts hinfo73.out
      go_wp2_with (first
       | (at_builtin;refine wpList_append_acc2 (R:=Opt RepP) optP_keeps rfl (.tmp 66) (.tmp 68) 24 rfl (W.heap.size+1) 73 i0 (.agg #[.string ⟨#[]⟩,.slice none 0 0,.int .i64 0]) 3 48 Tryz.underlying24 hi hz0 hz1 hz2 rfl (by decide) (.slice A2 n2 c2) (l'.map some) rfl (Acc.far (R:=Opt RepP) optP_keeps hR5.out.pros ((Far.refl _ _).alloc _)) ⟨Y5.heap.size,0,none⟩ 1 (ob.val.map fun b=>(⟨nm,b,ps c a1⟩:Prc)) [.string nm,.slice A5 n5 c5,.int .i64 (ps c a1)] rfl rfl (oA _ _ _ rfl) (by intro u hu;simp at hu;rcases hu with rfl | rfl | rfl <;> rfl) (optP_into hE2.out hTx.out.1 (fun k hk=>by have:=(hlv.out k hk).2;have:=hTx.out.2;omega) _) optP_lt (by have:=hlc.out;rw [List.length_map];unfold maxLen;omega) (by have:=hlc.out;rw [List.length_map];omega) (by have:=hTx.out.1;have:=hsz5.out;simp;omega) ?_;intro v3 Y6 hA3 hg3 hwh;(obtain ⟨A6,n6,c6,rfl⟩:=hA3.form;have Fe:=(F.alloc (.cells #[.string nm,.slice A5 n5 c5,.int .i64 (ps c a1)] 73)).row hg3 (fun k hk=>by have:=(hlv.out k hk).1;omega);have hve:=bx_row (xB hv (bA _ (.cells #[.string nm,.slice A5 n5 c5,.int .i64 (ps c a1)] 73))) hg3 (fun k hk=>by have:=(hlv.out k hk).1;omega);have hRe:=A0.mk (R2.more (hR5.out.far ((Far.refl _ _).alloc (.cells #[.string nm,.slice A5 n5 c5,.int .i64 (ps c a1)] 73))) hA3 hg3 hwh);have t1:Y6.cell? ⟨W.heap.size,1,none⟩=some (.slice A2 n2 c2):=bC hve 1;have uf1:=bF hve 1)))
      have F9:=Fe.set (p:=⟨W.heap.size,1,none⟩) (Nat.le_refl _) (.slice A6 n6 c6)
      have hv9:Bx _ W.heap.size 27 #[.slice A1 n1 c1,.slice A6 n6 c6,.slice none 0 0,.slice none 0 0]:=bP hve 1 (.slice A6 n6 c6) rfl
      have hR9:=A0.mk (hRe.out.far ((Far.refl _ _).put (p:=⟨W.heap.size,1,none⟩) (by dsimp only;omega) (.slice A6 n6 c6)))
      clear Fe hve hRe hA3 hg3 hwh t1 uf1 u1 z0 z1 z2 hR5 hE2 F hv hp FX hR2
      go_roundg m
      case rel=>exact ⟨ob.bind fun b a3 d3=>.ok (l'++[⟨nm,b,ps c a1⟩]) a3 d3,l'.map some++[ob.val.map fun b=>(⟨nm,b,ps c a1⟩:Prc)],A6,n6,c6,by cases ob <;> exact F9,hv9,hR9.out,fun y hy=>by
        cases ob with
        | bad p er=>cases hy
        | ok b a3 d3=>cases hy;simp [Out.val],by
        rw [←hsp2.out]
        have gn:=hon.out;have gb:=hob.out
        simp only [Sta.go] at gn;rw [gn]
        cases on with
        | bad p er=>simp only [Out.sta,Sta.go] at gb;subst gb;rfl
        | ok s a2 d2 =>
         obtain rfl:=hnm.out s rfl
         simp only [Out.sta,Sta.go] at gb;simp only [oB];rw [gb]
         cases ob <;> rfl,fun y a' d' e=>by
        cases ob with
        | bad p er=>cases e
        | ok b a3 d3 =>
         cases e
         have gb:=hob.out
         cases on with
         | bad p er=>simp only [Out.sta,Sta.go] at gb;cases gb
         | ok s a2 d2 =>
          simp only [Out.sta,Sta.go] at gb
          obtain ⟨m1,m2,m3⟩:=hn2.out _ _ _ rfl
          obtain ⟨r1,r2,r3⟩:=blkS_fine 0 _ _ (Nat.zero_le _) (by omega) (by omega) _ _ _ gb
          exact ⟨by omega,by simp;omega,by omega⟩⟩
      case measure=>omega
     | false =>
      rw [hse] at IS
      have hRq2:A0 (R2'=q2):=⟨by
       rw [←hsp.out]
       cases q2 with
       | bad p er=>rfl
       | ok l' a1 d1 =>
        obtain ⟨f1,f2,f3⟩:=hfu.out _ _ _ rfl
        have:=F.pb.2.1
        obtain ⟨m,rfl⟩:∃m,gk=m+1:=⟨gk - 1,by omega⟩
        simp only [oB]
        rw [pL,if_neg (of_decide_eq_false hse)]⟩
      have hl2:∀a' d',q2.sta=.here a' d'→d'=0:=fun a' d' e=>by
       cases q2 with
       | bad p er=>cases e
       | ok l' a1 d1=>cases e;exact (hfu.out _ _ _ rfl).2.2
      clear hse hsp hfu
      obtain ⟨o3,ho3⟩:∃o,A0 (q2.sta.go (tkS c 13)=o):=⟨_,⟨rfl⟩⟩
      have hl3:=tk_zero (by omega) hl2 ho3
      have CN:=tC hG (F.st hG) 13 (by omega) ⟨#[105,110,105,116]⟩ rfl ho3
      go_upto_region 15 with (first|(go_at_call 31;(with_reducible refine IS.mono ?_);rintro e w3 ⟨rfl,hb⟩;replace F:=F.below hb;replace hv:=xB hv hb;replace hR2:=A0.mk (hR2.out.far (Y:=w3) ⟨hb.size,fun b _ hl=>hb.block b hl⟩);replace CN:=tC hG (F.st hG) 13 (by omega) ⟨#[105,110,105,116]⟩ rfl ho3)|(go_at_call 36;(with_reducible refine CN.mono ?_);rintro e Y1 ⟨hg,rfl,hR1⟩))
      replace F:=F.call hg hR1
      replace hv:=xC hv hg (by omega)
      replace hR2:=A0.mk (hR2.out.far (Far.ofGrown hg (by omega)))
      clear CN hg hR1 IS hb
      obtain ⟨oi,hoi⟩:∃o,A0 (o3.sta.go (blkS c)=o):=⟨_,⟨rfl⟩⟩
      have hli:=blk_zero hl3 hoi
      have CN:=(rblkS_reads hG 0).c (F.st hG) (fun a' d' e=>⟨Nat.zero_le _,by have:=hl3 a' d' e;omega⟩) hoi
      have hloi:W.heap.size+1≤Y1.heap.size:=by have:=bL hv;omega
      go_upto_region 16 with (first|(go_at_call 35;(with_reducible refine CN.mono ?_);rintro e Y2 ⟨hg,⟨A3,n3,c3,rfl,hE3⟩,hR1⟩;have hv2:=xC hv hg (by omega);have z0:Y2.cell? ⟨W.heap.size,2,none⟩=some (.slice none 0 0):=bC hv2 2;have y0:=bF hv2 2))
      replace F:=F.call hg hR1
      replace hv:=xC hv hg (by omega)
      replace hR2:=A0.mk (hR2.out.far (Far.ofGrown hg (by omega)))
      replace hE3:A0 (∀y,oi.val=some y→RepB (fun b=>W.heap.size+1≤b) Y2 y [.slice A3 n3 c3]):=⟨fun y hy=>rK (hE3.out y hy) (fun b hb=>by omega) (fun _ _ _=>rfl)⟩
      replace F:=F.set (p:=⟨W.heap.size,2,none⟩) (Nat.le_refl _) (.slice A3 n3 c3)
      replace hv:Bx _ W.heap.size 27 #[.slice A1 n1 c1,.slice A2 n2 c2,.slice A3 n3 c3,.slice none 0 0]:=bP hv 2 (.slice A3 n3 c3) rfl
      replace hR2:=A0.mk (hR2.out.far ((Far.refl _ _).put (p:=⟨W.heap.size,2,none⟩) (by dsimp only;omega) (.slice A3 n3 c3)))
      replace hE3:=repBs_far hE3 ((Far.refl (W.heap.size+1) _).put (p:=⟨W.heap.size,2,none⟩) (by dsimp only;omega) (.slice A3 n3 c3))
      generalize Y2.setCell ⟨W.heap.size,2,none⟩ (.slice A3 n3 c3)=Y3 at F hv hR2 hE3 ⊢
      clear CN hg hR1 hv2 z0 y0 hloi
      obtain ⟨o4,ho4⟩:∃o,A0 (oi.sta.go (tkS c 18)=o):=⟨_,⟨rfl⟩⟩
      have hl4:=tk_zero (by omega) hli ho4
      have CN:=tC hG (F.st hG) 18 (by omega) ⟨#[108,111,111,112]⟩ rfl ho4
      go_upto_region 17 with (first|(go_at_call 36;(with_reducible refine CN.mono ?_);rintro e Y4 ⟨hg,rfl,hR1⟩))
      replace F:=F.call hg hR1
      replace hv:=xC hv hg (by omega)
      replace hR2:=A0.mk (hR2.out.far (Far.ofGrown hg (by omega)))
      replace hE3:=repBs_far hE3 (Far.ofGrown (lo:=W.heap.size+1) hg (by omega))
      clear CN hg hR1
      obtain ⟨ol,hol⟩:∃o,A0 (o4.sta.go (blkS c)=o):=⟨_,⟨rfl⟩⟩
      have hll:=blk_zero hl4 hol
      have CN:=(rblkS_reads hG 0).c (F.st hG) (fun a' d' e=>⟨Nat.zero_le _,by have:=hl4 a' d' e;omega⟩) hol
      have hlol:W.heap.size+1≤Y4.heap.size:=by have:=bL hv;omega
      go_upto_region 18 with (first|(go_at_call 35;(with_reducible refine CN.mono ?_);rintro e Y5 ⟨hg,⟨A4,n4,c4,rfl,hE4⟩,hR1⟩;have hv2:=xC hv hg (by omega);have z0:Y5.cell? ⟨W.heap.size,3,none⟩=some (.slice none 0 0):=bC hv2 3;have y0:=bF hv2 3))
      replace F:=F.call hg hR1
      replace hv:=xC hv hg (by omega)
      replace hR2:=A0.mk (hR2.out.far (Far.ofGrown hg (by omega)))
      replace hE3:=repBs_far hE3 (Far.ofGrown (lo:=W.heap.size+1) hg (by omega))
      replace hE4:A0 (∀y,ol.val=some y→RepB (fun b=>W.heap.size+1≤b) Y5 y [.slice A4 n4 c4]):=⟨fun y hy=>rK (hE4.out y hy) (fun b hb=>by omega) (fun _ _ _=>rfl)⟩
      replace F:=F.set (p:=⟨W.heap.size,3,none⟩) (Nat.le_refl _) (.slice A4 n4 c4)
      replace hv:Bx _ W.heap.size 27 #[.slice A1 n1 c1,.slice A2 n2 c2,.slice A3 n3 c3,.slice A4 n4 c4]:=bP hv 3 (.slice A4 n4 c4) rfl
      replace hR2:=A0.mk (hR2.out.far ((Far.refl _ _).put (p:=⟨W.heap.size,3,none⟩) (by dsimp only;omega) (.slice A4 n4 c4)))
      replace hE3:=repBs_far hE3 ((Far.refl (W.heap.size+1) _).put (p:=⟨W.heap.size,3,none⟩) (by dsimp only;omega) (.slice A4 n4 c4))
      replace hE4:=repBs_far hE4 ((Far.refl (W.heap.size+1) _).put (p:=⟨W.heap.size,3,none⟩) (by dsimp only;omega) (.slice A4 n4 c4))
      generalize Y5.setCell ⟨W.heap.size,3,none⟩ (.slice A4 n4 c4)=Y6 at F hv hR2 hE3 hE4 ⊢
      clear CN hg hR1 hv2 z0 y0 hlol
      have hS:A0 (pS c 0 0=q.bind fun ds _ _=>q2.bind fun pr _ _=>oi.bind fun i _ _=>ol.bind fun l a6 d6=>if kd c a6=0 then .ok ⟨ds,pr,i,l⟩ a6 d6 else .bad (ps c a6) 40):=⟨by
       have g3:=ho3.out;have gi:=hoi.out;have g4:=ho4.out;have gl:=hol.out;have r1:=hRs.out;have r2:=hRq.out;have r3:=hR2s.out;have r4:=hRq2.out
       unfold pS
       rw [r1,r2]
       refine bind_congr fun ds1 a1 d1 h1=>?_
       rw [h1] at r3;simp only [oB] at r3;rw [r3,r4]
       refine bind_congr fun pr1 a2 d2 h2=>?_
       rw [tk_bind]
       rw [h2] at g3;simp only [Out.sta,Sta.go] at g3;rw [g3]
       cases o3 with
       | bad p er=>simp only [Out.sta,Sta.go] at gi;subst gi;rfl
       | ok u a3 d3 =>
        simp only [Out.sta,Sta.go] at gi;simp only [oB];rw [gi]
        refine bind_congr fun i1 a4 d4 h4=>?_
        rw [tk_bind]
        rw [h4] at g4;simp only [Out.sta,Sta.go] at g4;rw [g4]
        cases o4 with
        | bad p er=>simp only [Out.sta,Sta.go] at gl;subst gl;rfl
        | ok u a5 d5=>simp only [Out.sta,Sta.go] at gl;simp only [oB];rw [gl]⟩
      have hbad:A0 (∀p er,ol=.bad p er→pS c 0 0=.bad p er):=⟨fun p er e=>by
       have g3:=ho3.out;have gi:=hoi.out;have g4:=ho4.out;have gl:=hol.out;have r3:=hR2s.out;have r4:=hRq2.out
       rw [hS.out]
       cases q with
       | bad p1 e1 =>
        simp only [Out.bind] at r3;subst r3;subst r4;simp only [Out.sta,Sta.go] at g3;subst g3;simp only [Out.sta,Sta.go] at gi;subst gi;simp only [Out.sta,Sta.go] at g4;subst g4;simp only [Out.sta,Sta.go] at gl;subst gl;cases e;rfl
       | ok ds1 a1 d1 =>
        simp only [oB]
        cases q2 with
        | bad p1 e1=>simp only [Out.sta,Sta.go] at g3;subst g3;simp only [Out.sta,Sta.go] at gi;subst gi;simp only [Out.sta,Sta.go] at g4;subst g4;simp only [Out.sta,Sta.go] at gl;subst gl;cases e;rfl
        | ok pr1 a2 d2 =>
         simp only [oB]
         cases oi with
         | bad p1 e1=>simp only [Out.sta,Sta.go] at g4;subst g4;simp only [Out.sta,Sta.go] at gl;subst gl;cases e;rfl
         | ok i1 a4 d4=>simp only [oB];rw [e];rfl⟩
      have hok:A0 (∀l6 a6 d6,ol=.ok l6 a6 d6→∃ds1 a1 d1 pr1 a2 d2 i1 a4 d4,q=.ok ds1 a1 d1∧q2=.ok pr1 a2 d2∧oi=.ok i1 a4 d4):=⟨fun l6 a6 d6 e=>by
       have g3:=ho3.out;have gi:=hoi.out;have g4:=ho4.out;have gl:=hol.out;have r3:=hR2s.out;have r4:=hRq2.out
       subst e
       cases q with
       | bad p1 e1 =>
        simp only [Out.bind] at r3;subst r3;subst r4;simp only [Out.sta,Sta.go] at g3;subst g3;simp only [Out.sta,Sta.go] at gi;subst gi;simp only [Out.sta,Sta.go] at g4;subst g4;simp only [Out.sta,Sta.go] at gl;cases gl
       | ok ds1 a1 d1 =>
        cases q2 with
        | bad p1 e1=>simp only [Out.sta,Sta.go] at g3;subst g3;simp only [Out.sta,Sta.go] at gi;subst gi;simp only [Out.sta,Sta.go] at g4;subst g4;simp only [Out.sta,Sta.go] at gl;cases gl
        | ok pr1 a2 d2 =>
         cases oi with
         | bad p1 e1=>simp only [Out.sta,Sta.go] at g4;subst g4;simp only [Out.sta,Sta.go] at gl;cases gl
         | ok i1 a4 d4=>exact ⟨_,_,_,_,_,_,_,_,_,rfl,rfl,rfl⟩⟩
      clear hRs hRq hR2s hRq2 ho3 hoi ho4 hol hl2 hl3 hli hl4 hll
      have hbF:A0 (∀Z,W.grownBy Z (some c.g)→Below w.heap.size w Z∧Z.heap[w.heap.size]?=some (.cells #[.slice none 0 0,.slice none 0 0,.slice none 0 0,.slice none 0 0] 27 (0,0))):=⟨fun Z hZ=>⟨⟨hZ.os.trans hbwW.out.os,hZ.tape.trans hbwW.out.tape,hZ.output.trans hbwW.out.output,Nat.le_trans hbwW.out.size hZ.size,fun b hb=>(hZ.block b (by omega) (fun e=>by have:=Option.some.inj e;omega)).trans (hbwW.out.block b hb)⟩,(hZ.block w.heap.size (by omega) (fun e=>by have:=Option.some.inj e;omega)).trans tW.out⟩⟩
      have hK:∀a,a<c.L.length→1≤kd c a:=fun a ha=>by
       unfold kd
       rw [show c.L.getD a zTok=c.L[a] by simp [List.getD,ha]]
       exact hG.kinds _ (List.getElem_mem ha)
      replace hK:=A0.mk hK
      cases ol with
      | bad pp er =>
       have hpar:=A0.mk (Parsed.bad (n:=n) (xs:=xs) hn.out hcL.out.1 hcL.out.2.1 (by rw [hcL.out.2.2];exact hsc.out) (hbad.out pp er rfl))
       obtain ⟨her,a',d',hb'⟩:=F.pb
       have cc5:∀q,(Y6.drewN q).cell? ⟨c.g,5,none⟩=some (.int .i64 er):=fun q=>bC hb' 5
       have d5:Y6.cell? ⟨c.g,5,none⟩=some (.int .i64 er):=bC hb' 5
       have e1:(er==0)=false:=beq_eq_false_iff_ne.mpr her
       have e2:decide (er=0)=false:=decide_eq_false her
       go_quiet (fail)
       go_upto_region 21 with fail
       have hbz:(Y6.drewN nq).heap[c.g]?=_:=hb'
       have F7:=F.drewN nq
       clear cc5 d5 hb' F hv hR2 hE3 hE4 hS hbad hok
       generalize Y6.drewN nq=Y7 at hbz F7 ⊢
       have tR:=(hbF.out Y7 F7.fr).2
       have bR:=A0.mk (hbF.out Y7 F7.fr).1
       have hS0:A0 (Y7.drew.cell? ⟨c.g,4,none⟩=some (.int .i64 pp)∧Y7.drew.cell? ⟨c.g,5,none⟩=some (.int .i64 er)):=⟨bC (bD hbz) 4,bC (bD hbz) 5⟩
       have hb9:=bD (Q5 (Q5 (Q5 (Q5 hbz (p:=⟨w.heap.size,0,none⟩) (by dsimp only;omega) (.slice none 0 0)) (p:=⟨w.heap.size,1,none⟩) (by dsimp only;omega) (.slice none 0 0)) (p:=⟨w.heap.size,2,none⟩) (by dsimp only;omega) (.slice none 0 0)) (p:=⟨w.heap.size,3,none⟩) (by dsimp only;omega) (.slice none 0 0))
       have hS9:A0 ((((((Y7.setCell ⟨w.heap.size,0,none⟩ (.slice none 0 0)).setCell ⟨w.heap.size,1,none⟩ (.slice none 0 0)).setCell ⟨w.heap.size,2,none⟩ (.slice none 0 0)).setCell ⟨w.heap.size,3,none⟩ (.slice none 0 0)).drew).cell? ⟨c.g,4,none⟩=some (.int .i64 pp)∧(((((Y7.setCell ⟨w.heap.size,0,none⟩ (.slice none 0 0)).setCell ⟨w.heap.size,1,none⟩ (.slice none 0 0)).setCell ⟨w.heap.size,2,none⟩ (.slice none 0 0)).setCell ⟨w.heap.size,3,none⟩ (.slice none 0 0)).drew).cell? ⟨c.g,5,none⟩=some (.int .i64 er)):=⟨bC hb9 4,bC hb9 5⟩
       clear hb9
       have x0:Y7.cell? ⟨w.heap.size,0,none⟩=some (.slice none 0 0):=bC tR 0;have y0:=bF tR 0
       have x1:Y7.cell? ⟨w.heap.size,1,none⟩=some (.slice none 0 0):=bC tR 1;have y1:=bF tR 1
       have x2:Y7.cell? ⟨w.heap.size,2,none⟩=some (.slice none 0 0):=bC tR 2;have y2:=bF tR 2
       have x3:Y7.cell? ⟨w.heap.size,3,none⟩=some (.slice none 0 0):=bC tR 3;have y3:=bF tR 3
       replace tR:=A0.mk tR
       clear hbz
       go_region_held3 (fun w':World=>w'.cell? ⟨c.g,4,none⟩=some (.int .i64 pp)∧w'.cell? ⟨c.g,5,none⟩=some (.int .i64 er)) (first | with_reducible exact hS0.out | with_reducible exact hS9.out) (first | fail)
       all_goals (
        go_wp2
        rw [←hQ.out]
        exact rparse_end rfl rfl rfl rfl (bD (all27 tR.out (.slice none 0 0) (.slice none 0 0) (.slice none 0 0) (.slice none 0 0))) rfl ⟨((((bR.out.setCell (Nat.le_refl _) _).setCell (Nat.le_refl _) _).setCell (Nat.le_refl _) _).setCell (Nat.le_refl _) _).drew,none,pp,er,zeroT,hpar.out,rfl,fun _=>rfl,fun x e=>by cases e⟩)
      | ok l6 a6 d6 =>
       replace F:Fr c W Y6 (.here a6 d6):=F
       have cc5:∀q,(Y6.drewN q).cell? ⟨c.g,5,none⟩=some (.int .i64 0):=fun q=>((F.drewN q).st hG).1.c5
       have cc2:∀q,(Y6.drewN q).cell? ⟨c.g,2,none⟩=some (.int .i64 a6):=fun q=>((F.drewN q).st hG).1.c2
       have cc1:∀q,(Y6.drewN q).cell? ⟨c.g,1,none⟩=some (.slice c.B c.L.length c.tc):=fun q=>((F.drewN q).st hG).1.c1
       have d5:=(F.st hG).1.c5;have d2:=(F.st hG).1.c2;have d1:=(F.st hG).1.c1
       by_cases hz:kd c a6=0
       ·have hlt:¬ a6<c.L.length:=fun h=>by have:=hK.out a6 h;omega
        replace hz:=A0.mk hz
        obtain ⟨ds1,a1,d1',pr1,a2,d2',i1,a4,d4,rfl,rfl,rfl⟩:=hok.out l6 a6 d6 rfl
        have hpar:=A0.mk (Parsed.ok (n:=n) (xs:=xs) hn.out hcL.out.1 hcL.out.2.1 (by rw [hcL.out.2.2];exact hsc.out) (hS.out.trans (by simp only [oB];rw [if_pos hz.out])))
        obtain rfl:=hql.out ds1 rfl
        obtain rfl:=hql2.out pr1 rfl
        have h3:=A0.mk (hE3.out i1 rfl);have h4:=A0.mk (hE4.out l6 rfl)
        clear hbad hok hS hE3 hE4 hql hql2
        go_quiet (fail)
        go_upto_region 22 with fail
        have F7:=F.drewN nq
        have hv7:Bx (Y6.drewN nq) W.heap.size 27 #[.slice A1 n1 c1,.slice A2 n2 c2,.slice A3 n3 c3,.slice A4 n4 c4]:=hv
        replace hR2:=A0.mk (hR2.out.far ((Far.refl _ _).drewN nq))
        replace h3:=A0.mk (rK (W':=Y6.drewN nq) h3.out (fun _ hb=>hb) (fun _ _ _=>rfl));replace h4:=A0.mk (rK (W':=Y6.drewN nq) h4.out (fun _ hb=>hb) (fun _ _ _=>rfl))
        clear cc5 cc2 cc1 d5 d2 d1 F hv
        generalize Y6.drewN nq=Y7 at F7 hv7 hR2 h3 h4 ⊢
        have tR:=(hbF.out Y7 F7.fr).2
        have bR:=A0.mk (hbF.out Y7 F7.fr).1
        have hgs:=F7.fr.size
        have x0:Y7.cell? ⟨w.heap.size,0,none⟩=some (.slice none 0 0):=bC tR 0;have y0:=bF tR 0;have z0:Y7.cell? ⟨W.heap.size,0,none⟩=some (.slice A1 n1 c1):=bC hv7 0
        have x1:Y7.cell? ⟨w.heap.size,1,none⟩=some (.slice none 0 0):=bC tR 1;have y1:=bF tR 1;have z1:Y7.cell? ⟨W.heap.size,1,none⟩=some (.slice A2 n2 c2):=bC hv7 1
        have x2:Y7.cell? ⟨w.heap.size,2,none⟩=some (.slice none 0 0):=bC tR 2;have y2:=bF tR 2;have z2:Y7.cell? ⟨W.heap.size,2,none⟩=some (.slice A3 n3 c3):=bC hv7 2
        have x3:Y7.cell? ⟨w.heap.size,3,none⟩=some (.slice none 0 0):=bC tR 3;have y3:=bF tR 3;have z3:Y7.cell? ⟨W.heap.size,3,none⟩=some (.slice A4 n4 c4):=bC hv7 3
        replace tR:=A0.mk tR
        go_wp2
        rw [←hQ.out]
        exact rparse_end rfl rfl rfl rfl (all27 tR.out (.slice A1 n1 c1) (.slice A2 n2 c2) (.slice A3 n3 c3) (.slice A4 n4 c4)) rfl ⟨(((bR.out.setCell (Nat.le_refl _) _).setCell (Nat.le_refl _) _).setCell (Nat.le_refl _) _).setCell (Nat.le_refl _) _,_,0,0,_,hpar.out,rfl,(fun e=>by cases e),fun x e=>by cases e;exact ⟨_,_,_,_,_,_,_,_,_,_,_,_,rfl,RepT.far (R2.tree hR2.out h3.out h4.out) (((((Far.refl (W.heap.size+1) _).put (p:=⟨w.heap.size,0,none⟩) (by dsimp only;omega) (.slice A1 n1 c1)).put (p:=⟨w.heap.size,1,none⟩) (by dsimp only;omega) (.slice A2 n2 c2)).put (p:=⟨w.heap.size,2,none⟩) (by dsimp only;omega) (.slice A3 n3 c3)).put (p:=⟨w.heap.size,3,none⟩) (by dsimp only;omega) (.slice A4 n4 c4)) (by omega)⟩⟩
       ·have hlt:a6<c.L.length:=by
         rcases Nat.lt_or_ge a6 c.L.length with h | h
         ·exact h
         ·exact absurd (kd_end h) hz
        replace hz:=A0.mk hz
        obtain ⟨ds1,a1,d1',pr1,a2,d2',i1,a4,d4,rfl,rfl,rfl⟩:=hok.out l6 a6 d6 rfl
        have hpar:=A0.mk (Parsed.bad (n:=n) (xs:=xs) hn.out hcL.out.1 hcL.out.2.1 (by rw [hcL.out.2.2];exact hsc.out) (hS.out.trans (by simp only [oB];rw [if_neg hz.out])))
        clear hbad hok hS hE3 hE4 hql hql2 hR2 hv
        go_quiet (fail)
        have F7:=F.drewN nq
        have CN:=rfail_call hG (F7.st hG).1 40
        go_upto_region 20 with (first|(go_at_call 37;(with_reducible refine CN.mono ?_);rintro e Y8 ⟨rfl,hR8,hg8⟩))
        have F8:=F7.call (s':=.lost (ps c a6) 40) hg8 ⟨by decide,a6,d6,hR8⟩
        have hbz:=hR8.blk
        have d8:Y8.cell? ⟨c.g,5,none⟩=some (.int .i64 40):=bC hbz 5
        clear CN hR8 hg8 F7 F cc5 cc2 cc1 d5 d2 d1
        go_upto_region 21 with fail
        have tR:=(hbF.out Y8 F8.fr).2
        have bR:=A0.mk (hbF.out Y8 F8.fr).1
        have hS0:A0 (Y8.drew.cell? ⟨c.g,4,none⟩=some (.int .i64 (ps c a6))∧Y8.drew.cell? ⟨c.g,5,none⟩=some (.int .i64 40)):=⟨bC (bD hbz) 4,bC (bD hbz) 5⟩
        have hb9:=bD (Q5 (Q5 (Q5 (Q5 hbz (p:=⟨w.heap.size,0,none⟩) (by dsimp only;omega) (.slice none 0 0)) (p:=⟨w.heap.size,1,none⟩) (by dsimp only;omega) (.slice none 0 0)) (p:=⟨w.heap.size,2,none⟩) (by dsimp only;omega) (.slice none 0 0)) (p:=⟨w.heap.size,3,none⟩) (by dsimp only;omega) (.slice none 0 0))
        have hS9:A0 ((((((Y8.setCell ⟨w.heap.size,0,none⟩ (.slice none 0 0)).setCell ⟨w.heap.size,1,none⟩ (.slice none 0 0)).setCell ⟨w.heap.size,2,none⟩ (.slice none 0 0)).setCell ⟨w.heap.size,3,none⟩ (.slice none 0 0)).drew).cell? ⟨c.g,4,none⟩=some (.int .i64 (ps c a6))∧(((((Y8.setCell ⟨w.heap.size,0,none⟩ (.slice none 0 0)).setCell ⟨w.heap.size,1,none⟩ (.slice none 0 0)).setCell ⟨w.heap.size,2,none⟩ (.slice none 0 0)).setCell ⟨w.heap.size,3,none⟩ (.slice none 0 0)).drew).cell? ⟨c.g,5,none⟩=some (.int .i64 40)):=⟨bC hb9 4,bC hb9 5⟩
        clear hb9
        have x0:Y8.cell? ⟨w.heap.size,0,none⟩=some (.slice none 0 0):=bC tR 0;have y0:=bF tR 0
        have x1:Y8.cell? ⟨w.heap.size,1,none⟩=some (.slice none 0 0):=bC tR 1;have y1:=bF tR 1
        have x2:Y8.cell? ⟨w.heap.size,2,none⟩=some (.slice none 0 0):=bC tR 2;have y2:=bF tR 2
        have x3:Y8.cell? ⟨w.heap.size,3,none⟩=some (.slice none 0 0):=bC tR 3;have y3:=bF tR 3
        replace tR:=A0.mk tR
        clear hbz
        go_region_held3 (fun w':World=>w'.cell? ⟨c.g,4,none⟩=some (.int .i64 (ps c a6))∧w'.cell? ⟨c.g,5,none⟩=some (.int .i64 40)) (first | with_reducible exact hS0.out | with_reducible exact hS9.out) (first | fail)
        all_goals (
         go_wp2
         rw [←hQ.out]
         exact rparse_end rfl rfl rfl rfl (bD (all27 tR.out (.slice none 0 0) (.slice none 0 0) (.slice none 0 0) (.slice none 0 0))) rfl ⟨((((bR.out.setCell (Nat.le_refl _) _).setCell (Nat.le_refl _) _).setCell (Nat.le_refl _) _).setCell (Nat.le_refl _) _).drew,none,(ps c a6),40,zeroT,hpar.out,rfl,fun _=>rfl,fun x e=>by cases e⟩)
end Go.Proofs.YtgaoapnaplgaiaaGreatDoor.Sc
