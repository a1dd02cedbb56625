/- This claim's own texts, joined, with only what the claim uses: ReaB. -/
import Derived.Test.YtgaoapnaplgaiaaGreatDoorZs49
import Derived.Deep.RegionHeld3
namespace Go.Proofs.YtgaoapnaplgaiaaGreatDoor.Sc
set_option maxRecDepth 100000
open Go.RowKit Tk Go.Proofs.YtgaoapnaplgaiaaGreatDoor.Wd
abbrev D27 (t:Tre) (A1:Option Addr) (c1:Nat) (A2:Option Addr) (c2:Nat) (A3:Option Addr) (c3:Nat) (A4:Option Addr) (c4:Nat):Array Value:=#[.slice A1 t.decls.length c1,.slice A2 t.procs.length c2,.slice A3 t.init.length c3,.slice A4 t.loop.length c4]
set_option maxHeartbeats 8000000 in
theorem read_walk (A:Option Addr) (n cap:Nat) (xs:List Int) (W:World) (hE:Env W) (hS:Txt A n cap xs W) :
  Calls Tryz.prog 3 #[.slice A n cap] W fun e W'=>e=.returned (.bool true)∧Below W.heap.size W W':=by
 have hxn:=hS.hx
 have hnn:=hS.hn
 have hinfo:(Tryz.prog.info? 5).map (fun i=>(i.zero,i.size,i.bytes))=some (some (.int .u8 0),1,1):=by kernel_rfl
 obtain ⟨i0,hi,hz0,hz1,hz2⟩:=info_parts hinfo
 clear hinfo
 replace hS:=A0.mk hS
 replace hE:=A0.mk hE
 go_enter Tryz.func3,Tryz.ntmps3
 go_upto_region 3 with (at_builtin;refine wpList_append_txt rfl (.tmp 10) (.tmp 11) rfl (base:=W.heap.size) hi hz0 hz1 hz2 (v:=.slice none 0 0) (n:=0) (xs:=[]) rfl (World.ownsRow_nil _ _ _ _) (ys:=xs) rfl hS.out.hL hxn hS.out.h0 (by omega) (Nat.le_refl _) ?_;intro v1 w1 hown1 hg1)
 have hb1:=grown_own hg1 (World.ownsRow_nil _ W.heap.size 5 1) (Nat.le_refl _)
 rw [Nat.zero_add,List.nil_append] at hown1
 have z1:=hb1.size
 have hL1:Lies (w1.alloc (.cells #[.int .u8 165] 5)) (some ⟨w1.heap.size,0,none⟩) 1 [165]:=fun i hi=>by
  obtain rfl:i=0:=by omega
  exact ⟨_,rfl,by rw [show (⟨w1.heap.size,0,none⟩:Addr).add 0=⟨w1.heap.size,0,none⟩ by unfold Addr.add;simp];exact bC (bN w1 (.cells #[.int .u8 165] 5)) 0⟩
 have hown1':=hown1.alloc (.cells #[.int .u8 165] 5)
 replace hb1:=A0.mk hb1
 replace hL1:=A0.mk hL1
 replace hown1':=A0.mk hown1'
 clear hown1 hg1
 go_upto_region 4 with (at_builtin;refine wpList_append_txt rfl (.tmp 13) (.tmp 14) rfl (base:=W.heap.size) hi hz0 hz1 hz2 (v:=v1) rfl hown1'.out (ys:=[165]) rfl hL1.out rfl (fun h=>by cases h) (by omega) (by simp;omega) ?_;intro v2 w2 hown2 hg2)
 have hb2:=hb1.out.trans (((Below.refl W.heap.size w1).alloc z1 (.cells #[.int .u8 165] 5)).trans (grown_own hg2 hown1'.out (by simp;omega)))
 have hform:∃g c:Nat,v2=.slice (some ⟨g,0,none⟩) (n+1) c∧n+1≤c:=by
  rcases hown2.2 with ⟨_,h⟩|⟨g,c,_,e,_,_,h,_⟩
  ·omega
  ·exact ⟨g,c,e,h⟩
 obtain ⟨g,c,rfl,hgc⟩:=hform
 have gl:=hown2.lt g rfl
 have hLo:=lies_own hown2
 have hL2:Lies w2 (some ⟨g,0,none⟩) n xs:=fun i hi=>by
  obtain ⟨b,e,h⟩:=hLo i (by omega)
  refine ⟨b,e,?_⟩
  rw [h]
  simp [List.getD,hxn,hi,List.getElem?_append_left]
 have hf0:=(hLo n (by omega))
 have hfull:w2.cell? ⟨g,n,none⟩=some (.int .u8 165):=by
  obtain ⟨b,e,h⟩:=hf0
  cases e
  rw [add_at] at h
  rw [h]
  simp [List.getD,←hxn]
 have hT2:Txt (some ⟨g,0,none⟩) n c xs w2:=⟨by omega,hxn,hS.out.hB,hL2,(fun a e=>by cases e;exact gl.2),hnn,(fun e=>by cases e)⟩
 have hE2:=hE.out.grow hb2
 have PT:=A0.mk (readp_call (some ⟨g,0,none⟩) n c xs w2 hE2 hT2)
 have hsl:∀w,(Instr.sliceAt 22 (.slice (some ⟨g,0,none⟩) (n+1) c) none (some (.int .i64 (n:Int))) none).run Tryz.prog w=.ok (.slice (some ⟨g,0,none⟩) n c) w:=fun w=>slice_head w ⟨g,0,none⟩ (n+1) c n (by omega)
 replace hT2:=A0.mk hT2
 replace hfull:=A0.mk hfull
 replace hb2:=A0.mk hb2
 replace hown2:=A0.mk hown2
 clear hL1 hown1' hg2 hb1 hL2 hLo hf0 z1 hE2
 go_upto_region 5 with (go_at_call 10;(with_reducible refine PT.out.mono ?_);rintro e w3 ⟨hb3,o,p,er,A1,c1,A2,c2,A3,c3,A4,c4,hP,hT,rfl⟩)
 have kt0:=bN w3 (.cells (D27 (o.getD noTre) A1 c1 A2 c2 A3 c3 A4 c4) 27)
 have kt:=(_root_.Go.heap_alloc_old (w3.alloc (.cells (D27 (o.getD noTre) A1 c1 A2 c2 A3 c3 A4 c4) 27)) (.cells #[.int .i64 p,.int .i64 er] 30) (Array.getElem?_eq_some_iff.1 kt0).1).trans kt0
 have kf:=bN (w3.alloc (.cells (D27 (o.getD noTre) A1 c1 A2 c2 A3 c3 A4 c4) 27)) (.cells #[.int .i64 p,.int .i64 er] 30)
 rw [show (w3.alloc (.cells (D27 (o.getD noTre) A1 c1 A2 c2 A3 c3 A4 c4) 27)).heap.size=w3.heap.size+1 by simp] at kf
 have hbl:=(bA w3 (.cells (D27 (o.getD noTre) A1 c1 A2 c2 A3 c3 A4 c4) 27)).alloc (by simp) (.cells #[.int .i64 p,.int .i64 er] 30)
 have hfar:Far w2.heap.size w3 ((w3.alloc (.cells (D27 (o.getD noTre) A1 c1 A2 c2 A3 c3 A4 c4) 27)).alloc (.cells #[.int .i64 p,.int .i64 er] 30)):=((Far.refl _ _).alloc _).alloc _
 have hT':=hT.far hfar (Nat.le_refl _)
 have hbq:=hb3.trans (hbl.mono hb3.size)
 have hs3:=hb3.size
 clear kt0 hT hb3 PT hbl hfar
 replace kt:=A0.mk kt
 replace kf:=A0.mk kf
 replace hT':=A0.mk hT'
 replace hbq:=A0.mk hbq
 replace hP:=A0.mk hP
 generalize (w3.alloc (.cells (D27 (o.getD noTre) A1 c1 A2 c2 A3 c3 A4 c4) 27)).alloc (.cells #[.int .i64 p,.int .i64 er] 30)=X at kt kf hT' hbq ⊢
 generalize w3.heap.size=g1 at kt kf hs3 ⊢
 have hSX:=hS.out.below (hb2.out.trans (hbq.out.mono hb2.out.size))
 have RT:=A0.mk (readr_call A n cap xs X hSX)
 clear hSX hsl
 go_upto_region 6 with (go_at_call 11;(with_reducible refine RT.out.mono ?_);rintro e w4 ⟨hb4,o2,p2,e2,B1,d1,B2,d2,B3,d3,B4,d4,hP2,hU,rfl⟩)
 obtain ⟨rfl,rfl,rfl⟩:=parsed_one hP.out hP2
 have ku:=bN w4 (.cells (D27 (o2.getD noTre) B1 d1 B2 d2 B3 d3 B4 d4) 27)
 have hbl:=bA w4 (.cells (D27 (o2.getD noTre) B1 d1 B2 d2 B3 d3 B4 d4) 27)
 have hU':=hU.far ((Far.refl X.heap.size w4).alloc (.cells (D27 (o2.getD noTre) B1 d1 B2 d2 B3 d3 B4 d4) 27)) (Nat.le_refl _)
 have hbr:=hb4.trans (hbl.mono hb4.size)
 have gt:g1+1<X.heap.size:=(Array.getElem?_eq_some_iff.1 kf.out).1
 have kt4:=(hbr.block g1 (by omega)).trans kt.out
 have kf4:=(hbr.block (g1+1) gt).trans kf.out
 have hT4:=hT'.out.far (Y:=w4.alloc (.cells (D27 (o2.getD noTre) B1 d1 B2 d2 B3 d3 B4 d4) 27)) ⟨hbr.size,fun b _ hl=>hbr.block b hl⟩ (Nat.le_refl _)
 have hs4:=hb4.size
 clear hU RT hb4 hbl kt kf hT' hP2
 replace ku:=A0.mk ku
 replace hU':=A0.mk hU'
 replace hbr:=A0.mk hbr
 replace kt4:=A0.mk kt4
 replace kf4:=A0.mk kf4
 replace hT4:=A0.mk hT4
 generalize w4.alloc (.cells (D27 (o2.getD noTre) B1 d1 B2 d2 B3 d3 B4 d4) 27)=Y at ku hU' hbr kt4 kf4 hT4 ⊢
 generalize w4.heap.size=g2 at ku hs4 ⊢
 have hbX:=hbq.out.trans (hbr.out.mono hbq.out.size)
 have hbY:=hb2.out.trans (hbX.mono hb2.out.size)
 have hTw:=hT2.out.below hbX
 have hTA:=hS.out.below hbY
 have full0:Y.cell? ⟨g,n,none⟩=some (.int .u8 165):=(hbX.cell (p:=⟨g,n,none⟩) gl.2).trans hfull.out
 have cv1:∀j,(convert 22 9 (.slice (some ⟨g,0,none⟩) n c)).run Tryz.prog (Y.drewN j)=.ok (.string (strOfNums xs)) (Y.drewN j):=fun j =>
  (show Lies (Y.drewN j) (some ⟨g,0,none⟩) n xs from fun i hi=>hTw.hL i hi).bytes.convert hxn _ 22 5 9 Tryz.underlying22 Tryz.underlying5 Tryz.underlying9
 have cv2:∀j,(convert 22 9 (.slice A n cap)).run Tryz.prog (Y.drewN j)=.ok (.string (strOfNums xs)) (Y.drewN j):=fun j =>
  (show Lies (Y.drewN j) A n xs from fun i hi=>hTA.hL i hi).bytes.convert hxn _ 22 5 9 Tryz.underlying22 Tryz.underlying5 Tryz.underlying9
 have O5:Y.ownsRow W.heap.size 5 1 (.slice (some ⟨g,0,none⟩) (n+1) c) (n+1) (u8s (xs++[165])):=own_below hown2.out hbX
 have hsl:∀w,(Instr.sliceAt 22 (.slice (some ⟨g,0,none⟩) (n+1) c) none (some (.int .i64 (n:Int))) none).run Tryz.prog w=.ok (.slice (some ⟨g,0,none⟩) n c) w:=fun w=>slice_head w ⟨g,0,none⟩ (n+1) c n (by omega)
 have g2l:g<w2.heap.size:=gl.2
 have gXs:=hbq.out.size
 have hg2:g2<Y.heap.size:=(Array.getElem?_eq_some_iff.1 ku.out).1
 have hg1:g1+1<Y.heap.size:=(Array.getElem?_eq_some_iff.1 kf4.out).1
 replace hbY:=A0.mk hbY
 replace O5:=A0.mk O5
 clear hTw hTA hbX hfull hT2 hb2 hown2 hbq hbr
 generalize strOfNums xs=S at cv1 cv2
 have n0:(0:Int)≤(n:Int):=by omega
 have n2:(n:Int)<((n+1:Nat):Int):=by omega
 go_wp2
 go_quiet (fail)
 go_wp2
 clear cv1 cv2 full0 hsl hi hz0 hz1 hz2
 replace hxn:=A0.mk hxn
 go_loopw [9] (fun i Z=>∃(k:Nat) (zs:List Value),i=.int .i64 k∧k≤n∧zs.length=n+1∧Z.ownsRow W.heap.size 5 1 (.slice (some ⟨g,0,none⟩) (n+1) c) (n+1) zs∧Far w2.heap.size Y Z∧Below W.heap.size W Z) (fun i _=>n - (intOf i).toNat)
 case atStart=>exact ⟨0,_,rfl,Nat.zero_le _,by simp [u8s,hxn.out],own_move O5.out (fun _ _=>rfl),(Far.refl _ _).drewN _,bel_drewN hbY.out _⟩
 case round =>
  obtain ⟨k,zs,rfl,hk,hz,hO,hF,hW⟩:=hrel
  by_cases hkn:k<n
  ·have d0:decide ((k:Int)<(n:Int))=true:=decide_eq_true (by omega)
   have k0:(0:Int)≤(k:Int):=by omega
   have k1:(k:Int)<((n+1:Nat):Int):=by omega
   have wk:wrap64 ((k:Int)+1)=((k+1:Nat):Int):=(IntWalk.wrap64_in _ (by omega)).trans (by omega)
   replace wk:=A0.mk wk
   have hlt:k<zs.length:=by omega
   have hlt2:k<(n+1) * 1:=by omega
   obtain ⟨u,hc0⟩:∃u,wr.cell? ⟨g,k,none⟩=some u:=⟨zs[k],(hO.cellAt k hlt2).trans (List.getElem?_eq_getElem hlt)⟩
   clear hlt hlt2
   have hf0:=hO.frozenAt k
   replace hz:=A0.mk hz
   replace hO:=A0.mk hO
   replace hF:=A0.mk hF
   replace hW:=A0.mk hW
   go_wp2
   go_round
   case rel=>exact ⟨k+1,zs.set k (.int .u8 32),by (try rw [wk.out]);rfl,hkn,by simp [hz.out],(hO.out.stored k _).1,hF.out.put g2l _,hW.out.setCell gl.1 _⟩
   case measure=>(try rw [wk.out]);simp [intOf];omega
  ·obtain rfl:k=n:=by omega
   have d0:decide ((k:Int)<(k:Int))=false:=decide_eq_false (by omega)
   have kt5:=(hF.block g1 (by omega) (by omega)).trans kt4.out
   have kf5:=(hF.block (g1+1) (by omega) hg1).trans kf4.out
   have ku5:=(hF.block g2 (by omega) hg2).trans ku.out
   have hT5:=(hT4.out.far hF (Nat.le_refl _)).at
   have hU5:=(hU'.out.far (hF.mono gXs) (Nat.le_refl _)).at
   have hFw:=parsed_optFew hP.out
   have JC:=just_call (o2.getD noTre) hFw wr A1 c1 A2 c2 A3 c3 A4 c4 B1 d1 B2 d2 B3 d3 B4 d4 hT5 hU5
   have hE5:=hE.out.grow hW
   have AW:=fun w' (h:Below wr.heap.size wr w')=>awake_call w' (hE5.below h)
   have f0:wr.cell? ⟨g1+1,0,none⟩=some (.int .i64 p2):=bC kf5 0
   have f1:wr.cell? ⟨g1+1,1,none⟩=some (.int .i64 e2):=bC kf5 1
   have t0:wr.cell? ⟨g1,0,none⟩=some (.slice A1 (o2.getD noTre).decls.length c1):=bC kt5 0
   have t1:wr.cell? ⟨g1,1,none⟩=some (.slice A2 (o2.getD noTre).procs.length c2):=bC kt5 1
   have t2:wr.cell? ⟨g1,2,none⟩=some (.slice A3 (o2.getD noTre).init.length c3):=bC kt5 2
   have t3:wr.cell? ⟨g1,3,none⟩=some (.slice A4 (o2.getD noTre).loop.length c4):=bC kt5 3
   have u0':wr.cell? ⟨g2,0,none⟩=some (.slice B1 (o2.getD noTre).decls.length d1):=bC ku5 0
   have u1':wr.cell? ⟨g2,1,none⟩=some (.slice B2 (o2.getD noTre).procs.length d2):=bC ku5 1
   have u2':wr.cell? ⟨g2,2,none⟩=some (.slice B3 (o2.getD noTre).init.length d3):=bC ku5 2
   have u3':wr.cell? ⟨g2,3,none⟩=some (.slice B4 (o2.getD noTre).loop.length d4):=bC ku5 3
   have ep:(p2==p2)=true:=by simp
   have ee:(e2==e2)=true:=by simp
   replace hW:=A0.mk hW
   replace AW:=A0.mk AW
   clear hO hF kt4 kf4 ku hT4 hU' hFw hE5 kt5 kf5 ku5 hT5 hU5 O5 hbY hS hE hP
   go_wp2_with (first|(go_at_call 12;(with_reducible refine JC.mono ?_);rintro e w6 ⟨rfl,hb6⟩;have hAW:=A0.mk (AW.out w6 hb6);replace hb6:=A0.mk hb6)|(go_at_call 13;(with_reducible refine hAW.out.mono ?_);rintro e w7 ⟨rfl,hb7⟩;replace hb7:=A0.mk hb7))
   go_ret
   exact ⟨rfl,hW.out.trans ((hb6.out.trans (hb7.out.mono hb6.out.size)).mono hW.out.size)⟩
end Go.Proofs.YtgaoapnaplgaiaaGreatDoor.Sc
