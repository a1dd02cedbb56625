/- This claim's own texts, joined, with only what the claim uses: ParZj. -/
import Derived.Test.YtgaoapnaplgaiaaGreatDoorZs30
namespace Go.Proofs.YtgaoapnaplgaiaaGreatDoor.Sc
set_option maxRecDepth 100000
open Go.RowKit Tk Go.Proofs.YtgaoapnaplgaiaaGreatDoor.Wd
@[go_sem] theorem run_store_nilFunc (P:Program) (w:World) (a:Addr) (m:Mode):(store a .nilFunc m).run P w=stored P w a .nilFunc m:=run_store P w a _ m rfl
@[go_sem] theorem run_store_func (P:Program) (w:World) (a:Addr) (m:Mode) (f:Fn) (x y:Array Value):(store a (.func f x y) m).run P w=stored P w a (.func f x y) m:=run_store P w a _ m rfl
theorem parser_box {w4:World} {A B:Option Addr} {n cap tc m g:Nat} {z0:Value} (g4:w4.heap[g]?=some (.cells #[.slice A n cap,.slice B m tc,.int .i64 0,.int .i64 0,.int .i64 0,.int .i64 0,.nilFunc,.nilFunc,.nilFunc,.nilFunc,.nilFunc,.nilFunc] 56 (0,0))) (p4:w4.heap[g+1]?=some (.cells #[z0] 52 (0,0))) :
  ((((((w4.setCell ⟨g,6,none⟩ .nilFunc).setCell ⟨g,7,none⟩ (.func (.func 23) #[.pointer (some ⟨g,0,none⟩)] #[])).setCell ⟨g,8,none⟩ (.func (.func 24) #[.pointer (some ⟨g,0,none⟩)] #[])).setCell ⟨g,9,none⟩ (.func (.func 25) #[.pointer (some ⟨g,0,none⟩)] #[])).setCell ⟨g,10,none⟩ (.func (.func 26) #[.pointer (some ⟨g,0,none⟩)] #[])).setCell ⟨g,11,none⟩ (.func (.func 27) #[.pointer (some ⟨g,0,none⟩)] #[])).heap[g]?=some (.cells #[.slice A n cap,.slice B m tc,.int .i64 0,.int .i64 0,.int .i64 0,.int .i64 0,.nilFunc,.func (.func 23) #[.pointer (some ⟨g,0,none⟩)] #[],.func (.func 24) #[.pointer (some ⟨g,0,none⟩)] #[],.func (.func 25) #[.pointer (some ⟨g,0,none⟩)] #[],.func (.func 26) #[.pointer (some ⟨g,0,none⟩)] #[],.func (.func 27) #[.pointer (some ⟨g,0,none⟩)] #[]] 56 (0,0)) ∧
  ((((((w4.setCell ⟨g,6,none⟩ .nilFunc).setCell ⟨g,7,none⟩ (.func (.func 23) #[.pointer (some ⟨g,0,none⟩)] #[])).setCell ⟨g,8,none⟩ (.func (.func 24) #[.pointer (some ⟨g,0,none⟩)] #[])).setCell ⟨g,9,none⟩ (.func (.func 25) #[.pointer (some ⟨g,0,none⟩)] #[])).setCell ⟨g,10,none⟩ (.func (.func 26) #[.pointer (some ⟨g,0,none⟩)] #[])).setCell ⟨g,11,none⟩ (.func (.func 27) #[.pointer (some ⟨g,0,none⟩)] #[])).heap[g+1]?=some (.cells #[z0] 52 (0,0))∧∀{w3:World},Below g w3 w4→Below g w3 ((((((w4.setCell ⟨g,6,none⟩ .nilFunc).setCell ⟨g,7,none⟩ (.func (.func 23) #[.pointer (some ⟨g,0,none⟩)] #[])).setCell ⟨g,8,none⟩ (.func (.func 24) #[.pointer (some ⟨g,0,none⟩)] #[])).setCell ⟨g,9,none⟩ (.func (.func 25) #[.pointer (some ⟨g,0,none⟩)] #[])).setCell ⟨g,10,none⟩ (.func (.func 26) #[.pointer (some ⟨g,0,none⟩)] #[])).setCell ⟨g,11,none⟩ (.func (.func 27) #[.pointer (some ⟨g,0,none⟩)] #[])):=by
 have hne:∀i,g+1≠(⟨g,i,none⟩:Addr).block:=fun i=>by dsimp only;omega
 refine ⟨bP (bP (bP (bP (bP (bP g4 6 _ rfl) 7 _ rfl) 8 _ rfl) 9 _ rfl) 10 _ rfl) 11 _ rfl,Q5 (Q5 (Q5 (Q5 (Q5 (Q5 p4 (hne 6) _) (hne 7) _) (hne 8) _) (hne 9) _) (hne 10) _) (hne 11) _,fun hb=>?_⟩
 exact (((((hb.setCell (Nat.le_refl _) _).setCell (Nat.le_refl _) _).setCell (Nat.le_refl _) _).setCell (Nat.le_refl _) _).setCell (Nat.le_refl _) _).setCell (Nat.le_refl _) _
theorem RepT.far {lo lo':Nat} {X Y:World} {t:Tre} {A1 A2 A3 A4:Option Addr} {n1 c1 n2 c2 n3 c3 n4 c4:Nat} (h:RepT (fun b=>lo≤b) X t A1 n1 c1 A2 n2 c2 A3 n3 c3 A4 n4 c4) (hf:Far lo X Y) (hll:lo'≤lo):RepT (fun b=>lo'≤b) Y t A1 n1 c1 A2 n2 c2 A3 n3 c3 A4 n4 c4:=by
 have hq:∀b,lo≤b→lo'≤b:=fun b hb=>Nat.le_trans hll hb
 obtain ⟨vs,r,ha⟩:=h.r2
 exact ⟨h.h1,h.h2,h.r1.keep hq (fun b hb hl=>hf.block b hb hl),⟨vs,r.keep hq (fun b hb hl=>hf.block b hb hl),ha.imp fun x y hr=>repP_keeps hr hq fun b hb hl=>hf.block b hb hl⟩,h.r3.far hf hll,h.r4.far hf hll⟩
abbrev lateD (pb t f:Nat):List Deferred:=[{ target:=.fn (.func 28) #[.pointer (some ⟨pb,0,none⟩),.pointer (some ⟨t,0,none⟩),.pointer (some ⟨f,0,none⟩)],args:=#[] }]
theorem end_ok {Q:Ending→World→Prop} {tmps:Array Value} {W:World} {pb t f:Nat} {c0 c1:Array Value} (h2:tmps.getD 2 undef=.pointer (some ⟨t,0,none⟩)) (h3:tmps.getD 3 undef=.pointer (some ⟨f,0,none⟩))
  (ht:W.heap[t]?=some (.cells c0 27 (0,0))) (hf:W.heap[f]?=some (.cells c1 30 (0,0))) (z0:c0.size=4) (z1:c1.size=2) (hQ:Q (.returned (.tuple #[.agg c0,.agg c1])) W) :
  Leaves Tryz.prog Tryz.f10 tmps Q (lateD pb t f) .returning W:=by
 refine leaves_cons (f:=28) (args:=#[.pointer (some ⟨pb,0,none⟩),.pointer (some ⟨t,0,none⟩),.pointer (some ⟨f,0,none⟩)]) (by simp) (by simp [go_sem]) ?_
 refine (catch_idle _ _ _ W).mono ?_
 rintro e u' w'' ⟨rfl,rfl,rfl⟩
 exact parse_ret tmps _ t f c0 c1 h2 h3 ht hf z0 z1 hQ
theorem end_bad {Q:Ending→World→Prop} {tmps:Array Value} {W:World} {pb t f g:Nat} {x0 x1 x2 x3:Value} {y0 y1 fp fe:Int} (h2:tmps.getD 2 undef=.pointer (some ⟨t,0,none⟩)) (h3:tmps.getD 3 undef=.pointer (some ⟨f,0,none⟩))
  (hp:W.cell? ⟨pb,0,none⟩=some (.pointer (some ⟨g,0,none⟩))) (h4:W.cell? ⟨g,4,none⟩=some (.int .i64 fp)) (h5:W.cell? ⟨g,5,none⟩=some (.int .i64 fe))
  (ht:W.heap[t]?=some (.cells #[x0,x1,x2,x3] 27 (0,0))) (hf:W.heap[f]?=some (.cells #[.int .i64 y0,.int .i64 y1] 30 (0,0))) (hne:t≠f)
  (hQ:∀W',(∀lo,lo≤t→lo≤f→lo≤W.heap.size→Below lo W W')→Q (.returned (.tuple #[zeroT,.agg #[.int .i64 fp,.int .i64 fe]])) W') :
  Leaves Tryz.prog Tryz.f10 tmps Q (lateD pb t f) (.panicking broke) W:=by
 refine leaves_cons (f:=28) (args:=#[.pointer (some ⟨pb,0,none⟩),.pointer (some ⟨t,0,none⟩),.pointer (some ⟨f,0,none⟩)]) (by simp) (by simp [go_sem]) ?_
 refine (catch_panicking pb t f g x0 x1 x2 x3 y0 y1 fp fe [] W hp h4 h5 ht hf hne).mono ?_
 rintro e u' w'' ⟨rfl,rfl,ht2,hf2,hb⟩
 exact parse_ret tmps _ t f _ _ h2 h3 ht2 hf2 rfl rfl (hQ _ hb)
set_option maxHeartbeats 8000000 in
theorem parse_call (A:Option Addr) (n cap:Nat) (xs:List Int) (w:World) (hcap:n≤cap) (hx:xs.length=n) (hB:∀c ∈ xs,Byte c) (hT:HasTab w) (hO:Ops w) (hL:Lies w A n xs) (hA:∀a,A=some a→a.block<w.heap.size) (hm:∃m,w.cell? ⟨2,0,none⟩=some (.int .i64 m)) :
  Calls Tryz.prog 10 #[.slice A n cap] w (ParseOut n xs w):=by
 obtain ⟨Q,hQ⟩:∃Q,A0 (ParseOut n xs w=Q):=⟨_,⟨rfl⟩⟩
 rw [hQ.out]
 have hT:=A0.mk hT
 have hO:=A0.mk hO
 have hL:=A0.mk hL
 have hm:=A0.mk hm
 have hA:=A0.mk hA
 have hB:=A0.mk hB
 have hx:=A0.mk hx
 have hmf:∀(fn:Fn) (first cap:Array Value) (w:World),(Instr.makeFunc fn first cap).run Tryz.prog w=.ok (.func fn first cap) w:=fun _ _ _ _=>rfl
 go_enter_defers Tryz.func10,Tryz.ntmps10
 go_upto_region 1 with fail
 have hb1:Below w.heap.size w ((w.alloc (.cells #[.slice none 0 0,.slice none 0 0,.slice none 0 0,.slice none 0 0] 27)).alloc (.cells #[.int .i64 0,.int .i64 0] 30)):=(bA _ _).alloc (by simp) _
 have es:((w.alloc (.cells #[.slice none 0 0,.slice none 0 0,.slice none 0 0,.slice none 0 0] 27)).alloc (.cells #[.int .i64 0,.int .i64 0] 30)).heap.size=w.heap.size+2:=by simp
 have ht1:((w.alloc (.cells #[.slice none 0 0,.slice none 0 0,.slice none 0 0,.slice none 0 0] 27)).alloc (.cells #[.int .i64 0,.int .i64 0] 30)).heap[w.heap.size]?=some (.cells #[.slice none 0 0,.slice none 0 0,.slice none 0 0,.slice none 0 0] 27 (0,0)):=(_root_.Go.heap_alloc_old _ _ (bL (bN w _))).trans (bN w _)
 have hf1:((w.alloc (.cells #[.slice none 0 0,.slice none 0 0,.slice none 0 0,.slice none 0 0] 27)).alloc (.cells #[.int .i64 0,.int .i64 0] 30)).heap[w.heap.size+1]?=some (.cells #[.int .i64 0,.int .i64 0] 30 (0,0)):=by
  have:=bN (w.alloc (.cells #[.slice none 0 0,.slice none 0 0,.slice none 0 0,.slice none 0 0] 27)) (.cells #[.int .i64 0,.int .i64 0] 30)
  rw [show (w.alloc (.cells #[.slice none 0 0,.slice none 0 0,.slice none 0 0,.slice none 0 0] 27)).heap.size=w.heap.size+1 by simp] at this
  exact this
 generalize (w.alloc (.cells #[.slice none 0 0,.slice none 0 0,.slice none 0 0,.slice none 0 0] 27)).alloc (.cells #[.int .i64 0,.int .i64 0] 30)=w1 at hb1 es ht1 hf1 ⊢
 have CN:Calls Tryz.prog 14 #[.slice A n cap] w1 (ScanOut n xs w1):=by
  refine scan_out A n cap xs w1 hcap hx.out hB.out ?_ ?_ ?_ ?_
  ·exact hT.out.below hb1 hT.out.pos
  ·intro i hi
   obtain ⟨x,e,q⟩:=hL.out i hi
   exact ⟨x,e,(hb1.cell (World.block_lt_of_cell? w _ q)).trans q⟩
  ·intro x e
   have:=hA.out x e
   omega
  ·obtain ⟨m,q⟩:=hm.out
   exact ⟨m,(hb1.cell (World.block_lt_of_cell? w _ q)).trans q⟩
 have es:=A0.mk es
 have hb1:=A0.mk hb1
 have ht1:=A0.mk ht1
 have hf1:=A0.mk hf1
 go_upto_region 2 with (first|(go_at_call 14;(with_reducible refine CN.mono ?_);rintro e w2 hP;rcases hP with ⟨p,er,hb2,hpar,her⟩|⟨l,v,hb2,hn,hsc,hown⟩;all_goals (
  have hb2:=A0.mk hb2
  have f2:=bB hf1.out (hb2.out)
  have fc0:w2.cell? ⟨w.heap.size+1,0,none⟩=some (.int .i64 0):=bC f2 0
  have fc1:w2.cell? ⟨w.heap.size+1,1,none⟩=some (.int .i64 0):=bC f2 1
  have fz:∀i,w2.frozen? ⟨w.heap.size+1,i,none⟩=false:=fun i=>bF f2 i)))
 ·have hb2:=hb2.out
  have t2:=bB ht1.out hb2
  have f3:=bP (bP f2 0 (.int .i64 p) rfl) 1 (.int .i64 er) rfl
  have t3:=Q5 (Q5 t2 (p:=⟨w.heap.size+1,0,none⟩) (by dsimp only;omega) (.int .i64 p)) (p:=⟨w.heap.size+1,1,none⟩) (by dsimp only;omega) (.int .i64 er)
  have hb3:Below w.heap.size w ((w2.setCell ⟨w.heap.size+1,0,none⟩ (.int .i64 p)).setCell ⟨w.heap.size+1,1,none⟩ (.int .i64 er)):=((hb1.out.trans (hb2.mono (by have:=es.out;omega))).setCell (by dsimp only;omega) _).setCell (by dsimp only;omega) _
  generalize (w2.setCell ⟨w.heap.size+1,0,none⟩ (.int .i64 p)).setCell ⟨w.heap.size+1,1,none⟩ (.int .i64 er)=w3 at f3 t3 hb3 ⊢
  clear fc0 fc1 fz f2 t2 hb2
  have tc0:w3.cell? ⟨w.heap.size,0,none⟩=some (.slice none 0 0):=bC t3 0
  have tc1:w3.cell? ⟨w.heap.size,1,none⟩=some (.slice none 0 0):=bC t3 1
  have tc2:w3.cell? ⟨w.heap.size,2,none⟩=some (.slice none 0 0):=bC t3 2
  have tc3:w3.cell? ⟨w.heap.size,3,none⟩=some (.slice none 0 0):=bC t3 3
  have fc0:w3.cell? ⟨w.heap.size+1,0,none⟩=some (.int .i64 p):=bC f3 0
  have fc1:w3.cell? ⟨w.heap.size+1,1,none⟩=some (.int .i64 er):=bC f3 1
  have fz:∀i,w3.frozen? ⟨w.heap.size+1,i,none⟩=false:=fun i=>bF f3 i
  have tz:∀i,w3.frozen? ⟨w.heap.size,i,none⟩=false:=fun i=>bF t3 i
  have hd:decide (er=0)=false:=decide_eq_false her
  have hb3:=A0.mk hb3
  have f3:=A0.mk f3
  have t3:=A0.mk t3
  have her:=A0.mk her
  have hpar:=A0.mk hpar
  go_upto_region 3 with fail
  refine wp_mono (Q:=ToEnd (EndAt w #[.slice none 0 0,.slice none 0 0,.slice none 0 0,.slice none 0 0] #[.int .i64 p,.int .i64 er])) ?_ ?_
  ·go_region_with fail
   all_goals (
    obtain ⟨k0,k1,k2⟩:=catch_end (u0:=.slice none 0 0) (u1:=.slice none 0 0) (u2:=.slice none 0 0) (u3:=.slice none 0 0) (z0:=.int .i64 p) (z1:=.int .i64 er) hb3.out (show w.heap.size≠w.heap.size+1 by omega) t3.out f3.out
    with_reducible exact EndAt.mk_drew rfl rfl k0 k1 k2)
  ·intro e a W hq
   cases e <;> try (exact False.elim hq)
   obtain ⟨tm,ds⟩:=a
   have hq:EndAt w #[.slice none 0 0,.slice none 0 0,.slice none 0 0,.slice none 0 0] #[.int .i64 p,.int .i64 er] tm ds W:=hq
   have hq:=A0.mk hq
   clear fc0 fc1 fz tz tc0 tc1 tc2 tc3
   go_wp2
   exact hq.out.leaves rfl rfl (by rw [←hQ.out];exact ParseOut.bad hq.out.hb hpar.out)
 have hb2:=hb2.out
 have t2:=bB ht1.out hb2
 have f3:=bP (bP f2 0 (.int .i64 0) rfl) 1 (.int .i64 0) rfl
 have t3:=Q5 (Q5 t2 (p:=⟨w.heap.size+1,0,none⟩) (by dsimp only;omega) (.int .i64 0)) (p:=⟨w.heap.size+1,1,none⟩) (by dsimp only;omega) (.int .i64 0)
 have hb3:Below w.heap.size w ((w2.setCell ⟨w.heap.size+1,0,none⟩ (.int .i64 0)).setCell ⟨w.heap.size+1,1,none⟩ (.int .i64 0)):=((hb1.out.trans (hb2.mono (by have:=es.out;omega))).setCell (by dsimp only;omega) _).setCell (by dsimp only;omega) _
 have hr3:=ownsRow_setCell_below (ownsRow_setCell_below hown (a:=⟨w.heap.size+1,0,none⟩) (by have:=es.out;dsimp only;omega) (.int .i64 0)) (a:=⟨w.heap.size+1,1,none⟩) (by have:=es.out;dsimp only;omega) (.int .i64 0)
 have hz3:w.heap.size+2≤((w2.setCell ⟨w.heap.size+1,0,none⟩ (.int .i64 0)).setCell ⟨w.heap.size+1,1,none⟩ (.int .i64 0)).heap.size:=by
  have:=hb2.size
  have:=es.out
  simp [World.setCell]
  omega
 generalize (w2.setCell ⟨w.heap.size+1,0,none⟩ (.int .i64 0)).setCell ⟨w.heap.size+1,1,none⟩ (.int .i64 0)=w3 at f3 t3 hb3 hr3 hz3 ⊢
 clear fc0 fc1 fz f2 t2 hb2
 have fc1:w3.cell? ⟨w.heap.size+1,1,none⟩=some (.int .i64 0):=bC f3 1
 have hb3:=A0.mk hb3
 have f3:=A0.mk f3
 have t3:=A0.mk t3
 have hr3:=A0.mk hr3
 have hz3:=A0.mk hz3
 have hn:=A0.mk hn
 have hsc:=A0.mk hsc
 clear CN
 obtain ⟨B,tc,rfl,hle,hBB,htk⟩:=own_toks hr3.out
 have htk:=A0.mk htk
 have hBB:=A0.mk hBB
 have hle:=A0.mk hle
 clear hr3 hown
 go_upto_region 5 with fail
 have hsz:(w3.alloc (.cells #[.slice A n cap,.slice B l.length tc,.int .i64 0,.int .i64 0,.int .i64 0,.int .i64 0,.nilFunc,.nilFunc,.nilFunc,.nilFunc,.nilFunc,.nilFunc] 56)).heap.size=w3.heap.size+1:=by simp
 have hb4:=(bA w3 (.cells #[.slice A n cap,.slice B l.length tc,.int .i64 0,.int .i64 0,.int .i64 0,.int .i64 0,.nilFunc,.nilFunc,.nilFunc,.nilFunc,.nilFunc,.nilFunc] 56)).alloc (by simp) (.cells #[.pointer (some ⟨w3.heap.size,0,none⟩)] 52)
 have g4:=(_root_.Go.heap_alloc_old _ (.cells #[.pointer (some ⟨w3.heap.size,0,none⟩)] 52) (bL (bN w3 (.cells #[.slice A n cap,.slice B l.length tc,.int .i64 0,.int .i64 0,.int .i64 0,.int .i64 0,.nilFunc,.nilFunc,.nilFunc,.nilFunc,.nilFunc,.nilFunc] 56)))).trans (bN w3 _)
 have p4:=bN (w3.alloc (.cells #[.slice A n cap,.slice B l.length tc,.int .i64 0,.int .i64 0,.int .i64 0,.int .i64 0,.nilFunc,.nilFunc,.nilFunc,.nilFunc,.nilFunc,.nilFunc] 56)) (.cells #[.pointer (some ⟨w3.heap.size,0,none⟩)] 52)
 rw [hsz] at p4
 generalize hw4:(w3.alloc (.cells #[.slice A n cap,.slice B l.length tc,.int .i64 0,.int .i64 0,.int .i64 0,.int .i64 0,.nilFunc,.nilFunc,.nilFunc,.nilFunc,.nilFunc,.nilFunc] 56)).alloc (.cells #[.pointer (some ⟨w3.heap.size,0,none⟩)] 52)=w4 at hb4 g4 p4 ⊢
 clear hw4 hsz fc1
 have t4:=bB t3.out hb4
 have f4:=bB f3.out hb4
 obtain ⟨g,hg⟩:∃g,A0 (w3.heap.size=g):=⟨_,⟨rfl⟩⟩
 rw [hg.out] at g4 p4 hb4 ⊢
 have pc0:w4.cell? ⟨g+1,0,none⟩=some (.pointer (some ⟨g,0,none⟩)):=bC p4 0
 have gc6:w4.cell? ⟨g,6,none⟩=some .nilFunc:=bC g4 6
 have gc7:w4.cell? ⟨g,7,none⟩=some .nilFunc:=bC g4 7
 have gc8:w4.cell? ⟨g,8,none⟩=some .nilFunc:=bC g4 8
 have gc9:w4.cell? ⟨g,9,none⟩=some .nilFunc:=bC g4 9
 have gc10:w4.cell? ⟨g,10,none⟩=some .nilFunc:=bC g4 10
 have gc11:w4.cell? ⟨g,11,none⟩=some .nilFunc:=bC g4 11
 have gz:∀i,w4.frozen? ⟨g,i,none⟩=false:=fun i=>bF g4 i
 have hb4:=A0.mk hb4
 have g4:=A0.mk g4
 have p4:=A0.mk p4
 have t4:=A0.mk t4
 have f4:=A0.mk f4
 go_upto_region 7 with fail
 obtain ⟨g5,p5,hb5⟩:=parser_box g4.out p4.out
 have hb5:=hb5 hb4.out
 generalize hw5:(((((w4.setCell ⟨g,6,none⟩ .nilFunc).setCell ⟨g,7,none⟩ (.func (.func 23) #[.pointer (some ⟨g,0,none⟩)] #[])).setCell ⟨g,8,none⟩ (.func (.func 24) #[.pointer (some ⟨g,0,none⟩)] #[])).setCell ⟨g,9,none⟩ (.func (.func 25) #[.pointer (some ⟨g,0,none⟩)] #[])).setCell ⟨g,10,none⟩ (.func (.func 26) #[.pointer (some ⟨g,0,none⟩)] #[])).setCell ⟨g,11,none⟩ (.func (.func 27) #[.pointer (some ⟨g,0,none⟩)] #[])=w5 at g5 p5 hb5 ⊢
 clear hw5 gc6 gc7 gc8 gc9 gc10 gc11 gz pc0
 have hb5':Below w3.heap.size w3 w5:=by rw [hg.out];exact hb5
 have t5:=bB t3.out hb5'
 have f5:=bB f3.out hb5'
 have hbw:Below w.heap.size w w5:=hb3.out.trans (hb5'.mono (by have:=hz3.out;omega))
 have hpos:=hT.out.pos
 have hgz:w.heap.size+2≤g:=by have:=hz3.out;have:=hg.out;omega
 have hfin:=scan_fine hsc.out
 obtain ⟨c,hc⟩:∃c:Ctx,c=⟨g,A,n,cap,xs,B,tc,l⟩:=⟨_,rfl⟩
 have hG:Good c:=by
  subst hc
  exact { hn:=hn.out,hcap:=hcap,hx:=hx.out,hl:=hfin.1,htc:=hle.out,hA:=fun x e=>by { have:=hA.out x e;dsimp only;omega },hB:=fun x e=>by { have:=(hBB.out x e).2;have:=hg.out;dsimp only;omega },kinds:=fun t ht=>(hfin.2 t ht).kind,nums:=fun t ht=>(hfin.2 t ht).num,places:=fun t ht=>by { have:=(hfin.2 t ht).place;rw [hx.out] at this;exact this } }
 have hSt:St c w5 0 0 0 0:=by
  subst hc
  refine ⟨g5,fun i hi=>?_,fun i hi=>?_⟩
  ·obtain ⟨x,e,q⟩:=hL.out i hi
   exact ⟨x,e,(hbw.cell (World.block_lt_of_cell? w _ q)).trans q⟩
  ·obtain ⟨b,e,q0,q1,q2,q3⟩:=htk.out i hi
   exact ⟨b,e,(hb5'.cell (World.block_lt_of_cell? w3 _ q0)).trans q0,(hb5'.cell (World.block_lt_of_cell? w3 _ q1)).trans q1,(hb5'.cell (World.block_lt_of_cell? w3 _ q2)).trans q2,(hb5'.cell (World.block_lt_of_cell? w3 _ q3)).trans q3⟩
 have hOp:Ops w5:=hO.out.keep (hbw.block 0 (by omega)) (hbw.block 1 (by omega))
 have hcg:c.g=g:=by rw [hc]
 have CN:Calls Tryz.prog 29 #[.pointer (some ⟨g,0,none⟩)] w5 (Post c w5 0 0 (repTree w5.heap.size) (pS c 0 0)):=by
  rw [←hcg]
  exact program_call hG (by omega) w5 0 0 0 0 hSt hOp (Nat.zero_le _) (by omega) (by omega)
 have hcn:c.n=n∧c.xs=xs∧c.L=l:=by rw [hc];exact ⟨rfl,rfl,rfl⟩
 have pc5:w5.cell? ⟨g+1,0,none⟩=some (.pointer (some ⟨g,0,none⟩)):=bC p5 0
 have hcn:=A0.mk hcn
 have hcg:=A0.mk hcg
 have hc:=A0.mk hc
 have hbw:=A0.mk hbw
 have hgz:=A0.mk hgz
 have t5:=A0.mk t5
 have f5:=A0.mk f5
 have p5:=A0.mk p5
 clear g5 hb5 hb5' hfin hSt hG hOp hpos
 go_upto_region 8 with (first|(go_at_call 29;(with_reducible refine CN.mono ?_);rintro e w6 hP;rcases hP.elim with ⟨x,a1,d1,ho,hgr,⟨v,rfl,A1,n1,c1,A2,n2,c2,A3,n3,c3,A4,n4,c4,rfl,hv⟩,hS⟩|⟨p,er,ho,hgr,rfl,a',d',hS⟩;all_goals (
  have t6:w6.heap[w.heap.size]?=some (.cells #[.slice none 0 0,.slice none 0 0,.slice none 0 0,.slice none 0 0] 27 (0,0)):=blk_grown t5.out hgr (fun e=>by have:=Option.some.inj e;have:=hcg.out;have:=hgz.out;omega)
  have f6:w6.heap[w.heap.size+1]?=some (.cells #[.int .i64 0,.int .i64 0] 30 (0,0)):=blk_grown f5.out hgr (fun e=>by have:=Option.some.inj e;have:=hcg.out;have:=hgz.out;omega)
  have p6:w6.heap[g+1]?=some (.cells #[.pointer (some ⟨g,0,none⟩)] 52 (0,0)):=blk_grown p5.out hgr (fun e=>by have:=Option.some.inj e;have:=hcg.out;omega)
  have hb6:Below w.heap.size w w6:=hbw.out.grown hgr hbw.out.size (fun k e=>by have:=Option.some.inj e;have:=hcg.out;have:=hgz.out;omega)
  have tc0:w6.cell? ⟨w.heap.size,0,none⟩=some (.slice none 0 0):=bC t6 0
  have tc1:w6.cell? ⟨w.heap.size,1,none⟩=some (.slice none 0 0):=bC t6 1
  have tc2:w6.cell? ⟨w.heap.size,2,none⟩=some (.slice none 0 0):=bC t6 2
  have tc3:w6.cell? ⟨w.heap.size,3,none⟩=some (.slice none 0 0):=bC t6 3
  have fc0:w6.cell? ⟨w.heap.size+1,0,none⟩=some (.int .i64 0):=bC f6 0
  have fc1:w6.cell? ⟨w.heap.size+1,1,none⟩=some (.int .i64 0):=bC f6 1
  have tz:∀i,w6.frozen? ⟨w.heap.size,i,none⟩=false:=fun i=>bF t6 i
  have fz:∀i,w6.frozen? ⟨w.heap.size+1,i,none⟩=false:=fun i=>bF f6 i
  have t6:=A0.mk t6
  have f6:=A0.mk f6
  have p6:=A0.mk p6
  have hb6:=A0.mk hb6
  have ho:=A0.mk ho
  have hgr:=A0.mk hgr
  have hS:=A0.mk hS)))
 case inr =>
  refine end_bad (g:=g) rfl rfl (bC p6.out 0) (by rw [←hcg.out];exact hS.out.c4) (by rw [←hcg.out];exact hS.out.c5) t6.out f6.out (by omega) fun W' hb=>?_
  rw [←hQ.out]
  exact ParseOut.bad (hb6.out.trans (hb _ (Nat.le_refl _) (Nat.le_succ _) hb6.out.size)) (Parsed.bad (c:=c) hn.out hcn.out.1 hcn.out.2.1 (by rw [hcn.out.2.2];exact hsc.out) ho.out)
 go_wp2
 obtain ⟨k0,k1,k2⟩:=catch_end (u0:=.slice A1 n1 c1) (u1:=.slice A2 n2 c2) (u2:=.slice A3 n3 c3) (u3:=.slice A4 n4 c4) (z0:=.int .i64 0) (z1:=.int .i64 0) hb6.out (show w.heap.size≠w.heap.size+1 by omega) t6.out f6.out
 have hl0:=bL t5.out
 have hl1:=bL f5.out
 have hfar:Far w5.heap.size w6 ((((((w6.setCell ⟨w.heap.size,0,none⟩ (.slice A1 n1 c1)).setCell ⟨w.heap.size,1,none⟩ (.slice A2 n2 c2)).setCell ⟨w.heap.size,2,none⟩ (.slice A3 n3 c3)).setCell ⟨w.heap.size,3,none⟩ (.slice A4 n4 c4)).setCell ⟨w.heap.size+1,0,none⟩ (.int .i64 0)).setCell ⟨w.heap.size+1,1,none⟩ (.int .i64 0)) :=
  ((((((Far.refl _ w6).put (p:=⟨w.heap.size,0,none⟩) hl0 _).put (p:=⟨w.heap.size,1,none⟩) hl0 _).put (p:=⟨w.heap.size,2,none⟩) hl0 _).put (p:=⟨w.heap.size,3,none⟩) hl0 _).put (p:=⟨w.heap.size+1,0,none⟩) hl1 _).put (p:=⟨w.heap.size+1,1,none⟩) hl1 _
 generalize hw7:((((((w6.setCell ⟨w.heap.size,0,none⟩ (.slice A1 n1 c1)).setCell ⟨w.heap.size,1,none⟩ (.slice A2 n2 c2)).setCell ⟨w.heap.size,2,none⟩ (.slice A3 n3 c3)).setCell ⟨w.heap.size,3,none⟩ (.slice A4 n4 c4)).setCell ⟨w.heap.size+1,0,none⟩ (.int .i64 0)).setCell ⟨w.heap.size+1,1,none⟩ (.int .i64 0))=w7 at k0 k1 k2 hfar ⊢
 refine end_ok rfl rfl k0 k1 rfl rfl ?_
 rw [←hQ.out]
 exact ParseOut.ok (k2 _ (Nat.le_refl _) (Nat.le_succ _) (Nat.le_refl _)) (Parsed.ok (c:=c) hn.out hcn.out.1 hcn.out.2.1 (by rw [hcn.out.2.2];exact hsc.out) ho.out) ⟨A1,n1,c1,A2,n2,c2,A3,n3,c3,A4,n4,c4,rfl,hv.far hfar (by omega)⟩
end Go.Proofs.YtgaoapnaplgaiaaGreatDoor.Sc
