/- This claim's own texts, joined, with only what the claim uses: AwkC, AwkD. -/
import Derived.Test.YtgaoapnaplgaiaaGreatDoorZs31
import Derived.Deep.CutRange
import Derived.Laws.Tables
namespace Go.Proofs.YtgaoapnaplgaiaaGreatDoor.Sc
set_option maxRecDepth 100000
open Go.RowKit Tk Go.Proofs.YtgaoapnaplgaiaaGreatDoor.Wd
def S40:Array Value:=#[.int .i64 0,.int .i64 0,.int .i64 0,.bool false,.int .i64 1,.int .i64 0,.int .i64 0,.bool true,.int .i64 2,.int .i64 0,.int .i64 0,.bool true,.int .i64 0,.int .i64 0,.int .i64 0,.bool true,.int .i64 1,.int .i64 1,.int .i64 2,.bool false,.int .i64 1,.int .i64 1,.int .i64 1,.bool false,.int .i64 1,.int .i64 0,.int .i64 1,.bool false,.int .i64 0,.int .i64 0,.int .i64 0,.bool true,.int .i64 1,.int .i64 0,.int .i64 0,.bool false,.int .i64 0,.int .i64 0,.int .i64 0,.bool false]
def Z40:Array Value:=#[.int .i64 0,.int .i64 0,.int .i64 0,.bool false,.int .i64 0,.int .i64 0,.int .i64 0,.bool false,.int .i64 0,.int .i64 0,.int .i64 0,.bool false,.int .i64 0,.int .i64 0,.int .i64 0,.bool false,.int .i64 0,.int .i64 0,.int .i64 0,.bool false,.int .i64 0,.int .i64 0,.int .i64 0,.bool false,.int .i64 0,.int .i64 0,.int .i64 0,.bool false,.int .i64 0,.int .i64 0,.int .i64 0,.bool false,.int .i64 0,.int .i64 0,.int .i64 0,.bool false,.int .i64 0,.int .i64 0,.int .i64 0,.bool false]
theorem wpl_build {P:Program} {ops:Array Oper} {rest:List Oper} {o:Oper} {a:Act} {w:World} {Q:Exit→Act→World→Prop} (cells:Array Value) (hg:o.guard=none) (t:TypeId) (parts:Array (Nat × Operand)) (ho:o.op=.build t parts)
  (hf:P.built t (parts.map fun (i,x)=>(i,a.eval x)).toList=some cells) (h:wpList P ops Q rest (a.put o.dst (.agg cells)) w):wpList P ops Q (o :: rest) a w :=
 wpList_build hg t parts ho (by rw [hf];rfl) (by rw [hf];exact h)
structure FsA (W:World) (cs:Array Value) (X:World):Prop where
 b0:X.heap[W.heap.size]?=some (.cells cs 107 (0,0))
 b1:X.heap[W.heap.size+1]?=some (.cells S40 142 (0,0))
 sz:X.heap.size=W.heap.size+2
 below:Below W.heap.size W X
structure FsB (W:World) (cs:Array Value) (X:World):Prop where
 b0:X.heap[W.heap.size]?=some (.cells cs 107 (0,0))
 b2:X.heap[W.heap.size+2]?=some (.cells #[.int .i64 1,.int .i64 0,.int .i64 0,.bool true] 141 (0,0))
 below:Below W.heap.size W X
theorem Env.grow {B:Nat} {w w':World} (h:Env w) (hb:Below B w w') (hB:w.heap.size≤B:=by omega):Env w':=h.below (hb.mono hB)
theorem Env.alloc {w:World} (h:Env w) (o:Obj):Env (w.alloc o):=h.below (bA _ o)
set_option maxHeartbeats 8000000 in
theorem awk_fitStmt (b1:Addr) (k1:Nat) (A5:Option Addr) (k5:Nat) (A6:Option Addr) (k6:Nat) (A7:Option Addr) (k7:Nat) (W:World) (hE:Env W) (h1:b1.block<W.heap.size) (he:Cs W b1 (eC 1 1 nN A7 0 k7 14)) :
  Calls Tryz.prog 81 #[.agg #[.int .i64 1,.string ⟨#[120]⟩,.string nN,.slice (some b1) 1 k1,.slice A5 0 k5,.slice A6 0 k6,.int .i64 11]] W fun e W'=>e=.returned (.bool true)∧Below W.heap.size W W':=by
 have hE:=A0.mk hE
 have he:=A0.mk he
 obtain ⟨cs,hcs⟩:∃cs,A0 (cs=(#[.int .i64 1,.string ⟨#[120]⟩,.string nN,.slice (some b1) 1 k1,.slice A5 0 k5,.slice A6 0 k6,.int .i64 11]:Array Value)):=⟨_,⟨rfl⟩⟩
 go_enter Tryz.func81,Tryz.ntmps81
 go_upto_region 1 with fail
 go_cut [3] from 11 to 28 (fun v X=>v=.pointer (some ⟨W.heap.size+1,0,none⟩)∧FsA W cs X)
 case first =>
  go_wp2_with (first|(refine wpl_build S40 rfl 142 _ rfl (by kernel_rfl) ?_)|(refine wpList_store_row rfl 142 (.tmp 3) (.tmp 28) rfl (W.heap.size+1) S40 rfl rfl 142 Z40 ?c1 (by kernel_rfl) rfl (by kernel_rfl) ?_))
  case c1 =>
   have h:=bN (W.alloc (.cells #[.int .i64 1,.string ⟨#[120]⟩,.string nN,.slice (some b1) 1 k1,.slice A5 0 k5,.slice A6 0 k6,.int .i64 11] 107)) (.cells Z40 142)
   rw [show (W.alloc (.cells #[.int .i64 1,.string ⟨#[120]⟩,.string nN,.slice (some b1) 1 k1,.slice A5 0 k5,.slice A6 0 k6,.int .i64 11] 107)).heap.size=W.heap.size+1 by simp] at h
   exact h
  go_meet
  have h:=bN (W.alloc (.cells #[.int .i64 1,.string ⟨#[120]⟩,.string nN,.slice (some b1) 1 k1,.slice A5 0 k5,.slice A6 0 k6,.int .i64 11] 107)) (.cells Z40 142)
  rw [show (W.alloc (.cells #[.int .i64 1,.string ⟨#[120]⟩,.string nN,.slice (some b1) 1 k1,.slice A5 0 k5,.slice A6 0 k6,.int .i64 11] 107)).heap.size=W.heap.size+1 by simp] at h
  refine ⟨rfl,?_,setRow_heap _ _ _ _ _ _ h,by simp,?_⟩
  ·rw [setRow_other _ _ _ _ (by omega),_root_.Go.heap_alloc_old _ _ (by simp),hcs.out]
   exact bN W _
  ·refine ⟨rfl,rfl,rfl,by simp;omega,fun k hk=>?_⟩
   rw [setRow_other _ _ _ _ (by omega),_root_.Go.heap_alloc_old _ _ (by simp;omega),_root_.Go.heap_alloc_old _ _ hk]
 case rest =>
  obtain ⟨rfl,hA⟩:=hcut
  have c0:wc.cell? ⟨W.heap.size,0,none⟩=some (.int .i64 1):=by have:=hcs.out;subst this;exact bC hA.b0 0
  have s4:wc.cell? ⟨W.heap.size+1,4,none⟩=some (.int .i64 1):=(bC hA.b1 4).trans rfl
  have s5:wc.cell? ⟨W.heap.size+1,5,none⟩=some (.int .i64 0):=(bC hA.b1 5).trans rfl
  have s6:wc.cell? ⟨W.heap.size+1,6,none⟩=some (.int .i64 0):=(bC hA.b1 6).trans rfl
  have s7:wc.cell? ⟨W.heap.size+1,7,none⟩=some (.bool true):=(bC hA.b1 7).trans rfl
  have hz:=hA.sz
  have hA:=A0.mk hA
  go_upto_region 4 with fail
  go_cut [4] from 29 to 40 (fun v X=>v=.pointer (some ⟨W.heap.size+2,0,none⟩)∧FsB W cs X)
  case first =>
   have hz:=A0.mk hz
   go_wp2
   go_meet
   have hl:W.heap.size<wc.heap.size:=by have:=hz.out;omega
   have hn:=bN wc (.cells #[.int .i64 1,.int .i64 0,.int .i64 0,.bool true] 141)
   rw [hz.out] at hn
   exact ⟨rfl,(_root_.Go.heap_alloc_old _ _ hl).trans hA.out.b0,hn,hA.out.below.alloc (by omega) _⟩
  case rest =>
   obtain ⟨rfl,hB⟩:=hcut
   clear c0 s4 s5 s6 s7 hz hA
   rw [hcs.out] at hB
   have c0:wc.cell? ⟨W.heap.size,0,none⟩=some (.int .i64 1):=bC hB.b0 0
   have c1:wc.cell? ⟨W.heap.size,1,none⟩=some (.string ⟨#[120]⟩):=bC hB.b0 1
   have c2:wc.cell? ⟨W.heap.size,2,none⟩=some (.string nN):=bC hB.b0 2
   have c3:wc.cell? ⟨W.heap.size,3,none⟩=some (.slice (some b1) 1 k1):=bC hB.b0 3
   have c4:wc.cell? ⟨W.heap.size,4,none⟩=some (.slice A5 0 k5):=bC hB.b0 4
   have c5:wc.cell? ⟨W.heap.size,5,none⟩=some (.slice A6 0 k6):=bC hB.b0 5
   have d0:wc.cell? ⟨W.heap.size+2,0,none⟩=some (.int .i64 1):=bC hB.b2 0
   have d1:wc.cell? ⟨W.heap.size+2,1,none⟩=some (.int .i64 0):=bC hB.b2 1
   have d2:wc.cell? ⟨W.heap.size+2,2,none⟩=some (.int .i64 0):=bC hB.b2 2
   have d3:wc.cell? ⟨W.heap.size+2,3,none⟩=some (.bool true):=bC hB.b2 3
   have hB:=A0.mk hB
   clear hcs
   have NM:=awk_named wc (hE.out.grow hB.out.below)
   go_upto_region 7 with fail
   go_wp2_with (go_at_call 44;with_reducible refine NM.mono ?_)
   rintro e w1 ⟨rfl,hb1⟩
   have hBl:=A0.mk (hB.out.below.trans (hb1.mono hB.out.below.size))
   have hE1:=A0.mk (hE.out.grow hBl.out)
   have he1:Cs w1 b1 (eC 1 1 nN A7 0 k7 14):=he.out.below hBl.out h1
   have k0:=A0.mk (bB hB.out.b0 hb1)
   clear c0 c1 c2 c3 c4 c5 d0 d1 d2 d3 NM hb1
   have c2:w1.cell? ⟨W.heap.size,2,none⟩=some (.string nN):=bC k0.out 2
   have c3:w1.cell? ⟨W.heap.size,3,none⟩=some (.slice (some b1) 1 k1):=bC k0.out 3
   have c4:w1.cell? ⟨W.heap.size,4,none⟩=some (.slice A5 0 k5):=bC k0.out 4
   have c5:w1.cell? ⟨W.heap.size,5,none⟩=some (.slice A6 0 k6):=bC k0.out 5
   have e0:w1.cell? b1=some (.int .i64 1):=he1 0 _ rfl
   have e1:w1.cell? ⟨b1.block,b1.off+1,none⟩=some (.int .i64 1):=he1 1 _ rfl
   have e2:w1.cell? ⟨b1.block,b1.off+2,none⟩=some (.string nN):=he1 2 _ rfl
   have e3:w1.cell? ⟨b1.block,b1.off+3,none⟩=some (.slice A7 0 k7):=he1 3 _ rfl
   have e4:w1.cell? ⟨b1.block,b1.off+4,none⟩=some (.int .i64 14):=he1 4 _ rfl
   have he1:=A0.mk he1
   go_wp2
   refine wp_loop_rounds 1 ?_
   rw [rounds_succ]
   go_wp2
   refine wp_loop_rounds 2 ?_
   rw [rounds_succ]
   have FE:=fun o=>awk_fitExpr A7 k7 14 (w1.alloc o) (hE1.out.alloc o).ops
   go_wp2_with (go_at_call 115;with_reducible refine (FE _).mono ?_)
   rintro e w2 ⟨rfl,hb2⟩
   have hb3:=(bA w1 (.cells #[.int .i64 1,.int .i64 1,.string nN,.slice A7 0 k7,.int .i64 14] 93)).trans (hb2.mono (by simp))
   have k2:=bB k0.out hb3
   have hBm:=A0.mk (hBl.out.trans (hb3.mono hBl.out.size))
   clear c2 c3 c4 c5 e0 e1 e2 e3 e4 FE hb2 hb3
   have c4:w2.cell? ⟨W.heap.size,4,none⟩=some (.slice A5 0 k5):=bC k2 4
   have k2:=A0.mk k2
   go_wp2
   rw [rounds_succ]
   go_wp2
   refine wp_loop_rounds 1 ?_
   rw [rounds_succ]
   go_wp2
   go_ret
   exact ⟨rfl,hBm.out⟩
set_option maxHeartbeats 4000000 in
theorem awk_deepExpr (A:Option Addr) (k:Nat) (p:Int) (W:World) :
  Calls Tryz.prog 140 #[.agg #[.int .i64 1,.int .i64 1,.string nN,.slice A 0 k,.int .i64 p]] W fun e W'=>e=.returned (.int .i64 0)∧Below W.heap.size W W':=by
 go_enter Tryz.func140,Tryz.ntmps140
 go_wp2
 refine wp_loop_rounds 1 ?_
 rw [rounds_succ]
 go_wp2
 go_ret
 exact ⟨rfl,bA _ _⟩
set_option maxHeartbeats 8000000 in
theorem awk_deepStmt (b1:Addr) (k1:Nat) (A5:Option Addr) (k5:Nat) (A6:Option Addr) (k6:Nat) (A7:Option Addr) (k7:Nat) (W:World) (h1:b1.block<W.heap.size) (he:Cs W b1 (eC 1 1 nN A7 0 k7 14)) :
  Calls Tryz.prog 116 #[.agg #[.int .i64 1,.string ⟨#[120]⟩,.string nN,.slice (some b1) 1 k1,.slice A5 0 k5,.slice A6 0 k6,.int .i64 11]] W fun e W'=>e=.returned (.int .i64 0)∧Below W.heap.size W W':=by
 have e0:W.cell? b1=some (.int .i64 1):=he 0 _ rfl
 have e1:W.cell? ⟨b1.block,b1.off+1,none⟩=some (.int .i64 1):=he 1 _ rfl
 have e2:W.cell? ⟨b1.block,b1.off+2,none⟩=some (.string nN):=he 2 _ rfl
 have e3:W.cell? ⟨b1.block,b1.off+3,none⟩=some (.slice A7 0 k7):=he 3 _ rfl
 have e4:W.cell? ⟨b1.block,b1.off+4,none⟩=some (.int .i64 14):=he 4 _ rfl
 have he:=A0.mk he
 have DE:=fun o o2=>awk_deepExpr A7 k7 14 ((W.alloc o).alloc o2)
 go_enter Tryz.func116,Tryz.ntmps116
 go_wp2
 refine wp_loop_rounds 2 ?_
 rw [rounds_succ]
 go_wp2_with (go_at_call 140;with_reducible refine (DE _ _).mono ?_)
 rintro e w1 ⟨rfl,hb⟩
 have k0:=(hb.block W.heap.size (by simp;omega)).trans ((_root_.Go.heap_alloc_old _ (.cells #[.int .i64 1,.int .i64 1,.string nN,.slice A7 0 k7,.int .i64 14] 93) (by simp)).trans (bN W (.cells #[.int .i64 1,.string ⟨#[120]⟩,.string nN,.slice (some b1) 1 k1,.slice A5 0 k5,.slice A6 0 k6,.int .i64 11] 107)))
 have hbl:=A0.mk (((bA W (.cells #[.int .i64 1,.string ⟨#[120]⟩,.string nN,.slice (some b1) 1 k1,.slice A5 0 k5,.slice A6 0 k6,.int .i64 11] 107)).alloc (by simp) (.cells #[.int .i64 1,.int .i64 1,.string nN,.slice A7 0 k7,.int .i64 14] 93)).trans (hb.mono (by simp;omega)))
 clear e0 e1 e2 e3 e4 DE hb
 have c0:w1.cell? ⟨W.heap.size,0,none⟩=some (.int .i64 1):=bC k0 0
 have c4:w1.cell? ⟨W.heap.size,4,none⟩=some (.slice A5 0 k5):=bC k0 4
 have k0:=A0.mk k0
 go_wp2
 rw [rounds_succ]
 go_wp2
 refine wp_loop_rounds 1 ?_
 rw [rounds_succ]
 go_wp2
 go_ret
 exact ⟨rfl,hbl.out⟩
set_option maxHeartbeats 4000000 in
theorem fitStmts_nil (A:Option Addr) (k:Nat) (W:World):Calls Tryz.prog 45 #[.slice A 0 k] W fun e W'=>e=.returned (.bool true)∧W'=W:=by
 go_enter Tryz.func45,Tryz.ntmps45
 go_wp2
 refine wp_loop_rounds 1 ?_
 rw [rounds_succ]
 go_wp2
 go_ret
 exact ⟨rfl,rfl⟩
set_option maxHeartbeats 4000000 in
theorem deepStmts_nil (A:Option Addr) (k:Nat) (W:World):Calls Tryz.prog 82 #[.slice A 0 k] W fun e W'=>e=.returned (.int .i64 0)∧W'=W:=by
 go_enter Tryz.func82,Tryz.ntmps82
 go_wp2
 refine wp_loop_rounds 1 ?_
 rw [rounds_succ]
 go_wp2
 go_ret
 exact ⟨rfl,rfl⟩
set_option maxHeartbeats 4000000 in
theorem fitStmts_awk (b4 b1:Addr) (k4 k1:Nat) (A5:Option Addr) (k5:Nat) (A6:Option Addr) (k6:Nat) (A7:Option Addr) (k7:Nat) (W:World) (hE:Env W) (h:AwkAt W.heap.size W b4 b1 k1 A5 k5 A6 k6 A7 k7) (_h4:1≤k4) :
  Calls Tryz.prog 45 #[.slice (some b4) 1 k4] W fun e W'=>e=.returned (.bool true)∧Below W.heap.size W W':=by
 have l4:=h.l4
 have e0:W.cell? b4=some (.int .i64 1):=h.s 0 _ rfl
 have e1:W.cell? ⟨b4.block,b4.off+1,none⟩=some (.string ⟨#[120]⟩):=h.s 1 _ rfl
 have e2:W.cell? ⟨b4.block,b4.off+2,none⟩=some (.string nN):=h.s 2 _ rfl
 have e3:W.cell? ⟨b4.block,b4.off+3,none⟩=some (.slice (some b1) 1 k1):=h.s 3 _ rfl
 have e4:W.cell? ⟨b4.block,b4.off+4,none⟩=some (.slice A5 0 k5):=h.s 4 _ rfl
 have e5:W.cell? ⟨b4.block,b4.off+5,none⟩=some (.slice A6 0 k6):=h.s 5 _ rfl
 have e6:W.cell? ⟨b4.block,b4.off+6,none⟩=some (.int .i64 11):=h.s 6 _ rfl
 have FS:=fun o=>awk_fitStmt b1 k1 A5 k5 A6 k6 A7 k7 (W.alloc o) (hE.alloc o) (by have:=h.l1;simp;omega) (h.e.below (bA _ o) h.l1)
 clear h hE
 go_enter Tryz.func45,Tryz.ntmps45
 go_wp2
 refine wp_loop_rounds 2 ?_
 rw [rounds_succ]
 go_wp2_with (go_at_call 81;with_reducible refine (FS _).mono ?_)
 rintro e w1 ⟨rfl,hb⟩
 have hbl:=A0.mk ((bA W (.cells #[.int .i64 1,.string ⟨#[120]⟩,.string nN,.slice (some b1) 1 k1,.slice A5 0 k5,.slice A6 0 k6,.int .i64 11] 107)).trans (hb.mono (by simp)))
 clear e0 e1 e2 e3 e4 e5 e6 FS hb
 go_wp2
 rw [rounds_succ]
 go_wp2
 go_ret
 exact ⟨rfl,hbl.out⟩
set_option maxHeartbeats 4000000 in
theorem deepStmts_awk (b4 b1:Addr) (k4 k1:Nat) (A5:Option Addr) (k5:Nat) (A6:Option Addr) (k6:Nat) (A7:Option Addr) (k7:Nat) (W:World) (h:AwkAt W.heap.size W b4 b1 k1 A5 k5 A6 k6 A7 k7) (_h4:1≤k4) :
  Calls Tryz.prog 82 #[.slice (some b4) 1 k4] W fun e W'=>e=.returned (.int .i64 0)∧Below W.heap.size W W':=by
 have l4:=h.l4
 have e0:W.cell? b4=some (.int .i64 1):=h.s 0 _ rfl
 have e1:W.cell? ⟨b4.block,b4.off+1,none⟩=some (.string ⟨#[120]⟩):=h.s 1 _ rfl
 have e2:W.cell? ⟨b4.block,b4.off+2,none⟩=some (.string nN):=h.s 2 _ rfl
 have e3:W.cell? ⟨b4.block,b4.off+3,none⟩=some (.slice (some b1) 1 k1):=h.s 3 _ rfl
 have e4:W.cell? ⟨b4.block,b4.off+4,none⟩=some (.slice A5 0 k5):=h.s 4 _ rfl
 have e5:W.cell? ⟨b4.block,b4.off+5,none⟩=some (.slice A6 0 k6):=h.s 5 _ rfl
 have e6:W.cell? ⟨b4.block,b4.off+6,none⟩=some (.int .i64 11):=h.s 6 _ rfl
 have FS:=fun o=>awk_deepStmt b1 k1 A5 k5 A6 k6 A7 k7 (W.alloc o) (by have:=h.l1;simp;omega) (h.e.below (bA _ o) h.l1)
 clear h
 go_enter Tryz.func82,Tryz.ntmps82
 go_wp2
 refine wp_loop_rounds 2 ?_
 rw [rounds_succ]
 go_wp2_with (go_at_call 116;with_reducible refine (FS _).mono ?_)
 rintro e w1 ⟨rfl,hb⟩
 have hbl:=A0.mk ((bA W (.cells #[.int .i64 1,.string ⟨#[120]⟩,.string nN,.slice (some b1) 1 k1,.slice A5 0 k5,.slice A6 0 k6,.int .i64 11] 107)).trans (hb.mono (by simp)))
 clear e0 e1 e2 e3 e4 e5 e6 FS hb
 go_wp2
 rw [rounds_succ]
 go_wp2
 go_ret
 exact ⟨rfl,hbl.out⟩
end Go.Proofs.YtgaoapnaplgaiaaGreatDoor.Sc
