/- This claim's own texts, joined, with only what the claim uses: ParZh. -/
import Derived.Test.YtgaoapnaplgaiaaGreatDoorZs25
import Derived.Defers
import Derived.Recover
namespace Go.Proofs.YtgaoapnaplgaiaaGreatDoor.Sc
set_option maxRecDepth 100000
open Go.RowKit Tk Go.Proofs.YtgaoapnaplgaiaaGreatDoor.Wd
theorem catch_idle (p t f:Value) (w:World) :
  CallsD Tryz.prog 28 #[p,t,f] .returning w fun e u' w'=>e=.returned (.tuple #[])∧u'=.returning∧w'=w:=by
 refine callsD_of_wpS Tryz.func28 rfl fun c₀ cs hu=>?_
 apply wpS_seq
 apply wpS_region
 simp [wpOpsS,go_sem,recoverD,hu,Tryz.ntmps28,Exit.thenS]
 apply wpS_seq
 apply wpS_region
 simp [wpOpsS,go_sem,recoverD,hu,Tryz.ntmps28,Exit.thenS]
 refine wpS_cond (t:=false) (by simp [Act.eval,Array.replicate]) ?_
 simp only [Bool.false_eq_true,if_false]
 refine wpS_of_wp (wp_skip ?_)
 cases c₀
 simp_all [bodyPostS,results,Tryz.results28]
theorem catch_end {w w1:World} {tb fb:Nat} {x0 x1 x2 x3 u0 u1 u2 u3 y0 y1 z0 z1:Value} (hA:Below w.heap.size w w1) (hne:tb≠fb)
  (t1:w1.heap[tb]?=some (.cells #[x0,x1,x2,x3] 27 (0,0))) (f1:w1.heap[fb]?=some (.cells #[y0,y1] 30 (0,0))) :
  (((((((w1.setCell ⟨tb,0,none⟩ u0).setCell ⟨tb,1,none⟩ u1).setCell ⟨tb,2,none⟩ u2).setCell ⟨tb,3,none⟩ u3).setCell ⟨fb,0,none⟩ z0).setCell ⟨fb,1,none⟩ z1).heap[tb]?=some (.cells #[u0,u1,u2,u3] 27 (0,0))) ∧
  (((((((w1.setCell ⟨tb,0,none⟩ u0).setCell ⟨tb,1,none⟩ u1).setCell ⟨tb,2,none⟩ u2).setCell ⟨tb,3,none⟩ u3).setCell ⟨fb,0,none⟩ z0).setCell ⟨fb,1,none⟩ z1).heap[fb]?=some (.cells #[z0,z1] 30 (0,0))) ∧
  ∀lo,lo≤tb→lo≤fb→lo≤w.heap.size→Below lo w ((((((w1.setCell ⟨tb,0,none⟩ u0).setCell ⟨tb,1,none⟩ u1).setCell ⟨tb,2,none⟩ u2).setCell ⟨tb,3,none⟩ u3).setCell ⟨fb,0,none⟩ z0).setCell ⟨fb,1,none⟩ z1):=by
 have T:=bP (bP (bP (bP t1 0 u0 rfl) 1 u1 rfl) 2 u2 rfl) 3 u3 rfl
 have F:=Q5 (Q5 (Q5 (Q5 f1 (p:=⟨tb,0,none⟩) (fun e=>hne e.symm) u0) (p:=⟨tb,1,none⟩) (fun e=>hne e.symm) u1) (p:=⟨tb,2,none⟩) (fun e=>hne e.symm) u2) (p:=⟨tb,3,none⟩) (fun e=>hne e.symm) u3
 refine ⟨Q5 (Q5 T (p:=⟨fb,0,none⟩) hne z0) (p:=⟨fb,1,none⟩) hne z1,bP (bP F 0 z0 rfl) 1 z1 rfl,fun lo a b c=>?_⟩
 exact ((((((hA.mono c).setCell a u0).setCell a u1).setCell a u2).setCell a u3).setCell b z0).setCell b z1
set_option maxHeartbeats 4000000 in
theorem catch_panicking (pb tb fb g:Nat) (x0 x1 x2 x3:Value) (y0 y1 fp fe:Int) (older:List PanicEntry) (w:World)
  (hp:w.cell? ⟨pb,0,none⟩=some (.pointer (some ⟨g,0,none⟩)))
  (h4:w.cell? ⟨g,4,none⟩=some (.int .i64 fp)) (h5:w.cell? ⟨g,5,none⟩=some (.int .i64 fe))
  (ht:w.heap[tb]?=some (.cells #[x0,x1,x2,x3] 27 (0,0))) (hf:w.heap[fb]?=some (.cells #[.int .i64 y0,.int .i64 y1] 30 (0,0))) (hne:tb≠fb) :
  CallsD Tryz.prog 28 #[.pointer (some ⟨pb,0,none⟩),.pointer (some ⟨tb,0,none⟩),.pointer (some ⟨fb,0,none⟩)] (.panicking ({ v:=.iface 58 (.agg #[]),recovered:=false } :: older)) w fun e u' w' =>
   e=.returned (.tuple #[])∧u'=.panicking ({ v:=.iface 58 (.agg #[]),recovered:=true } :: older)∧w'.heap[tb]?=some (.cells #[.slice none 0 0,.slice none 0 0,.slice none 0 0,.slice none 0 0] 27 (0,0))∧w'.heap[fb]?=some (.cells #[.int .i64 fp,.int .i64 fe] 30 (0,0))∧∀lo,lo≤tb→lo≤fb→lo≤w.heap.size→Below lo w w':=by
 refine callsD_of_wpS Tryz.func28 rfl fun c₀ cs hu=>?_
 apply wpS_seq
 apply wpS_region
 simp [wpOpsS,go_sem,recoverD,hu,Tryz.ntmps28,Exit.thenS]
 apply wpS_seq
 apply wpS_region
 simp [wpOpsS,go_sem,recoverD,hu,Tryz.ntmps28,Exit.thenS]
 refine wpS_cond (t:=true) (by simp [Act.eval,Array.replicate]) ?_
 simp only [if_true]
 refine wpS_of_wp ?_
 have hta:∀w,(Instr.typeAssert (.iface 58 (.agg #[])) 20 58 true).run Tryz.prog w=.ok (.tuple #[.agg #[],.bool true]) w:=fun _=>by kernel_rfl
 have hne':¬ tb=fb:=hne
 have hnf:¬ fb=tb:=fun e=>hne e.symm
 have A:∀o,Below w.heap.size w (w.alloc o):=fun o=>bA _ o
 have p0:∀o,(w.alloc o).cell? ⟨pb,0,none⟩=some (.pointer (some ⟨g,0,none⟩)):=fun o=>((A o).cell (World.block_lt_of_cell? w _ hp)).trans hp
 have p4:∀o,(w.alloc o).cell? ⟨g,4,none⟩=some (.int .i64 fp):=fun o=>((A o).cell (World.block_lt_of_cell? w _ h4)).trans h4
 have p5:∀o,(w.alloc o).cell? ⟨g,5,none⟩=some (.int .i64 fe):=fun o=>((A o).cell (World.block_lt_of_cell? w _ h5)).trans h5
 have hA:=A (.cells #[] 58)
 have t0:∀o,(w.alloc o).heap[tb]?=some (.cells #[x0,x1,x2,x3] 27 (0,0)):=fun o=>bB ht (A o)
 have f0:∀o,(w.alloc o).heap[fb]?=some (.cells #[.int .i64 y0,.int .i64 y1] 30 (0,0)):=fun o=>bB hf (A o)
 have t1:=t0 (.cells #[] 58)
 have f1:=f0 (.cells #[] 58)
 have tc0:∀o,(w.alloc o).cell? ⟨tb,0,none⟩=some x0:=fun o=>bC (t0 o) 0
 have tc1:∀o,(w.alloc o).cell? ⟨tb,1,none⟩=some x1:=fun o=>bC (t0 o) 1
 have tc2:∀o,(w.alloc o).cell? ⟨tb,2,none⟩=some x2:=fun o=>bC (t0 o) 2
 have tc3:∀o,(w.alloc o).cell? ⟨tb,3,none⟩=some x3:=fun o=>bC (t0 o) 3
 have fc0:∀o,(w.alloc o).cell? ⟨fb,0,none⟩=some (.int .i64 y0):=fun o=>bC (f0 o) 0
 have fc1:∀o,(w.alloc o).cell? ⟨fb,1,none⟩=some (.int .i64 y1):=fun o=>bC (f0 o) 1
 have tz:∀o i,(w.alloc o).frozen? ⟨tb,i,none⟩=false:=fun o i=>bF (t0 o) i
 have fz:∀o i,(w.alloc o).frozen? ⟨fb,i,none⟩=false:=fun o i=>bF (f0 o) i
 show Code.wp _ _ _ (⟨#[.pointer (some ⟨pb,0,none⟩),.pointer (some ⟨tb,0,none⟩),.pointer (some ⟨fb,0,none⟩),.iface 58 (.agg #[]),undef,undef,.iface 58 (.agg #[]),.iface 58 (.agg #[]),.bool true,undef,undef,undef,undef,undef,undef,undef,undef,undef,undef,undef,undef,undef],[]⟩:Act) w
 go_wp2
 generalize w.alloc (.cells #[] 58)=w1 at t1 f1 hA ⊢
 simp [bodyPostS,results,Tryz.results28]
 exact catch_end hA hne t1 f1
end Go.Proofs.YtgaoapnaplgaiaaGreatDoor.Sc
