/- This claim's own texts, joined, with only what the claim uses: AwkE. -/
import Derived.Test.YtgaoapnaplgaiaaGreatDoorZs40
namespace Go.Proofs.YtgaoapnaplgaiaaGreatDoor.Sc
set_option maxRecDepth 100000
open Go.RowKit Tk Go.Proofs.YtgaoapnaplgaiaaGreatDoor.Wd
theorem sh_keep {W w' w1:World} {v2 v3:Value} (hb:Below w'.heap.size w' w1) (h:Below W.heap.size W w'∧W.heap.size+1≤w'.heap.size∧w'.cell? ⟨W.heap.size,2,none⟩=some v2∧w'.cell? ⟨W.heap.size,3,none⟩=some v3) :
  Below W.heap.size W w1∧W.heap.size+1≤w1.heap.size∧w1.cell? ⟨W.heap.size,2,none⟩=some v2∧w1.cell? ⟨W.heap.size,3,none⟩=some v3 :=
 ⟨h.1.trans (hb.mono h.1.size),Nat.le_trans h.2.1 hb.size,(hb.cell (p:=⟨W.heap.size,2,none⟩) h.2.1).trans h.2.2.1,(hb.cell (p:=⟨W.heap.size,3,none⟩) h.2.1).trans h.2.2.2⟩
theorem sh_start {W:World} {v0 v1 v2 v3:Value}:Below W.heap.size W (W.alloc (.cells #[v0,v1,v2,v3] 27)).drew∧W.heap.size+1≤(W.alloc (.cells #[v0,v1,v2,v3] 27)).drew.heap.size∧(W.alloc (.cells #[v0,v1,v2,v3] 27)).drew.cell? ⟨W.heap.size,2,none⟩=some v2∧(W.alloc (.cells #[v0,v1,v2,v3] 27)).drew.cell? ⟨W.heap.size,3,none⟩=some v3 :=
 ⟨(bA W _).drew,by simp,bC (bN W (.cells #[v0,v1,v2,v3] 27)) 2,bC (bN W (.cells #[v0,v1,v2,v3] 27)) 3⟩
set_option maxHeartbeats 4000000 in
theorem awk_shallow (A1:Option Addr) (c1:Nat) (A2:Option Addr) (c2:Nat) (A3:Option Addr) (c3:Nat) (b4 b1:Addr) (k4 k1:Nat) (A5:Option Addr) (k5:Nat) (A6:Option Addr) (k6:Nat) (A7:Option Addr) (k7:Nat) (W:World) (h:AwkAt W.heap.size W b4 b1 k1 A5 k5 A6 k6 A7 k7) (h4:1≤k4) :
  Calls Tryz.prog 46 #[.agg #[.slice A1 0 c1,.slice A2 0 c2,.slice A3 0 c3,.slice (some b4) 1 k4]] W fun e W'=>e=.returned (.bool true)∧Below W.heap.size W W':=by
 have DN:=A0.mk (fun W'=>deepStmts_nil A3 c3 W')
 have DA:∀W',Below W.heap.size W W'→Calls Tryz.prog 82 #[.slice (some b4) 1 k4] W' fun e W2=>e=.returned (.int .i64 0)∧Below W'.heap.size W' W2:=fun W' hb=>deepStmts_awk b4 b1 k4 k1 A5 k5 A6 k6 A7 k7 W' ((h.below hb).more hb.size) h4
 have DA2:=A0.mk DA
 clear h DA h4
 go_enter Tryz.func46,Tryz.ntmps46
 go_wp2
 refine wp_loop_rounds 1 ?_
 rw [rounds_succ]
 go_wp2
 refine wp_loop_rounds 1 ?_
 rw [rounds_succ]
 go_wp2
 go_region_held3 (fun w':World=>Below W.heap.size W w'∧W.heap.size+1≤w'.heap.size∧w'.cell? ⟨W.heap.size,2,none⟩=some (.slice A3 0 c3)∧w'.cell? ⟨W.heap.size,3,none⟩=some (.slice (some b4) 1 k4))
  (first | with_reducible exact sh_start | with_reducible exact sh_keep (by assumption) (by assumption) | with_reducible assumption)
  (first|(go_at_call 82;(with_reducible refine (DN.out _).mono ?_);rintro e w1 ⟨rfl,rfl⟩)|(go_at_call 82;(with_reducible refine (DA2.out _ (And.left (by assumption))).mono ?_);rintro e w1 ⟨rfl,hb⟩))
 all_goals (
  rename_i hS
  go_wp2
  go_ret
  exact ⟨rfl,hS.1⟩)
set_option maxHeartbeats 4000000 in
theorem awk_fit (A1:Option Addr) (c1:Nat) (A2:Option Addr) (c2:Nat) (A3:Option Addr) (c3:Nat) (b4 b1:Addr) (k4 k1:Nat) (A5:Option Addr) (k5:Nat) (A6:Option Addr) (k6:Nat) (A7:Option Addr) (k7:Nat) (W:World) (hE:Env W) (h:AwkAt W.heap.size W b4 b1 k1 A5 k5 A6 k6 A7 k7) (h4:1≤k4) :
  Calls Tryz.prog 18 #[.agg #[.slice A1 0 c1,.slice A2 0 c2,.slice A3 0 c3,.slice (some b4) 1 k4]] W fun e W'=>e=.returned (.bool true)∧Below W.heap.size W W':=by
 have FN:=A0.mk (fun W'=>fitStmts_nil A3 c3 W')
 have FA:=A0.mk (fun o=>fitStmts_awk b4 b1 k4 k1 A5 k5 A6 k6 A7 k7 (W.alloc o) (hE.alloc o) ((h.below (bA _ o)).more (by simp)) h4)
 have h:=A0.mk h
 have h4:=A0.mk h4
 clear hE
 go_enter Tryz.func18,Tryz.ntmps18
 go_wp2
 refine wp_loop_rounds 1 ?_
 rw [rounds_succ]
 go_wp2
 refine wp_loop_rounds 1 ?_
 rw [rounds_succ]
 go_wp2_with (first|(go_at_call 45;(with_reducible refine (FN.out _).mono ?_);rintro e w1 ⟨rfl,rfl⟩))
 refine (FA.out _).mono ?_
 rintro e w1 ⟨rfl,hb⟩
 have k0:=A0.mk ((hb.block W.heap.size (by simp)).trans (bN W (.cells #[.slice A1 0 c1,.slice A2 0 c2,.slice A3 0 c3,.slice (some b4) 1 k4] 27)))
 have hbl:=(bA W (.cells #[.slice A1 0 c1,.slice A2 0 c2,.slice A3 0 c3,.slice (some b4) 1 k4] 27)).trans (hb.mono (by simp))
 have SH:=awk_shallow A1 c1 A2 c2 A3 c3 b4 b1 k4 k1 A5 k5 A6 k6 A7 k7 w1 ((h.out.below hbl).more hbl.size) h4.out
 have hbl:=A0.mk hbl
 clear hb FN FA
 have d0:w1.cell? ⟨W.heap.size,0,none⟩=some (.slice A1 0 c1):=bC k0.out 0
 have d1:w1.cell? ⟨W.heap.size,1,none⟩=some (.slice A2 0 c2):=bC k0.out 1
 have d2:w1.cell? ⟨W.heap.size,2,none⟩=some (.slice A3 0 c3):=bC k0.out 2
 have d3:w1.cell? ⟨W.heap.size,3,none⟩=some (.slice (some b4) 1 k4):=bC k0.out 3
 go_wp2_with (first|(go_at_call 46;(with_reducible refine SH.mono ?_);rintro e w2 ⟨rfl,hb2⟩))
 go_ret
 exact ⟨rfl,hbl.out.trans (hb2.mono hbl.out.size)⟩
end Go.Proofs.YtgaoapnaplgaiaaGreatDoor.Sc
