/- This claim's own texts, joined, with only what the claim uses: AwkB. -/
import Derived.Test.YtgaoapnaplgaiaaGreatDoorZs30
import Derived.WalkLawsBesides
import Derived.Lib.ConvBytes
namespace Go.Proofs.YtgaoapnaplgaiaaGreatDoor.Sc
set_option maxRecDepth 100000
open Go.RowKit Tk Go.Proofs.YtgaoapnaplgaiaaGreatDoor.Wd
set_option maxHeartbeats 4000000 in
theorem awk_fitExpr (A:Option Addr) (k:Nat) (p:Int) (W:World) (hO:Ops W) :
  Calls Tryz.prog 115 #[.agg #[.int .i64 1,.int .i64 1,.string nN,.slice A 0 k,.int .i64 p]] W fun e W'=>e=.returned (.bool true)∧Below W.heap.size W W':=by
 have hix:∀w,(Instr.index 132 (.agg ((((((((Array.replicate 23 (Value.int .i64 0)).setIfInBounds 3 (.int .i64 1)).setIfInBounds 4 (.int .i64 1)).setIfInBounds 22 (.int .i64 1)).setIfInBounds 12 (.int .i64 1)).setIfInBounds 10 (.int .i64 2)).setIfInBounds 11 (.int .i64 2)).setIfInBounds 13 (.int .i64 3))) (.int .i64 1)).run Tryz.prog w=.ok (.int .i64 0) w:=fun _=>by kernel_rfl
 have hz:∀w,(zeroValue 132).run Tryz.prog w=.ok (.agg (Array.replicate 23 (.int .i64 0))) w:=fun _=>by kernel_rfl
 obtain ⟨t0,f0,e0⟩:=hO.b0
 have g0:W.cell? ⟨0,1,none⟩=some (.int .i64 0):=by simp [World.cell?,e0,binT]
 have hpos:0<W.heap.size:=(Array.getElem?_eq_some_iff.1 e0).1
 clear e0
 go_enter Tryz.func115,Tryz.ntmps115
 go_wp2
 refine wp_loop_rounds 1 ?_
 rw [rounds_succ]
 go_wp2
 go_ret
 exact ⟨rfl,bA _ _⟩
theorem bel_drewN {B:Nat} {w w':World} (h:Below B w w') (q:Nat):Below B w (w'.drewN q):=⟨h.os,h.tape,h.output,h.size,h.block⟩
structure Env (w:World):Prop where
 tab:HasTab w
 ops:Ops w
 mx:∃m,w.cell? ⟨2,0,none⟩=some (.int .i64 m)
theorem Env.below {w w':World} (h:Env w) (hb:Below w.heap.size w w'):Env w':=by
 have hp:=h.tab.pos
 obtain ⟨m,hm⟩:=h.mx
 exact ⟨h.tab.below hb hp,h.ops.keep (hb.block 0 (by omega)) (hb.block 1 (by omega)),m,(hb.cell (World.block_lt_of_cell? w _ hm)).trans hm⟩
theorem str_bytes (s:ByteArray) (w:World):∃cap W',(convert 9 22 (.string s)).run Tryz.prog w=.ok (.slice (some ⟨w.heap.size,0,none⟩) s.size cap) W'∧s.size≤cap∧Below w.heap.size w W'∧Lies W' (some ⟨w.heap.size,0,none⟩) s.size (nums s)∧W'.heap.size=w.heap.size+1:=by
 refine ⟨_,_,Lib.run_convert_string_bytes w 9 22 5 s Tryz.underlying9 Tryz.underlying22 Tryz.underlying5,?_,?_,fun i hi=>⟨_,rfl,?_⟩,Lib.bytesWorld_size w 5 s⟩
 ·unfold grownCap
  exact Nat.le_add_right _ _
 ·exact Lib.below_freeze ((Below.refl w.heap.size w).drew.alloc (Nat.le_refl _) _) (p:=⟨w.heap.size,_,none⟩) (Nat.le_refl _) 1
 ·rw [show (⟨w.heap.size,0,none⟩:Addr).add i=⟨w.heap.size,i,none⟩ by unfold Addr.add;split <;> simp_all,Lib.bytesWorld_cell w 5 s i hi]
  have:i<s.data.toList.length:=by simpa using hi
  rw [List.getD_eq_getElem?_getD,List.getD_eq_getElem?_getD,nums,List.getElem?_map,List.getElem?_eq_getElem this]
  rfl
inductive ScanO (n:Nat) (xs:List Int) (w:World):Ending→World→Prop
 | long {W:World}:65536<n→Below w.heap.size w W→ScanO n xs w (.returned (.tuple #[.slice none 0 0,.agg #[.int .i64 0,.int .i64 30]])) W
 | bad (p er:Int) {W:World}:n≤65536→scan KB xs 0 []=.bad p er→Below w.heap.size w W→ScanO n xs w (.returned (.tuple #[.slice none 0 0,.agg #[.int .i64 p,.int .i64 er]])) W
 | toks (l:List Tok) (B:Option Addr) (c:Nat) {W:World}:n≤65536→scan KB xs 0 []=.toks l→Below w.heap.size w W→l.length≤c→(∀x,B=some x→w.heap.size+2≤x.block∧x.block<W.heap.size)→TokAt W B l→ScanO n xs w (.returned (.tuple #[.slice B l.length c,.agg #[.int .i64 0,.int .i64 0]])) W
theorem scan_call (A:Option Addr) (n cap:Nat) (xs:List Int) (w:World) (hcap:n≤cap) (hx:xs.length=n) (hB:∀c ∈ xs,Byte c) (hE:Env w) (hL:Lies w A n xs) (hA:∀a,A=some a→a.block<w.heap.size) :
  Calls Tryz.prog 14 #[.slice A n cap] w (ScanO n xs w):=by
 rcases Nat.lt_or_ge 65536 n with h | h
 ·refine (scan_long A n cap w h).mono ?_
  rintro e W ⟨hb,rfl⟩
  exact .long h hb
 ·refine scan_short A n cap xs w h hcap hx hB hE.tab hL hA hE.mx _ (fun p er W hs hb=>?_) fun l v W hs hb ho=>?_
  ·exact .bad p er h hs hb
  ·obtain ⟨B,tc,rfl,hle,hBB,ht⟩:=own_toks ho
   exact .toks l B tc h hs hb hle hBB ht
set_option maxHeartbeats 4000000 in
theorem awk_named (W:World) (hE:Env W):Calls Tryz.prog 44 #[.string ⟨#[120]⟩] W fun e W'=>e=.returned (.bool true)∧Below W.heap.size W W':=by
 obtain ⟨cap,W1,hcv,hcap,hb,hL,hz⟩:=str_bytes ⟨#[120]⟩ W
 rw [show (⟨#[120]⟩:ByteArray).size=1 from rfl] at hcv hcap hL
 rw [show nums ⟨#[120]⟩=[120] from rfl] at hL
 have SC:=scan_call (some ⟨W.heap.size,0,none⟩) 1 cap [120] W1 hcap rfl (by intro c hc;simp at hc;subst hc;exact ⟨by omega,by omega⟩) (hE.below hb) hL (by intro a e;cases e;dsimp only;omega)
 have hk:scan KB [120] 0 []=.toks [(1,0,1,0)]:=by kernel_rfl
 have hk:=A0.mk hk
 go_enter Tryz.func44,Tryz.ntmps44
 go_wp2_with (go_at_call 14;with_reducible refine SC.mono ?_)
 rintro e w2 hS
 cases hS with
 | long h=>omega
 | bad p er h hs=>exact absurd (hk.out.symm.trans hs) (by intro h;cases h)
 | toks l B tc hn hs hb2 hle hBB ht =>
  have hl:l=[(1,0,1,0)]:=by
   have:=hk.out.symm.trans hs
   cases this
   rfl
  subst hl
  obtain ⟨b,rfl,q0,q1,q2,q3⟩:=ht 0 (by decide)
  have hbs:b.block<w2.heap.size:=(hBB b rfl).2
  have e0:w2.cell? b=some (.int .i64 1):=q0
  have e1:w2.cell? ⟨b.block,b.off+1,none⟩=some (.int .i64 0):=q1
  have e2:w2.cell? ⟨b.block,b.off+2,none⟩=some (.int .i64 1):=q2
  have hb3:Below W.heap.size W w2:=hb.trans (hb2.mono (by omega))
  have hsz:=hb3.size
  clear hs hk SC hcv hL hE q0 q1 q2 q3 hBB ht hb hb2 hcap hz
  go_wp2
  go_quiet (fail)
  go_wp2
  go_ret
  exact ⟨rfl,bel_drewN (hb3.alloc (by omega) _) _⟩
end Go.Proofs.YtgaoapnaplgaiaaGreatDoor.Sc
