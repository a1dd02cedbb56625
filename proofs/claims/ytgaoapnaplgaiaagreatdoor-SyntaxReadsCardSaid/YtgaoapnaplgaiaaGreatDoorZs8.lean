/- This claim's own texts, joined, with only what the claim uses: ScanE. -/
import Derived.Test.YtgaoapnaplgaiaaGreatDoorZs7
import Derived.Deep.RegionHeld3
import Derived.Deep.DeepCutAuto
import Derived.Outline
import Derived.Shelf.Bytes.SlEqualAll
namespace Go.Proofs.YtgaoapnaplgaiaaGreatDoor.Sc
set_option maxRecDepth 100000
open Go.RowKit Tk
def tok4 (k p e v:Int):Value:=.agg #[.int .i64 k,.int .i64 p,.int .i64 e,.int .i64 v]
theorem cells2 {w:World} {a:Addr} {v:Value} (h:w.cell? a=some v) (o o2:Obj):((w.alloc o).alloc o2).cell? a=some v:=by
 have h1:=(((Below.refl _ _).alloc (Nat.le_refl _) o).cell (World.block_lt_of_cell? w _ h)).trans h
 exact (((Below.refl _ _).alloc (Nat.le_refl _) o2).cell (World.block_lt_of_cell? _ _ h1)).trans h1
theorem lies2 {w:World} {A:Option Addr} {n:Nat} {xs:List Int} (hL:Lies w A n xs) (o o2:Obj) (q:Nat):Lies (((w.alloc o).alloc o2).drewN q) A n xs:=by
 intro i hi
 obtain ⟨a,e,h⟩:=hL i hi
 exact ⟨a,e,cells2 h o o2⟩
theorem tab2 {w:World} (hT:HasTab w) (o o2:Obj) (q:Nat):HasTab (((w.alloc o).alloc o2).drewN q):=by
 obtain ⟨t,fr,h⟩:=hT.below ((Below.refl w.heap.size w).alloc (Nat.le_refl _) o) hT.pos
 obtain ⟨t,fr,h⟩:=HasTab.below ⟨t,fr,h⟩ ((Below.refl _ _).alloc (Nat.le_refl _) o2) (HasTab.pos ⟨t,fr,h⟩)
 exact ⟨t,fr,h⟩
theorem bel2 (w:World) (o o2:Obj) (q:Nat):Below w.heap.size w (((w.alloc o).alloc o2).drewN q):=by
 have h:=((Below.refl w.heap.size w).alloc (Nat.le_refl _) o).alloc (by simp) o2
 exact ⟨h.os,h.tape,h.output,h.size,h.block⟩
theorem two_word:two 1 2=isWord:=by
 funext c
 unfold two isWord
 rw [Bool.eq_iff_iff]
 simp only [Bool.or_eq_true,beq_iff_eq,cls]
 cases iD c <;> cases iL c <;> cases isBlank c <;> simp
theorem two_digit:two 2 2=iD:=by
 funext c
 unfold two
 rw [Bool.eq_iff_iff]
 simp only [Bool.or_eq_true,beq_iff_eq,cls]
 cases iD c <;> cases iL c <;> cases isBlank c <;> simp
theorem run2 {a b:Int} {f:Int→Bool} (hf:two a b=f) {g:Nat} {A:Option Addr} {n cap p:Nat} {xs:List Int} {w:World} (hn:n≤65536) (hx:xs.length=n) (hp:p≤n)
  (c0:w.cell? ⟨g,0,none⟩=some (.slice A n cap)) (c1:w.cell? ⟨g,1,none⟩=some (.int .i64 p)) (hL:Lies w A n xs) (o o2:Obj) (q:Nat) :
  Calls Tryz.prog 76 #[.pointer (some ⟨g,0,none⟩),.int .i64 a,.int .i64 b] (((w.alloc o).alloc o2).drewN q) fun e w'=>e=.returned (.int .i64 (rL f (xs.drop p)))∧∃q',w'=((w.alloc o).alloc o2).drewN (q+q'):=by
 subst hf
 refine (run_walk a b g A n cap p xs (((w.alloc o).alloc o2).drewN q) (by omega) hx hp ⟨cells2 c0 o o2,cells2 c1 o o2⟩ (lies2 hL o o2 q)).mono ?_
 rintro e w' ⟨rfl,q',rfl⟩
 exact ⟨rfl,q',by simp⟩
theorem slice_mid (w:World) (A:Option Addr) (n cap l h:Nat) (hl:l≤h) (hh:h≤cap) :
  (Instr.sliceAt 22 (.slice A n cap) (some (.int .i64 (l:Int))) (some (.int .i64 (h:Int))) none).run Tryz.prog w=.ok (.slice (tl A cap l) (h - l) (cap - l)) w:=by
 rw [run_sliceAt_slice (h:=by rw [Tryz.underlying22];rfl),run_slice_lh (ht:=by rw [Tryz.underlying22];rfl) (h0:=by omega) (h1:=by omega) (h2:=by omega)]
 go_simp
 rfl
theorem Lies.mid {w:World} {A:Option Addr} {n cap l m:Nat} {xs:List Int} (h:Lies w A n xs) (hc:n≤cap) (hm:l+m≤n):Lies w (tl A cap l) m ((xs.drop l).take m):=by
 intro i hi
 obtain ⟨a,e,ha⟩:=(h.from (l:=l) hc) i (by omega)
 refine ⟨a,e,?_⟩
 rw [ha]
 simp [List.getD,hi]
theorem conv2 {A:Option Addr} {n cap p m:Nat} {xs:List Int} {w:World} (hx:xs.length=n) (hc:n≤cap) (hm:p+m≤n) (hL:Lies w A n xs) (o o2:Obj) (q:Nat) :
  (convert 22 9 (.slice (tl A cap p) m (cap - p))).run Tryz.prog (((w.alloc o).alloc o2).drewN q)=.ok (.string (strOfNums ((xs.drop p).take m))) (((w.alloc o).alloc o2).drewN q) :=
 ((lies2 hL o o2 q).mid hc hm).bytes.convert (by simp;omega) _ 22 5 9 Tryz.underlying22 Tryz.underlying5 Tryz.underlying9
set_option maxRecDepth 100000 in
set_option maxHeartbeats 4000000 in
theorem next_letter {g:Nat} {A:Option Addr} {n cap:Nat} {xs:List Int} (w:World) (hn:n≤65536) (hcap:n≤cap) (hx:xs.length=n) (hT:HasTab w)
  (p:Nat) (hp:p<n) (c0:w.cell? ⟨g,0,none⟩=some (.slice A n cap)) (c1:w.cell? ⟨g,1,none⟩=some (.int .i64 p)) (hL:Lies w A n xs) (hz:iL (xs.getD p 0)=true) (m:Nat) (hm:rL isWord (xs.drop p)=m) (hm2:p+m≤n) (K:Int) (hK:KB ((xs.drop p).take m)=K) :
  Calls Tryz.prog 40 #[.pointer (some ⟨g,0,none⟩)] w fun e w'=>Below w.heap.size w w' ∧
   e=(if K=0 then (if 32<m then .returned (.tuple #[tok4 1 p ((p+m:Nat):Int) 0,.int .i64 33]) else .returned (.tuple #[tok4 1 p ((p+m:Nat):Int) 0,.int .i64 0])) else .returned (.tuple #[tok4 K p ((p+m:Nat):Int) 0,.int .i64 0])):=by
 have kk0:=cells2 c0
 have kk1:=cells2 c1
 have k0:∀o,(w.alloc o).cell? ⟨g,0,none⟩=some (.slice A n cap):=fun o=>(((Below.refl _ _).alloc (Nat.le_refl _) o).cell (World.block_lt_of_cell? w _ c0)).trans c0
 have k1:∀o,(w.alloc o).cell? ⟨g,1,none⟩=some (.int .i64 p):=fun o=>(((Below.refl _ _).alloc (Nat.le_refl _) o).cell (World.block_lt_of_cell? w _ c1)).trans c1
 have hLL:=hL
 obtain ⟨a0,rfl,hcell⟩:=hL p hp
 have kz:∀o o2,((w.alloc o).alloc o2).cell? (a0.add p)=some (.int .u8 (xs.getD p 0)):=fun o o2=>cells2 hcell o o2
 generalize xs.getD p 0=z at *
 have g0:(0:Int)≤(p:Int):=by omega
 have g1:(p:Int)<(n:Int):=by omega
 have hb0:Below w.heap.size w w:=Below.refl _ _
 have sd:∀(W:World) (j:Nat) (x:Addr) (v:Value),(W.drewN j).setCell x v=(W.setCell x v).drewN j:=fun _ _ _ _=>rfl
 have dd:∀(W:World) (j:Nat),(W.drewN j).drew=W.drewN (j+1):=fun _ _=>rfl
 have hc1:cls z=1:=by
  unfold iL at hz
  simp only [Bool.or_eq_true,Bool.and_eq_true,decide_eq_true_eq,beq_iff_eq] at hz
  rw [cls_eq]
  repeat' split
  all_goals omega
 have RUN:=run2 two_word hn hx (Nat.le_of_lt hp) c0 c1 hLL
 rw [hm] at RUN
 obtain ⟨pe,hpe⟩:∃pe,p+m=pe:=⟨_,rfl⟩
 have w1:IntKind.i64.wrap ((p:Int)+(m:Int))=(pe:Int):=by rw [IntWalk.i64_in _ (by omega)];omega
 have hsm:∀w,(Instr.sliceAt 22 (.slice (some a0) n cap) (some (.int .i64 (p:Int))) (some (.int .i64 (pe:Int))) none).run Tryz.prog w=.ok (.slice (tl (some a0) cap p) m (cap - p)) w:=fun w=>by
  have:=slice_mid w (some a0) n cap p pe (by omega) (by omega)
  rwa [show pe - p=m by omega] at this
 have CV:=conv2 (m:=m) hx hcap (by omega) hLL
 have KW:∀o o2 q,Calls Tryz.prog 77 #[.string (strOfNums ((xs.drop p).take m))] (((w.alloc o).alloc o2).drewN q) fun e w'=>e=.returned (.int .i64 K)∧w'=((w.alloc o).alloc o2).drewN q:=fun o o2 q=>by
  have:=kind_walk (strOfNums ((xs.drop p).take m)) _ (tab2 hT o o2 q)
  rw [←hK]
  exact this
 clear hm
 go_enter Tryz.func40,Tryz.ntmps40
 go_wp2
 go_region
 go_wp2
 go_quiet (first|(go_at_call 72;refine (class_walk z _).mono ?_;rintro e w2 ⟨rfl,rfl⟩;exact ⟨rfl,_,rfl⟩))
 go_wp2
 go_region_with (first|(go_at_call 76;with_reducible refine (RUN _ _ _).mono ?_;rintro e w2 ⟨rfl,q2,rfl⟩))
 all_goals go_wp2
 all_goals go_region_with (first|(go_at_call 77;with_reducible refine (KW _ _ _).mono ?_;rintro e w2 ⟨rfl,rfl⟩))
 all_goals (
  have w2:IntKind.i64.wrap ((pe:Int) - (p:Int))=(m:Int):=by (rw [IntWalk.i64_in _ (by omega)];omega)
  by_cases hk0:K=0
  ·subst hk0
   by_cases h32:(32:Int)<(m:Int)
   ·go_wp2
    exact bodyPost_ret (v:=.tuple #[tok4 1 p pe 0,.int .i64 33]) (by rw [results_cell_tmp Tryz.results40];go_simp;first | done | rfl) rfl ⟨bel2 _ _ _ _,rfl⟩
   ·go_wp2
    exact bodyPost_ret (v:=.tuple #[tok4 1 p pe 0,.int .i64 0]) (by rw [results_cell_tmp Tryz.results40];go_simp;first | done | rfl) rfl ⟨bel2 _ _ _ _,rfl⟩
  ·have hkb:(K==0)=false:=beq_eq_false_iff_ne.mpr hk0
   go_wp2
   exact bodyPost_ret (v:=.tuple #[tok4 K p pe 0,.int .i64 0]) (by rw [results_cell_tmp Tryz.results40];go_simp;first | done | rfl) rfl ⟨bel2 _ _ _ _,rfl⟩)
end Go.Proofs.YtgaoapnaplgaiaaGreatDoor.Sc
