/- This claim's own texts, joined, with only what the claim uses: ScanF. -/
import Derived.Test.YtgaoapnaplgaiaaGreatDoorZs8
namespace Go.Proofs.YtgaoapnaplgaiaaGreatDoor.Sc
set_option maxRecDepth 100000
open Go.RowKit Tk
theorem getD_at {l:List Int} {k:Nat} (h:k<l.length):l.getD k 0=l[k]:=by simp [List.getD,h]
set_option maxRecDepth 100000 in
set_option maxHeartbeats 4000000 in
theorem next_digit {g:Nat} {A:Option Addr} {n cap:Nat} {xs:List Int} (w:World) (hn:n≤65536) (hcap:n≤cap) (hx:xs.length=n) (_hT:HasTab w)
  (p:Nat) (hp:p<n) (c0:w.cell? ⟨g,0,none⟩=some (.slice A n cap)) (c1:w.cell? ⟨g,1,none⟩=some (.int .i64 p)) (hL:Lies w A n xs) (hz:iD (xs.getD p 0)=true) (m:Nat) (hm:rL iD (xs.drop p)=m) (hm2:p+m≤n) (hm1:1≤m) :
  Calls Tryz.prog 40 #[.pointer (some ⟨g,0,none⟩)] w fun e w'=>Below w.heap.size w w' ∧
   (if 2147483648<numOf ((xs.drop p).take m)∨(xs.getD p 0=48∧1<m) then ∃v,e=.returned (.tuple #[tok4 2 p ((p+m:Nat):Int) v,.int .i64 34]) else e=.returned (.tuple #[tok4 2 p ((p+m:Nat):Int) (numOf ((xs.drop p).take m)),.int .i64 0])):=by
 have kk0:=cells2 c0
 have kk1:=cells2 c1
 have k0:∀o,(w.alloc o).cell? ⟨g,0,none⟩=some (.slice A n cap):=fun o=>(((Below.refl _ _).alloc (Nat.le_refl _) o).cell (World.block_lt_of_cell? w _ c0)).trans c0
 have k1:∀o,(w.alloc o).cell? ⟨g,1,none⟩=some (.int .i64 p):=fun o=>(((Below.refl _ _).alloc (Nat.le_refl _) o).cell (World.block_lt_of_cell? w _ c1)).trans c1
 have hLL:=hL
 obtain ⟨a0,rfl,hcell⟩:=hL p hp
 have kz:∀o o2,((w.alloc o).alloc o2).cell? (a0.add p)=some (.int .u8 (xs.getD p 0)):=fun o o2=>cells2 hcell o o2
 generalize xs.getD p 0=z at *
 have g0:(0:Int)≤(p:Int):=by omega
 have g1:(p:Int)<(n:Int):=by omega
 have hb0:Below w.heap.size w w:=Below.refl _ _
 have sd:∀(W:World) (j:Nat) (x:Addr) (v:Value),(W.drewN j).setCell x v=(W.setCell x v).drewN j:=fun _ _ _ _=>rfl
 have dd:∀(W:World) (j:Nat),(W.drewN j).drew=W.drewN (j+1):=fun _ _=>rfl
 have hc1:cls z=2:=by
  unfold iD at hz
  simp only [Bool.and_eq_true,decide_eq_true_eq] at hz
  rw [cls_eq,if_pos hz]
 have RUN:=run2 two_digit hn hx (Nat.le_of_lt hp) c0 c1 hLL
 rw [hm] at RUN
 obtain ⟨pe,hpe⟩:∃pe,p+m=pe:=⟨_,rfl⟩
 have w1:IntKind.i64.wrap ((p:Int)+(m:Int))=(pe:Int):=by rw [IntWalk.i64_in _ (by omega)];omega
 have hsm:∀w,(Instr.sliceAt 22 (.slice (some a0) n cap) (some (.int .i64 (p:Int))) (some (.int .i64 (pe:Int))) none).run Tryz.prog w=.ok (.slice (some (tla a0 cap p)) m (cap - p)) w:=fun w=>by
  have:=slice_mid w (some a0) n cap p pe (by omega) (by omega)
  rwa [show pe - p=m by omega,tl_some] at this
 have kcell:∀o o2 i,i<m→((w.alloc o).alloc o2).cell? ((tla a0 cap p).add i)=some (.int .u8 ((xs.drop p).getD i 0)):=fun o o2 i hi=>by
  have h1:=(lies2 hLL o o2 0).from (l:=p) hcap
  rw [tl_some] at h1
  exact h1.at i (by omega)
 have hdig:∀i,i<m→48≤(xs.drop p).getD i 0∧(xs.drop p).getD i 0≤57:=fun i hi=>by
  have h1:=runLen_all iD (xs.drop p) ((xs.drop p).getD i 0)
  rw [hm] at h1
  have h2:(xs.drop p).getD i 0 ∈ (xs.drop p).take m:=by
   have hl:i<((xs.drop p).take m).length:=by simp;omega
   have:=List.getElem_mem hl
   rw [List.getElem_take] at this
   have hl2:i<(xs.drop p).length:=by simp;omega
   rw [getD_at hl2];exact this
  have h3:=h1 h2
  unfold iD at h3
  simpa only [Bool.and_eq_true,decide_eq_true_eq] using h3
 have hnum:∀k,k<m→numOf ((xs.drop p).take (k+1))=min (10 * numOf ((xs.drop p).take k)+((xs.drop p).getD k 0 - 48)) 2147483649:=fun k hk=>by
  have hl2:k<(xs.drop p).length:=by simp;omega
  unfold numOf
  rw [getD_at hl2,List.take_succ_eq_append_getElem hl2,List.foldl_append]
  rfl
 have hnb:∀k,k≤m→0≤numOf ((xs.drop p).take k)∧numOf ((xs.drop p).take k)≤2147483649:=fun k=>by
  induction k with
  | zero=>intro _;simp [numOf]
  | succ k ih =>
   intro hk
   have:=ih (by omega)
   have hd:=hdig k (by omega)
   rw [hnum k (by omega)]
   omega
 clear hm
 go_enter Tryz.func40,Tryz.ntmps40
 go_wp2
 go_region
 go_wp2
 go_quiet (first|(go_at_call 72;refine (class_walk z _).mono ?_;rintro e w2 ⟨rfl,rfl⟩;exact ⟨rfl,_,rfl⟩))
 go_wp2
 go_region_with (first|(go_at_call 76;with_reducible refine (RUN _ _ _).mono ?_;rintro e w2 ⟨rfl,q2,rfl⟩))
 all_goals go_wp2
 all_goals go_quiet (fail)
 all_goals go_wp2
 ·go_loopw [127] (fun i w'=>∃k q:Nat,i=.int .i64 k∧k≤m∧w'=((w.alloc (.cells #[.int .i64 0,.int .i64 0,.int .i64 0,.int .i64 0] 44)).alloc (.cells #[.int .i64 2,.int .i64 p,.int .i64 pe,.int .i64 (numOf ((xs.drop p).take k))] 44)).drewN q) (fun i _=>m - (intOf i).toNat)
  case atStart=>exact ⟨0,_,rfl,by omega,by rw [show numOf ((xs.drop p).take 0)=0 from rfl,World.drewN_drewN]⟩
  case round =>
   obtain ⟨k,q,rfl,hk,rfl⟩:=hrel
   by_cases hkm:k<m
   ·have hd:decide ((k:Int)<(m:Int))=true:=decide_eq_true (by omega)
    have gk0:(0:Int)≤(k:Int):=by omega
    have gk1:(k:Int)<(m:Int):=by omega
    have kc:=fun o o2=>kcell o o2 k hkm
    have hdk:=hdig k hkm
    have hnk:=hnum k hkm
    have hbk:=hnb k hk
    generalize (xs.drop p).getD k 0=d at kc hdk hnk
    clear kcell hdig hnum hnb
    generalize hv:numOf ((xs.drop p).take k)=v at hnk hbk ⊢
    have wa:IntKind.i64.wrap (10 * v)=10 * v:=IntWalk.i64_in _ (by omega)
    have wb:IntKind.u8.wrap (d - 48)=d - 48:=by rw [IntKind.wrap_u8];omega
    have wc:IntKind.i64.wrap (d - 48)=d - 48:=IntWalk.i64_in _ (by omega)
    have we:IntKind.i64.wrap (10 * v+(d - 48))=10 * v+(d - 48):=IntWalk.i64_in _ (by omega)
    have wf:IntKind.i64.wrap ((k:Int)+1)=(k:Int)+1:=IntWalk.i64_in _ (by omega)
    go_wp2
    refine ⟨⟨k+1,q,by push_cast;rfl,by omega,?_⟩,?_⟩
    ·rw [hnk]
    ·simp [intOf];omega
   ·have hd:decide ((k:Int)<(m:Int))=false:=decide_eq_false (by omega)
    obtain rfl:k=m:=by omega
    clear kcell hdig hnum hnb
    generalize hV:numOf ((xs.drop p).take k)=V at *
    have w2:IntKind.i64.wrap ((pe:Int) - (p:Int))=(k:Int):=by rw [IntWalk.i64_in _ (by omega)];omega
    by_cases hv:2147483648<V
    ·have hd2:decide (2147483648<V)=true:=decide_eq_true hv
     go_wp2
     go_quiet (fail)
     go_wp2
     exact bodyPost_ret (v:=.tuple #[tok4 2 p pe V,.int .i64 34]) (by rw [results_cell_tmp Tryz.results40];go_simp;first | done | rfl) rfl ⟨bel2 _ _ _ _,⟨V,rfl⟩⟩
    ·have hd2:decide (2147483648<V)=false:=decide_eq_false hv
     by_cases h48:z=48
     ·subst h48
      by_cases hk1:1<k
      ·have hd3:decide ((1:Int)<(k:Int))=true:=decide_eq_true (by omega)
       go_wp2
       go_quiet (fail)
       go_wp2
       exact bodyPost_ret (v:=.tuple #[tok4 2 p pe V,.int .i64 34]) (by rw [results_cell_tmp Tryz.results40];go_simp;first | done | rfl) rfl ⟨bel2 _ _ _ _,⟨V,rfl⟩⟩
      ·have hd3:decide ((1:Int)<(k:Int))=false:=decide_eq_false (by omega)
       go_wp2
       go_quiet (fail)
       go_wp2
       exact bodyPost_ret (v:=.tuple #[tok4 2 p pe V,.int .i64 0]) (by rw [results_cell_tmp Tryz.results40];go_simp;first | done | rfl) rfl ⟨bel2 _ _ _ _,rfl⟩
     ·have h48b:(z==48)=false:=beq_eq_false_iff_ne.mpr h48
      go_wp2
      go_quiet (fail)
      go_wp2
      exact bodyPost_ret (v:=.tuple #[tok4 2 p pe V,.int .i64 0]) (by rw [results_cell_tmp Tryz.results40];go_simp;first | done | rfl) rfl ⟨bel2 _ _ _ _,rfl⟩
 ·go_loopw [127] (fun i w'=>∃k q:Nat,i=.int .i64 k∧k≤m∧w'=((w.alloc (.cells #[.int .i64 0,.int .i64 0,.int .i64 0,.int .i64 0] 44)).alloc (.cells #[.int .i64 2,.int .i64 p,.int .i64 pe,.int .i64 (numOf ((xs.drop p).take k))] 44)).drewN q) (fun i _=>m - (intOf i).toNat)
  case atStart=>exact ⟨0,_,rfl,by omega,by rw [show numOf ((xs.drop p).take 0)=0 from rfl,World.drewN_drewN]⟩
  case round =>
   obtain ⟨k,q,rfl,hk,rfl⟩:=hrel
   by_cases hkm:k<m
   ·have hd:decide ((k:Int)<(m:Int))=true:=decide_eq_true (by omega)
    have gk0:(0:Int)≤(k:Int):=by omega
    have gk1:(k:Int)<(m:Int):=by omega
    have kc:=fun o o2=>kcell o o2 k hkm
    have hdk:=hdig k hkm
    have hnk:=hnum k hkm
    have hbk:=hnb k hk
    generalize (xs.drop p).getD k 0=d at kc hdk hnk
    clear kcell hdig hnum hnb
    generalize hv:numOf ((xs.drop p).take k)=v at hnk hbk ⊢
    have wa:IntKind.i64.wrap (10 * v)=10 * v:=IntWalk.i64_in _ (by omega)
    have wb:IntKind.u8.wrap (d - 48)=d - 48:=by rw [IntKind.wrap_u8];omega
    have wc:IntKind.i64.wrap (d - 48)=d - 48:=IntWalk.i64_in _ (by omega)
    have we:IntKind.i64.wrap (10 * v+(d - 48))=10 * v+(d - 48):=IntWalk.i64_in _ (by omega)
    have wf:IntKind.i64.wrap ((k:Int)+1)=(k:Int)+1:=IntWalk.i64_in _ (by omega)
    go_wp2
    refine ⟨⟨k+1,q,by push_cast;rfl,by omega,?_⟩,?_⟩
    ·rw [hnk]
    ·simp [intOf];omega
   ·have hd:decide ((k:Int)<(m:Int))=false:=decide_eq_false (by omega)
    obtain rfl:k=m:=by omega
    clear kcell hdig hnum hnb
    generalize hV:numOf ((xs.drop p).take k)=V at *
    have w2:IntKind.i64.wrap ((pe:Int) - (p:Int))=(k:Int):=by rw [IntWalk.i64_in _ (by omega)];omega
    by_cases hv:2147483648<V
    ·have hd2:decide (2147483648<V)=true:=decide_eq_true hv
     go_wp2
     go_quiet (fail)
     go_wp2
     exact bodyPost_ret (v:=.tuple #[tok4 2 p pe V,.int .i64 34]) (by rw [results_cell_tmp Tryz.results40];go_simp;first | done | rfl) rfl ⟨bel2 _ _ _ _,⟨V,rfl⟩⟩
    ·have hd2:decide (2147483648<V)=false:=decide_eq_false hv
     by_cases h48:z=48
     ·subst h48
      by_cases hk1:1<k
      ·have hd3:decide ((1:Int)<(k:Int))=true:=decide_eq_true (by omega)
       go_wp2
       go_quiet (fail)
       go_wp2
       exact bodyPost_ret (v:=.tuple #[tok4 2 p pe V,.int .i64 34]) (by rw [results_cell_tmp Tryz.results40];go_simp;first | done | rfl) rfl ⟨bel2 _ _ _ _,⟨V,rfl⟩⟩
      ·have hd3:decide ((1:Int)<(k:Int))=false:=decide_eq_false (by omega)
       go_wp2
       go_quiet (fail)
       go_wp2
       exact bodyPost_ret (v:=.tuple #[tok4 2 p pe V,.int .i64 0]) (by rw [results_cell_tmp Tryz.results40];go_simp;first | done | rfl) rfl ⟨bel2 _ _ _ _,rfl⟩
     ·have h48b:(z==48)=false:=beq_eq_false_iff_ne.mpr h48
      go_wp2
      go_quiet (fail)
      go_wp2
      exact bodyPost_ret (v:=.tuple #[tok4 2 p pe V,.int .i64 0]) (by rw [results_cell_tmp Tryz.results40];go_simp;first | done | rfl) rfl ⟨bel2 _ _ _ _,rfl⟩
end Go.Proofs.YtgaoapnaplgaiaaGreatDoor.Sc
