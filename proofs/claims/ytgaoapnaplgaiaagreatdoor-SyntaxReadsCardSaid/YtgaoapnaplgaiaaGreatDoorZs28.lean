/- This claim's own texts, joined, with only what the claim uses: ScanG, ScanH, ScanI. -/
import Derived.Test.YtgaoapnaplgaiaaGreatDoorZs22
import Derived.Test.YtgaoapnaplgaiaaGreatDoorZs27
namespace Go.Proofs.YtgaoapnaplgaiaaGreatDoor.Sc
set_option maxRecDepth 100000
open Go.RowKit Tk
set_option maxRecDepth 100000 in
set_option maxHeartbeats 4000000 in
theorem next_other {g:Nat} {A:Option Addr} {n cap:Nat} {xs:List Int} (w:World) (hn:n≤65536) (hcap:n≤cap) (hx:xs.length=n) (hT:HasTab w)
  (p:Nat) (hp:p<n) (c0:w.cell? ⟨g,0,none⟩=some (.slice A n cap)) (c1:w.cell? ⟨g,1,none⟩=some (.int .i64 p)) (hL:Lies w A n xs) (h1:cls (xs.getD p 0)≠1) (h2:cls (xs.getD p 0)≠2) (r:Nat) (hr:p+r=n) (K2 K1:Int) (hK2:KB ((xs.drop p).take 2)=K2) (hK1:KB ((xs.drop p).take 1)=K1) (Spec:Ending→Prop) (hs2:2≤r→K2≠0→Spec (.returned (.tuple #[tok4 K2 p ((p:Int)+2) 0,.int .i64 0]))) (hs1:(r<2∨K2=0)→K1≠0→Spec (.returned (.tuple #[tok4 K1 p ((p:Int)+1) 0,.int .i64 0]))) (hs0:(r<2∨K2=0)→K1=0→∀k q z v,Spec (.returned (.tuple #[tok4 k q z v,.int .i64 31]))) :
  Calls Tryz.prog 40 #[.pointer (some ⟨g,0,none⟩)] w fun e w'=>Below w.heap.size w w' ∧
   Spec e:=by
 have kk0:=cells2 c0
 have kk1:=cells2 c1
 have k0:∀o,(w.alloc o).cell? ⟨g,0,none⟩=some (.slice A n cap):=fun o=>(((Below.refl _ _).alloc (Nat.le_refl _) o).cell (World.block_lt_of_cell? w _ c0)).trans c0
 have k1:∀o,(w.alloc o).cell? ⟨g,1,none⟩=some (.int .i64 p):=fun o=>(((Below.refl _ _).alloc (Nat.le_refl _) o).cell (World.block_lt_of_cell? w _ c1)).trans c1
 have hLL:=hL
 obtain ⟨a0,rfl,hcell⟩:=hL p hp
 have kz:∀o o2,((w.alloc o).alloc o2).cell? (a0.add p)=some (.int .u8 (xs.getD p 0)):=fun o o2=>cells2 hcell o o2
 generalize xs.getD p 0=z at *
 have g0:(0:Int)≤(p:Int):=by omega
 have g1:(p:Int)<(n:Int):=by omega
 have hb0:Below w.heap.size w w:=Below.refl _ _
 have sd:∀(W:World) (j:Nat) (x:Addr) (v:Value),(W.drewN j).setCell x v=(W.setCell x v).drewN j:=fun _ _ _ _=>rfl
 have dd:∀(W:World) (j:Nat),(W.drewN j).drew=W.drewN (j+1):=fun _ _=>rfl
 have hc1:(cls z==1)=false:=beq_eq_false_iff_ne.mpr h1
 have hc2:(cls z==2)=false:=beq_eq_false_iff_ne.mpr h2
 have wr:IntKind.i64.wrap ((n:Int) - (p:Int))=(r:Int):=by rw [IntWalk.i64_in _ (by omega)];omega
 obtain ⟨M,hM⟩:∃M:Nat,min (2:Int) (r:Int)=(M:Int)∧1≤M∧M≤2∧M≤r∧(M=1→r=1):=by
  by_cases h:2≤r
  ·exact ⟨2,by omega,by omega,by omega,by omega,by omega⟩
  ·exact ⟨1,by omega,by omega,by omega,by omega,by omega⟩
 obtain ⟨hM,hM1,hM2,hMr,hM3⟩:=hM
 have hsm:∀w (j:Nat),j≤r→(Instr.sliceAt 22 (.slice (some a0) n cap) (some (.int .i64 (p:Int))) (some (.int .i64 ((p:Int)+(j:Int)))) none).run Tryz.prog w=.ok (.slice (tl (some a0) cap p) j (cap - p)) w:=fun w j hj=>by
  have:=slice_mid w (some a0) n cap p (p+j) (by omega) (by omega)
  rwa [show p+j - p=j by omega,show ((p+j:Nat):Int)=(p:Int)+(j:Int) by omega] at this
 have CV:=fun (j:Nat) (hj:j≤r)=>conv2 (p:=p) (m:=j) hx hcap (by omega) hLL
 have KW:∀j o o2 q,Calls Tryz.prog 77 #[.string (strOfNums ((xs.drop p).take j))] (((w.alloc o).alloc o2).drewN q) fun e w'=>e=.returned (.int .i64 (KB ((xs.drop p).take j)))∧w'=((w.alloc o).alloc o2).drewN q:=fun j o o2 q =>
  kind_walk (strOfNums ((xs.drop p).take j)) _ (tab2 hT o o2 q)
 go_enter Tryz.func40,Tryz.ntmps40
 go_wp2
 go_region
 go_wp2
 go_quiet (first|(go_at_call 72;refine (class_walk z _).mono ?_;rintro e w2 ⟨rfl,rfl⟩;exact ⟨rfl,_,rfl⟩))
 go_wp2
 go_region
 go_wp2
 go_loopw [7] (fun i w'=>∃(j q:Nat) (kd e:Int),i=.int .i64 j∧w'=((w.alloc (.cells #[.int .i64 0,.int .i64 0,.int .i64 0,.int .i64 0] 44)).alloc (.cells #[.int .i64 kd,.int .i64 p,.int .i64 e,.int .i64 0] 44)).drewN q ∧
  ((j=M∧kd=0∧e=p)∨(j+1≤M∧kd=KB ((xs.drop p).take (j+1))∧e=(p:Int)+((j+1:Nat):Int)∧(j+1=2∨K2=0∨M=1)))) (fun i _=>(intOf i).toNat)
 case atStart=>exact ⟨M,_,0,p,rfl,rfl,Or.inl ⟨rfl,rfl,rfl⟩⟩
 case round =>
  obtain ⟨j,q,kd,e,rfl,rfl,hrel⟩:=hrel
  by_cases hj:0<j
  ·have hd:decide ((0:Int)<(j:Int))=true:=decide_eq_true (by omega)
   by_cases hk:kd=0
   ·subst hk
    have hjM:j≤M∧(j=2∨K2=0∨M=1):=by
     rcases hrel with ⟨h,_,_⟩|⟨h,h',_,h3⟩
     ·exact ⟨by omega,by omega⟩
     ·have:j=1:=by omega
      subst this
      exact ⟨by omega,Or.inr (Or.inl (by rw [←hK2];exact h'.symm))⟩
    have wj:IntKind.i64.wrap ((p:Int)+(j:Int))=(p:Int)+(j:Int):=IntWalk.i64_in _ (by omega)
    have hsj:=fun w=>hsm w j (by omega)
    have CVj:=CV j (by omega)
    have KWj:=KW j
    obtain ⟨i,rfl⟩:∃i,j=i+1:=⟨j - 1,by omega⟩
    obtain ⟨jj,hjj⟩:∃jj,i+1=jj:=⟨_,rfl⟩
    rw [hjj] at wj hsj CVj KWj hd hj
    have wi:IntKind.i64.wrap ((jj:Int) - 1)=(i:Int):=by rw [IntWalk.i64_in _ (by omega)];omega
    rw [hjj]
    generalize hKj:KB ((xs.drop p).take jj)=Kj at KWj
    have CVS:∀W,Lies W (some a0) n xs→(convert 22 9 (.slice (tl (some a0) cap p) jj (cap - p))).run Tryz.prog W=.ok (.string (strOfNums ((xs.drop p).take jj))) W:=fun W hW=>(hW.mid hcap (by omega)).bytes.convert (by simp;omega) _ 22 5 9 Tryz.underlying22 Tryz.underlying5 Tryz.underlying9
    have KWd:∀o o2 q,Calls Tryz.prog 77 #[.string (strOfNums ((xs.drop p).take jj))] ((((w.alloc o).alloc o2).drewN q).drew) fun e w'=>e=.returned (.int .i64 Kj)∧w'=(((w.alloc o).alloc o2).drewN q).drew:=fun o o2 q=>KWj o o2 (q+1)
    clear hsm CV KW
    go_wp2
    refine wp_region_held_drew (S:=fun W=>W.cell? ⟨g,0,none⟩=some (.slice (some a0) n cap)∧W.cell? ⟨g,1,none⟩=some (.int .i64 p)∧Lies W (some a0) n xs) (by kernel_rfl) ⟨kk0 _ _,kk1 _ _,lies2 hLL _ _ 0⟩ (fun hH=>?_)
    refine take1 0 48 (.pointer (some ⟨g,0,none⟩)) rfl rfl (by kernel_rfl) (by kernel_rfl) (by kernel_rfl) (fun _ _ _ h=>h) (Or.inl ⟨by kernel_rfl,fun w hSw=>by (try dsimp only at hSw);go_simp⟩) (by assumption) ?_
    simp only [List.setIfInBounds_toArray,List.set_cons_zero,List.set_cons_succ]
    refine take1 1 49 (.pointer (some ⟨g,0,none⟩)) rfl rfl (by kernel_rfl) (by kernel_rfl) (by kernel_rfl) (fun _ _ _ h=>h) (Or.inl ⟨by kernel_rfl,fun w hSw=>by (try dsimp only at hSw);go_simp⟩) (by assumption) ?_
    simp only [List.setIfInBounds_toArray,List.set_cons_zero,List.set_cons_succ]
    refine take1 2 50 (.pointer (some ⟨g,0,none⟩)) rfl rfl (by kernel_rfl) (by kernel_rfl) (by kernel_rfl) (fun _ _ _ h=>h) (Or.inl ⟨by kernel_rfl,fun w hSw=>by (try dsimp only at hSw);go_simp⟩) (by assumption) ?_
    simp only [List.setIfInBounds_toArray,List.set_cons_zero,List.set_cons_succ]
    refine take1 3 51 (.slice (some a0) n cap) rfl rfl (by kernel_rfl) (by kernel_rfl) (by kernel_rfl) (fun _ _ _ h=>h) (Or.inl ⟨by kernel_rfl,fun w hSw=>by obtain ⟨hs0,hs1,hs2⟩:=hSw;go_simp⟩) (by assumption) ?_
    simp only [List.setIfInBounds_toArray,List.set_cons_zero,List.set_cons_succ]
    refine take1 4 52 (.pointer (some ⟨g,0,none⟩)) rfl rfl (by kernel_rfl) (by kernel_rfl) (by kernel_rfl) (fun _ _ _ h=>h) (Or.inl ⟨by kernel_rfl,fun w hSw=>by (try dsimp only at hSw);go_simp⟩) (by assumption) ?_
    simp only [List.setIfInBounds_toArray,List.set_cons_zero,List.set_cons_succ]
    refine take1 5 53 (.pointer (some ⟨g,0,none⟩)) rfl rfl (by kernel_rfl) (by kernel_rfl) (by kernel_rfl) (fun _ _ _ h=>h) (Or.inl ⟨by kernel_rfl,fun w hSw=>by (try dsimp only at hSw);go_simp⟩) (by assumption) ?_
    simp only [List.setIfInBounds_toArray,List.set_cons_zero,List.set_cons_succ]
    refine take1 6 54 (.pointer (some ⟨g,1,none⟩)) rfl rfl (by kernel_rfl) (by kernel_rfl) (by kernel_rfl) (fun _ _ _ h=>h) (Or.inl ⟨by kernel_rfl,fun w hSw=>by (try dsimp only at hSw);go_simp⟩) (by assumption) ?_
    simp only [List.setIfInBounds_toArray,List.set_cons_zero,List.set_cons_succ]
    refine take1 7 55 (.int .i64 p) rfl rfl (by kernel_rfl) (by kernel_rfl) (by kernel_rfl) (fun _ _ _ h=>h) (Or.inl ⟨by kernel_rfl,fun w hSw=>by obtain ⟨hs0,hs1,hs2⟩:=hSw;go_simp⟩) (by assumption) ?_
    simp only [List.setIfInBounds_toArray,List.set_cons_zero,List.set_cons_succ]
    refine take1 8 56 (.pointer (some ⟨g,0,none⟩)) rfl rfl (by kernel_rfl) (by kernel_rfl) (by kernel_rfl) (fun _ _ _ h=>h) (Or.inl ⟨by kernel_rfl,fun w hSw=>by (try dsimp only at hSw);go_simp⟩) (by assumption) ?_
    simp only [List.setIfInBounds_toArray,List.set_cons_zero,List.set_cons_succ]
    refine take1 9 57 (.pointer (some ⟨g,0,none⟩)) rfl rfl (by kernel_rfl) (by kernel_rfl) (by kernel_rfl) (fun _ _ _ h=>h) (Or.inl ⟨by kernel_rfl,fun w hSw=>by (try dsimp only at hSw);go_simp⟩) (by assumption) ?_
    simp only [List.setIfInBounds_toArray,List.set_cons_zero,List.set_cons_succ]
    refine take1 10 58 (.pointer (some ⟨g,1,none⟩)) rfl rfl (by kernel_rfl) (by kernel_rfl) (by kernel_rfl) (fun _ _ _ h=>h) (Or.inl ⟨by kernel_rfl,fun w hSw=>by (try dsimp only at hSw);go_simp⟩) (by assumption) ?_
    simp only [List.setIfInBounds_toArray,List.set_cons_zero,List.set_cons_succ]
    refine take1 11 59 (.int .i64 p) rfl rfl (by kernel_rfl) (by kernel_rfl) (by kernel_rfl) (fun _ _ _ h=>h) (Or.inl ⟨by kernel_rfl,fun w hSw=>by obtain ⟨hs0,hs1,hs2⟩:=hSw;go_simp⟩) (by assumption) ?_
    simp only [List.setIfInBounds_toArray,List.set_cons_zero,List.set_cons_succ]
    refine take1 12 60 (.int .i64 jj) rfl rfl (by kernel_rfl) (by kernel_rfl) (by kernel_rfl) (fun _ _ _ h=>h) (Or.inl ⟨by kernel_rfl,fun w hSw=>by (try dsimp only at hSw);go_simp⟩) (by assumption) ?_
    simp only [List.setIfInBounds_toArray,List.set_cons_zero,List.set_cons_succ]
    refine take1 13 61 (.int .i64 ((p:Int)+(jj:Int))) rfl rfl (by kernel_rfl) (by kernel_rfl) (by kernel_rfl) (fun _ _ _ h=>h) (Or.inl ⟨by kernel_rfl,fun w hSw=>by (try dsimp only at hSw);go_simp⟩) (by assumption) ?_
    simp only [List.setIfInBounds_toArray,List.set_cons_zero,List.set_cons_succ]
    refine take1 14 62 (.slice (tl (some a0) cap p) jj (cap - p)) rfl rfl (by kernel_rfl) (by kernel_rfl) (by kernel_rfl) (fun _ _ _ h=>h) (Or.inl ⟨by kernel_rfl,fun w hSw=>by (try dsimp only at hSw);go_simp⟩) (by assumption) ?_
    simp only [List.setIfInBounds_toArray,List.set_cons_zero,List.set_cons_succ]
    refine take1 15 63 (.string (strOfNums ((xs.drop p).take jj))) rfl rfl (by kernel_rfl) (by kernel_rfl) (by kernel_rfl) (fun _ _ _ h=>h) (Or.inl ⟨by kernel_rfl,fun w hSw=>by obtain ⟨hs0,hs1,hs2⟩:=hSw;have cvw:=CVS _ hs2;go_simp⟩) (by assumption) ?_
    simp only [List.setIfInBounds_toArray,List.set_cons_zero,List.set_cons_succ]
    refine take1 17 65 (.pointer (some ⟨g,0,none⟩)) rfl rfl (by kernel_rfl) (by kernel_rfl) (by kernel_rfl) (fun _ _ _ h=>h) (Or.inl ⟨by kernel_rfl,fun w hSw=>by (try dsimp only at hSw);go_simp⟩) (by assumption) ?_
    simp only [List.setIfInBounds_toArray,List.set_cons_zero,List.set_cons_succ]
    refine take1 18 66 (.pointer (some ⟨g,0,none⟩)) rfl rfl (by kernel_rfl) (by kernel_rfl) (by kernel_rfl) (fun _ _ _ h=>h) (Or.inl ⟨by kernel_rfl,fun w hSw=>by (try dsimp only at hSw);go_simp⟩) (by assumption) ?_
    simp only [List.setIfInBounds_toArray,List.set_cons_zero,List.set_cons_succ]
    refine take1 19 67 (.pointer (some ⟨g,1,none⟩)) rfl rfl (by kernel_rfl) (by kernel_rfl) (by kernel_rfl) (fun _ _ _ h=>h) (Or.inl ⟨by kernel_rfl,fun w hSw=>by (try dsimp only at hSw);go_simp⟩) (by assumption) ?_
    simp only [List.setIfInBounds_toArray,List.set_cons_zero,List.set_cons_succ]
    refine take1 20 68 (.int .i64 p) rfl rfl (by kernel_rfl) (by kernel_rfl) (by kernel_rfl) (fun _ _ _ h=>h) (Or.inl ⟨by kernel_rfl,fun w hSw=>by obtain ⟨hs0,hs1,hs2⟩:=hSw;go_simp⟩) (by assumption) ?_
    simp only [List.setIfInBounds_toArray,List.set_cons_zero,List.set_cons_succ]
    refine take1 21 69 (.int .i64 jj) rfl rfl (by kernel_rfl) (by kernel_rfl) (by kernel_rfl) (fun _ _ _ h=>h) (Or.inl ⟨by kernel_rfl,fun w hSw=>by (try dsimp only at hSw);go_simp⟩) (by assumption) ?_
    simp only [List.setIfInBounds_toArray,List.set_cons_zero,List.set_cons_succ]
    refine take1 22 70 (.int .i64 ((p:Int)+(jj:Int))) rfl rfl (by kernel_rfl) (by kernel_rfl) (by kernel_rfl) (fun _ _ _ h=>h) (Or.inl ⟨by kernel_rfl,fun w hSw=>by (try dsimp only at hSw);go_simp⟩) (by assumption) ?_
    simp only [List.setIfInBounds_toArray,List.set_cons_zero,List.set_cons_succ]
    refine wpAnyH_ready (rs:=[16]) (by kernel_rfl) (by simp) ?_
    refine AllReadyH.cons rfl (fun K hK=>?_) AllReadyH.nil
    refine ready_call 64 ?A ?B (KWd _ _ _) ?C ?_
    case A=>kernel_rfl
    case C=>rfl
    case B=>exact run_call rfl Tryz.call77 (by kernel_rfl)
    rintro e1 w2 ⟨rfl,rfl⟩
    refine ⟨_,rfl,hK.out _ _ (by assumption) (fun hH=>?_)⟩
    clear hK K
    simp only [List.setIfInBounds_toArray,List.set_cons_zero,List.set_cons_succ]
    refine take1 23 71 (.pointer (some ⟨w.heap.size+1,0,none⟩)) rfl rfl (by kernel_rfl) (by kernel_rfl) (by kernel_rfl) (fun _ _ _ h=>h) (Or.inl ⟨by kernel_rfl,fun w hSw=>by (try dsimp only at hSw);go_simp⟩) (by assumption) ?_
    simp only [List.setIfInBounds_toArray,List.set_cons_zero,List.set_cons_succ]
    refine wpAnyH_ready (rs:=[24]) (by kernel_rfl) (by simp) ?_
    refine AllReadyH.cons rfl (fun K hK=>?_) AllReadyH.nil
    go_simp
    refine hK.out _ _ ⟨kk0 _ _,kk1 _ _,lies2 hLL _ _ 0⟩ (fun hH=>?_)
    clear hK K
    try simp only [List.setIfInBounds_toArray,List.set_cons_zero,List.set_cons_succ]
    refine take1 25 72 (.pointer (some ⟨w.heap.size+1,2,none⟩)) rfl rfl (by kernel_rfl) (by kernel_rfl) (by kernel_rfl) (fun _ _ _ h=>h) (Or.inl ⟨by kernel_rfl,fun w hSw=>by (try dsimp only at hSw);go_simp⟩) (by assumption) ?_
    try simp only [List.setIfInBounds_toArray,List.set_cons_zero,List.set_cons_succ]
    refine wpAnyH_ready (rs:=[26]) (by kernel_rfl) (by simp) ?_
    refine AllReadyH.cons rfl (fun K hK=>?_) AllReadyH.nil
    go_simp
    refine hK.out _ _ ⟨kk0 _ _,kk1 _ _,lies2 hLL _ _ 0⟩ (fun hH=>?_)
    clear hK K
    try simp only [List.setIfInBounds_toArray,List.set_cons_zero,List.set_cons_succ]
    refine wpAnyH_done (by kernel_rfl) ?_ _
    go_wp2
    refine ⟨⟨i,_,Kj,(p:Int)+(jj:Int),rfl,rfl,Or.inr ⟨by omega,by rw [hjj];exact hKj.symm,by rw [hjj],by omega⟩⟩,?_⟩
    simp [intOf];omega
   ·have hkb:(kd==0)=false:=beq_eq_false_iff_ne.mpr hk
    have hB:kd=K2∧e=(p:Int)+2∧2≤r:=by
     rcases hrel with ⟨_,h,_⟩|⟨h,h',h2,_⟩
     ·exact absurd h hk
     ·have:j=1:=by omega
      subst this
      exact ⟨h'.trans hK2,by rw [h2];rfl,by omega⟩
    have hfin:=hs2 hB.2.2 (by rw [←hB.1];exact hk)
    rw [←hB.1,←hB.2.1] at hfin
    clear hrel hB hs0 hs1 hs2 hsm CV KW
    go_wp2
    exact bodyPost_ret (v:=.tuple #[tok4 kd p e 0,.int .i64 0]) (by rw [results_cell_tmp Tryz.results40];go_simp;first | done | rfl) rfl ⟨bel2 _ _ _ _,hfin⟩
  ·have hd:decide ((0:Int)<(j:Int))=false:=decide_eq_false (by omega)
   have hB:kd=K1∧e=(p:Int)+1∧(r<2∨K2=0):=by
    rcases hrel with ⟨h,_,_⟩|⟨h,h',h2,h3⟩
    ·omega
    ·have:j=0:=by omega
     subst this
     exact ⟨h'.trans hK1,by rw [h2];rfl,by omega⟩
   have f1:=hs1 hB.2.2
   have f0:=hs0 hB.2.2
   rw [←hB.1,←hB.2.1] at f1
   rw [←hB.1] at f0
   clear hrel hB hs0 hs1 hs2 hsm CV KW
   by_cases hk:kd=0
   ·have hfin:=f0 hk kd p e 0
    clear f0 f1
    have hkb:(kd==0)=true:=beq_iff_eq.mpr hk
    clear hk
    go_wp2
    exact bodyPost_ret (v:=.tuple #[tok4 kd p e 0,.int .i64 31]) (by rw [results_cell_tmp Tryz.results40];go_simp;first | done | rfl) rfl ⟨bel2 _ _ _ _,hfin⟩
   ·have hfin:=f1 hk
    clear f0 f1
    have hkb:(kd==0)=false:=beq_eq_false_iff_ne.mpr hk
    go_wp2
    exact bodyPost_ret (v:=.tuple #[tok4 kd p e 0,.int .i64 0]) (by rw [results_cell_tmp Tryz.results40];go_simp;first | done | rfl) rfl ⟨bel2 _ _ _ _,hfin⟩
end Go.Proofs.YtgaoapnaplgaiaaGreatDoor.Sc
namespace Go.Proofs.YtgaoapnaplgaiaaGreatDoor.Sc
set_option maxRecDepth 100000
open Go.RowKit Tk
theorem next_walk {g:Nat} {A:Option Addr} {n cap:Nat} {xs:List Int} (w:World) (hn:n≤65536) (hcap:n≤cap) (hx:xs.length=n) (hT:HasTab w)
  (p:Nat) (hp:p<n) (c0:w.cell? ⟨g,0,none⟩=some (.slice A n cap)) (c1:w.cell? ⟨g,1,none⟩=some (.int .i64 p)) (hL:Lies w A n xs) :
  Calls Tryz.prog 40 #[.pointer (some ⟨g,0,none⟩)] w fun e w'=>Below w.heap.size w w' ∧
   (match one KB (xs.drop p) with
    | .ok (k,m,v)=>e=.returned (.tuple #[tok4 k p ((p+m:Nat):Int) v,.int .i64 0])
    | .error er=>∃k q z v,e=.returned (.tuple #[tok4 k q z v,.int .i64 er])):=by
 have hdr:=drop_at (xs:=xs) (i:=p) (by omega)
 have hlen:(xs.drop p).length=n - p:=by rw [List.length_drop,hx]
 cases hl:iL (xs.getD p 0) with
 | true =>
  have hle:=runLen_le isWord (xs.drop p)
  refine (next_letter w hn hcap hx hT p hp c0 c1 hL hl (rL isWord (xs.drop p)) rfl (by omega) (KB ((xs.drop p).take (rL isWord (xs.drop p)))) rfl).mono ?_
  rintro e w' ⟨hb,rfl⟩
  refine ⟨hb,?_⟩
  generalize hm:rL isWord (xs.drop p)=m
  have ho:one KB (xs.drop p)=if KB ((xs.drop p).take m)=0 then (if 32<m then .error 33 else .ok (1,m,0)) else .ok (KB ((xs.drop p).take m),m,0):=by
   rw [←hm,hdr]
   unfold one
   simp only
   rw [if_pos hl]
  rw [ho]
  by_cases h0:KB ((xs.drop p).take m)=0
  ·rw [if_pos h0,if_pos h0]
   by_cases h32:32<m
   ·rw [if_pos h32,if_pos h32];exact ⟨_,_,_,_,rfl⟩
   ·rw [if_neg h32,if_neg h32]
  ·rw [if_neg h0,if_neg h0]
 | false =>
  cases hd:iD (xs.getD p 0) with
  | true =>
   have hle:=runLen_le iD (xs.drop p)
   have h1:1≤rL iD (xs.drop p):=by rw [hdr,runLen_cons,if_pos hd];omega
   refine (next_digit w hn hcap hx hT p hp c0 c1 hL hd (rL iD (xs.drop p)) rfl (by omega) h1).mono ?_
   rintro e w' ⟨hb,he⟩
   refine ⟨hb,?_⟩
   generalize hm:rL iD (xs.drop p)=m at he
   have ho:one KB (xs.drop p)=if 2147483648<numOf ((xs.drop p).take m)∨(xs.getD p 0=48∧1<m) then .error 34 else .ok (2,m,numOf ((xs.drop p).take m)):=by
    rw [←hm,hdr]
    unfold one
    simp only
    rw [if_neg (by rw [hl];simp),if_pos hd]
   rw [ho]
   by_cases hc:2147483648<numOf ((xs.drop p).take m)∨(xs.getD p 0=48∧1<m)
   ·rw [if_pos hc] at he ⊢
    obtain ⟨v,rfl⟩:=he
    exact ⟨_,_,_,_,rfl⟩
   ·rw [if_neg hc] at he ⊢
    exact he
  | false =>
   have hc1:cls (xs.getD p 0)≠1:=by unfold cls;rw [hd,hl];simp only [Bool.false_eq_true,if_false];split <;> omega
   have hc2:cls (xs.getD p 0)≠2:=by unfold cls;rw [hd,hl];simp only [Bool.false_eq_true,if_false];split <;> omega
   obtain ⟨r,hr⟩:∃r,p+r=n:=⟨n - p,by omega⟩
   have ho:one KB (xs.drop p)=if 2≤r∧KB ((xs.drop p).take 2)≠0 then .ok (KB ((xs.drop p).take 2),2,0) else if KB ((xs.drop p).take 1)≠0 then .ok (KB ((xs.drop p).take 1),1,0) else .error 31:=by
    rw [show r=(xs.drop p).length by omega,hdr]
    unfold one
    simp only
    rw [if_neg (by rw [hl];simp),if_neg (by rw [hd];simp)]
   rw [ho]
   refine next_other w hn hcap hx hT p hp c0 c1 hL hc1 hc2 r hr (KB ((xs.drop p).take 2)) (KB ((xs.drop p).take 1)) rfl rfl (fun e=>_) ?_ ?_ ?_
   ·intro h2 hk
    rw [if_pos ⟨h2,hk⟩]
    rfl
   ·intro h2 hk
    rw [if_neg (by omega),if_pos hk]
    rfl
   ·intro h2 hk k q z v
    rw [if_neg (by omega),if_neg (by omega)]
    exact ⟨_,_,_,_,rfl⟩
def fault (p e:Int):Value:=.agg #[.int .i64 p,.int .i64 e]
set_option maxRecDepth 100000 in
set_option maxHeartbeats 4000000 in
theorem scan_long (A:Option Addr) (n cap:Nat) (w:World) (hn:65536<n) :
  Calls Tryz.prog 14 #[.slice A n cap] w fun e w'=>Below w.heap.size w w'∧e=.returned (.tuple #[.slice none 0 0,fault 0 30]):=by
 have hd:decide ((65536:Int)<(n:Int))=true:=decide_eq_true (by omega)
 have hb:=(Below.refl w.heap.size w).alloc (Nat.le_refl _) (.cells #[.int .i64 0,.int .i64 30] 30)
 go_enter Tryz.func14,Tryz.ntmps14
 go_wp2
 exact bodyPost_ret (v:=.tuple #[.slice none 0 0,fault 0 30]) (by simp [results,Tryz.results14,go_sem,fault]) rfl ⟨hb,rfl⟩
end Go.Proofs.YtgaoapnaplgaiaaGreatDoor.Sc
