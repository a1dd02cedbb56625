/- This claim's own texts, joined, with only what the claim uses: ScanA. -/
import Derived.Test.YtgaoapnaplgaiaaGreatDoorZs0
import Derived.WalkKit
import Derived.Below
import Derived.Deep.LoopGhost
import Derived.Deep.QuietTactic
import Derived.BigQuiet
namespace Go.Proofs.YtgaoapnaplgaiaaGreatDoor.Sc
open Go.RowKit
def cls (c:Int):Int:=if iD c then 2 else if iL c then 1 else if isBlank c then 3 else 0
theorem cls_eq (c:Int):cls c=if 48≤c∧c≤57 then 2 else if c=95∨(97≤c∧c≤122)∨(65≤c∧c≤90) then 1 else if c=32∨c=9∨c=13∨c=10 then 3 else 0:=by
 unfold cls iD iL isBlank
 simp only [Bool.and_eq_true,Bool.or_eq_true,decide_eq_true_eq,beq_iff_eq]
 repeat' split
 all_goals omega
set_option maxRecDepth 100000 in
theorem class_walk (c:Int) (w:World):Calls Tryz.prog 72 #[.int .u8 c] w fun e w'=>e=.returned (.int .i64 (cls c))∧w'=w:=by
 by_cases h95:c=95
 ·subst h95
  go_enter Tryz.func72,Tryz.ntmps72
  go_wp2
  go_ret
  exact ⟨rfl,rfl⟩
 by_cases h10:c=10
 ·subst h10
  go_enter Tryz.func72,Tryz.ntmps72
  go_wp2
  go_ret
  exact ⟨rfl,rfl⟩
 ·have hb:(c==95)=false:=beq_eq_false_iff_ne.mpr h95
  have hb2:(c==10)=false:=beq_eq_false_iff_ne.mpr h10
  rw [cls_eq]
  go_enter Tryz.func72,Tryz.ntmps72
  go_wp2
  all_goals go_ret
  all_goals refine ⟨congrArg (fun z=>Ending.returned (.int .i64 z)) ?_,rfl⟩
  all_goals (repeat' split)
  all_goals (first | omega | (simp only [beq_iff_eq] at *;omega))
def Scanner (b:Nat) (A:Option Addr) (n cap:Nat) (p:Int) (w:World):Prop :=
 w.cell? ⟨b,0,none⟩=some (.slice A n cap)∧w.cell? ⟨b,1,none⟩=some (.int .i64 p)
def Lies (w:World) (A:Option Addr) (n:Nat) (xs:List Int):Prop:=∀i,i<n→∃a,A=some a∧w.cell? (a.add i)=some (.int .u8 (xs.getD i 0))
def two (a b:Int) (c:Int):Bool:=cls c==a || cls c==b
set_option maxRecDepth 100000 in
set_option maxHeartbeats 2000000 in
theorem run_walk (a b:Int) (g:Nat) (A:Option Addr) (n cap p:Nat) (xs:List Int) (w:World) (hn:n≤9223372036854775806) (hx:xs.length=n) (hp:p≤n)
  (hs:Scanner g A n cap p w) (hl:Lies w A n xs) :
  Calls Tryz.prog 76 #[.pointer (some ⟨g,0,none⟩),.int .i64 a,.int .i64 b] w fun e w'=>e=.returned (.int .i64 (rL (two a b) (xs.drop p)))∧∃q,w'=w.drewN q:=by
 obtain ⟨hs0,hs1⟩:=hs
 go_enter Tryz.func76,Tryz.ntmps76
 go_wp2
 go_loopw [7] (fun i w'=>∃k q:Nat,i=.int .i64 k∧w'=w.drewN q∧p+k≤n∧rL (two a b) (xs.drop p)=k+rL (two a b) (xs.drop (p+k))) (fun i _=>n - (intOf i).toNat)
 case atStart=>exact ⟨0,0,rfl,rfl,by omega,by simp⟩
 case round =>
  obtain ⟨k,q,rfl,rfl,hk,hr⟩:=hrel
  have s0:(w.drewN q).cell? ⟨g,0,none⟩=some (.slice A n cap):=hs0
  have s1:(w.drewN q).cell? ⟨g,1,none⟩=some (.int .i64 p):=hs1
  obtain ⟨m,hm⟩:∃m,p+k=m:=⟨_,rfl⟩
  obtain ⟨j,hj⟩:∃j,k+1=j:=⟨_,rfl⟩
  have w1:IntKind.i64.wrap ((p:Int)+(k:Int))=(m:Int):=by rw [IntWalk.i64_in _ (by omega)];omega
  have w2:IntKind.i64.wrap ((k:Int)+1)=(j:Int):=by rw [IntWalk.i64_in _ (by omega)];omega
  rw [hm] at hr hk
  by_cases hpk:m<n
  ·obtain ⟨a0,rfl,hcell⟩:=hl m hpk
   rw [drop_at (i:=m) (by omega),runLen_cons] at hr
   generalize hz:xs.getD m 0=z at hcell hr
   have g0:(0:Int)≤(m:Int):=by omega
   have g1:(m:Int)<(n:Int):=by omega
   have hd:decide ((m:Int)<(n:Int))=true:=decide_eq_true g1
   by_cases ha:cls z=a
   ·have ea:(cls z==a)=true:=beq_iff_eq.mpr ha
    rw [if_pos (by simp [two,ea])] at hr
    clear ha
    go_wp2
    go_quiet (first|(go_at_call 72;refine (class_walk z _).mono ?_;rintro e w2 ⟨rfl,rfl⟩;exact ⟨rfl,_,rfl⟩))
    go_wp2
    go_roundw
    case rel=>exact ⟨j,q+nq,rfl,by simp,by omega,by rw [show p+j=m+1 by omega];omega⟩
    case measure=>simp [intOf];omega
   ·have ea:(cls z==a)=false:=beq_eq_false_iff_ne.mpr ha
    by_cases hb:cls z=b
    ·have eb:(cls z==b)=true:=beq_iff_eq.mpr hb
     rw [if_pos (by simp [two,eb])] at hr
     clear ha hb
     go_wp2
     go_quiet (first|(go_at_call 72;refine (class_walk z _).mono ?_;rintro e w2 ⟨rfl,rfl⟩;exact ⟨rfl,_,rfl⟩))
     go_wp2
     go_roundw
     case rel=>exact ⟨j,q+nq,rfl,by simp,by omega,by rw [show p+j=m+1 by omega];omega⟩
     case measure=>simp [intOf];omega
    ·have eb:(cls z==b)=false:=beq_eq_false_iff_ne.mpr hb
     rw [if_neg (by simp [two,ea,eb])] at hr
     clear ha hb
     go_wp2
     go_quiet (first|(go_at_call 72;refine (class_walk z _).mono ?_;rintro e w2 ⟨rfl,rfl⟩;exact ⟨rfl,_,rfl⟩))
     go_wp2
     go_ret
     exact ⟨by rw [show rL (two a b) (xs.drop p)=k by omega];rfl,q+nq,by simp⟩
  ·have hd:decide ((m:Int)<(n:Int))=false:=decide_eq_false (by omega)
   rw [List.drop_eq_nil_of_le (by omega:xs.length≤m)] at hr
   have hr:rL (two a b) (xs.drop p)=k:=hr
   go_wp2
   go_quiet (fail)
   go_wp2
   go_ret
   exact ⟨by rw [hr];rfl,q+nq,by simp⟩
end Go.Proofs.YtgaoapnaplgaiaaGreatDoor.Sc
