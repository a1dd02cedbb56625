/- This claim's own texts, joined, with only what the claim uses: ScanB. -/
import Derived.Test.YtgaoapnaplgaiaaGreatDoorZs1
import Derived.Test.YtgaoapnaplgaiaaGreatDoorZs2
import Derived.Laws.AppendOwn
import Derived.OwnWalk
import Derived.WalkMore
import Derived.ScopeJumps
import Derived.Shelf.Bytes.SlSmallAll
namespace Go.Proofs.YtgaoapnaplgaiaaGreatDoor.Sc
set_option maxRecDepth 100000
open Go.RowKit
theorem Q4 {a b c:World} {row:Option Nat} (h:a.grownBy b row) (k:b.grownBy c row):a.grownBy c row :=
 ⟨k.os.trans h.os,k.tape.trans h.tape,k.output.trans h.output,Nat.le_trans h.size k.size,fun i hi hr=>(k.block i (Nat.lt_of_lt_of_le hi h.size) hr).trans (h.block i hi hr)⟩
theorem Q6 {a b:World} {row:Option Nat} (h:a.grownBy b row) (q:Nat):a.grownBy (b.drewN q) row:=⟨h.os,h.tape,h.output,h.size,h.block⟩
theorem grown_alloc {a b:World} {row:Option Nat} (h:a.grownBy b row) (o:Obj):a.grownBy (b.alloc o) row:=Q4 h (World.grownBy_alloc b o row)
theorem gP {a b:World} {g k:Nat} (h:a.grownBy b (some g)) (v:Value):a.grownBy (b.setCell ⟨g,k,none⟩ v) (some g) :=
 Q4 h ⟨rfl,rfl,rfl,by simp [World.setCell],fun i _ hr=>Below.heap_setCell _ _ _ _ (fun e=>hr (by rw [e]))⟩
theorem grown_below {a b:World} {B g:Nat} (h:a.grownBy b (some g)) (hB:B≤g) (hw:B≤a.heap.size):Below B a b :=
 ⟨h.os,h.tape,h.output,h.size,fun k hk=>h.block k (by omega) (fun e=>by cases e;omega)⟩
def tl (A:Option Addr) (cap l:Nat):Option Addr:=if cap=l then A else A.map (·.add l)
theorem slice_from (w:World) (A:Option Addr) (n cap l:Nat) (hl:l≤n) :
  (Instr.sliceAt 22 (.slice A n cap) (some (.int .i64 (l:Int))) none none).run Tryz.prog w=.ok (.slice (tl A cap l) (n - l) (cap - l)) w:=by
 rw [run_sliceAt_slice (h:=by rw [Tryz.underlying22];rfl),run_slice_l (ht:=by rw [Tryz.underlying22];rfl) (h0:=by omega) (h1:=by omega)]
 go_simp
 rfl
theorem Lies.from {w:World} {A:Option Addr} {n cap l:Nat} {xs:List Int} (h:Lies w A n xs) (hc:n≤cap):Lies w (tl A cap l) (n - l) (xs.drop l):=by
 intro i hi
 obtain ⟨a,rfl,ha⟩:=h (l+i) (by omega)
 refine ⟨a.add l,by unfold tl;rw [if_neg (by omega)];rfl,?_⟩
 have e:(a.add l).add i=a.add (l+i):=by
  rcases Nat.eq_zero_or_pos l with h0 | h0
  ·subst h0;simp [Addr.add]
  ·unfold Addr.add
   have h1:¬ l=0:=by omega
   by_cases hj:i=0
   ·subst hj;simp [h1]
   ·simp [h1,hj];omega
 rw [e,ha]
 simp [List.getD]
theorem Lies.bytes {w:World} {A:Option Addr} {n:Nat} {xs:List Int} (h:Lies w A n xs):Lib.BytesIn w A n xs:=by
 rcases Nat.eq_zero_or_pos n with h0 | h0
 ·subst h0;exact Lib.BytesIn.nil _ _ _
 ·obtain ⟨a,rfl,_⟩:=h 0 h0
  refine Lib.BytesIn.of_cells fun i hi=>?_
  obtain ⟨a',e,hc⟩:=h i hi
  cases e
  exact hc
theorem Lies.grown {w w':World} {A:Option Addr} {n g:Nat} {xs:List Int} (h:Lies w A n xs) (hg:w.grownBy w' (some g)) (hA:∀a,A=some a→a.block≠g):Lies w' A n xs:=by
 intro i hi
 obtain ⟨a,rfl,ha⟩:=h i hi
 refine ⟨a,rfl,hg.cell ha ?_⟩
 have:=hA a rfl
 have e:(a.add i).block=a.block:=by unfold Addr.add;split <;> rfl
 rw [e]
 intro h;cases h;exact this rfl
section
variable {P:Program} {a:Act} {w:World} {Q:Exit→Act→World→Prop}
def jumps (J:Nat→Act→World→Prop) (Q:Exit→Act→World→Prop):Exit→Act→World→Prop
 | .goto l,a,w=>J l a w
 | e,a,w=>Q e a w
theorem wp_scope_labels {c:Code} (J:Nat→Act→World→Prop) (μ:Nat→Act→World→Nat)
  (first:c.wp P (jumps J Q) a w)
  (pass:∀l a w,J l a w→∃rest,findLabel c l=some rest∧rest.wp P (jumps (fun l' a' w'=>J l' a' w'∧μ l' a' w' < μ l a w) Q) a w):(Code.scope c).wp P Q a w:=by
 intro b k cs
 have key:∀n l a w rest,μ l a w=n→J l a w→findLabel c l=some rest→∃e a' w',Q e a' w'∧Arrives P (lone (b.at a (.code rest :: .inScope c :: k)) cs w) b k cs e a' w':=by
  intro n
  induction n using Nat.strongRecOn with
  | _ n ih =>
   intro l a w rest hn hJ hf
   obtain ⟨rest',hf',hp⟩:=pass l a w hJ
   obtain rfl:rest=rest':=Option.some.inj (hf.symm.trans hf')
   obtain ⟨e,a₁,w₁,hq,harr⟩:=hp b (.inScope c :: k) cs
   cases e with
   | normal=>exact ⟨.normal,a₁,w₁,hq,Steps.trans harr (.one step_inScope)⟩
   | exit id=>exact ⟨.exit id,a₁,w₁,hq,fun k' hk=>harr k' (by simp [exitTo,hk])⟩
   | goto l' =>
    obtain ⟨hJ',hlt⟩:=hq
    obtain ⟨rest2,hf2,_⟩:=pass l' a₁ w₁ hJ'
    have hg:gotoIn l' (.inScope c :: k)=some (.code rest2 :: .inScope c :: k):=by simp [gotoIn,hf2]
    obtain ⟨e₂,a₂,w₂,hq₂,harr₂⟩:=ih _ (by omega) l' a₁ w₁ rest2 rfl hJ' hf2
    exact ⟨e₂,a₂,w₂,hq₂,.of_steps (harr _ hg) harr₂⟩
   | ret=>exact ⟨_,a₁,w₁,hq,harr⟩
   | panic ch=>exact ⟨_,a₁,w₁,hq,harr⟩
   | outgrown=>exact ⟨_,a₁,w₁,hq,harr⟩
 obtain ⟨e,a₁,w₁,hq,harr⟩:=first b (.inScope c :: k) cs
 cases e with
 | normal=>exact ⟨.normal,a₁,w₁,hq,.head step_scope (Steps.trans harr (.one step_inScope))⟩
 | exit id=>exact ⟨.exit id,a₁,w₁,hq,fun k' hk=>.head step_scope (harr k' (by simp [exitTo,hk]))⟩
 | goto l' =>
  have hJ':J l' a₁ w₁:=hq
  obtain ⟨rest2,hf2,_⟩:=pass l' a₁ w₁ hJ'
  have hg:gotoIn l' (.inScope c :: k)=some (.code rest2 :: .inScope c :: k):=by simp [gotoIn,hf2]
  obtain ⟨e₂,a₂,w₂,hq₂,harr₂⟩:=key _ l' a₁ w₁ rest2 rfl hJ' hf2
  exact ⟨e₂,a₂,w₂,hq₂,.of_steps (.head step_scope (harr _ hg)) harr₂⟩
 | ret=>exact ⟨_,a₁,w₁,hq,.of_steps (.one step_scope) harr⟩
 | panic ch=>exact ⟨_,a₁,w₁,hq,.of_steps (.one step_scope) harr⟩
 | outgrown=>exact ⟨_,a₁,w₁,hq,.of_steps (.one step_scope) harr⟩
end
end Go.Proofs.YtgaoapnaplgaiaaGreatDoor.Sc
