/- This claim's own texts, joined, with only what the claim uses: BrkR. -/
import Derived.Test.YtgaoapnaplgaiaaGreatDoorZs45
import Derived.Test.YtgaoapnaplgaiaaGreatDoorZs51
import Derived.SizedLaws
namespace Go.Proofs.YtgaoapnaplgaiaaGreatDoor.Sc
open Go.ChangeShapes Go.WideShapes Go.ChangeAt Go.RowKit Go.ChangeMaps Tk
set_option maxRecDepth 100000
theorem laidOut:laidOutB Tryz.prog=true:=by kernel_rfl
theorem read22:Tryz.prog.readableRec 22=true:=by kernel_rfl
theorem size22:22<Tryz.prog.types.size:=of_decide_eq_true (by kernel_rfl)
theorem cells5:Tryz.prog.cellsOf 5=1:=by kernel_rfl
theorem u8_of {n:Int} (wi:(Lit.int .u8 n).wf=true):Byte n:=by
 simp only [Lit.wf,Bool.and_eq_true,decide_eq_true_eq] at wi
 have hmin:IntKind.u8.min=0:=by decide +kernel
 have hmax:IntKind.u8.max=255:=by decide +kernel
 unfold Byte
 omega
theorem has_lt {P:Program} {w:World} {r:Reach} {base:Nat} {a:Addr} {e:TypeId} {n:Nat} (h:w.has P r base a e n):a.block<w.heap.size:=by
 obtain ⟨_,_,row,cells,h,_⟩:=h
 rcases Nat.lt_or_ge a.block w.heap.size with h' | h'
 ·exact h'
 ·unfold World.shape? at h
  rw [Array.getElem?_eq_none h'] at h
  cases h
theorem open_txt {H:Type} {enc:TypeId × Value→H} {W:World} {base:Nat} {v:Value} {d:DataW H} {p:List MemPlace} {b0:Nat} {held:Bool} (hval:Value.okWide Tryz.prog W .any base 22 v) (h:DataW.Trod enc Tryz.prog W b0 (fun _=>true) held 22 v d p)
  {ts:List TypeId} {ds:List (DataW H)} {j:Nat} (hsz:(DataW.weightsEach Tryz.prog ts ds).all (·≤reachBytes)=true) (hj1:ts[j]?=some 22) (hj2:ds[j]?=some d) :
  ∃A n cap xs,v=.slice A n cap∧Txt A n cap xs W:=by
 obtain ⟨A,len,cap,rfl⟩:=okWide_slice Tryz.underlying22 hval
 obtain ⟨fuel,hf⟩:=h
 rcases open_ints Tryz.underlying22 Tryz.underlying5 cells5 (by simpa [Value.cells] using hf) with ⟨hc,_⟩|⟨a,len',cap',zs,hc,_,hl,hm,hzl,hd,hcell,hwf⟩
 ·simp only [List.cons.injEq,Value.slice.injEq,and_true] at hc
  obtain ⟨rfl,rfl,rfl⟩:=hc
  exact ⟨none,0,0,[],rfl,⟨by omega,rfl,by simp,(fun i hi=>by omega),(fun a e=>by cases e),by omega,fun _=>⟨rfl,rfl⟩⟩⟩
 ·simp only [List.cons.injEq,Value.slice.injEq,and_true] at hc
  obtain ⟨rfl,rfl,rfl⟩:=hc
  have hz:zs.length=cap:=by simpa using hzl
  have hb:a.block<W.heap.size:=by
   have h:=hval
   simp only [Value.okWide,Cell.okWide,Cell.ok,Tryz.underlying22] at h
   exact has_lt h.2.2
  have hd1:=congrArg Prod.fst hd
  simp only at hd1
  subst hd1
  have:=sized_slice hsz (j:=j) hj1 hj2 Tryz.underlying22
  rw [show Tryz.prog.bytesOf 5=1 by kernel_rfl] at this
  simp [lits] at this
  have hr:=reachBytes_lt
  refine ⟨some a,len,cap,zs.take len,rfl,⟨hl,by rw [List.length_take];omega,(fun c hc=>u8_of (hwf c (List.mem_of_mem_take hc))),(fun i hi=>⟨a,rfl,?_⟩),(fun a' e=>by cases e;exact hb),?_,(fun e=>by cases e)⟩⟩
  ·rw [hcell i (by omega)]
   simp [List.getD,hi]
  ·unfold reachBytes at this
   omega
end Go.Proofs.YtgaoapnaplgaiaaGreatDoor.Sc
namespace Go.Proofs.YtgaoapnaplgaiaaGreatDoor
end Go.Proofs.YtgaoapnaplgaiaaGreatDoor
