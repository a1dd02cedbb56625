/- This claim's own texts, joined, with only what the claim uses: PrnA. -/
import Derived.Test.YtgaoapnaplgaiaaGreatDoorZs37
import Derived.Test.YtgaoapnaplgaiaaGreatDoorZs4
import Derived.Shelf.Strings.BuilderK
import Derived.Shelf.Strings.Builder1
import Derived.WalkLawsBesides
namespace Go.Proofs.YtgaoapnaplgaiaaGreatDoor.Prn
set_option maxRecDepth 100000
open Go.RowKit
def WrAt (B b:Nat) (p:Value) (bs:List Value) (d:Int) (w:World):Prop :=
 B≤b∧∃v,w.heap[b]?=some (.cells #[p,v,.int .i64 d] 129 (0,0))∧w.ownsRow B 5 1 v bs.length bs∧v.ownBlock≠some b
def Wr (B b:Nat) (bs:List Value) (d:Int) (w:World):Prop:=WrAt B b (.pointer none) bs d w∨WrAt B b (.pointer (some ⟨b,0,none⟩)) bs d w
section
variable {B b:Nat} {p:Value} {bs:List Value} {d:Int} {w:World}
theorem WrAt.cell0 (h:WrAt B b p bs d w):w.cell? ⟨b,0,none⟩=some p:=by
 obtain ⟨_,v,hb,_⟩:=h;simp [World.cell?,hb]
theorem WrAt.cell2 (h:WrAt B b p bs d w):w.cell? ⟨b,2,none⟩=some (.int .i64 d):=by
 obtain ⟨_,v,hb,_⟩:=h;simp [World.cell?,hb]
theorem Wr.cell2 (h:Wr B b bs d w):w.cell? ⟨b,2,none⟩=some (.int .i64 d):=h.elim (·.cell2) (·.cell2)
theorem WrAt.shape (h:WrAt B b p bs d w):w.shape? b=some (129,3):=by
 obtain ⟨_,v,hb,_⟩:=h;simp [World.shape?,hb]
theorem WrAt.fz (h:WrAt B b p bs d w) (i:Nat):w.frozen? ⟨b,i,none⟩=false:=by
 obtain ⟨_,v,hb,_⟩:=h;exact Lib.frozen_of_heap hb i
theorem WrAt.lt (h:WrAt B b p bs d w):b<w.heap.size:=by
 obtain ⟨_,v,hb,_⟩:=h;exact (Array.getElem?_eq_some_iff.1 hb).1
theorem Wr.lt (h:Wr B b bs d w):b<w.heap.size:=h.elim (·.lt) (·.lt)
theorem Wr.base (h:Wr B b bs d w):B≤b:=h.elim (·.1) (·.1)
theorem own_put (hown:w.ownsRow B 5 1 p bs.length bs) (hne:p.ownBlock≠some b) (i:Nat) (u:Value):(w.setCell ⟨b,i,none⟩ u).ownsRow B 5 1 p bs.length bs :=
 hown.kept (row:=some b) ⟨rfl,rfl,rfl,by simp [World.setCell],fun k _ hk=>Below.heap_setCell _ _ _ _ (fun e=>hk (by simp [e]))⟩ (Or.inr hne)
theorem WrAt.put2 (h:WrAt B b p bs d w) (d':Int):WrAt B b p bs d' (w.setCell ⟨b,2,none⟩ (.int .i64 d')):=by
 obtain ⟨hB,v,hb,hown,hne⟩:=h
 exact ⟨hB,v,by simp [World.setCell,Array.getElem?_modify,hb],own_put hown hne _ _,hne⟩
theorem WrAt.used (h:WrAt B b p bs d w) (q:Value):WrAt B b q bs d (w.setCell ⟨b,0,none⟩ q):=by
 obtain ⟨hB,v,hb,hown,hne⟩:=h
 exact ⟨hB,v,by simp [World.setCell,Array.getElem?_modify,hb],own_put hown hne _ _,hne⟩
theorem WrAt.below {w':World} (h:WrAt B b p bs d w) (hb:Below w.heap.size w w'):WrAt B b p bs d w':=by
 obtain ⟨hB,v,hk,hown,hne⟩:=h
 have hlt:=(Array.getElem?_eq_some_iff.1 hk).1
 refine ⟨hB,v,(hb.block b hlt).trans hk,?_,hne⟩
 refine ⟨hown.1,hown.2.imp id fun ⟨g,cap,cur,h1,h2,h3,h4⟩=>⟨g,cap,cur,h1,h2,(hb.block g (Array.getElem?_eq_some_iff.1 h3).1).trans h3,h4⟩⟩
theorem Wr.below {w':World} (h:Wr B b bs d w) (hb:Below w.heap.size w w'):Wr B b bs d w':=h.elim (fun h=>.inl (h.below hb)) (fun h=>.inr (h.below hb))
structure Wrote (B b:Nat) (bs:List Value) (d:Int) (w w':World):Prop where
 wr:WrAt B b (.pointer (some ⟨b,0,none⟩)) bs d w'
 below:Below B w w'
 kept:Lib.OthersKept 5 (some b) w w'
theorem copyCheck_used (w:World) (h0:w.cell? ⟨b,0,none⟩=some (.pointer (some ⟨b,0,none⟩))) :
  Calls Tryz.prog 148 #[.pointer (some ⟨b,0,none⟩)] w fun e w'=>e=.returned (.tuple #[])∧w'=w:=by
 obtain ⟨j,hj,_⟩:=Option.map_eq_some_iff.1 (show (Tryz.prog.info? 127).map (·.size)=some 2 by kernel_rfl)
 go_enter Tryz.func148,Tryz.ntmps148
 go_wp2
 rw [Lib.run_neq_ptr_same w _ Tryz.underlying125 hj]
 go_wp2
 go_end0
 exact ⟨rfl,rfl⟩
set_option maxHeartbeats 1000000 in
theorem copyCheck_fresh (w:World) (h0:w.cell? ⟨b,0,none⟩=some (.pointer none)) (hsh:w.shape? b=some (129,3)) (hfz:w.frozen? ⟨b,0,none⟩=false) :
  Calls Tryz.prog 148 #[.pointer (some ⟨b,0,none⟩)] w fun e w'=>e=.returned (.tuple #[])∧w'=w.setCell ⟨b,0,none⟩ (.pointer (some ⟨b,0,none⟩)):=by
 obtain ⟨j,hj,hjs⟩:=Option.map_eq_some_iff.1 (show (Tryz.prog.info? 127).map (·.size)=some 2 by kernel_rfl)
 go_enter Tryz.func148,Tryz.ntmps148
 go_wp2
 rw [Lib.run_to_unsafe w ⟨b,0,none⟩ Tryz.underlying125 Tryz.underlying171 hj (by rw [hjs];decide) hsh (show 0<3 by decide)]
 simp only [Result.andThen]
 rw [Oper.upon_value]
 go_wp2
 rw [run_callFunc_extern Tryz.func161 (by kernel_rfl) (by kernel_rfl) (by kernel_rfl) (e:=Extern.AbiNoEscape.same) (by kernel_rfl)]
 rw [Lib.run_noEscape]
 simp only [Result.andThen]
 rw [Oper.upon_value]
 go_wp2
 rw [Lib.run_from_unsafe w ⟨b,0,none⟩ Tryz.underlying171 Tryz.underlying125 hj hsh (by kernel_rfl)]
 simp only [Result.andThen]
 rw [Oper.upon_value]
 go_wp2
 go_end0
 exact ⟨rfl,rfl⟩
theorem copyCheck_call (h:Wr B b bs d w):Calls Tryz.prog 148 #[.pointer (some ⟨b,0,none⟩)] w fun e w'=>e=.returned (.tuple #[])∧Wrote B b bs d w w':=by
 rcases h with h | h
 ·refine (copyCheck_fresh w h.cell0 h.shape (h.fz 0)).mono ?_
  rintro e w' ⟨rfl,rfl⟩
  exact ⟨rfl,h.used _,(Below.refl B w).setCell (p:=⟨b,0,none⟩) h.1 _,(Lib.OthersKept.refl 5 (some b) w).setCell ⟨b,0,none⟩ rfl _⟩
 ·refine (copyCheck_used w h.cell0).mono ?_
  rintro e w' ⟨rfl,rfl⟩
  exact ⟨rfl,h,Below.refl B _,Lib.OthersKept.refl 5 (some b) _⟩
theorem own_kind {v:Value} {n:Nat} {cs:List Value} (h:w.ownsRow B 5 1 v n cs):∀g,v.ownBlock=some g→∃c fz,w.heap[g]?=some (.cells c 5 fz):=by
 intro g hg
 rcases h.2 with ⟨rfl,_⟩|⟨g',cap,cur,rfl,_,hk,_⟩
 ·simp [Value.ownBlock] at hg
 ·simp [Value.ownBlock] at hg
  subst hg
  exact ⟨_,_,hk⟩
set_option maxHeartbeats 2000000 in
theorem writeString_call (h:Wr B b bs d w) (s:ByteArray) (hlen:bs.length+s.size≤140737488355328) (hBw:B≤w.heap.size) :
  Calls Tryz.prog 126 #[.pointer (some ⟨b,0,none⟩),.string s] w fun e w'=>e=.returned (.tuple #[.int .i64 s.size,.nilIface])∧Wrote B b (bs++Lib.strCells s) d w w':=by
 obtain ⟨i0,hi,hz0,hz1,hz2⟩:=info_parts (P:=Tryz.prog) (e:=5) (z:=.int .u8 0) (size:=1) (bytes:=1) (by kernel_rfl)
 have e148:∀args w,(callFunc 148 args).run Tryz.prog w=.ok (.enter 148 args) w:=enters_of Tryz.func148 (by kernel_rfl) rfl
 have CC:=copyCheck_call h
 go_enter Tryz.func126,Tryz.ntmps126
 go_wp2_with (go_at_call 148;with_reducible refine CC.mono ?_)
 rintro e w1 ⟨rfl,hW⟩
 obtain ⟨⟨hB,v,hbk,hown,hne⟩,hb1,hk1⟩:=hW
 have c0:w1.cell? ⟨b,0,none⟩=some (.pointer (some ⟨b,0,none⟩)):=by rw [Lib.cell_of_heap hbk];rfl
 have c1:w1.cell? ⟨b,1,none⟩=some v:=by rw [Lib.cell_of_heap hbk];rfl
 go_wp2_with (at_builtin;refine Lib.wpList_append_own_string _ rfl _ _ 22 9 rfl B 5 i0 Tryz.underlying22 Tryz.underlying9 hi hz0 hz1 hz2 _ _ _ rfl hown s rfl ?c3 ?c4 ?c5 ?_)
 case c3=>unfold maxLen;omega
 case c4=>omega
 case c5=>have:=hb1.size;omega
 intro v' w2 hown' hgrow _
 have hlt:b<w1.heap.size:=(Array.getElem?_eq_some_iff.1 hbk).1
 have hb2:w2.heap[b]?=some (.cells #[.pointer (some ⟨b,0,none⟩),v,.int .i64 d] 129 (0,0)):=by
  rw [hgrow.block b hlt (fun e=>hne e.symm)]
  exact hbk
 have d0:w2.cell? ⟨b,0,none⟩=some (.pointer (some ⟨b,0,none⟩)):=by rw [Lib.cell_of_heap hb2];rfl
 have d1:w2.cell? ⟨b,1,none⟩=some v:=by rw [Lib.cell_of_heap hb2];rfl
 have f1:w2.frozen? ⟨b,1,none⟩=false:=Lib.frozen_of_heap hb2 1
 obtain ⟨ao,n',cap,rfl⟩:∃ao n' cap,v'=.slice ao n' cap:=by
  rcases hown'.2 with ⟨hv,_⟩|⟨g,cap,cur,hv,_⟩
  ·exact ⟨_,_,_,hv⟩
  ·exact ⟨_,_,_,hv⟩
 go_wp2
 go_ret2
 have hown2:w2.ownsRow B 5 1 (.slice ao n' cap) (bs++Lib.strCells s).length (bs++Lib.strCells s):=by simpa [Lib.strCells_length] using hown'
 have hne2:=Lib.ownBlock_ne hown2 hb2 (by decide)
 refine ⟨rfl,⟨hB,.slice ao n' cap,?_,own_put hown2 hne2 _ _,hne2⟩,?_,(hk1.grown hgrow (own_kind hown)).setCell ⟨b,1,none⟩ rfl _⟩
 ·simp [World.setCell,Array.getElem?_modify,hb2]
 ·exact (hb1.grown hgrow (by have:=hb1.size;omega) (fun k hk=>(hown.lt k hk).1)).setCell (p:=⟨b,1,none⟩) hB _
set_option maxHeartbeats 1000000 in
theorem string_call (l:List UInt8) (h:Wr B b (Lib.byteCells l) d w) (h0:l≠[]) :
  Calls Tryz.prog 92 #[.pointer (some ⟨b,0,none⟩)] w fun e w'=>e=.returned (.string ⟨l.toArray⟩)∧Below B w w':=by
 obtain ⟨p,hB,v,hbk,hown,hne⟩:∃p,WrAt B b p (Lib.byteCells l) d w:=by
  rcases h with h | h
  ·exact ⟨_,h⟩
  ·exact ⟨_,h⟩
 have hl0:l.length≠0:=by simpa using h0
 rw [Lib.byteCells_length] at hown
 obtain ⟨g,cap,cur,rfl,hbg,hg,hnc,hcm,hcs,htake⟩:∃g cap cur,v=.slice (some ⟨g,0,none⟩) l.length cap∧B≤g∧w.heap[g]?=some (.cells cur 5 (0,0))∧l.length≤cap∧cap≤maxLen∧cur.size=cap * 1∧cur.toList.take (l.length * 1)=Lib.byteCells l:=by
  rcases hown.2 with ⟨_,hz⟩|⟨g,cap,cur,hv,r⟩
  ·exact absurd hz hl0
  ·exact ⟨g,cap,cur,hv,r⟩
 have c1:w.drew.cell? ⟨b,1,none⟩=some (.slice (some ⟨g,0,none⟩) l.length cap):=by
  have:w.drew.heap[b]?=some (.cells #[p,.slice (some ⟨g,0,none⟩) l.length cap,.int .i64 d] 129 (0,0)):=hbk
  rw [Lib.cell_of_heap this];rfl
 have hSD:(Builtin.unsafeSliceData_ #[22] 153 #[.slice (some ⟨g,0,none⟩) l.length cap]).run Tryz.prog w.drew=.ok (.pointer (some ⟨g,0,none⟩)) w.drew :=
  Lib.run_unsafeSliceData_row _ _ _ _ _ _ (by omega)
 have hUS:(Builtin.unsafeString_ #[153,3] 9 #[.pointer (some ⟨g,0,none⟩),.int .i64 l.length]).run Tryz.prog w.drew=.ok (.string ⟨l.toArray⟩) (w.drew.freeze ⟨g,0,none⟩ l.length):=by
  refine Lib.run_unsafeString_row w.drew 153 3 9 5 Tryz.underlying153 (by kernel_rfl) g cur.size (by have hg':w.drew.heap[g]?=some (.cells cur 5 (0,0)):=hg;simp [World.shape?,hg']) l h0 (by omega) (by unfold maxLen at hcm;omega) ?_
  intro j x hx
  have:=hown.cells (g:=g) rfl j (.int .u8 x.toNat) (by simp [Lib.byteCells,hx])
  exact this
 have mixed:Tryz.prog.follows Departure.mixedOrders=true:=by kernel_rfl
 go_enter Tryz.func92,Tryz.ntmps92
 go_wp2
 go_region_o
 all_goals (go_wp2;go_ret;exact ⟨rfl,Lib.below_freeze (Below.drew (Below.refl B w)) (p:=⟨g,0,none⟩) hbg _⟩)
end
end Go.Proofs.YtgaoapnaplgaiaaGreatDoor.Prn
