/- This claim's own texts, joined, with only what the claim uses: PrnB. -/
import Derived.Test.YtgaoapnaplgaiaaGreatDoorZs38
import Derived.Test.YtgaoapnaplgaiaaGreatDoorZs5
import Derived.Deep.QuietTactic
import Derived.BigQuiet
import Derived.Laws.Concat
namespace Go.Proofs.YtgaoapnaplgaiaaGreatDoor.Prn
set_option maxRecDepth 100000
open Go.RowKit Go.Proofs.YtgaoapnaplgaiaaGreatDoor.Wd
theorem kept_of_below {e:TypeId} {b:Option Nat} {w w':World} (h:Below w.heap.size w w'):Lib.OthersKept e b w w':=fun k _ hk _ _=>(h.block k (Array.getElem?_eq_some_iff.1 hk).1).trans hk
def lineB (d:Nat) (s:ByteArray):List UInt8:=Lib.repeatL [32,32] d++s.data.toList++[10]
set_option maxHeartbeats 4000000 in
theorem line_call {B b:Nat} {l:List UInt8} {d:Nat} {w:World} (h:Wr B b (Lib.byteCells l) (d:Int) w) (s:ByteArray) (hd:d≤1000) (hs:s.size≤35184372088832) (hl:l.length≤35184372088832) (hBw:B≤w.heap.size) :
  Calls Tryz.prog 89 #[.pointer (some ⟨b,0,none⟩),.string s] w fun e w'=>e=.returned (.tuple #[])∧Wrote B b (Lib.byteCells (l++lineB d s)) (d:Int) w w':=by
 have c2:=h.cell2
 have mixed:Tryz.prog.follows Departure.mixedOrders=true:=by kernel_rfl
 obtain ⟨R,hR⟩:∃R:ByteArray,A0 (R=⟨(Lib.repeatL [32,32] d).toArray⟩):=⟨_,⟨rfl⟩⟩
 have hRs:R.size≤2000:=by
  rw [hR.out]
  show (Lib.repeatL [32,32] d).toArray.size≤2000
  rw [List.size_toArray,Lib.repeatL_length]
  simp;omega
 have RP:∀W',Calls Tryz.prog 127 #[.string ⟨#[32,32]⟩,.int .i64 (d:Int)] W' fun e w'=>e=.returned (.string R)∧Below W'.heap.size W' w':=fun W'=>by
  rw [hR.out]
  exact Tryz.strings_Repeat ⟨#[32,32]⟩ d W' (by omega) (by show 2 * d≤_;omega)
 have RP:=A0.mk RP
 have hS:(R++s++(⟨#[10]⟩:ByteArray)).size≤R.size+s.size+1:=by rw [ByteArray.size_append,ByteArray.size_append];exact Nat.le_refl _
 have WS:=A0.mk (fun (W':World) (hW:Below w.heap.size w W')=>writeString_call (h.below hW) (R++s++⟨#[10]⟩) (by rw [Lib.byteCells_length];omega) (by have:=hW.size;omega))
 have hw:=A0.mk h
 have hlt:=h.lt
 have hS:=A0.mk hS
 clear h
 have a1:∀w,(Op.stringOp .add R s).run Tryz.prog w=.ok (.string (R++s)) w:=fun w=>run_string_add_sum w R s (by omega)
 have a2:∀w,(Op.stringOp .add (R++s) ⟨#[10]⟩).run Tryz.prog w=.ok (.string (R++s++⟨#[10]⟩)) w:=fun w=>run_string_add_sum w (R++s) ⟨#[10]⟩ (by rw [ByteArray.size_append];show R.size+s.size+1≤_;omega)
 go_enter Tryz.func89,Tryz.ntmps89
 go_region_held3 (fun w':World=>w'.cell? ⟨b,2,none⟩=some (.int .i64 (d:Int))) (first | exact hW.out.wr.cell2 | exact (hbw.out.cell (p:=⟨b,2,none⟩) hlt).trans c2 | exact c2)
  (first|(go_at_call 127;(with_reducible refine (RP.out _).mono ?_);rintro e w1 ⟨rfl,hb1⟩;have hbw:=A0.mk ((Below.refl w.heap.size w).drew.trans hb1))|(go_at_call 126;(with_reducible refine (WS.out _ hbw.out).mono ?_);rintro e w2 ⟨rfl,hW⟩;have hW:=A0.mk hW))
 go_wp2
 go_end0
 have hbs:Lib.byteCells l++Lib.strCells (R++s++(⟨#[10]⟩:ByteArray))=Lib.byteCells (l++lineB d s):=by
  rw [hR.out]
  unfold Lib.strCells lineB Lib.byteCells
  rw [ByteArray.data_append,ByteArray.data_append]
  simp
 refine ⟨rfl,by rw [←hbs];exact hW.out.wr,(hbw.out.mono hBw).trans hW.out.below,(kept_of_below hbw.out).trans hW.out.kept⟩
end Go.Proofs.YtgaoapnaplgaiaaGreatDoor.Prn
