/- This claim's own texts, joined, with only what the claim uses: PrnC. -/
import Derived.Test.YtgaoapnaplgaiaaGreatDoorZs39
import Derived.Test.YtgaoapnaplgaiaaGreatDoorZs41
namespace Go.Proofs.YtgaoapnaplgaiaaGreatDoor.Sc
set_option maxRecDepth 100000
open Go.RowKit Tk Go.Proofs.YtgaoapnaplgaiaaGreatDoor.Wd Prn
set_option maxHeartbeats 4000000 in
theorem awk_expr (A:Option Addr) (k:Nat) (p:Int) (W:World) :
  Calls Tryz.prog 166 #[.agg #[.int .i64 1,.int .i64 1,.string nN,.slice A 0 k,.int .i64 p]] W fun e W'=>e=.returned (.string ⟨#[49]⟩)∧Below W.heap.size W W':=by
 have FI:∀w,Calls Tryz.prog 142 #[.int .i64 1,.int .i64 10] w fun e w'=>e=.returned (.string ⟨#[49]⟩)∧w'=w:=fun w=>by
  have h:=Tryz.strconv_FormatInt_10_small 1 (by omega) w
  rw [show Lib.decDigits 1=[49] by kernel_rfl] at h
  exact h
 go_enter Tryz.func166,Tryz.ntmps166
 go_wp2_with (go_at_call 142;refine (FI _).mono ?_)
 rintro e w1 ⟨rfl,rfl⟩
 go_wp2
 go_ret
 exact ⟨rfl,bA _ _⟩
abbrev awkLine:ByteArray:=(⟨#[120]⟩:ByteArray)++⟨#[32,61,32]⟩++⟨#[49]⟩++⟨#[59]⟩
abbrev StR (w:World) (b1:Addr) (k1:Nat) (A5:Option Addr) (k5:Nat) (A6:Option Addr) (k6:Nat) (A7:Option Addr) (k7:Nat) (w':World):Prop :=
 w'.cell? ⟨w.heap.size,1,none⟩=some (.string ⟨#[120]⟩)∧w'.cell? ⟨w.heap.size,3,none⟩=some (.slice (some b1) 1 k1)∧w'.cell? b1=some (.int .i64 1)∧w'.cell? ⟨b1.block,b1.off+1,none⟩=some (.int .i64 1)∧w'.cell? ⟨b1.block,b1.off+2,none⟩=some (.string nN) ∧
 w'.cell? ⟨b1.block,b1.off+3,none⟩=some (.slice A7 0 k7)∧w'.cell? ⟨b1.block,b1.off+4,none⟩=some (.int .i64 14) ∧
 w'.heap[w.heap.size]?=some (.cells #[.int .i64 1,.string ⟨#[120]⟩,.string nN,.slice (some b1) 1 k1,.slice A5 0 k5,.slice A6 0 k6,.int .i64 11] 107 (0,0))
section
variable {w w' w1:World} {b1:Addr} {k1:Nat} {A5:Option Addr} {k5:Nat} {A6:Option Addr} {k6:Nat} {A7:Option Addr} {k7:Nat}
theorem StR.mk (he:Cs w' b1 (eC 1 1 nN A7 0 k7 14)) (h:w'.heap[w.heap.size]?=some (.cells #[.int .i64 1,.string ⟨#[120]⟩,.string nN,.slice (some b1) 1 k1,.slice A5 0 k5,.slice A6 0 k6,.int .i64 11] 107 (0,0))):StR w b1 k1 A5 k5 A6 k6 A7 k7 w' :=
 ⟨bC h 1,bC h 3,he 0 _ rfl,he 1 _ rfl,he 2 _ rfl,he 3 _ rfl,he 4 _ rfl,h⟩
theorem StR.below (hb:Below w'.heap.size w' w1) (h:StR w b1 k1 A5 k5 A6 k6 A7 k7 w'):StR w b1 k1 A5 k5 A6 k6 A7 k7 w1:=by
 obtain ⟨h1,h2,h3,h4,h5,h6,h7,h8⟩:=h
 have k:∀{a:Addr} {v:Value},w'.cell? a=some v→w1.cell? a=some v:=fun hc=>(hb.cell (World.block_lt_of_cell? w' _ hc)).trans hc
 exact ⟨k h1,k h2,k h3,k h4,k h5,k h6,k h7,bB h8 hb⟩
theorem StR.wrote {B b:Nat} {bs:List Value} {d:Int} (hb1:b1.block<B) (hne:w.heap.size≠b) (hW:Wrote B b bs d w' w1) (h:StR w b1 k1 A5 k5 A6 k6 A7 k7 w'):StR w b1 k1 A5 k5 A6 k6 A7 k7 w1:=by
 obtain ⟨h1,h2,h3,h4,h5,h6,h7,h8⟩:=h
 have h8':=hW.kept _ _ h8 (fun e=>hne (Option.some.inj e)) (fun c fz e=>by cases e)
 have k:∀{a:Addr} {v:Value},a.block<B→w'.cell? a=some v→w1.cell? a=some v:=fun hl hc=>(hW.below.cell hl).trans hc
 exact ⟨bC h8' 1,bC h8' 3,k hb1 h3,k (a:=⟨b1.block,b1.off+1,none⟩) hb1 h4,k (a:=⟨b1.block,b1.off+2,none⟩) hb1 h5,k (a:=⟨b1.block,b1.off+3,none⟩) hb1 h6,k (a:=⟨b1.block,b1.off+4,none⟩) hb1 h7,h8'⟩
end
set_option maxHeartbeats 8000000 in
theorem awk_stmt {B b:Nat} {l:List UInt8} {d:Nat} {w:World} (h:Wr B b (Lib.byteCells l) (d:Int) w) (hd:d≤1000) (hl:l.length≤35184372088832) (hBw:B≤w.heap.size) (b1:Addr) (k1:Nat) (A5:Option Addr) (k5:Nat) (A6:Option Addr) (k6:Nat) (A7:Option Addr) (k7:Nat) (hb1:b1.block<B) (he:Cs w b1 (eC 1 1 nN A7 0 k7 14)) :
  Calls Tryz.prog 154 #[.pointer (some ⟨b,0,none⟩),.agg #[.int .i64 1,.string ⟨#[120]⟩,.string nN,.slice (some b1) 1 k1,.slice A5 0 k5,.slice A6 0 k6,.int .i64 11]] w fun e w'=>e=.returned (.tuple #[])∧Wrote B b (Lib.byteCells (l++lineB d awkLine)) (d:Int) w w':=by
 have mixed:Tryz.prog.follows Departure.mixedOrders=true:=by kernel_rfl
 have LN:=A0.mk (fun (W':World) (hW:Below w.heap.size w W')=>line_call (h.below hW) awkLine hd (by decide +kernel) hl (Nat.le_trans hBw hW.size))
 have EX:=A0.mk (fun W'=>awk_expr A7 k7 14 W')
 obtain ⟨cs,hcs⟩:∃cs:Array Value,A0 (cs=#[.int .i64 1,.string ⟨#[120]⟩,.string nN,.slice (some b1) 1 k1,.slice A5 0 k5,.slice A6 0 k6,.int .i64 11]):=⟨_,⟨rfl⟩⟩
 have hlt:=h.lt
 have hBb:=h.base
 have hA:=A0.mk (bA w (.cells #[.int .i64 1,.string ⟨#[120]⟩,.string nN,.slice (some b1) 1 k1,.slice A5 0 k5,.slice A6 0 k6,.int .i64 11] 107))
 have hS0:StR w b1 k1 A5 k5 A6 k6 A7 k7 ((w.alloc (.cells #[.int .i64 1,.string ⟨#[120]⟩,.string nN,.slice (some b1) 1 k1,.slice A5 0 k5,.slice A6 0 k6,.int .i64 11] 107)).drew) :=
  StR.mk (he.below ((Below.refl B w).alloc hBw _).drew hb1) (bN w _)
 have hS0:=A0.mk hS0
 have he:=A0.mk he
 have hne:w.heap.size≠b:=by omega
 clear h
 go_enter Tryz.func154,Tryz.ntmps154
 go_upto_region 4 with fail
 go_region_held3 (fun w':World=>StR w b1 k1 A5 k5 A6 k6 A7 k7 w') (first | with_reducible exact hS0.out | with_reducible exact StR.below hbx.out (by assumption) | with_reducible exact StR.wrote hb1 hne hW.out (by assumption))
  (first|(go_at_call 166;(with_reducible refine (EX.out _).mono ?_);rintro e w1 ⟨rfl,hb⟩;have hbw:=A0.mk (hA.out.drew.trans (hb.mono (by simp)));have hbx:=A0.mk hb)|(go_at_call 89;(with_reducible refine (LN.out _ hbw.out).mono ?_);rintro e w2 ⟨rfl,hW⟩;have hW:=A0.mk hW))
 all_goals (
  go_wp2
  go_end0
  exact ⟨rfl,hW.out.wr,(hbw.out.mono hBw).trans hW.out.below,(kept_of_below hbw.out).trans hW.out.kept⟩)
set_option maxHeartbeats 4000000 in
theorem stmts_nil {B b:Nat} {bs:List Value} {d:Nat} {w:World} (h:WrAt B b (.pointer (some ⟨b,0,none⟩)) bs (d:Int) w) (hd:d≤1000) (A:Option Addr) (k:Nat) :
  Calls Tryz.prog 130 #[.pointer (some ⟨b,0,none⟩),.slice A 0 k] w fun e w'=>e=.returned (.tuple #[])∧Wrote B b bs (d:Int) w w':=by
 have c2:=h.cell2
 have f2:=h.fz 2
 have w1:IntKind.i64.wrap ((d:Int)+1)=(d:Int)+1:=IntWalk.i64_in _ (by omega)
 have w2:IntKind.i64.wrap ((d:Int)+1 - 1)=(d:Int):=by rw [IntWalk.i64_in _ (by omega)];omega
 have hw:=A0.mk h
 clear h
 go_enter Tryz.func130,Tryz.ntmps130
 go_wp2
 refine wp_loop_rounds 1 ?_
 rw [rounds_succ]
 go_wp2
 go_end0
 have h1:=hw.out.put2 ((d:Int)+1)
 exact ⟨rfl,h1.put2 (d:Int),((Below.refl B w).setCell (p:=⟨b,2,none⟩) hw.out.1 _).setCell (p:=⟨b,2,none⟩) hw.out.1 _,((Lib.OthersKept.refl 5 (some b) w).setCell ⟨b,2,none⟩ rfl _).setCell ⟨b,2,none⟩ rfl _⟩
set_option maxHeartbeats 4000000 in
theorem stmts_awk {B b:Nat} {l:List UInt8} {d:Nat} {w:World} (h:WrAt B b (.pointer (some ⟨b,0,none⟩)) (Lib.byteCells l) (d:Int) w) (hd:d≤900) (hl:l.length≤35184372088832) (hBw:B≤w.heap.size) (b4 b1:Addr) (k4 k1:Nat) (A5:Option Addr) (k5:Nat) (A6:Option Addr) (k6:Nat) (A7:Option Addr) (k7:Nat) (hT:AwkAt B w b4 b1 k1 A5 k5 A6 k6 A7 k7) (_h4:1≤k4) :
  Calls Tryz.prog 130 #[.pointer (some ⟨b,0,none⟩),.slice (some b4) 1 k4] w fun e w'=>e=.returned (.tuple #[])∧Wrote B b (Lib.byteCells (l++lineB (d+1) awkLine)) (d:Int) w w':=by
 have c2:=h.cell2
 have f2:=h.fz 2
 have w1:IntKind.i64.wrap ((d:Int)+1)=(d:Int)+1:=IntWalk.i64_in _ (by omega)
 have w2:IntKind.i64.wrap ((d:Int)+1 - 1)=(d:Int):=by rw [IntWalk.i64_in _ (by omega)];omega
 have hw:=A0.mk h
 have hlt:=h.lt
 have hBb:=h.1
 clear h
 go_enter Tryz.func130,Tryz.ntmps130
 go_upto_region 1 with fail
 have h1:WrAt B b (.pointer (some ⟨b,0,none⟩)) (Lib.byteCells l) ((d+1:Nat):Int) (w.setCell ⟨b,2,none⟩ (.int .i64 ((d:Int)+1))):=hw.out.put2 ((d:Int)+1)
 have hT1:=hT.below ((Below.refl B w).setCell (p:=⟨b,2,none⟩) hBb (.int .i64 ((d:Int)+1)))
 have hz1:(w.setCell ⟨b,2,none⟩ (.int .i64 ((d:Int)+1))).heap.size=w.heap.size:=by simp [World.setCell]
 have hbX:=(Below.refl B w).setCell (p:=⟨b,2,none⟩) hBb (.int .i64 ((d:Int)+1))
 have hkX:=(Lib.OthersKept.refl 5 (some b) w).setCell ⟨b,2,none⟩ rfl (.int .i64 ((d:Int)+1))
 generalize hX:w.setCell ⟨b,2,none⟩ (.int .i64 ((d:Int)+1))=X at h1 hT1 hz1 hbX hkX ⊢
 clear hX c2 f2
 have ST:=A0.mk (fun o=>awk_stmt (w:=X.alloc o) (.inr (h1.below (bA _ o))) (by omega) hl (by simp;omega) b1 k1 A5 k5 A6 k6 A7 k7 hT1.l1 (hT1.e.below ((Below.refl B X).alloc (by omega) o) hT1.l1))
 have l4:b4.block<X.heap.size:=by have:=hT1.l4;omega
 have e0:X.cell? b4=some (.int .i64 1):=hT1.s 0 _ rfl
 have e1:X.cell? ⟨b4.block,b4.off+1,none⟩=some (.string ⟨#[120]⟩):=hT1.s 1 _ rfl
 have e2:X.cell? ⟨b4.block,b4.off+2,none⟩=some (.string nN):=hT1.s 2 _ rfl
 have e3:X.cell? ⟨b4.block,b4.off+3,none⟩=some (.slice (some b1) 1 k1):=hT1.s 3 _ rfl
 have e4:X.cell? ⟨b4.block,b4.off+4,none⟩=some (.slice A5 0 k5):=hT1.s 4 _ rfl
 have e5:X.cell? ⟨b4.block,b4.off+5,none⟩=some (.slice A6 0 k6):=hT1.s 5 _ rfl
 have e6:X.cell? ⟨b4.block,b4.off+6,none⟩=some (.int .i64 11):=hT1.s 6 _ rfl
 have hz1:=A0.mk hz1
 have hT1:=A0.mk hT1
 have h1:=A0.mk h1
 have hbX:=A0.mk hbX
 have hkX:=A0.mk hkX
 clear hT
 go_wp2
 refine wp_loop_rounds 2 ?_
 rw [rounds_succ]
 go_wp2_with (first|(go_at_call 154;(with_reducible refine (ST.out _).mono ?_);rintro e w3 ⟨rfl,hW⟩;clear e0 e1 e2 e3 e4 e5 e6 ST;have g2:w3.cell? ⟨b,2,none⟩=some (.int .i64 ((d:Int)+1)):=hW.wr.cell2;have y2:=hW.wr.fz 2;have hW:=A0.mk hW))
 rw [rounds_succ]
 go_wp2
 go_end0
 exact ⟨rfl,hW.out.wr.put2 (d:Int),((hbX.out.alloc (by have:=hz1.out;omega) _).trans hW.out.below).setCell (p:=⟨b,2,none⟩) hBb _,((hkX.out.alloc _).trans hW.out.kept).setCell ⟨b,2,none⟩ rfl _⟩
set_option maxHeartbeats 4000000 in
theorem block_call {B b:Nat} {l m:List UInt8} {d:Nat} {w:World} (h:Wr B b (Lib.byteCells l) (d:Int) w) (hd:d≤900) (hl:l.length≤1000000) (hm:m.length≤1000000) (hBw:B≤w.heap.size) (first last:ByteArray) (hf:first.size≤1000000) (hla:last.size≤1000000) (A:Option Addr) (n k:Nat)
  (hst:∀W',WrAt B b (.pointer (some ⟨b,0,none⟩)) (Lib.byteCells (l++lineB d first)) (d:Int) W'→Below B w W'→B≤W'.heap.size→Calls Tryz.prog 130 #[.pointer (some ⟨b,0,none⟩),.slice A n k] W' fun e w'=>e=.returned (.tuple #[])∧Wrote B b (Lib.byteCells (l++lineB d first++m)) (d:Int) W' w') :
  Calls Tryz.prog 91 #[.pointer (some ⟨b,0,none⟩),.string first,.slice A n k,.string last] w fun e w'=>e=.returned (.tuple #[])∧Wrote B b (Lib.byteCells (l++lineB d first++m++lineB d last)) (d:Int) w w':=by
 have hlen:(lineB d first).length≤1010000:=by
  unfold lineB
  rw [List.length_append,List.length_append,Lib.repeatL_length]
  show d * 2+first.data.toList.length+1≤_
  have:first.data.toList.length=first.size:=by simp
  omega
 have L1:=line_call h first (by omega) (by omega) (by omega) hBw
 have hst:=A0.mk hst
 clear h
 go_enter Tryz.func91,Tryz.ntmps91
 go_upto_region 1 with (first|(go_at_call 89;(with_reducible refine L1.mono ?_);rintro e w1 ⟨rfl,hW1⟩))
 have hz1:B≤w1.heap.size:=by have:=hW1.below.size;omega
 have S1:=hst.out w1 hW1.wr hW1.below hz1
 have hW1:=A0.mk hW1
 clear L1
 go_upto_region 2 with (first|(go_at_call 130;(with_reducible refine S1.mono ?_);rintro e w2 ⟨rfl,hW2⟩))
 have hz2:B≤w2.heap.size:=by have:=hW2.below.size;omega
 have L2:=line_call (.inr hW2.wr) last (by omega) (by omega) (by rw [List.length_append,List.length_append];omega) hz2
 have hW2:=A0.mk hW2
 clear S1
 go_wp2_with (first|(go_at_call 89;(with_reducible refine L2.mono ?_);rintro e w3 ⟨rfl,hW3⟩;have hW3:=A0.mk hW3))
 go_end0
 exact ⟨rfl,hW3.out.wr,(hW1.out.below.trans hW2.out.below).trans hW3.out.below,(hW1.out.kept.trans hW2.out.kept).trans hW3.out.kept⟩
end Go.Proofs.YtgaoapnaplgaiaaGreatDoor.Sc
